/- What the Go functions that the statement QuotientDivs reaches compute, and the mathematics on it, in the order in which one leans on the other; for every input. -/
import Derived.Test.YtbpmnmceajmmcaaVQuotientDivs0
import Derived.Test.YtbpmnmceajmmcaaMQuotientDivs0
import Derived.Test.YtbpmnmceajmmcaaMQuotientDivs9
import Derived.Test.YtbpmnmceajmmcaaMQuotientDivs4
import Derived.Test.YtbpmnmceajmmcaaMQuotientDivs8
import Derived.Test.YtbpmnmceajmmcaaMQuotientDivs3
import Derived.Test.YtbpmnmceajmmcaaMQuotientDivs10
namespace Go.Proofs.Ytbpmnmceajmmcaa.PA
open Go.RowKit Go.Proofs.YtbpmnmceajmmcaaW.PrintWords Go.Proofs.YtbpmnmceajmmcaaW.PrintLast Go.Proofs.YtbpmnmceajmmcaaW.PrintMore
attribute [local go_sem] max2_int min2_int max_two min_two max_three min_three max_four min_four   -- for this text's walks alone
set_option linter.unusedVariables false
set_option linter.unusedSimpArgs false
set_option maxHeartbeats 8000000
set_option maxRecDepth 100000
mutual
def r3_Near.j0 : Nat → Int → Bool → Int → Int → Int → Bool → List Int → List Int → Option (Int)
 | 0, _, _, _, _, _, _, _, _ => none
 | k + 1, x0, x1, x4, x11, x13, x44, x503000, x504000 => if x44 = true then (r3_Near.j1 k x0 x1 x4 x11 (wrap64 (x13 - 1)) x503000 x504000) else (r3_Near.j1 k x0 x1 x4 x11 x13 x503000 x504000)
def r3_Near.j1 : Nat → Int → Bool → Int → Int → Int → List Int → List Int → Option (Int)
 | 0, _, _, _, _, _, _, _ => none
 | k + 1, x0, x1, x4, x11, x13, x503000, x504000 => (r3_grain.f k x503000 x504000 (wrap64 (x4 - x13))).bind fun t510 => ((r1_Len.f k t510).bind fun t514 => (if t514 > (wrap64 (x11 + 1)) then ((r1_Half.f k t510 1).bind fun bt515 => (r3_Near.j2 k x0 x1 x11 (wrap64 (x13 + 1)) bt515.1)) else (r3_Near.j2 k x0 x1 x11 x13 t510)))
def r3_Near.j2 : Nat → Int → Bool → Int → Int → List Int → Option (Int)
 | 0, _, _, _, _, _ => none
 | k + 1, x0, x1, x11, x13, x514000 => (r3_Low.f x0).bind fun t519 => ((r2_Top.f k x0).bind fun t520 => (if x13 > (wrap64 ((wrap64 (t519 + t520)) - 2)) then ((r2_Inf.f k x0 x1).bind fun t521 => (some t521)) else ((r1_Uint.f x514000).bind fun t522 => ((r2_Two.f k x11).bind fun t523 => (if t522 < t523 then ((r2_Make.f k x0 x1 0 t522).bind fun t524 => (some t524)) else ((r3_Low.f x0).bind fun t525 => ((r2_Two.f k x11).bind fun t526 => ((r2_Make.f k x0 x1 (wrap64 ((wrap64 (x13 - t525)) + 1)) (IntKind.u64.wrap (t522 - t526))).bind fun t527 => (some t527)))))))))
end
def r3_Near.f (k : Nat) (a0 : Int) (a1 : Bool) (l2_0 : List Int) (l3_0 : List Int) (a4 : Int) : Option (Int) := (r2_F.f a0).bind fun t504 => ((r1_Len.f k l2_0).bind fun t505 => ((r1_Len.f k l3_0).bind fun t506 => ((r3_Low.f a0).bind fun t507 => ((r3_Low.f a0).bind fun t508 => (if (mx (wrap64 ((wrap64 ((wrap64 (t505 - t506)) + a4)) - t504)) t507) > t508 then ((r3_under.f k l2_0 l3_0 (wrap64 ((wrap64 (a4 - (mx (wrap64 ((wrap64 ((wrap64 (t505 - t506)) + a4)) - t504)) t507))) - t504))).bind fun t509 => (r3_Near.j0 k a0 a1 a4 t504 (mx (wrap64 ((wrap64 ((wrap64 (t505 - t506)) + a4)) - t504)) t507) t509 l2_0 l3_0)) else (r3_Near.j0 k a0 a1 a4 t504 (mx (wrap64 ((wrap64 ((wrap64 (t505 - t506)) + a4)) - t504)) t507) false l2_0 l3_0))))))
theorem r3_Near.mono_l : ∀ k, (∀ y0 y1 y2 y3 y4 y5 y6 y7, LeO (r3_Near.j0 k y0 y1 y2 y3 y4 y5 y6 y7) (r3_Near.j0 (k + 1) y0 y1 y2 y3 y4 y5 y6 y7)) ∧ (∀ y0 y1 y2 y3 y4 y5 y6, LeO (r3_Near.j1 k y0 y1 y2 y3 y4 y5 y6) (r3_Near.j1 (k + 1) y0 y1 y2 y3 y4 y5 y6)) ∧ (∀ y0 y1 y2 y3 y4, LeO (r3_Near.j2 k y0 y1 y2 y3 y4) (r3_Near.j2 (k + 1) y0 y1 y2 y3 y4))
 | 0 => ⟨fun _ _ _ _ _ _ _ _ r h => by simp [r3_Near.j0] at h, fun _ _ _ _ _ _ _ r h => by simp [r3_Near.j1] at h, fun _ _ _ _ _ r h => by simp [r3_Near.j2] at h⟩
 | k + 1 => by
  obtain ⟨ih0, ih1, ih2⟩ := r3_Near.mono_l k
  refine ⟨?_, ?_, ?_⟩
  ·intro y0 y1 y2 y3 y4 y5 y6 y7
   unfold r3_Near.j0
   repeat' first
   | (with_reducible exact ih0 _ _ _ _ _ _ _ _)
   | (with_reducible exact ih1 _ _ _ _ _ _ _)
   | (with_reducible exact ih2 _ _ _ _ _)
   | (with_reducible exact r1_Half.mono _ _ _)
   | (with_reducible exact r1_Len.mono _ _)
   | (with_reducible exact r2_Inf.mono _ _ _)
   | (with_reducible exact r2_Make.mono _ _ _ _ _)
   | (with_reducible exact r2_Top.mono _ _)
   | (with_reducible exact r2_Two.mono _ _)
   | (with_reducible exact r3_grain.mono _ _ _ _)
   | (with_reducible exact r3_under.mono _ _ _ _)
   | (with_reducible exact LeO.refl _)
   | (with_reducible exact LeO.none _)
   | (with_reducible refine LeO.ite ?_ ?_)
   | (with_reducible refine LeO.bind ?_ (fun _ => ?_))
   | exact ih0 _ _ _ _ _ _ _ _
   | exact ih1 _ _ _ _ _ _ _
   | exact ih2 _ _ _ _ _
   | exact r1_Half.mono _ _ _
   | exact r1_Len.mono _ _
   | exact r2_Inf.mono _ _ _
   | exact r2_Make.mono _ _ _ _ _
   | exact r2_Top.mono _ _
   | exact r2_Two.mono _ _
   | exact r3_grain.mono _ _ _ _
   | exact r3_under.mono _ _ _ _
   | exact LeO.none _
   | refine LeO.ite ?_ ?_
   | refine LeO.bind ?_ (fun _ => ?_)
  ·intro y0 y1 y2 y3 y4 y5 y6
   unfold r3_Near.j1
   repeat' first
   | (with_reducible exact ih0 _ _ _ _ _ _ _ _)
   | (with_reducible exact ih1 _ _ _ _ _ _ _)
   | (with_reducible exact ih2 _ _ _ _ _)
   | (with_reducible exact r1_Half.mono _ _ _)
   | (with_reducible exact r1_Len.mono _ _)
   | (with_reducible exact r2_Inf.mono _ _ _)
   | (with_reducible exact r2_Make.mono _ _ _ _ _)
   | (with_reducible exact r2_Top.mono _ _)
   | (with_reducible exact r2_Two.mono _ _)
   | (with_reducible exact r3_grain.mono _ _ _ _)
   | (with_reducible exact r3_under.mono _ _ _ _)
   | (with_reducible exact LeO.refl _)
   | (with_reducible exact LeO.none _)
   | (with_reducible refine LeO.ite ?_ ?_)
   | (with_reducible refine LeO.bind ?_ (fun _ => ?_))
   | exact ih0 _ _ _ _ _ _ _ _
   | exact ih1 _ _ _ _ _ _ _
   | exact ih2 _ _ _ _ _
   | exact r1_Half.mono _ _ _
   | exact r1_Len.mono _ _
   | exact r2_Inf.mono _ _ _
   | exact r2_Make.mono _ _ _ _ _
   | exact r2_Top.mono _ _
   | exact r2_Two.mono _ _
   | exact r3_grain.mono _ _ _ _
   | exact r3_under.mono _ _ _ _
   | exact LeO.none _
   | refine LeO.ite ?_ ?_
   | refine LeO.bind ?_ (fun _ => ?_)
  ·intro y0 y1 y2 y3 y4
   unfold r3_Near.j2
   repeat' first
   | (with_reducible exact ih0 _ _ _ _ _ _ _ _)
   | (with_reducible exact ih1 _ _ _ _ _ _ _)
   | (with_reducible exact ih2 _ _ _ _ _)
   | (with_reducible exact r1_Half.mono _ _ _)
   | (with_reducible exact r1_Len.mono _ _)
   | (with_reducible exact r2_Inf.mono _ _ _)
   | (with_reducible exact r2_Make.mono _ _ _ _ _)
   | (with_reducible exact r2_Top.mono _ _)
   | (with_reducible exact r2_Two.mono _ _)
   | (with_reducible exact r3_grain.mono _ _ _ _)
   | (with_reducible exact r3_under.mono _ _ _ _)
   | (with_reducible exact LeO.refl _)
   | (with_reducible exact LeO.none _)
   | (with_reducible refine LeO.ite ?_ ?_)
   | (with_reducible refine LeO.bind ?_ (fun _ => ?_))
   | exact ih0 _ _ _ _ _ _ _ _
   | exact ih1 _ _ _ _ _ _ _
   | exact ih2 _ _ _ _ _
   | exact r1_Half.mono _ _ _
   | exact r1_Len.mono _ _
   | exact r2_Inf.mono _ _ _
   | exact r2_Make.mono _ _ _ _ _
   | exact r2_Top.mono _ _
   | exact r2_Two.mono _ _
   | exact r3_grain.mono _ _ _ _
   | exact r3_under.mono _ _ _ _
   | exact LeO.none _
   | refine LeO.ite ?_ ?_
   | refine LeO.bind ?_ (fun _ => ?_)
theorem r3_Near.mono : ∀ a0 a1 a2 a3 a4 k, LeO (r3_Near.f k a0 a1 a2 a3 a4) (r3_Near.f (k + 1) a0 a1 a2 a3 a4) := by
 intro a0 a1 a2 a3 a4 k
 obtain ⟨ih0, ih1, ih2⟩ := r3_Near.mono_l k
 unfold r3_Near.f
 repeat' first
   | (with_reducible exact ih0 _ _ _ _ _ _ _ _)
   | (with_reducible exact ih1 _ _ _ _ _ _ _)
   | (with_reducible exact ih2 _ _ _ _ _)
   | (with_reducible exact r1_Half.mono _ _ _)
   | (with_reducible exact r1_Len.mono _ _)
   | (with_reducible exact r2_Inf.mono _ _ _)
   | (with_reducible exact r2_Make.mono _ _ _ _ _)
   | (with_reducible exact r2_Top.mono _ _)
   | (with_reducible exact r2_Two.mono _ _)
   | (with_reducible exact r3_grain.mono _ _ _ _)
   | (with_reducible exact r3_under.mono _ _ _ _)
   | (with_reducible exact LeO.refl _)
   | (with_reducible exact LeO.none _)
   | (with_reducible refine LeO.ite ?_ ?_)
   | (with_reducible refine LeO.bind ?_ (fun _ => ?_))
   | exact ih0 _ _ _ _ _ _ _ _
   | exact ih1 _ _ _ _ _ _ _
   | exact ih2 _ _ _ _ _
   | exact r1_Half.mono _ _ _
   | exact r1_Len.mono _ _
   | exact r2_Inf.mono _ _ _
   | exact r2_Make.mono _ _ _ _ _
   | exact r2_Top.mono _ _
   | exact r2_Two.mono _ _
   | exact r3_grain.mono _ _ _ _
   | exact r3_under.mono _ _ _ _
   | exact LeO.none _
   | refine LeO.ite ?_ ?_
   | refine LeO.bind ?_ (fun _ => ?_)
def r3_Near.T2 : Bool × List (List Nat × List Nat) := (true, [([], []), ([0], [0]), ([], []), ([2, 1], [2]), ([1, 3], [1, 3]), ([], []), ([4, 5], [4, 5]), ([6, 3, 0, 1, 2, 3, 4, 5, 6], [6])])
def r3_Near.B2 : List Nat := [0, 1, 0, 7, 15, 0, 63, 127]
theorem r3_Near.tab2 : rtab .any (opsOf Try.f66 2) = r3_Near.T2 := by kernel_rfl
theorem r3_Near.bits2 : waitsOk r3_Near.T2.2 r3_Near.B2 = true := by kernel_rfl
theorem r3_Near.calls (k : Nat) (a0 : Int) (a1 : Bool) (A2_0 : Option Addr) (c2_0 : Nat) (l2_0 : List Int) (A3_0 : Option Addr) (c3_0 : Nat) (l3_0 : List Int) (a4 : Int) (r : Int) (w : World) (hr2_0 : Kd.C (Kd.int .u64) w A2_0 l2_0.length l2_0) (hc2_0 : l2_0.length ≤ c2_0) (hr3_0 : Kd.C (Kd.int .u64) w A3_0 l3_0.length l3_0) (hc3_0 : l3_0.length ≤ c3_0) (h : r3_Near.f k a0 a1 l2_0 l3_0 a4 = some r) :
  Calls Try.prog 66 #[.int .i64 a0, .bool a1, .agg #[.slice A2_0 l2_0.length c2_0], .agg #[.slice A3_0 l3_0.length c3_0], .int .i64 a4] w fun e w' => e = .returned (.int .u64 r) ∧ Below w.heap.size w w' := by
 have hu63 := Try.underlying63
 have HR2_0 := A_ hr2_0;have HC2_0 := A_ hc2_0;clear hr2_0 hc2_0;have HR3_0 := A_ hr3_0;have HC3_0 := A_ hc3_0;clear hr3_0 hc3_0
 have HB := A_ (Below.refl w.heap.size w)
 have H : ((r2_F.f a0).bind fun t504 => ((r1_Len.f k l2_0).bind fun t505 => ((r1_Len.f k l3_0).bind fun t506 => ((r3_Low.f a0).bind fun t507 => ((r3_Low.f a0).bind fun t508 => (if (mx (wrap64 ((wrap64 ((wrap64 (t505 - t506)) + a4)) - t504)) t507) > t508 then ((r3_under.f k l2_0 l3_0 (wrap64 ((wrap64 (a4 - (mx (wrap64 ((wrap64 ((wrap64 (t505 - t506)) + a4)) - t504)) t507))) - t504))).bind fun t509 => (r3_Near.j0 k a0 a1 a4 t504 (mx (wrap64 ((wrap64 ((wrap64 (t505 - t506)) + a4)) - t504)) t507) t509 l2_0 l3_0)) else (r3_Near.j0 k a0 a1 a4 t504 (mx (wrap64 ((wrap64 ((wrap64 (t505 - t506)) + a4)) - t504)) t507) false l2_0 l3_0))))))) = some r := h
 clear h
 replace H := ob_ H
 obtain ⟨t504, A60, H⟩ := H
 replace H : ((r1_Len.f k l2_0).bind fun t505 => ((r1_Len.f k l3_0).bind fun t506 => ((r3_Low.f a0).bind fun t507 => ((r3_Low.f a0).bind fun t508 => (if (mx (wrap64 ((wrap64 ((wrap64 (t505 - t506)) + a4)) - t504)) t507) > t508 then ((r3_under.f k l2_0 l3_0 (wrap64 ((wrap64 (a4 - (mx (wrap64 ((wrap64 ((wrap64 (t505 - t506)) + a4)) - t504)) t507))) - t504))).bind fun t509 => (r3_Near.j0 k a0 a1 a4 t504 (mx (wrap64 ((wrap64 ((wrap64 (t505 - t506)) + a4)) - t504)) t507) t509 l2_0 l3_0)) else (r3_Near.j0 k a0 a1 a4 t504 (mx (wrap64 ((wrap64 ((wrap64 (t505 - t506)) + a4)) - t504)) t507) false l2_0 l3_0)))))) = some r := H
 have A6 := A_ A60;clear A60
 replace H := ob_ H
 obtain ⟨t505, A70, H⟩ := H
 replace H : ((r1_Len.f k l3_0).bind fun t506 => ((r3_Low.f a0).bind fun t507 => ((r3_Low.f a0).bind fun t508 => (if (mx (wrap64 ((wrap64 ((wrap64 (t505 - t506)) + a4)) - t504)) t507) > t508 then ((r3_under.f k l2_0 l3_0 (wrap64 ((wrap64 (a4 - (mx (wrap64 ((wrap64 ((wrap64 (t505 - t506)) + a4)) - t504)) t507))) - t504))).bind fun t509 => (r3_Near.j0 k a0 a1 a4 t504 (mx (wrap64 ((wrap64 ((wrap64 (t505 - t506)) + a4)) - t504)) t507) t509 l2_0 l3_0)) else (r3_Near.j0 k a0 a1 a4 t504 (mx (wrap64 ((wrap64 ((wrap64 (t505 - t506)) + a4)) - t504)) t507) false l2_0 l3_0))))) = some r := H
 have A7 := A_ A70;clear A70
 replace H := ob_ H
 obtain ⟨t506, A80, H⟩ := H
 replace H : ((r3_Low.f a0).bind fun t507 => ((r3_Low.f a0).bind fun t508 => (if (mx (wrap64 ((wrap64 ((wrap64 (t505 - t506)) + a4)) - t504)) t507) > t508 then ((r3_under.f k l2_0 l3_0 (wrap64 ((wrap64 (a4 - (mx (wrap64 ((wrap64 ((wrap64 (t505 - t506)) + a4)) - t504)) t507))) - t504))).bind fun t509 => (r3_Near.j0 k a0 a1 a4 t504 (mx (wrap64 ((wrap64 ((wrap64 (t505 - t506)) + a4)) - t504)) t507) t509 l2_0 l3_0)) else (r3_Near.j0 k a0 a1 a4 t504 (mx (wrap64 ((wrap64 ((wrap64 (t505 - t506)) + a4)) - t504)) t507) false l2_0 l3_0)))) = some r := H
 have A8 := A_ A80;clear A80
 replace H := ob_ H
 obtain ⟨t507, A90, H⟩ := H
 replace H : ((r3_Low.f a0).bind fun t508 => (if (mx (wrap64 ((wrap64 ((wrap64 (t505 - t506)) + a4)) - t504)) t507) > t508 then ((r3_under.f k l2_0 l3_0 (wrap64 ((wrap64 (a4 - (mx (wrap64 ((wrap64 ((wrap64 (t505 - t506)) + a4)) - t504)) t507))) - t504))).bind fun t509 => (r3_Near.j0 k a0 a1 a4 t504 (mx (wrap64 ((wrap64 ((wrap64 (t505 - t506)) + a4)) - t504)) t507) t509 l2_0 l3_0)) else (r3_Near.j0 k a0 a1 a4 t504 (mx (wrap64 ((wrap64 ((wrap64 (t505 - t506)) + a4)) - t504)) t507) false l2_0 l3_0))) = some r := H
 have A9 := A_ A90;clear A90
 obtain ⟨ji10, hji10⟩ : ∃ j_ : Int, (mx (wrap64 ((wrap64 ((wrap64 (t505 - t506)) + a4)) - t504)) t507) = j_ := ⟨_, rfl⟩
 replace H : ((r3_Low.f a0).bind fun t508 => (if (ji10) > t508 then ((r3_under.f k l2_0 l3_0 (wrap64 ((wrap64 (a4 - (ji10))) - t504))).bind fun t509 => (r3_Near.j0 k a0 a1 a4 t504 ji10 t509 l2_0 l3_0)) else (r3_Near.j0 k a0 a1 a4 t504 ji10 false l2_0 l3_0))) = some r := by first | (rw [hji10] at H; exact H) | (simp only [hji10] at H ⊢; exact H)
 (try rw [hji10] at A6)
 (try rw [hji10] at A7)
 (try rw [hji10] at A8)
 (try rw [hji10] at A9)
 have hji10_ : (if (wrap64 ((wrap64 ((wrap64 (t505 - t506)) + a4)) - t504)) < t507 then t507 else (wrap64 ((wrap64 ((wrap64 (t505 - t506)) + a4)) - t504))) = ji10 := hji10
 have HC11 := A_ H;clear H
 go_enter Try.func66, Try.ntmps66
 try go_wp2_with (first | ((with_reducible refine gate_dst (N := 7) rfl ?_); refine be_ 7 #[.slice A2_0 l2_0.length c2_0] 63 ?_; intro gb502 hg w12 hbox hb; have n0_ := A_ (below_step (hb_ HB.out) hb); have n1_ := A_ (hbox); have n2_ := A_ (sz_ hg (hb_ HB.out)); have n3_ := A_ (sz_ hg (hb_ HB.out)); clear HB; have HB := n0_; have BK502 := n1_; have GW502 := n2_; have GE502 := n3_; clear n0_ n1_ n2_ n3_; clear hb hbox hg) | ((with_reducible refine gate_dst (N := 8) rfl ?_); refine be_ 8 #[.slice A3_0 l3_0.length c3_0] 63 ?_; intro gb503 hg w13 hbox hb; have n0_ := A_ (bb_ BK502.out hb); have n1_ := A_ (below_step (hb1_ HB.out GE502.out) hb); have n2_ := A_ (hbox); have n3_ := A_ (sz_ hg (hb1_ HB.out GE502.out)); have n4_ := A_ (sz_ hg (hb1_ HB.out GE502.out)); have n5_ := A_ (nl_ hg BK502.out); have n6_ := A_ (ng_ hg BK502.out); clear BK502; clear HB; have BK502 := n0_; have HB := n1_; have BK503 := n2_; have GW503 := n3_; have GE503 := n4_; have NB502_503 := n5_; have NB503_502 := n6_; clear n0_ n1_ n2_ n3_ n4_ n5_ n6_; clear hb hbox hg) | ((with_reducible refine gate_callee (f := 52) rfl ?_); refine gl_ (some 17) Try.func52 #[.int .i64 a0] ?_; (with_reducible refine (r2_F.calls a0 t504 _ A6.out).mono ?_); rintro e w' ⟨rfl, ⟨nd, rfl⟩⟩; refine ⟨_, rfl, ?_⟩))
 (try (rw [drewN_self w13]; generalize hq_ : World.drewN w13 _ = w13; have n0_ : Aside0 (w13.heap[gb502]? = some (.cells #[.slice A2_0 l2_0.length c2_0] 63 (0, 0))) := ⟨by rw [← hq_]; exact (bk_ BK502.out)⟩; have n1_ : Aside0 (w13.heap[gb503]? = some (.cells #[.slice A3_0 l3_0.length c3_0] 63 (0, 0))) := ⟨by rw [← hq_]; exact (bk_ BK503.out)⟩; have n2_ : Aside0 (Below w.heap.size w w13) := ⟨by rw [← hq_]; exact (hb2_ HB.out GE502.out GE503.out)⟩; clear BK502 BK503 HB hq_; have BK502 := n0_; have BK503 := n1_; have HB := n2_; clear n0_ n1_ n2_))
 have n0_ := A_ (blk_drew BK502.out)
 have n1_ := A_ (blk_drew BK503.out)
 have n2_ := A_ (below_drew1 HB.out)
 clear BK502;clear BK503;clear HB;have BK502 := n0_;have BK503 := n1_;have HB := n2_;clear n0_ n1_ n2_
 refine start_ (n := 8) (S := fun w' => w'.cell? ⟨gb502, 0, none⟩ = some (.slice A2_0 l2_0.length c2_0) ∧ w'.cell? ⟨gb503, 0, none⟩ = some (.slice A3_0 l3_0.length c3_0)) (ds := []) #[false, false, false, false, false, false, false, false] (by kernel_rfl) rfl rfl ⟨bc_ BK502.out 0, bc_ BK503.out 0⟩ (fun hHeld => ?_); refine with_tabW r3_Near.tab2 r3_Near.bits2 (fun HT_ HW_ => ?_)
 generalize w13.drew = w14 at BK502 BK503 HB hHeld ⊢
 refine pu_ 5 (some 23) #[false, false, false, false, false, true, false, false] rfl rfl (any_of HT_.out (by kernel_rfl)) ?_
 refine tk2_ 0 (some 18) #[true, false, false, false, false, true, false, false] rfl rfl (take_ofW HT_.out HW_.out (by kernel_rfl)) hHeld ?_
 refine tk2_ 2 (some 20) #[true, false, true, false, false, true, false, false] rfl rfl (take_ofW HT_.out HW_.out (by kernel_rfl)) hHeld ?_
 refine one_ (i := 1) (N := some 19) #[true, true, true, false, false, true, false, false] rfl rfl (one_of HT_.out (by kernel_rfl)) (by decide) (fun K hK => ?_)
 refine goes_ Try.func96 (by kernel_rfl) rfl #[.agg #[.slice A2_0 l2_0.length c2_0]] (by rfl) rfl rfl mp_ ?_
 with_reducible refine (r1_Len.calls k _ _ l2_0 t505 _ ?side1 ?side2 A7.out).mono ?_
 (case side1 => repeat (first | exact (Kd.C_below HR2_0.out HB.out) | (with_reducible refine Kd.C_alloc ?_ _) | (with_reducible refine Kd.C_drewN ?_ _) | (with_reducible refine Kd.C_drew ?_)))
 (case side2 => exact HC2_0.out)
 rintro e w15 ⟨rfl, hb⟩
 refine ⟨_, rfl, ?_⟩
 have n0_ := A_ (bb_ BK502.out hb)
 have n1_ := A_ (bb_ BK503.out hb)
 have n2_ := A_ (below_step (hb2_ HB.out GE502.out GE503.out) hb)
 clear BK502;clear BK503;clear HB;have BK502 := n0_;have BK503 := n1_;have HB := n2_;clear n0_ n1_ n2_;(try clear hb);(try clear hb2);(try clear hk);(try clear hi)
 refine hK.out _ _ ⟨bc_ BK502.out 0, bc_ BK503.out 0⟩ (fun hHeld => ?_)
 clear hK K
 refine norm_ (a' := ?_) ?_ ?_
 rotate_left
 ·show Act.put _ (some 19) _ = _
  simp only [Act.put, lI_, l0_, lS_, i64_w, i32_w]
  rfl
 refine one_ (i := 3) (N := some 21) #[true, true, true, true, false, true, false, false] rfl rfl (one_of HT_.out (by kernel_rfl)) (by decide) (fun K hK => ?_)
 refine goes_ Try.func96 (by kernel_rfl) rfl #[.agg #[.slice A3_0 l3_0.length c3_0]] (by rfl) rfl rfl mp_ ?_
 with_reducible refine (r1_Len.calls k _ _ l3_0 t506 _ ?side1 ?side2 A8.out).mono ?_
 (case side1 => repeat (first | exact (Kd.C_below HR3_0.out HB.out) | (with_reducible refine Kd.C_alloc ?_ _) | (with_reducible refine Kd.C_drewN ?_ _) | (with_reducible refine Kd.C_drew ?_)))
 (case side2 => exact HC3_0.out)
 rintro e w16 ⟨rfl, hb⟩
 refine ⟨_, rfl, ?_⟩
 have n0_ := A_ (bb_ BK502.out hb)
 have n1_ := A_ (bb_ BK503.out hb)
 have n2_ := A_ (below_step (hb2_ HB.out GE502.out GE503.out) hb)
 clear BK502;clear BK503;clear HB;have BK502 := n0_;have BK503 := n1_;have HB := n2_;clear n0_ n1_ n2_;(try clear hb);(try clear hb2);(try clear hk);(try clear hi)
 refine hK.out _ _ ⟨bc_ BK502.out 0, bc_ BK503.out 0⟩ (fun hHeld => ?_)
 clear hK K
 refine norm_ (a' := ?_) ?_ ?_
 rotate_left
 ·show Act.put _ (some 21) _ = _
  simp only [Act.put, lI_, l0_, lS_, i64_w, i32_w]
  rfl
 refine pu_ 4 (some 22) #[true, true, true, true, true, true, false, false] rfl rfl (any_of HT_.out (by kernel_rfl)) ?_
 refine pu_ 6 (some 24) #[true, true, true, true, true, true, true, false] rfl rfl (any_of HT_.out (by kernel_rfl)) ?_
 refine pu_ 7 (some 12) #[true, true, true, true, true, true, true, true] rfl rfl (any_of HT_.out (by kernel_rfl)) ?_
 refine done_ (done_of HT_.out (by kernel_rfl)) ?_
 go_upto_region 4 with (first | ((with_reducible refine gate_callee (f := 97) rfl ?_); refine gl_ (some 29) Try.func97 #[.int .i64 a0] ?_; (with_reducible refine (r3_Low.calls a0 t507 _ A9.out).mono ?_); rintro e w' ⟨rfl, ⟨nd, rfl⟩⟩; refine ⟨_, rfl, ?_⟩))
 (try simp only [Act.put, lI_, l0_, lS_])
 go_cut [44] (fun v44 wc => ∃ (kq : Nat) (x44_10 : Bool), v44 = .bool x44_10 ∧ Aside0 (r3_Near.j0 kq a0 a1 a4 t504 ji10 x44_10 l2_0 l3_0 = some r) ∧ Aside0 (kq ≤ k) ∧ Aside0 (wc.heap[gb502]? = some (.cells #[(.slice A2_0 l2_0.length c2_0)] 63 (0, 0))) ∧ Aside0 (wc.heap[gb503]? = some (.cells #[(.slice A3_0 l3_0.length c3_0)] 63 (0, 0))) ∧ Aside0 (Below w.heap.size w wc))
 case first =>
  have H := HC11.out
  clear HC11
  replace H := ob_ H
  obtain ⟨t508, A170, H⟩ := H
  replace H : (if (ji10) > t508 then ((r3_under.f k l2_0 l3_0 (wrap64 ((wrap64 (a4 - (ji10))) - t504))).bind fun t509 => (r3_Near.j0 k a0 a1 a4 t504 ji10 t509 l2_0 l3_0)) else (r3_Near.j0 k a0 a1 a4 t504 ji10 false l2_0 l3_0)) = some r := H
  have A17 := A_ A170;clear A170
  by_cases c18 : (ji10) > t508
  ·rw [if_pos c18] at H
   have c18b0 : decide (t508 < (ji10)) = true := decide_eq_true c18
   clear c18
   (first | rw [c18b0] | (simp only [i64_w, i32_w]; rw [c18b0]) | skip)
   replace H := ob_ H
   obtain ⟨t509, A190, H⟩ := H
   replace H : (r3_Near.j0 k a0 a1 a4 t504 ji10 t509 l2_0 l3_0) = some r := H
   have A19 := A_ A190;clear A190
   have H' := A_ H
   clear H
   go_wp2_with (first | ((with_reducible refine gate_callee (f := 97) rfl ?_); refine gl_ (some 33) Try.func97 #[.int .i64 a0] ?_; (with_reducible refine (r3_Low.calls a0 t508 _ A17.out).mono ?_); rintro e w' ⟨rfl, ⟨nd, rfl⟩⟩; refine ⟨_, rfl, ?_⟩; have hnb20 := NB502_503.out; have hnc20 := NB503_502.out; have hcz21_0 : w16.cell? ⟨gb502, 0, none⟩ = some (.slice A2_0 l2_0.length c2_0) := bc_ BK502.out 0; have hfz21_0 := blk_frozen BK502.out 0; have hcz22_0 : w16.cell? ⟨gb503, 0, none⟩ = some (.slice A3_0 l3_0.length c3_0) := bc_ BK503.out 0; have hfz22_0 := blk_frozen BK503.out 0) | (go_at_call 98; (with_reducible refine (r3_under.calls k _ _ l2_0 _ _ l3_0 (wrap64 ((wrap64 (a4 - (ji10))) - t504)) t509 _ ?side1 ?side2 ?side3 ?side4 A19.out).mono ?_); (case side1 => repeat (first | exact (Kd.C_below HR2_0.out (hb2_ HB.out GE502.out GE503.out)) | (with_reducible refine Kd.C_alloc ?_ _) | (with_reducible refine Kd.C_drewN ?_ _) | (with_reducible refine Kd.C_drew ?_))); (case side2 => exact HC2_0.out); (case side3 => repeat (first | exact (Kd.C_below HR3_0.out (hb2_ HB.out GE502.out GE503.out)) | (with_reducible refine Kd.C_alloc ?_ _) | (with_reducible refine Kd.C_drewN ?_ _) | (with_reducible refine Kd.C_drew ?_))); (case side4 => exact HC3_0.out); rintro e w23 ⟨rfl, hb⟩; have n0_ := A_ (bb_ BK502.out hb); have n1_ := A_ (bb_ BK503.out hb); have n2_ := A_ (below_step (hb2_ HB.out GE502.out GE503.out) hb); clear BK502; clear BK503; clear HB; have BK502 := n0_; have BK503 := n1_; have HB := n2_; clear n0_ n1_ n2_; (try clear hb); (try clear hb2); (try clear hk); (try clear hi)))
   go_meet
   case rel => exact ⟨_, (t509), sm_, H', ⟨by first | omega | exact Nat.le_refl _⟩, ⟨bk_ BK502.out⟩, ⟨bk_ BK503.out⟩, ⟨hb2_ HB.out GE502.out GE503.out⟩⟩
  ·rw [if_neg c18] at H
   have c18b0 : decide (t508 < (ji10)) = false := decide_eq_false c18
   clear c18
   (first | rw [c18b0] | (simp only [i64_w, i32_w]; rw [c18b0]) | skip)
   have H' := A_ H
   clear H
   go_wp2_with (first | ((with_reducible refine gate_callee (f := 97) rfl ?_); refine gl_ (some 33) Try.func97 #[.int .i64 a0] ?_; (with_reducible refine (r3_Low.calls a0 t508 _ A17.out).mono ?_); rintro e w' ⟨rfl, ⟨nd, rfl⟩⟩; refine ⟨_, rfl, ?_⟩))
   go_meet
   case rel => exact ⟨_, (false), sm_, H', ⟨by first | omega | exact Nat.le_refl _⟩, ⟨bk_ BK502.out⟩, ⟨bk_ BK503.out⟩, ⟨hb2_ HB.out GE502.out GE503.out⟩⟩
 case rest =>
  clear HC11
  try clear c1
  try clear c2
  try clear p2
  try clear c3
  try clear c5
  try clear c6
  try clear p6
  try clear c9
  try clear c18
  try clear c18b0
  try clear c20
  try clear hcz21_0
  try clear hcz22_0
  try clear hfz21_0
  try clear hfz22_0
  obtain ⟨kq, x44_10, rfl, HA, HJ10, BK502, BK503, HB⟩ := hcut
  cases kq with
  | zero => exact absurd HA.out (by simp [r3_Near.j0])
  | succ kj10 =>
   have H := HA.out
   clear HA
   simp only [r3_Near.j0] at H
   have HC24 := A_ H;clear H
   go_upto_if 44 with (fail)
   go_cut [13] (fun v13 wc => ∃ (kq : Nat) (x13_23 : Int), v13 = .int .i64 x13_23 ∧ Aside0 (r3_Near.j1 kq a0 a1 a4 t504 x13_23 l2_0 l3_0 = some r) ∧ Aside0 (kq ≤ kj10) ∧ Aside0 (wc.heap[gb502]? = some (.cells #[(.slice A2_0 l2_0.length c2_0)] 63 (0, 0))) ∧ Aside0 (wc.heap[gb503]? = some (.cells #[(.slice A3_0 l3_0.length c3_0)] 63 (0, 0))) ∧ Aside0 (Below w.heap.size w wc))
   case first =>
    have H := HC24.out
    clear HC24
    by_cases c25 : x44_10 = true
    ·subst c25
     have H1 : (r3_Near.j1 kj10 a0 a1 a4 t504 (wrap64 (ji10 - 1)) l2_0 l3_0) = some r := by rw [if_pos rfl] at H; exact H
     clear H;have H := H1;clear H1
     have H' := A_ H
     clear H
     go_wp2
     go_meet
     case rel => exact ⟨_, (wrap64 (ji10 - 1)), (by first | rfl | (simp; done) | (simp only [← hji10] <;> (first | rfl | simp)) | (simp [*]; done)), H', ⟨by have := HJ10.out; first | omega | exact Nat.le_refl _⟩, ⟨bk_ BK502.out⟩, ⟨bk_ BK503.out⟩, ⟨hb2_ HB.out GE502.out GE503.out⟩⟩
    ·replace c25 := Bool.eq_false_iff.mpr c25
     subst c25
     have H1 : (r3_Near.j1 kj10 a0 a1 a4 t504 ji10 l2_0 l3_0) = some r := by rw [if_neg (show ¬ (false = true) by decide)] at H; exact H
     clear H;have H := H1;clear H1
     have H' := A_ H
     clear H
     go_wp2
     go_meet
     case rel => exact ⟨_, (ji10), (by first | rfl | (simp; done) | (simp only [← hji10] <;> (first | rfl | simp)) | (simp [*]; done)), H', ⟨by have := HJ10.out; first | omega | exact Nat.le_refl _⟩, ⟨bk_ BK502.out⟩, ⟨bk_ BK503.out⟩, ⟨hb2_ HB.out GE502.out GE503.out⟩⟩
   case rest =>
    clear HC24
    try clear c1
    try clear c2
    try clear p2
    try clear c3
    try clear c5
    try clear c6
    try clear p6
    try clear c9
    try clear c18
    try clear c18b0
    try clear c20
    try clear c25
    try clear hcz21_0
    try clear hcz22_0
    try clear hfz21_0
    try clear hfz22_0
    try clear p2
    try clear p6
    obtain ⟨kq, x13_23, rfl, HA, HJ23, BK502, BK503, HB⟩ := hcut
    cases kq with
    | zero => exact absurd HA.out (by simp [r3_Near.j1])
    | succ kj23 =>
     have H := HA.out
     clear HA
     simp only [r3_Near.j1] at H
     replace H := ob_ H
     obtain ⟨t510, A260, H⟩ := H
     replace H : ((r1_Len.f kj23 t510).bind fun t514 => (if t514 > (wrap64 (t504 + 1)) then ((r1_Half.f kj23 t510 1).bind fun bt515 => (r3_Near.j2 kj23 a0 a1 t504 (wrap64 (x13_23 + 1)) bt515.1)) else (r3_Near.j2 kj23 a0 a1 t504 x13_23 t510))) = some r := H
     have A26 := A_ A260;clear A260
     replace H := ob_ H
     obtain ⟨t514, A270, H⟩ := H
     replace H : (if t514 > (wrap64 (t504 + 1)) then ((r1_Half.f kj23 t510 1).bind fun bt515 => (r3_Near.j2 kj23 a0 a1 t504 (wrap64 (x13_23 + 1)) bt515.1)) else (r3_Near.j2 kj23 a0 a1 t504 x13_23 t510)) = some r := H
     have A27 := A_ A270;clear A270;have HC28 := A_ H;clear H
     have hnb29 := NB502_503.out
     have hnc29 := NB503_502.out
     have hcz30_0 : wc.cell? ⟨gb502, 0, none⟩ = some (.slice A2_0 l2_0.length c2_0) := bc_ BK502.out 0
     have hfz30_0 := blk_frozen BK502.out 0
     have hcz31_0 : wc.cell? ⟨gb503, 0, none⟩ = some (.slice A3_0 l3_0.length c3_0) := bc_ BK503.out 0
     have hfz31_0 := blk_frozen BK503.out 0
     go_upto_if 57 with (first | ((with_reducible refine gate_callee (f := 99) rfl ?_); refine gl_ (some 52) Try.func99 #[.agg #[.slice A2_0 l2_0.length c2_0], .agg #[.slice A3_0 l3_0.length c3_0], .int .i64 (wrap64 (a4 - x13_23))] ?_; (with_reducible refine (r3_grain.calls kj23 _ _ l2_0 _ _ l3_0 (wrap64 (a4 - x13_23)) t510 _ ?side1 ?side2 ?side3 ?side4 A26.out).mono ?_); (case side1 => repeat (first | exact (Kd.C_below HR2_0.out HB.out) | (with_reducible refine Kd.C_alloc ?_ _) | (with_reducible refine Kd.C_drewN ?_ _) | (with_reducible refine Kd.C_drew ?_))); (case side2 => exact HC2_0.out); (case side3 => repeat (first | exact (Kd.C_below HR3_0.out HB.out) | (with_reducible refine Kd.C_alloc ?_ _) | (with_reducible refine Kd.C_drewN ?_ _) | (with_reducible refine Kd.C_drew ?_))); (case side4 => exact HC3_0.out); rintro e w32 ⟨v511, rfl, ho0, hb⟩; refine ⟨_, rfl, ?_⟩; have n0_ := A_ (Kd.R_lower ho0 (below_size (hb2_ HB.out GE502.out GE503.out))); have n1_ := A_ (bb_ BK502.out hb); have n2_ := A_ (bb_ BK503.out hb); have n3_ := A_ (below_step (hb2_ HB.out GE502.out GE503.out) hb); clear BK502; clear BK503; clear HB; have HO512 := n0_; have BK502 := n1_; have BK503 := n2_; have HB := n3_; clear n0_ n1_ n2_ n3_; (try clear hb); (try clear hb2); (try clear hk); (try clear hi); (try clear ho0)) | ((with_reducible refine gate_dst (N := 14) rfl ?_); refine be_ 14 #[.slice none 0 0] 63 ?_; intro gb513 hg w33 hbox hb; have n0_ := A_ (Kd.R_below (kr_ HO512.out) hb); have n1_ := A_ (bb_ BK502.out hb); have n2_ := A_ (bb_ BK503.out hb); have n3_ := A_ (below_step (hb2_ HB.out GE502.out GE503.out) hb); have n4_ := A_ (hbox); have n5_ := A_ (sz_ hg (hb2_ HB.out GE502.out GE503.out)); have n6_ := A_ (sz_ hg (hb2_ HB.out GE502.out GE503.out)); have n7_ := A_ (nl_ hg BK502.out); have n8_ := A_ (ng_ hg BK502.out); have n9_ := A_ (nl_ hg BK503.out); have n10_ := A_ (ng_ hg BK503.out); clear HO512; clear BK502; clear BK503; clear HB; have HO512 := n0_; have BK502 := n1_; have BK503 := n2_; have HB := n3_; have BK513 := n4_; have GW513 := n5_; have GE513 := n6_; have NB502_513 := n7_; have NB513_502 := n8_; have NB503_513 := n9_; have NB513_503 := n10_; clear n0_ n1_ n2_ n3_ n4_ n5_ n6_ n7_ n8_ n9_ n10_; clear hb hbox hg; obtain ⟨Ao34, co34, eo34⟩ := Kd.R_slice HO512.out; subst eo34; have hnb35 := NB513_502.out; have hnc35 := NB502_513.out; have hnb36 := NB513_503.out; have hnc36 := NB503_513.out; have hcz37_0 : w33.cell? ⟨gb513, 0, none⟩ = some (.slice none 0 0) := bc_ BK513.out 0; have hfz37_0 := blk_frozen BK513.out 0) | ((with_reducible refine gate_callee (f := 96) rfl ?_); refine gl_ (some 54) Try.func96 #[.agg #[.slice Ao34 t510.length co34]] ?_; (with_reducible refine (r1_Len.calls kj23 _ _ t510 t514 _ ?side1 ?side2 A27.out).mono ?_); (case side1 => refine (Kd.R_reads' (e := 22) (base := w.heap.size) (ok := fun k_ => True) (n := t510.length) (c := co34) ?_).2.2; exact (by (with_reducible repeat (first | apply Kd.R_alloc | apply Kd.R_drewN | apply Kd.R_drew)); exact (Kd.R_mono (Kd.R_far (p := ⟨gb513, 0, none⟩) (Kd.R_types HO512.out BK513.out (by decide)) (fun _ hk => hk.2) (.slice Ao34 t510.length co34)) (fun _ h_ => h_.1)))); (case side2 => exact (Kd.R_reads' HO512.out).2.1); rintro e w38 ⟨rfl, hb⟩; refine ⟨_, rfl, ?_⟩; have n0_ := A_ (Kd.R_below (by (with_reducible repeat (first | apply Kd.R_alloc | apply Kd.R_drewN | apply Kd.R_drew)); exact (Kd.R_mono (Kd.R_far (p := ⟨gb513, 0, none⟩) (Kd.R_types HO512.out BK513.out (by decide)) (fun _ hk => hk.2) (.slice Ao34 t510.length co34)) (fun _ h_ => h_.1))) hb); have n1_ := A_ (blk_below (g := gb502) (o := .cells #[.slice A2_0 l2_0.length c2_0] 63 (0, 0)) (bf1_ BK502.out NB502_513.out) hb); have n2_ := A_ (blk_below (g := gb503) (o := .cells #[.slice A3_0 l3_0.length c3_0] 63 (0, 0)) (bf1_ BK503.out NB503_513.out) hb); have n3_ := A_ (blk_below (g := gb513) (o := .cells #[.slice Ao34 t510.length co34] 63 (0, 0)) (by (with_reducible repeat (first | refine blk_drewN ?_ _ | refine blk_drew ?_ | refine blk_alloc ?_ _)); refine blk_put (cs := #[.slice none 0 0]) ?_ 0 _ rfl; (with_reducible repeat (first | refine blk_drewN ?_ _ | refine blk_drew ?_ | refine blk_alloc ?_ _)); exact BK513.out) hb); have n4_ := A_ (below_step (hb3_ HB.out GE502.out GE503.out GE513.out) hb); clear HO512; clear BK502; clear BK503; clear BK513; clear HB; have HO512 := n0_; have BK502 := n1_; have BK503 := n2_; have BK513 := n3_; have HB := n4_; clear n0_ n1_ n2_ n3_ n4_; (try clear hb); (try clear hb2); (try clear hk); (try clear hi)))
     (try simp only [Act.put, lI_, l0_, lS_])
     go_cut [13] (fun v13 wc => ∃ (kq : Nat) (x13_27 : Int) (x514000_27 : List Int) (u514000 : Value), v13 = .int .i64 x13_27 ∧ Aside0 (r3_Near.j2 kq a0 a1 t504 x13_27 x514000_27 = some r) ∧ Aside0 (kq ≤ kj23) ∧ Aside0 (Kd.R (Kd.int .u64) 22 wc w.heap.size (fun _ => True) u514000 x514000_27) ∧ Aside0 (wc.heap[gb502]? = some (.cells #[(.slice A2_0 l2_0.length c2_0)] 63 (0, 0))) ∧ Aside0 (wc.heap[gb503]? = some (.cells #[(.slice A3_0 l3_0.length c3_0)] 63 (0, 0))) ∧ Aside0 (wc.heap[gb513]? = some (.cells #[u514000] 63 (0, 0))) ∧ Aside0 (Below w.heap.size w wc))
     case first =>
      have H := HC28.out
      clear HC28
      by_cases c39 : t514 > (wrap64 (t504 + 1))
      ·rw [if_pos c39] at H
       have c39b0 : decide ((wrap64 (t504 + 1)) < t514) = true := decide_eq_true c39
       clear c39
       (first | rw [c39b0] | (simp only [i64_w, i32_w]; rw [c39b0]) | skip)
       replace H := ob_ H
       obtain ⟨⟨t515, t518⟩, A400, H⟩ := H
       replace H : (r3_Near.j2 kj23 a0 a1 t504 (wrap64 (x13_23 + 1)) t515) = some r := H
       have A40 := A_ A400;clear A400
       have H' := A_ H
       clear H
       have hnb41 := NB513_502.out
       have hnc41 := NB502_513.out
       have hnb42 := NB513_503.out
       have hnc42 := NB503_513.out
       have hcz43_0 : w38.cell? ⟨gb513, 0, none⟩ = some (.slice Ao34 t510.length co34) := bc_ BK513.out 0
       have hfz43_0 := blk_frozen BK513.out 0
       go_wp2_with (first | ((with_reducible refine gate_callee (f := 100) rfl ?_); refine gl_ (some 62) Try.func100 #[.agg #[.slice Ao34 t510.length co34], .int .i64 1] ?_; (with_reducible refine (r1_Half.calls kj23 _ _ t510 1 t515 t518 _ ?side1 ?side2 A40.out).mono ?_); (case side1 => repeat (first | exact (Kd.R_reads' HO512.out).2.2 | (with_reducible refine Kd.C_alloc ?_ _) | (with_reducible refine Kd.C_drewN ?_ _) | (with_reducible refine Kd.C_drew ?_))); (case side2 => exact (Kd.R_reads' HO512.out).2.1); rintro e w44 ⟨v516, rfl, ho0, hb⟩; refine ⟨_, rfl, ?_⟩; have n0_ := A_ (Kd.R_elder' (kr_ HO512.out) (Kd.R_base ho0) hb); have n1_ := A_ (Kd.R_lower (Kd.R_new' ho0 (Kd.R_lt (kr_ HO512.out))) (below_size (hb3_ HB.out GE502.out GE503.out GE513.out))); have n2_ := A_ (bb_ BK502.out hb); have n3_ := A_ (bb_ BK503.out hb); have n4_ := A_ (bb_ BK513.out hb); have n5_ := A_ (below_step (hb3_ HB.out GE502.out GE503.out GE513.out) hb); clear HO512; clear BK502; clear BK503; clear BK513; clear HB; have HO512 := n0_; have HO517 := n1_; have BK502 := n2_; have BK503 := n3_; have BK513 := n4_; have HB := n5_; clear n0_ n1_ n2_ n3_ n4_ n5_; (try clear hb); (try clear hb2); (try clear hk); (try clear hi); (try clear ho0); obtain ⟨Ao45, co45, eo45⟩ := Kd.R_slice HO517.out; subst eo45; have hcz46_0 : w44.cell? ⟨gb513, 0, none⟩ = some (.slice Ao34 t510.length co34) := bc_ BK513.out 0; have hfz46_0 := blk_frozen BK513.out 0))
       go_meet
       case rel => exact ⟨_, (wrap64 (x13_23 + 1)), (t515), (.slice Ao45 t515.length co45), sm_, H', ⟨by have := HJ10.out; have := HJ23.out; first | omega | exact Nat.le_refl _⟩, ⟨by (with_reducible repeat (first | apply Kd.R_alloc | apply Kd.R_drewN | apply Kd.R_drew)); exact Kd.R_mono (Kd.R_far (p := ⟨gb513, 0, none⟩) (Kd.R_types HO517.out BK513.out (by decide)) (fun _ hk => hk.2) (.slice Ao45 t515.length co45)) (fun _ hk => trivial)⟩, ⟨bf1_ BK502.out NB502_513.out⟩, ⟨bf1_ BK503.out NB503_513.out⟩, ⟨by (with_reducible repeat (first | refine blk_drewN ?_ _ | refine blk_drew ?_ | refine blk_alloc ?_ _)); refine blk_put (cs := #[.slice Ao34 t510.length co34]) ?_ 0 _ rfl; (with_reducible repeat (first | refine blk_drewN ?_ _ | refine blk_drew ?_ | refine blk_alloc ?_ _)); exact BK513.out⟩, ⟨hb3_ HB.out GE502.out GE503.out GE513.out⟩⟩
      ·rw [if_neg c39] at H
       have c39b0 : decide ((wrap64 (t504 + 1)) < t514) = false := decide_eq_false c39
       clear c39
       (first | rw [c39b0] | (simp only [i64_w, i32_w]; rw [c39b0]) | skip)
       have H' := A_ H
       clear H
       go_wp2
       go_meet
       case rel => exact ⟨_, (x13_23), (t510), (.slice Ao34 t510.length co34), sm_, H', ⟨by have := HJ10.out; have := HJ23.out; first | omega | exact Nat.le_refl _⟩, ⟨by (with_reducible repeat (first | apply Kd.R_alloc | apply Kd.R_drewN | apply Kd.R_drew)); exact HO512.out⟩, ⟨bk_ BK502.out⟩, ⟨bk_ BK503.out⟩, ⟨bk_ BK513.out⟩, ⟨hb3_ HB.out GE502.out GE503.out GE513.out⟩⟩
     case rest =>
      clear HC28
      try clear c1
      try clear c2
      try clear p2
      try clear c3
      try clear c4
      try clear c5
      try clear c6
      try clear p6
      try clear c9
      try clear c10
      try clear c18
      try clear c18b0
      try clear c20
      try clear c25
      try clear c29
      try clear c35
      try clear c36
      try clear c39
      try clear c39b0
      try clear c41
      try clear c42
      try clear hcz21_0
      try clear hcz22_0
      try clear hcz30_0
      try clear hcz31_0
      try clear hcz37_0
      try clear hcz43_0
      try clear hcz46_0
      try clear hfz21_0
      try clear hfz22_0
      try clear hfz30_0
      try clear hfz31_0
      try clear hfz37_0
      try clear hfz43_0
      try clear hfz46_0
      try clear p2
      try clear p6
      obtain ⟨kq, x13_27, x514000_27, u514000, rfl, HA, HJ27, HO_514000, BK502, BK503, BK513, HB⟩ := hcut
      cases kq with
      | zero => exact absurd HA.out (by simp [r3_Near.j2])
      | succ kj27 =>
       have H := HA.out
       clear HA
       simp only [r3_Near.j2] at H
       replace H := ob_ H
       obtain ⟨t519, A470, H⟩ := H
       replace H : ((r2_Top.f kj27 a0).bind fun t520 => (if x13_27 > (wrap64 ((wrap64 (t519 + t520)) - 2)) then ((r2_Inf.f kj27 a0 a1).bind fun t521 => (some t521)) else ((r1_Uint.f x514000_27).bind fun t522 => ((r2_Two.f kj27 t504).bind fun t523 => (if t522 < t523 then ((r2_Make.f kj27 a0 a1 0 t522).bind fun t524 => (some t524)) else ((r3_Low.f a0).bind fun t525 => ((r2_Two.f kj27 t504).bind fun t526 => ((r2_Make.f kj27 a0 a1 (wrap64 ((wrap64 (x13_27 - t525)) + 1)) (IntKind.u64.wrap (t522 - t526))).bind fun t527 => (some t527))))))))) = some r := H
       have A47 := A_ A470;clear A470
       replace H := ob_ H
       obtain ⟨t520, A480, H⟩ := H
       replace H : (if x13_27 > (wrap64 ((wrap64 (t519 + t520)) - 2)) then ((r2_Inf.f kj27 a0 a1).bind fun t521 => (some t521)) else ((r1_Uint.f x514000_27).bind fun t522 => ((r2_Two.f kj27 t504).bind fun t523 => (if t522 < t523 then ((r2_Make.f kj27 a0 a1 0 t522).bind fun t524 => (some t524)) else ((r3_Low.f a0).bind fun t525 => ((r2_Two.f kj27 t504).bind fun t526 => ((r2_Make.f kj27 a0 a1 (wrap64 ((wrap64 (x13_27 - t525)) + 1)) (IntKind.u64.wrap (t522 - t526))).bind fun t527 => (some t527)))))))) = some r := H
       have A48 := A_ A480;clear A480
       by_cases c49 : x13_27 > (wrap64 ((wrap64 (t519 + t520)) - 2))
       ·rw [if_pos c49] at H
        have c49b0 : decide ((wrap64 ((wrap64 (t519 + t520)) - 2)) < x13_27) = true := decide_eq_true c49
        clear c49
        replace H := ob_ H
        obtain ⟨t521, A500, H⟩ := H
        replace H : (some t521) = some r := H
        have A50 := A_ A500;clear A500
        obtain rfl := Option.some.inj H
        go_wp2_with (first | ((with_reducible refine gate_callee (f := 97) rfl ?_); refine gl_ (some 67) Try.func97 #[.int .i64 a0] ?_; (with_reducible refine (r3_Low.calls a0 t519 _ A47.out).mono ?_); rintro e w' ⟨rfl, ⟨nd, rfl⟩⟩; refine ⟨_, rfl, ?_⟩) | ((with_reducible refine gate_callee (f := 88) rfl ?_); refine gl_ (some 69) Try.func88 #[.int .i64 a0] ?_; (with_reducible refine (r2_Top.calls kj27 a0 t520 _ A48.out).mono ?_); rintro e w' ⟨rfl, ⟨nd, rfl⟩⟩; refine ⟨_, rfl, ?_⟩) | ((with_reducible refine gate_callee (f := 59) rfl ?_); refine gl_ (some 75) Try.func59 #[.int .i64 a0, .bool a1] ?_; (with_reducible refine (r2_Inf.calls kj27 a0 a1 t521 _ A50.out).mono ?_); rintro e w' ⟨rfl, ⟨nd, rfl⟩⟩; refine ⟨_, rfl, ?_⟩))
        go_ret
        exact ⟨by first | rfl | (simp [errW_none, errW_some] <;> rfl) | (simp only [← hji10]; first | rfl | (simp [errW_none, errW_some] <;> rfl)) | (simp [*, errW_none, errW_some] <;> rfl), hb3_ HB.out GE502.out GE503.out GE513.out⟩
       ·rw [if_neg c49] at H
        have c49b0 : decide ((wrap64 ((wrap64 (t519 + t520)) - 2)) < x13_27) = false := decide_eq_false c49
        clear c49
        replace H := ob_ H
        obtain ⟨t522, A510, H⟩ := H
        replace H : ((r2_Two.f kj27 t504).bind fun t523 => (if t522 < t523 then ((r2_Make.f kj27 a0 a1 0 t522).bind fun t524 => (some t524)) else ((r3_Low.f a0).bind fun t525 => ((r2_Two.f kj27 t504).bind fun t526 => ((r2_Make.f kj27 a0 a1 (wrap64 ((wrap64 (x13_27 - t525)) + 1)) (IntKind.u64.wrap (t522 - t526))).bind fun t527 => (some t527)))))) = some r := H
        have A51 := A_ A510;clear A510
        replace H := ob_ H
        obtain ⟨t523, A520, H⟩ := H
        replace H : (if t522 < t523 then ((r2_Make.f kj27 a0 a1 0 t522).bind fun t524 => (some t524)) else ((r3_Low.f a0).bind fun t525 => ((r2_Two.f kj27 t504).bind fun t526 => ((r2_Make.f kj27 a0 a1 (wrap64 ((wrap64 (x13_27 - t525)) + 1)) (IntKind.u64.wrap (t522 - t526))).bind fun t527 => (some t527))))) = some r := H
        have A52 := A_ A520;clear A520
        by_cases c53 : t522 < t523
        ·rw [if_pos c53] at H
         have c53b0 : decide (t522 < t523) = true := decide_eq_true c53
         clear c53
         replace H := ob_ H
         obtain ⟨t524, A540, H⟩ := H
         replace H : (some t524) = some r := H
         have A54 := A_ A540;clear A540
         obtain rfl := Option.some.inj H
         go_wp2_with (first | ((with_reducible refine gate_callee (f := 97) rfl ?_); refine goesL_ (some 67) rfl rfl Try.func97 (by kernel_rfl) rfl #[.int .i64 a0] rfl (by (try simp only [List.map_toArray, List.map_cons, List.map_nil]); first | done | rfl | (simp only [List.length_drop, List.length_take]; rfl)) ?_; (with_reducible refine (r3_Low.calls a0 t519 _ A47.out).mono ?_); rintro e w' ⟨rfl, ⟨nd, rfl⟩⟩; refine ⟨_, rfl, ?_⟩) | ((with_reducible refine gate_callee (f := 88) rfl ?_); refine goesL_ (some 69) rfl rfl Try.func88 (by kernel_rfl) rfl #[.int .i64 a0] rfl (by (try simp only [List.map_toArray, List.map_cons, List.map_nil]); first | done | rfl | (simp only [List.length_drop, List.length_take]; rfl)) ?_; (with_reducible refine (r2_Top.calls kj27 a0 t520 _ A48.out).mono ?_); rintro e w' ⟨rfl, ⟨nd, rfl⟩⟩; refine ⟨_, rfl, ?_⟩; have hnb55 := NB513_502.out; have hnc55 := NB502_513.out; have hnb56 := NB513_503.out; have hnc56 := NB503_513.out; have hcz57_0 : wc.cell? ⟨gb513, 0, none⟩ = some (u514000) := (blk_cell BK513.out 0).trans rfl; have hfz57_0 := blk_frozen BK513.out 0; obtain ⟨Ao58, co58, eo58⟩ := Kd.R_slice HO_514000.out; subst eo58) | ((with_reducible refine gate_callee (f := 101) rfl ?_); refine goesL_ (some 77) rfl rfl Try.func101 (by kernel_rfl) rfl #[.agg #[.slice Ao58 x514000_27.length co58]] rfl (by (try simp only [List.map_toArray, List.map_cons, List.map_nil]); first | done | rfl | (simp only [List.length_drop, List.length_take]; rfl)) ?_; (with_reducible refine (r1_Uint.calls _ _ x514000_27 t522 _ ?side1 ?side2 A51.out).mono ?_); (case side1 => repeat (first | exact (Kd.R_reads' HO_514000.out).2.2 | (with_reducible refine Kd.C_alloc ?_ _) | (with_reducible refine Kd.C_drewN ?_ _) | (with_reducible refine Kd.C_drew ?_))); (case side2 => exact (Kd.R_reads' HO_514000.out).2.1); rintro e w59 ⟨rfl, hb⟩; refine ⟨_, rfl, ?_⟩; have n0_ := Aside0.mk (Kd.R_below (by (with_reducible repeat (first | apply Kd.R_alloc | apply Kd.R_drewN | apply Kd.R_drew)); exact HO_514000.out) hb); have n1_ := Aside0.mk (blk_below (g := gb502) (o := .cells #[.slice A2_0 l2_0.length c2_0] 63 (0, 0)) (by (with_reducible repeat (first | refine blk_drewN ?_ _ | refine blk_drew ?_ | refine blk_alloc ?_ _)); exact BK502.out) hb); have n2_ := Aside0.mk (blk_below (g := gb503) (o := .cells #[.slice A3_0 l3_0.length c3_0] 63 (0, 0)) (by (with_reducible repeat (first | refine blk_drewN ?_ _ | refine blk_drew ?_ | refine blk_alloc ?_ _)); exact BK503.out) hb); have n3_ := Aside0.mk (blk_below (g := gb513) (o := .cells #[.slice Ao58 x514000_27.length co58] 63 (0, 0)) (by (with_reducible repeat (first | refine blk_drewN ?_ _ | refine blk_drew ?_ | refine blk_alloc ?_ _)); exact BK513.out) hb); have n4_ := Aside0.mk (below_step (by repeat (first | (with_reducible first | exact HB.out | apply below_alloc | apply pw_below_drewN | apply below_drew1 | refine below_set ?_ GE502.out | refine below_set ?_ GE503.out | refine below_set ?_ GE513.out) | exact HB.out)) hb); clear HO_514000; clear BK502; clear BK503; clear BK513; clear HB; have HO_514000 := n0_; have BK502 := n1_; have BK503 := n2_; have BK513 := n3_; have HB := n4_; clear n0_ n1_ n2_ n3_ n4_; (try clear hb); (try clear hb2); (try clear hk); (try clear hi)) | ((with_reducible refine gate_callee (f := 51) rfl ?_); refine goesL_ (some 80) rfl rfl Try.func51 (by kernel_rfl) rfl #[.int .i64 t504] rfl (by (try simp only [List.map_toArray, List.map_cons, List.map_nil]); first | done | rfl | (simp only [List.length_drop, List.length_take]; rfl)) ?_; (with_reducible refine (r2_Two.calls kj27 t504 t523 _ A52.out).mono ?_); rintro e w' ⟨rfl, ⟨nd, rfl⟩⟩; refine ⟨_, rfl, ?_⟩) | ((with_reducible refine gate_callee (f := 17) rfl ?_); refine goesL_ (some 85) rfl rfl Try.func17 (by kernel_rfl) rfl #[.int .i64 a0, .bool a1, .int .i64 0, .int .u64 t522] rfl (by (try simp only [List.map_toArray, List.map_cons, List.map_nil]); first | done | rfl | (simp only [List.length_drop, List.length_take]; rfl)) ?_; (with_reducible refine (r2_Make.calls kj27 a0 a1 0 t522 t524 _ A54.out).mono ?_); rintro e w' ⟨rfl, ⟨nd, rfl⟩⟩; refine ⟨_, rfl, ?_⟩))
         go_ret
         exact ⟨by first | rfl | (simp [errW_none, errW_some] <;> rfl) | (simp only [← hji10]; first | rfl | (simp [errW_none, errW_some] <;> rfl)) | (simp [*, errW_none, errW_some] <;> rfl), hb3_ HB.out GE502.out GE503.out GE513.out⟩
        ·rw [if_neg c53] at H
         have c53b0 : decide (t522 < t523) = false := decide_eq_false c53
         clear c53
         replace H := ob_ H
         obtain ⟨t525, A600, H⟩ := H
         replace H : ((r2_Two.f kj27 t504).bind fun t526 => ((r2_Make.f kj27 a0 a1 (wrap64 ((wrap64 (x13_27 - t525)) + 1)) (IntKind.u64.wrap (t522 - t526))).bind fun t527 => (some t527))) = some r := H
         have A60 := A_ A600;clear A600
         replace H := ob_ H
         obtain ⟨t526, A610, H⟩ := H
         replace H : ((r2_Make.f kj27 a0 a1 (wrap64 ((wrap64 (x13_27 - t525)) + 1)) (IntKind.u64.wrap (t522 - t526))).bind fun t527 => (some t527)) = some r := H
         have A61 := A_ A610;clear A610
         replace H := ob_ H
         obtain ⟨t527, A620, H⟩ := H
         replace H : (some t527) = some r := H
         have A62 := A_ A620;clear A620
         obtain rfl := Option.some.inj H
         go_wp2_with (first | ((with_reducible refine gate_callee (f := 97) rfl ?_); refine goesL_ (some 67) rfl rfl Try.func97 (by kernel_rfl) rfl #[.int .i64 a0] rfl (by (try simp only [List.map_toArray, List.map_cons, List.map_nil]); first | done | rfl | (simp only [List.length_drop, List.length_take]; rfl)) ?_; (with_reducible refine (r3_Low.calls a0 t519 _ A47.out).mono ?_); rintro e w' ⟨rfl, ⟨nd, rfl⟩⟩; refine ⟨_, rfl, ?_⟩) | ((with_reducible refine gate_callee (f := 88) rfl ?_); refine goesL_ (some 69) rfl rfl Try.func88 (by kernel_rfl) rfl #[.int .i64 a0] rfl (by (try simp only [List.map_toArray, List.map_cons, List.map_nil]); first | done | rfl | (simp only [List.length_drop, List.length_take]; rfl)) ?_; (with_reducible refine (r2_Top.calls kj27 a0 t520 _ A48.out).mono ?_); rintro e w' ⟨rfl, ⟨nd, rfl⟩⟩; refine ⟨_, rfl, ?_⟩; have hnb63 := NB513_502.out; have hnc63 := NB502_513.out; have hnb64 := NB513_503.out; have hnc64 := NB503_513.out; have hcz65_0 : wc.cell? ⟨gb513, 0, none⟩ = some (u514000) := (blk_cell BK513.out 0).trans rfl; have hfz65_0 := blk_frozen BK513.out 0; obtain ⟨Ao66, co66, eo66⟩ := Kd.R_slice HO_514000.out; subst eo66) | ((with_reducible refine gate_callee (f := 101) rfl ?_); refine goesL_ (some 77) rfl rfl Try.func101 (by kernel_rfl) rfl #[.agg #[.slice Ao66 x514000_27.length co66]] rfl (by (try simp only [List.map_toArray, List.map_cons, List.map_nil]); first | done | rfl | (simp only [List.length_drop, List.length_take]; rfl)) ?_; (with_reducible refine (r1_Uint.calls _ _ x514000_27 t522 _ ?side1 ?side2 A51.out).mono ?_); (case side1 => repeat (first | exact (Kd.R_reads' HO_514000.out).2.2 | (with_reducible refine Kd.C_alloc ?_ _) | (with_reducible refine Kd.C_drewN ?_ _) | (with_reducible refine Kd.C_drew ?_))); (case side2 => exact (Kd.R_reads' HO_514000.out).2.1); rintro e w67 ⟨rfl, hb⟩; refine ⟨_, rfl, ?_⟩; have n0_ := Aside0.mk (Kd.R_below (by (with_reducible repeat (first | apply Kd.R_alloc | apply Kd.R_drewN | apply Kd.R_drew)); exact HO_514000.out) hb); have n1_ := Aside0.mk (blk_below (g := gb502) (o := .cells #[.slice A2_0 l2_0.length c2_0] 63 (0, 0)) (by (with_reducible repeat (first | refine blk_drewN ?_ _ | refine blk_drew ?_ | refine blk_alloc ?_ _)); exact BK502.out) hb); have n2_ := Aside0.mk (blk_below (g := gb503) (o := .cells #[.slice A3_0 l3_0.length c3_0] 63 (0, 0)) (by (with_reducible repeat (first | refine blk_drewN ?_ _ | refine blk_drew ?_ | refine blk_alloc ?_ _)); exact BK503.out) hb); have n3_ := Aside0.mk (blk_below (g := gb513) (o := .cells #[.slice Ao66 x514000_27.length co66] 63 (0, 0)) (by (with_reducible repeat (first | refine blk_drewN ?_ _ | refine blk_drew ?_ | refine blk_alloc ?_ _)); exact BK513.out) hb); have n4_ := Aside0.mk (below_step (by repeat (first | (with_reducible first | exact HB.out | apply below_alloc | apply pw_below_drewN | apply below_drew1 | refine below_set ?_ GE502.out | refine below_set ?_ GE503.out | refine below_set ?_ GE513.out) | exact HB.out)) hb); clear HO_514000; clear BK502; clear BK503; clear BK513; clear HB; have HO_514000 := n0_; have BK502 := n1_; have BK503 := n2_; have BK513 := n3_; have HB := n4_; clear n0_ n1_ n2_ n3_ n4_; (try clear hb); (try clear hb2); (try clear hk); (try clear hi)) | ((with_reducible refine gate_callee (f := 51) rfl ?_); refine goesL_ (some 80) rfl rfl Try.func51 (by kernel_rfl) rfl #[.int .i64 t504] rfl (by (try simp only [List.map_toArray, List.map_cons, List.map_nil]); first | done | rfl | (simp only [List.length_drop, List.length_take]; rfl)) ?_; (with_reducible refine (r2_Two.calls kj27 t504 t523 _ A52.out).mono ?_); rintro e w' ⟨rfl, ⟨nd, rfl⟩⟩; refine ⟨_, rfl, ?_⟩) | ((with_reducible refine gate_callee (f := 97) rfl ?_); refine goesL_ (some 90) rfl rfl Try.func97 (by kernel_rfl) rfl #[.int .i64 a0] rfl (by (try simp only [List.map_toArray, List.map_cons, List.map_nil]); first | done | rfl | (simp only [List.length_drop, List.length_take]; rfl)) ?_; (with_reducible refine (r3_Low.calls a0 t525 _ A60.out).mono ?_); rintro e w' ⟨rfl, ⟨nd, rfl⟩⟩; refine ⟨_, rfl, ?_⟩) | ((with_reducible refine gate_callee (f := 51) rfl ?_); refine goesL_ (some 95) rfl rfl Try.func51 (by kernel_rfl) rfl #[.int .i64 t504] rfl (by (try simp only [List.map_toArray, List.map_cons, List.map_nil]); first | done | rfl | (simp only [List.length_drop, List.length_take]; rfl)) ?_; (with_reducible refine (r2_Two.calls kj27 t504 t526 _ A61.out).mono ?_); rintro e w' ⟨rfl, ⟨nd, rfl⟩⟩; refine ⟨_, rfl, ?_⟩) | ((with_reducible refine gate_callee (f := 17) rfl ?_); refine goesL_ (some 97) rfl rfl Try.func17 (by kernel_rfl) rfl #[.int .i64 a0, .bool a1, .int .i64 (wrap64 ((wrap64 (x13_27 - t525)) + 1)), .int .u64 (IntKind.u64.wrap (t522 - t526))] rfl (by (try simp only [List.map_toArray, List.map_cons, List.map_nil]); first | done | rfl | (simp only [List.length_drop, List.length_take]; rfl)) ?_; (with_reducible refine (r2_Make.calls kj27 a0 a1 (wrap64 ((wrap64 (x13_27 - t525)) + 1)) (IntKind.u64.wrap (t522 - t526)) t527 _ A62.out).mono ?_); rintro e w' ⟨rfl, ⟨nd, rfl⟩⟩; refine ⟨_, rfl, ?_⟩))
         go_ret
         exact ⟨by first | rfl | (simp [errW_none, errW_some] <;> rfl) | (simp only [← hji10]; first | rfl | (simp [errW_none, errW_some] <;> rfl)) | (simp [*, errW_none, errW_some] <;> rfl), hb3_ HB.out GE502.out GE503.out GE513.out⟩
end Go.Proofs.Ytbpmnmceajmmcaa.PA
