/- What the Go functions that the statement RoundPacks reaches compute, and the mathematics on it, in the order in which one leans on the other; for every input. -/
import Derived.Test.YtbpmnmceajmmcaaVRoundPacks0
import Derived.Test.YtbpmnmceajmmcaaMRoundPacks0
import Derived.Test.YtbpmnmceajmmcaaMRoundPacks5
import Derived.Test.YtbpmnmceajmmcaaMRoundPacks4
import Derived.Test.YtbpmnmceajmmcaaMRoundPacks3
import Derived.Test.YtbpmnmceajmmcaaMRoundPacks2
import Derived.Test.YtbpmnmceajmmcaaMRoundPacks6
import Derived.Test.YtbpmnmceajmmcaaMRoundPacks1
namespace Go.Proofs.Ytbpmnmceajmmcaa.PA
open Go.RowKit Go.Proofs.YtbpmnmceajmmcaaW.PrintWords Go.Proofs.YtbpmnmceajmmcaaW.PrintLast Go.Proofs.YtbpmnmceajmmcaaW.PrintMore
attribute [local go_sem] max2_int min2_int max_two min_two max_three min_three max_four min_four   -- for this text's walks alone
set_option linter.unusedVariables false
set_option linter.unusedSimpArgs false
set_option maxHeartbeats 8000000
set_option maxRecDepth 100000
mutual
def r3_Near.j0 : Nat → Int → Bool → Int → Int → Int → Bool → List Int → List Int → Option (Int)
 | 0, _, _, _, _, _, _, _, _ => none
 | k + 1, x0, x1, x4, x11, x13, x44, x503000, x504000 => if x44 = true then (r3_Near.j1 k x0 x1 x4 x11 (wrap64 (x13 - 1)) x503000 x504000) else (r3_Near.j1 k x0 x1 x4 x11 x13 x503000 x504000)
def r3_Near.j1 : Nat → Int → Bool → Int → Int → Int → List Int → List Int → Option (Int)
 | 0, _, _, _, _, _, _, _ => none
 | k + 1, x0, x1, x4, x11, x13, x503000, x504000 => (r3_grain.f k x503000 x504000 (wrap64 (x4 - x13))).bind fun t510 => ((r1_Len.f k t510).bind fun t514 => (if t514 > (wrap64 (x11 + 1)) then ((r1_Half.f k t510 1).bind fun bt515 => (r3_Near.j2 k x0 x1 x11 (wrap64 (x13 + 1)) bt515.1)) else (r3_Near.j2 k x0 x1 x11 x13 t510)))
def r3_Near.j2 : Nat → Int → Bool → Int → Int → List Int → Option (Int)
 | 0, _, _, _, _, _ => none
 | k + 1, x0, x1, x11, x13, x514000 => (r3_Low.f x0).bind fun t519 => ((r2_Top.f k x0).bind fun t520 => (if x13 > (wrap64 ((wrap64 (t519 + t520)) - 2)) then ((r2_Inf.f k x0 x1).bind fun t521 => (some t521)) else ((r1_Uint.f x514000).bind fun t522 => ((r2_Two.f k x11).bind fun t523 => (if t522 < t523 then ((r2_Make.f k x0 x1 0 t522).bind fun t524 => (some t524)) else ((r3_Low.f x0).bind fun t525 => ((r2_Two.f k x11).bind fun t526 => ((r2_Make.f k x0 x1 (wrap64 ((wrap64 (x13 - t525)) + 1)) (IntKind.u64.wrap (t522 - t526))).bind fun t527 => (some t527)))))))))
end
def r3_Near.f (k : Nat) (a0 : Int) (a1 : Bool) (l2_0 : List Int) (l3_0 : List Int) (a4 : Int) : Option (Int) := (r2_F.f a0).bind fun t504 => ((r1_Len.f k l2_0).bind fun t505 => ((r1_Len.f k l3_0).bind fun t506 => ((r3_Low.f a0).bind fun t507 => ((r3_Low.f a0).bind fun t508 => (if (mx (wrap64 ((wrap64 ((wrap64 (t505 - t506)) + a4)) - t504)) t507) > t508 then ((r3_under.f k l2_0 l3_0 (wrap64 ((wrap64 (a4 - (mx (wrap64 ((wrap64 ((wrap64 (t505 - t506)) + a4)) - t504)) t507))) - t504))).bind fun t509 => (r3_Near.j0 k a0 a1 a4 t504 (mx (wrap64 ((wrap64 ((wrap64 (t505 - t506)) + a4)) - t504)) t507) t509 l2_0 l3_0)) else (r3_Near.j0 k a0 a1 a4 t504 (mx (wrap64 ((wrap64 ((wrap64 (t505 - t506)) + a4)) - t504)) t507) false l2_0 l3_0))))))
theorem r3_Near.mono_l : ∀ k, (∀ y0 y1 y2 y3 y4 y5 y6 y7, LeO (r3_Near.j0 k y0 y1 y2 y3 y4 y5 y6 y7) (r3_Near.j0 (k + 1) y0 y1 y2 y3 y4 y5 y6 y7)) ∧ (∀ y0 y1 y2 y3 y4 y5 y6, LeO (r3_Near.j1 k y0 y1 y2 y3 y4 y5 y6) (r3_Near.j1 (k + 1) y0 y1 y2 y3 y4 y5 y6)) ∧ (∀ y0 y1 y2 y3 y4, LeO (r3_Near.j2 k y0 y1 y2 y3 y4) (r3_Near.j2 (k + 1) y0 y1 y2 y3 y4))
 | 0 => ⟨fun _ _ _ _ _ _ _ _ r h => by simp [r3_Near.j0] at h, fun _ _ _ _ _ _ _ r h => by simp [r3_Near.j1] at h, fun _ _ _ _ _ r h => by simp [r3_Near.j2] at h⟩
 | k + 1 => by
  obtain ⟨ih0, ih1, ih2⟩ := r3_Near.mono_l k
  refine ⟨?_, ?_, ?_⟩
  ·intro y0 y1 y2 y3 y4 y5 y6 y7
   unfold r3_Near.j0
   repeat' first
   | (with_reducible exact ih0 _ _ _ _ _ _ _ _)
   | (with_reducible exact ih1 _ _ _ _ _ _ _)
   | (with_reducible exact ih2 _ _ _ _ _)
   | (with_reducible exact r1_Half.mono _ _ _)
   | (with_reducible exact r1_Len.mono _ _)
   | (with_reducible exact r2_Inf.mono _ _ _)
   | (with_reducible exact r2_Make.mono _ _ _ _ _)
   | (with_reducible exact r2_Top.mono _ _)
   | (with_reducible exact r2_Two.mono _ _)
   | (with_reducible exact r3_grain.mono _ _ _ _)
   | (with_reducible exact r3_under.mono _ _ _ _)
   | (with_reducible exact LeO.refl _)
   | (with_reducible exact LeO.none _)
   | (with_reducible refine LeO.ite ?_ ?_)
   | (with_reducible refine LeO.bind ?_ (fun _ => ?_))
   | exact ih0 _ _ _ _ _ _ _ _
   | exact ih1 _ _ _ _ _ _ _
   | exact ih2 _ _ _ _ _
   | exact r1_Half.mono _ _ _
   | exact r1_Len.mono _ _
   | exact r2_Inf.mono _ _ _
   | exact r2_Make.mono _ _ _ _ _
   | exact r2_Top.mono _ _
   | exact r2_Two.mono _ _
   | exact r3_grain.mono _ _ _ _
   | exact r3_under.mono _ _ _ _
   | exact LeO.none _
   | refine LeO.ite ?_ ?_
   | refine LeO.bind ?_ (fun _ => ?_)
  ·intro y0 y1 y2 y3 y4 y5 y6
   unfold r3_Near.j1
   repeat' first
   | (with_reducible exact ih0 _ _ _ _ _ _ _ _)
   | (with_reducible exact ih1 _ _ _ _ _ _ _)
   | (with_reducible exact ih2 _ _ _ _ _)
   | (with_reducible exact r1_Half.mono _ _ _)
   | (with_reducible exact r1_Len.mono _ _)
   | (with_reducible exact r2_Inf.mono _ _ _)
   | (with_reducible exact r2_Make.mono _ _ _ _ _)
   | (with_reducible exact r2_Top.mono _ _)
   | (with_reducible exact r2_Two.mono _ _)
   | (with_reducible exact r3_grain.mono _ _ _ _)
   | (with_reducible exact r3_under.mono _ _ _ _)
   | (with_reducible exact LeO.refl _)
   | (with_reducible exact LeO.none _)
   | (with_reducible refine LeO.ite ?_ ?_)
   | (with_reducible refine LeO.bind ?_ (fun _ => ?_))
   | exact ih0 _ _ _ _ _ _ _ _
   | exact ih1 _ _ _ _ _ _ _
   | exact ih2 _ _ _ _ _
   | exact r1_Half.mono _ _ _
   | exact r1_Len.mono _ _
   | exact r2_Inf.mono _ _ _
   | exact r2_Make.mono _ _ _ _ _
   | exact r2_Top.mono _ _
   | exact r2_Two.mono _ _
   | exact r3_grain.mono _ _ _ _
   | exact r3_under.mono _ _ _ _
   | exact LeO.none _
   | refine LeO.ite ?_ ?_
   | refine LeO.bind ?_ (fun _ => ?_)
  ·intro y0 y1 y2 y3 y4
   unfold r3_Near.j2
   repeat' first
   | (with_reducible exact ih0 _ _ _ _ _ _ _ _)
   | (with_reducible exact ih1 _ _ _ _ _ _ _)
   | (with_reducible exact ih2 _ _ _ _ _)
   | (with_reducible exact r1_Half.mono _ _ _)
   | (with_reducible exact r1_Len.mono _ _)
   | (with_reducible exact r2_Inf.mono _ _ _)
   | (with_reducible exact r2_Make.mono _ _ _ _ _)
   | (with_reducible exact r2_Top.mono _ _)
   | (with_reducible exact r2_Two.mono _ _)
   | (with_reducible exact r3_grain.mono _ _ _ _)
   | (with_reducible exact r3_under.mono _ _ _ _)
   | (with_reducible exact LeO.refl _)
   | (with_reducible exact LeO.none _)
   | (with_reducible refine LeO.ite ?_ ?_)
   | (with_reducible refine LeO.bind ?_ (fun _ => ?_))
   | exact ih0 _ _ _ _ _ _ _ _
   | exact ih1 _ _ _ _ _ _ _
   | exact ih2 _ _ _ _ _
   | exact r1_Half.mono _ _ _
   | exact r1_Len.mono _ _
   | exact r2_Inf.mono _ _ _
   | exact r2_Make.mono _ _ _ _ _
   | exact r2_Top.mono _ _
   | exact r2_Two.mono _ _
   | exact r3_grain.mono _ _ _ _
   | exact r3_under.mono _ _ _ _
   | exact LeO.none _
   | refine LeO.ite ?_ ?_
   | refine LeO.bind ?_ (fun _ => ?_)
theorem r3_Near.mono : ∀ a0 a1 a2 a3 a4 k, LeO (r3_Near.f k a0 a1 a2 a3 a4) (r3_Near.f (k + 1) a0 a1 a2 a3 a4) := by
 intro a0 a1 a2 a3 a4 k
 obtain ⟨ih0, ih1, ih2⟩ := r3_Near.mono_l k
 unfold r3_Near.f
 repeat' first
   | (with_reducible exact ih0 _ _ _ _ _ _ _ _)
   | (with_reducible exact ih1 _ _ _ _ _ _ _)
   | (with_reducible exact ih2 _ _ _ _ _)
   | (with_reducible exact r1_Half.mono _ _ _)
   | (with_reducible exact r1_Len.mono _ _)
   | (with_reducible exact r2_Inf.mono _ _ _)
   | (with_reducible exact r2_Make.mono _ _ _ _ _)
   | (with_reducible exact r2_Top.mono _ _)
   | (with_reducible exact r2_Two.mono _ _)
   | (with_reducible exact r3_grain.mono _ _ _ _)
   | (with_reducible exact r3_under.mono _ _ _ _)
   | (with_reducible exact LeO.refl _)
   | (with_reducible exact LeO.none _)
   | (with_reducible refine LeO.ite ?_ ?_)
   | (with_reducible refine LeO.bind ?_ (fun _ => ?_))
   | exact ih0 _ _ _ _ _ _ _ _
   | exact ih1 _ _ _ _ _ _ _
   | exact ih2 _ _ _ _ _
   | exact r1_Half.mono _ _ _
   | exact r1_Len.mono _ _
   | exact r2_Inf.mono _ _ _
   | exact r2_Make.mono _ _ _ _ _
   | exact r2_Top.mono _ _
   | exact r2_Two.mono _ _
   | exact r3_grain.mono _ _ _ _
   | exact r3_under.mono _ _ _ _
   | exact LeO.none _
   | refine LeO.ite ?_ ?_
   | refine LeO.bind ?_ (fun _ => ?_)
def r3_Near.T2 : Bool × List (List Nat × List Nat) := (true, [([], []), ([0], [0]), ([], []), ([2, 1], [2]), ([1, 3], [1, 3]), ([], []), ([4, 5], [4, 5]), ([6, 3, 0, 1, 2, 3, 4, 5, 6], [6])])
def r3_Near.B2 : List Nat := [0, 1, 0, 7, 15, 0, 63, 127]
theorem r3_Near.tab2 : rtab .any (opsOf Try.f66 2) = r3_Near.T2 := by kernel_rfl
theorem r3_Near.bits2 : waitsOk r3_Near.T2.2 r3_Near.B2 = true := by kernel_rfl
theorem r3_Near.calls (k : Nat) (a0 : Int) (a1 : Bool) (A2_0 : Option Addr) (c2_0 : Nat) (l2_0 : List Int) (A3_0 : Option Addr) (c3_0 : Nat) (l3_0 : List Int) (a4 : Int) (r : Int) (w : World) (hr2_0 : Kd.C (Kd.int .u64) w A2_0 l2_0.length l2_0) (hc2_0 : l2_0.length ≤ c2_0) (hr3_0 : Kd.C (Kd.int .u64) w A3_0 l3_0.length l3_0) (hc3_0 : l3_0.length ≤ c3_0) (h : r3_Near.f k a0 a1 l2_0 l3_0 a4 = some r) :
  Calls Try.prog 66 #[.int .i64 a0, .bool a1, .agg #[.slice A2_0 l2_0.length c2_0], .agg #[.slice A3_0 l3_0.length c3_0], .int .i64 a4] w fun e w' => e = .returned (.int .u64 r) ∧ Below w.heap.size w w' := by
 have hu63 := Try.underlying63
 have HR2_0 := A_ hr2_0;have HC2_0 := A_ hc2_0;clear hr2_0 hc2_0;have HR3_0 := A_ hr3_0;have HC3_0 := A_ hc3_0;clear hr3_0 hc3_0
 have HB := A_ (Below.refl w.heap.size w)
 have H : ((r2_F.f a0).bind fun t504 => ((r1_Len.f k l2_0).bind fun t505 => ((r1_Len.f k l3_0).bind fun t506 => ((r3_Low.f a0).bind fun t507 => ((r3_Low.f a0).bind fun t508 => (if (mx (wrap64 ((wrap64 ((wrap64 (t505 - t506)) + a4)) - t504)) t507) > t508 then ((r3_under.f k l2_0 l3_0 (wrap64 ((wrap64 (a4 - (mx (wrap64 ((wrap64 ((wrap64 (t505 - t506)) + a4)) - t504)) t507))) - t504))).bind fun t509 => (r3_Near.j0 k a0 a1 a4 t504 (mx (wrap64 ((wrap64 ((wrap64 (t505 - t506)) + a4)) - t504)) t507) t509 l2_0 l3_0)) else (r3_Near.j0 k a0 a1 a4 t504 (mx (wrap64 ((wrap64 ((wrap64 (t505 - t506)) + a4)) - t504)) t507) false l2_0 l3_0))))))) = some r := h
 clear h
 replace H := ob_ H
 obtain ⟨t504, A60, H⟩ := H
 replace H : ((r1_Len.f k l2_0).bind fun t505 => ((r1_Len.f k l3_0).bind fun t506 => ((r3_Low.f a0).bind fun t507 => ((r3_Low.f a0).bind fun t508 => (if (mx (wrap64 ((wrap64 ((wrap64 (t505 - t506)) + a4)) - t504)) t507) > t508 then ((r3_under.f k l2_0 l3_0 (wrap64 ((wrap64 (a4 - (mx (wrap64 ((wrap64 ((wrap64 (t505 - t506)) + a4)) - t504)) t507))) - t504))).bind fun t509 => (r3_Near.j0 k a0 a1 a4 t504 (mx (wrap64 ((wrap64 ((wrap64 (t505 - t506)) + a4)) - t504)) t507) t509 l2_0 l3_0)) else (r3_Near.j0 k a0 a1 a4 t504 (mx (wrap64 ((wrap64 ((wrap64 (t505 - t506)) + a4)) - t504)) t507) false l2_0 l3_0)))))) = some r := H
 have A6 := A_ A60;clear A60
 replace H := ob_ H
 obtain ⟨t505, A70, H⟩ := H
 replace H : ((r1_Len.f k l3_0).bind fun t506 => ((r3_Low.f a0).bind fun t507 => ((r3_Low.f a0).bind fun t508 => (if (mx (wrap64 ((wrap64 ((wrap64 (t505 - t506)) + a4)) - t504)) t507) > t508 then ((r3_under.f k l2_0 l3_0 (wrap64 ((wrap64 (a4 - (mx (wrap64 ((wrap64 ((wrap64 (t505 - t506)) + a4)) - t504)) t507))) - t504))).bind fun t509 => (r3_Near.j0 k a0 a1 a4 t504 (mx (wrap64 ((wrap64 ((wrap64 (t505 - t506)) + a4)) - t504)) t507) t509 l2_0 l3_0)) else (r3_Near.j0 k a0 a1 a4 t504 (mx (wrap64 ((wrap64 ((wrap64 (t505 - t506)) + a4)) - t504)) t507) false l2_0 l3_0))))) = some r := H
 have A7 := A_ A70;clear A70
 replace H := ob_ H
 obtain ⟨t506, A80, H⟩ := H
 replace H : ((r3_Low.f a0).bind fun t507 => ((r3_Low.f a0).bind fun t508 => (if (mx (wrap64 ((wrap64 ((wrap64 (t505 - t506)) + a4)) - t504)) t507) > t508 then ((r3_under.f k l2_0 l3_0 (wrap64 ((wrap64 (a4 - (mx (wrap64 ((wrap64 ((wrap64 (t505 - t506)) + a4)) - t504)) t507))) - t504))).bind fun t509 => (r3_Near.j0 k a0 a1 a4 t504 (mx (wrap64 ((wrap64 ((wrap64 (t505 - t506)) + a4)) - t504)) t507) t509 l2_0 l3_0)) else (r3_Near.j0 k a0 a1 a4 t504 (mx (wrap64 ((wrap64 ((wrap64 (t505 - t506)) + a4)) - t504)) t507) false l2_0 l3_0)))) = some r := H
 have A8 := A_ A80;clear A80
 replace H := ob_ H
 obtain ⟨t507, A90, H⟩ := H
 replace H : ((r3_Low.f a0).bind fun t508 => (if (mx (wrap64 ((wrap64 ((wrap64 (t505 - t506)) + a4)) - t504)) t507) > t508 then ((r3_under.f k l2_0 l3_0 (wrap64 ((wrap64 (a4 - (mx (wrap64 ((wrap64 ((wrap64 (t505 - t506)) + a4)) - t504)) t507))) - t504))).bind fun t509 => (r3_Near.j0 k a0 a1 a4 t504 (mx (wrap64 ((wrap64 ((wrap64 (t505 - t506)) + a4)) - t504)) t507) t509 l2_0 l3_0)) else (r3_Near.j0 k a0 a1 a4 t504 (mx (wrap64 ((wrap64 ((wrap64 (t505 - t506)) + a4)) - t504)) t507) false l2_0 l3_0))) = some r := H
 have A9 := A_ A90;clear A90
 obtain ⟨ji10, hji10⟩ : ∃ j_ : Int, (mx (wrap64 ((wrap64 ((wrap64 (t505 - t506)) + a4)) - t504)) t507) = j_ := ⟨_, rfl⟩
 replace H : ((r3_Low.f a0).bind fun t508 => (if (ji10) > t508 then ((r3_under.f k l2_0 l3_0 (wrap64 ((wrap64 (a4 - (ji10))) - t504))).bind fun t509 => (r3_Near.j0 k a0 a1 a4 t504 ji10 t509 l2_0 l3_0)) else (r3_Near.j0 k a0 a1 a4 t504 ji10 false l2_0 l3_0))) = some r := by first | (rw [hji10] at H; exact H) | (simp only [hji10] at H ⊢; exact H)
 (try rw [hji10] at A6)
 (try rw [hji10] at A7)
 (try rw [hji10] at A8)
 (try rw [hji10] at A9)
 have hji10_ : (if (wrap64 ((wrap64 ((wrap64 (t505 - t506)) + a4)) - t504)) < t507 then t507 else (wrap64 ((wrap64 ((wrap64 (t505 - t506)) + a4)) - t504))) = ji10 := hji10
 have HC11 := A_ H;clear H
 go_enter Try.func66, Try.ntmps66
 try go_wp2_with (first | ((with_reducible refine gate_dst (N := 7) rfl ?_); refine be_ 7 #[.slice A2_0 l2_0.length c2_0] 63 ?_; intro gb502 hg w12 hbox hb; have BK502 := A_ (hbox); have GW502 := A_ (sz_ hg (hb_ HB.out)); have GE502 := A_ (sz_ hg (hb_ HB.out)); replace HB := A_ (below_step (hb_ HB.out) hb); clear hb hbox hg) | ((with_reducible refine gate_dst (N := 8) rfl ?_); refine be_ 8 #[.slice A3_0 l3_0.length c3_0] 63 ?_; intro gb503 hg w13 hbox hb; have BK503 := A_ (hbox); have GW503 := A_ (sz_ hg (hb1_ HB.out GE502.out)); have GE503 := A_ (sz_ hg (hb1_ HB.out GE502.out)); have NB502_503 := A_ (nl_ hg BK502.out); have NB503_502 := A_ (ng_ hg BK502.out); replace BK502 := A_ (bb_ BK502.out hb); replace HB := A_ (below_step (hb1_ HB.out GE502.out) hb); clear hb hbox hg) | ((with_reducible refine gate_callee (f := 52) rfl ?_); refine gl_ (some 17) Try.func52 #[.int .i64 a0] ?_; (with_reducible refine (r2_F.calls a0 t504 _ A6.out).mono ?_); rintro e w' ⟨rfl, ⟨nd, rfl⟩⟩; refine ⟨_, rfl, ?_⟩))
 (try (rw [drewN_self w13]; generalize hq_ : World.drewN w13 _ = w13; have n0_ : Aside0 (w13.heap[gb502]? = some (.cells #[.slice A2_0 l2_0.length c2_0] 63 (0, 0))) := ⟨by rw [← hq_]; exact (bk_ BK502.out)⟩; have n1_ : Aside0 (w13.heap[gb503]? = some (.cells #[.slice A3_0 l3_0.length c3_0] 63 (0, 0))) := ⟨by rw [← hq_]; exact (bk_ BK503.out)⟩; have n2_ : Aside0 (Below w.heap.size w w13) := ⟨by rw [← hq_]; exact (hb2_ HB.out GE502.out GE503.out)⟩; clear BK502 BK503 HB hq_; have BK502 := n0_; have BK503 := n1_; have HB := n2_; clear n0_ n1_ n2_))
 replace BK502 := A_ (blk_drew BK502.out)
 replace BK503 := A_ (blk_drew BK503.out)
 replace HB := A_ (below_drew1 HB.out)
 refine start_ (n := 8) (S := fun w' => w'.cell? ⟨gb502, 0, none⟩ = some (.slice A2_0 l2_0.length c2_0) ∧ w'.cell? ⟨gb503, 0, none⟩ = some (.slice A3_0 l3_0.length c3_0)) (ds := []) #[false, false, false, false, false, false, false, false] (by kernel_rfl) rfl rfl ⟨bc_ BK502.out 0, bc_ BK503.out 0⟩ (fun hHeld => ?_); refine with_tabW r3_Near.tab2 r3_Near.bits2 (fun HT_ HW_ => ?_)
 generalize w13.drew = w14 at BK502 BK503 HB hHeld ⊢
 refine pu_ 5 (some 23) #[false, false, false, false, false, true, false, false] rfl rfl (any_of HT_.out (by kernel_rfl)) ?_
 refine tk2_ 0 (some 18) #[true, false, false, false, false, true, false, false] rfl rfl (take_ofW HT_.out HW_.out (by kernel_rfl)) hHeld ?_
 refine tk2_ 2 (some 20) #[true, false, true, false, false, true, false, false] rfl rfl (take_ofW HT_.out HW_.out (by kernel_rfl)) hHeld ?_
 refine one_ (i := 1) (N := some 19) #[true, true, true, false, false, true, false, false] rfl rfl (one_of HT_.out (by kernel_rfl)) (by decide) (fun K hK => ?_)
 refine goes_ Try.func96 (by kernel_rfl) rfl #[.agg #[.slice A2_0 l2_0.length c2_0]] (by rfl) rfl rfl mp_ ?_
 with_reducible refine (r1_Len.calls k _ _ l2_0 t505 _ ?side1 ?side2 A7.out).mono ?_
 (case side1 => exact cs_ ((Kd.C_below HR2_0.out HB.out)))
 (case side2 => exact HC2_0.out)
 rintro e w15 ⟨rfl, hb⟩
 refine ⟨_, rfl, ?_⟩
 replace BK502 := A_ (bb_ BK502.out hb)
 replace BK503 := A_ (bb_ BK503.out hb)
 replace HB := A_ (below_step (hb2_ HB.out GE502.out GE503.out) hb);(try clear hb);(try clear hb2);(try clear hk);(try clear hi)
 refine hK.out _ _ ⟨bc_ BK502.out 0, bc_ BK503.out 0⟩ (fun hHeld => ?_)
 clear hK K
 refine norm_ (a' := ?_) ?_ ?_
 rotate_left
 ·show Act.put _ (some 19) _ = _
  simp only [Act.put, lI_, l0_, lS_, i64_w, i32_w]
  rfl
 refine one_ (i := 3) (N := some 21) #[true, true, true, true, false, true, false, false] rfl rfl (one_of HT_.out (by kernel_rfl)) (by decide) (fun K hK => ?_)
 refine goes_ Try.func96 (by kernel_rfl) rfl #[.agg #[.slice A3_0 l3_0.length c3_0]] (by rfl) rfl rfl mp_ ?_
 with_reducible refine (r1_Len.calls k _ _ l3_0 t506 _ ?side1 ?side2 A8.out).mono ?_
 (case side1 => exact cs_ ((Kd.C_below HR3_0.out HB.out)))
 (case side2 => exact HC3_0.out)
 rintro e w16 ⟨rfl, hb⟩
 refine ⟨_, rfl, ?_⟩
 replace BK502 := A_ (bb_ BK502.out hb)
 replace BK503 := A_ (bb_ BK503.out hb)
 replace HB := A_ (below_step (hb2_ HB.out GE502.out GE503.out) hb);(try clear hb);(try clear hb2);(try clear hk);(try clear hi)
 refine hK.out _ _ ⟨bc_ BK502.out 0, bc_ BK503.out 0⟩ (fun hHeld => ?_)
 clear hK K
 refine norm_ (a' := ?_) ?_ ?_
 rotate_left
 ·show Act.put _ (some 21) _ = _
  simp only [Act.put, lI_, l0_, lS_, i64_w, i32_w]
  rfl
 refine pu_ 4 (some 22) #[true, true, true, true, true, true, false, false] rfl rfl (any_of HT_.out (by kernel_rfl)) ?_
 refine pu_ 6 (some 24) #[true, true, true, true, true, true, true, false] rfl rfl (any_of HT_.out (by kernel_rfl)) ?_
 refine pu_ 7 (some 12) #[true, true, true, true, true, true, true, true] rfl rfl (any_of HT_.out (by kernel_rfl)) ?_
 refine done_ (done_of HT_.out (by kernel_rfl)) ?_
 go_upto_region 4 with (first | ((with_reducible refine gate_callee (f := 97) rfl ?_); refine gl_ (some 29) Try.func97 #[.int .i64 a0] ?_; (with_reducible refine (r3_Low.calls a0 t507 _ A9.out).mono ?_); rintro e w' ⟨rfl, ⟨nd, rfl⟩⟩; refine ⟨_, rfl, ?_⟩))
 (try simp only [Act.put, lI_, l0_, lS_])
 go_cut [44] (fun v44 wc => ∃ (kq : Nat) (x44_10 : Bool), v44 = .bool x44_10 ∧ Aside0 (r3_Near.j0 kq a0 a1 a4 t504 ji10 x44_10 l2_0 l3_0 = some r) ∧ Aside0 (kq ≤ k) ∧ Aside0 (wc.heap[gb502]? = some (.cells #[(.slice A2_0 l2_0.length c2_0)] 63 (0, 0))) ∧ Aside0 (wc.heap[gb503]? = some (.cells #[(.slice A3_0 l3_0.length c3_0)] 63 (0, 0))) ∧ Aside0 (Below w.heap.size w wc))
 case first =>
  have H := HC11.out
  clear HC11
  replace H := ob_ H
  obtain ⟨t508, A170, H⟩ := H
  replace H : (if (ji10) > t508 then ((r3_under.f k l2_0 l3_0 (wrap64 ((wrap64 (a4 - (ji10))) - t504))).bind fun t509 => (r3_Near.j0 k a0 a1 a4 t504 ji10 t509 l2_0 l3_0)) else (r3_Near.j0 k a0 a1 a4 t504 ji10 false l2_0 l3_0)) = some r := H
  have A17 := A_ A170;clear A170
  by_cases c18 : (ji10) > t508
  ·rw [if_pos c18] at H
   have c18b0 : decide (t508 < (ji10)) = true := decide_eq_true c18
   clear c18
   (first | rw [c18b0] | (simp only [i64_w, i32_w]; rw [c18b0]) | skip)
   replace H := ob_ H
   obtain ⟨t509, A190, H⟩ := H
   replace H : (r3_Near.j0 k a0 a1 a4 t504 ji10 t509 l2_0 l3_0) = some r := H
   have A19 := A_ A190;clear A190
   have H' := A_ H
   clear H
   go_wp2_with (first | ((with_reducible refine gate_callee (f := 97) rfl ?_); refine gl_ (some 33) Try.func97 #[.int .i64 a0] ?_; (with_reducible refine (r3_Low.calls a0 t508 _ A17.out).mono ?_); rintro e w' ⟨rfl, ⟨nd, rfl⟩⟩; refine ⟨_, rfl, ?_⟩; have hnb20 := NB502_503.out; have hnc20 := NB503_502.out; have hcz21_0 := bv_ BK502.out 0; have hfz21_0 := blk_frozen BK502.out 0; have hcz22_0 := bv_ BK503.out 0; have hfz22_0 := blk_frozen BK503.out 0) | (go_at_call 98; (with_reducible refine (r3_under.calls k _ _ l2_0 _ _ l3_0 (wrap64 ((wrap64 (a4 - (ji10))) - t504)) t509 _ ?side1 ?side2 ?side3 ?side4 A19.out).mono ?_); (case side1 => exact cs_ ((Kd.C_below HR2_0.out (hb2_ HB.out GE502.out GE503.out)))); (case side2 => exact HC2_0.out); (case side3 => exact cs_ ((Kd.C_below HR3_0.out (hb2_ HB.out GE502.out GE503.out)))); (case side4 => exact HC3_0.out); rintro e w23 ⟨rfl, hb⟩; replace BK502 := A_ (bb_ BK502.out hb); replace BK503 := A_ (bb_ BK503.out hb); replace HB := A_ (below_step (hb2_ HB.out GE502.out GE503.out) hb); (try clear hb); (try clear hb2); (try clear hk); (try clear hi)))
   go_meet
   case rel => exact ⟨_, (t509), sm_, H', ⟨by first | omega | exact Nat.le_refl _⟩, ⟨bk_ BK502.out⟩, ⟨bk_ BK503.out⟩, ⟨hb2_ HB.out GE502.out GE503.out⟩⟩
  ·rw [if_neg c18] at H
   have c18b0 : decide (t508 < (ji10)) = false := decide_eq_false c18
   clear c18
   (first | rw [c18b0] | (simp only [i64_w, i32_w]; rw [c18b0]) | skip)
   have H' := A_ H
   clear H
   go_wp2_with (first | ((with_reducible refine gate_callee (f := 97) rfl ?_); refine gl_ (some 33) Try.func97 #[.int .i64 a0] ?_; (with_reducible refine (r3_Low.calls a0 t508 _ A17.out).mono ?_); rintro e w' ⟨rfl, ⟨nd, rfl⟩⟩; refine ⟨_, rfl, ?_⟩))
   go_meet
   case rel => exact ⟨_, (false), sm_, H', ⟨by first | omega | exact Nat.le_refl _⟩, ⟨bk_ BK502.out⟩, ⟨bk_ BK503.out⟩, ⟨hb2_ HB.out GE502.out GE503.out⟩⟩
 case rest =>
  clear HC11
  try clear c1
  try clear c2
  try clear p2
  try clear c3
  try clear c5
  try clear c6
  try clear p6
  try clear c9
  try clear c18
  try clear c18b0
  try clear c20
  try clear hcz21_0
  try clear hcz22_0
  try clear hfz21_0
  try clear hfz22_0
  obtain ⟨kq, x44_10, rfl, HA, HJ10, BK502, BK503, HB⟩ := hcut
  cases kq with
  | zero => exact absurd HA.out (by simp [r3_Near.j0])
  | succ kj10 =>
   have H := HA.out
   clear HA
   simp only [r3_Near.j0] at H
   have HC24 := A_ H;clear H
   go_upto_if 44 with (fail)
   go_cut [13] (fun v13 wc => ∃ (kq : Nat) (x13_23 : Int), v13 = .int .i64 x13_23 ∧ Aside0 (r3_Near.j1 kq a0 a1 a4 t504 x13_23 l2_0 l3_0 = some r) ∧ Aside0 (kq ≤ kj10) ∧ Aside0 (wc.heap[gb502]? = some (.cells #[(.slice A2_0 l2_0.length c2_0)] 63 (0, 0))) ∧ Aside0 (wc.heap[gb503]? = some (.cells #[(.slice A3_0 l3_0.length c3_0)] 63 (0, 0))) ∧ Aside0 (Below w.heap.size w wc))
   case first =>
    have H := HC24.out
    clear HC24
    by_cases c25 : x44_10 = true
    ·subst c25
     have H1 : (r3_Near.j1 kj10 a0 a1 a4 t504 (wrap64 (ji10 - 1)) l2_0 l3_0) = some r := by rw [if_pos rfl] at H; exact H
     clear H;have H := H1;clear H1
     have H' := A_ H
     clear H
     go_wp2
     go_meet
     case rel => exact ⟨_, (wrap64 (ji10 - 1)), (by first | rfl | (simp; done) | (simp only [← hji10] <;> (first | rfl | simp)) | (simp [*]; done)), H', ⟨by have := HJ10.out; first | omega | exact Nat.le_refl _⟩, ⟨bk_ BK502.out⟩, ⟨bk_ BK503.out⟩, ⟨hb2_ HB.out GE502.out GE503.out⟩⟩
    ·replace c25 := Bool.eq_false_iff.mpr c25
     subst c25
     have H1 : (r3_Near.j1 kj10 a0 a1 a4 t504 ji10 l2_0 l3_0) = some r := by rw [if_neg (show ¬ (false = true) by decide)] at H; exact H
     clear H;have H := H1;clear H1
     have H' := A_ H
     clear H
     go_wp2
     go_meet
     case rel => exact ⟨_, (ji10), (by first | rfl | (simp; done) | (simp only [← hji10] <;> (first | rfl | simp)) | (simp [*]; done)), H', ⟨by have := HJ10.out; first | omega | exact Nat.le_refl _⟩, ⟨bk_ BK502.out⟩, ⟨bk_ BK503.out⟩, ⟨hb2_ HB.out GE502.out GE503.out⟩⟩
   case rest =>
    clear HC24
    try clear c1
    try clear c2
    try clear p2
    try clear c3
    try clear c5
    try clear c6
    try clear p6
    try clear c9
    try clear c18
    try clear c18b0
    try clear c20
    try clear c25
    try clear hcz21_0
    try clear hcz22_0
    try clear hfz21_0
    try clear hfz22_0
    try clear p2
    try clear p6
    obtain ⟨kq, x13_23, rfl, HA, HJ23, BK502, BK503, HB⟩ := hcut
    cases kq with
    | zero => exact absurd HA.out (by simp [r3_Near.j1])
    | succ kj23 =>
     have H := HA.out
     clear HA
     simp only [r3_Near.j1] at H
     replace H := ob_ H
     obtain ⟨t510, A260, H⟩ := H
     replace H : ((r1_Len.f kj23 t510).bind fun t514 => (if t514 > (wrap64 (t504 + 1)) then ((r1_Half.f kj23 t510 1).bind fun bt515 => (r3_Near.j2 kj23 a0 a1 t504 (wrap64 (x13_23 + 1)) bt515.1)) else (r3_Near.j2 kj23 a0 a1 t504 x13_23 t510))) = some r := H
     have A26 := A_ A260;clear A260
     replace H := ob_ H
     obtain ⟨t514, A270, H⟩ := H
     replace H : (if t514 > (wrap64 (t504 + 1)) then ((r1_Half.f kj23 t510 1).bind fun bt515 => (r3_Near.j2 kj23 a0 a1 t504 (wrap64 (x13_23 + 1)) bt515.1)) else (r3_Near.j2 kj23 a0 a1 t504 x13_23 t510)) = some r := H
     have A27 := A_ A270;clear A270;have HC28 := A_ H;clear H
     have hnb29 := NB502_503.out
     have hnc29 := NB503_502.out
     have hcz30_0 := bv_ BK502.out 0
     have hfz30_0 := blk_frozen BK502.out 0
     have hcz31_0 := bv_ BK503.out 0
     have hfz31_0 := blk_frozen BK503.out 0
     go_upto_if 57 with (first | ((with_reducible refine gate_callee (f := 99) rfl ?_); refine gl_ (some 52) Try.func99 #[.agg #[.slice A2_0 l2_0.length c2_0], .agg #[.slice A3_0 l3_0.length c3_0], .int .i64 (wrap64 (a4 - x13_23))] ?_; (with_reducible refine (r3_grain.calls kj23 _ _ l2_0 _ _ l3_0 (wrap64 (a4 - x13_23)) t510 _ ?side1 ?side2 ?side3 ?side4 A26.out).mono ?_); (case side1 => exact cs_ ((Kd.C_below HR2_0.out HB.out))); (case side2 => exact HC2_0.out); (case side3 => exact cs_ ((Kd.C_below HR3_0.out HB.out))); (case side4 => exact HC3_0.out); rintro e w32 ⟨v511, rfl, ho0, hb⟩; refine ⟨_, rfl, ?_⟩; have HO512 := A_ (Kd.R_lower ho0 (below_size (hb2_ HB.out GE502.out GE503.out))); replace BK502 := A_ (bb_ BK502.out hb); replace BK503 := A_ (bb_ BK503.out hb); replace HB := A_ (below_step (hb2_ HB.out GE502.out GE503.out) hb); (try clear hb); (try clear hb2); (try clear hk); (try clear hi); (try clear ho0)) | ((with_reducible refine gate_dst (N := 14) rfl ?_); refine be_ 14 #[.slice none 0 0] 63 ?_; intro gb513 hg w33 hbox hb; have BK513 := A_ (hbox); have GW513 := A_ (sz_ hg (hb2_ HB.out GE502.out GE503.out)); have GE513 := A_ (sz_ hg (hb2_ HB.out GE502.out GE503.out)); have NB502_513 := A_ (nl_ hg BK502.out); have NB513_502 := A_ (ng_ hg BK502.out); have NB503_513 := A_ (nl_ hg BK503.out); have NB513_503 := A_ (ng_ hg BK503.out); replace HO512 := A_ (Kd.R_below (kr_ HO512.out) hb); replace BK502 := A_ (bb_ BK502.out hb); replace BK503 := A_ (bb_ BK503.out hb); replace HB := A_ (below_step (hb2_ HB.out GE502.out GE503.out) hb); clear hb hbox hg; obtain ⟨Ao34, co34, eo34⟩ := Kd.R_slice HO512.out; subst eo34; have hnb35 := NB513_502.out; have hnc35 := NB502_513.out; have hnb36 := NB513_503.out; have hnc36 := NB503_513.out; have hcz37_0 := bv_ BK513.out 0; have hfz37_0 := blk_frozen BK513.out 0) | ((with_reducible refine gate_callee (f := 96) rfl ?_); refine gl_ (some 54) Try.func96 #[.agg #[.slice Ao34 t510.length co34]] ?_; (with_reducible refine (r1_Len.calls kj23 _ _ t510 t514 _ ?side1 ?side2 A27.out).mono ?_); (case side1 => refine (Kd.R_reads' (e := 22) (base := w.heap.size) (ok := fun k_ => True) (n := t510.length) (c := co34) ?_).2.2; exact (by (with_reducible repeat (first | apply Kd.R_alloc | apply Kd.R_drewN | apply Kd.R_drew)); exact (Kd.R_mono (Kd.R_far (p := ⟨gb513, 0, none⟩) (Kd.R_types HO512.out BK513.out (by decide)) (fun _ hk => hk.2) (.slice Ao34 t510.length co34)) (fun _ h_ => h_.1)))); (case side2 => exact (Kd.R_reads' HO512.out).2.1); rintro e w38 ⟨rfl, hb⟩; refine ⟨_, rfl, ?_⟩; replace HO512 := A_ (Kd.R_below (by (with_reducible repeat (first | apply Kd.R_alloc | apply Kd.R_drewN | apply Kd.R_drew)); exact (Kd.R_mono (Kd.R_far (p := ⟨gb513, 0, none⟩) (Kd.R_types HO512.out BK513.out (by decide)) (fun _ hk => hk.2) (.slice Ao34 t510.length co34)) (fun _ h_ => h_.1))) hb); replace BK502 := A_ (blk_below (g := gb502) (o := .cells #[.slice A2_0 l2_0.length c2_0] 63 (0, 0)) (bf1_ BK502.out NB502_513.out) hb); replace BK503 := A_ (blk_below (g := gb503) (o := .cells #[.slice A3_0 l3_0.length c3_0] 63 (0, 0)) (bf1_ BK503.out NB503_513.out) hb); replace BK513 := A_ (blk_below (g := gb513) (o := .cells #[.slice Ao34 t510.length co34] 63 (0, 0)) (by (with_reducible repeat (first | refine blk_drewN ?_ _ | refine blk_drew ?_ | refine blk_alloc ?_ _)); refine blk_put (cs := #[.slice none 0 0]) ?_ 0 _ rfl; (with_reducible repeat (first | refine blk_drewN ?_ _ | refine blk_drew ?_ | refine blk_alloc ?_ _)); exact BK513.out) hb); replace HB := A_ (below_step (hb3_ HB.out GE502.out GE503.out GE513.out) hb); (try clear hb); (try clear hb2); (try clear hk); (try clear hi)))
     (try simp only [Act.put, lI_, l0_, lS_])
     go_cut [13] (fun v13 wc => ∃ (kq : Nat) (x13_27 : Int) (x514000_27 : List Int) (u514000 : Value), v13 = .int .i64 x13_27 ∧ Aside0 (r3_Near.j2 kq a0 a1 t504 x13_27 x514000_27 = some r) ∧ Aside0 (kq ≤ kj23) ∧ Aside0 (Kd.R (Kd.int .u64) 22 wc w.heap.size (fun _ => True) u514000 x514000_27) ∧ Aside0 (wc.heap[gb502]? = some (.cells #[(.slice A2_0 l2_0.length c2_0)] 63 (0, 0))) ∧ Aside0 (wc.heap[gb503]? = some (.cells #[(.slice A3_0 l3_0.length c3_0)] 63 (0, 0))) ∧ Aside0 (wc.heap[gb513]? = some (.cells #[u514000] 63 (0, 0))) ∧ Aside0 (Below w.heap.size w wc))
     case first =>
      have H := HC28.out
      clear HC28
      by_cases c39 : t514 > (wrap64 (t504 + 1))
      ·rw [if_pos c39] at H
       have c39b0 : decide ((wrap64 (t504 + 1)) < t514) = true := decide_eq_true c39
       clear c39
       (first | rw [c39b0] | (simp only [i64_w, i32_w]; rw [c39b0]) | skip)
       replace H := ob_ H
       obtain ⟨⟨t515, t518⟩, A400, H⟩ := H
       replace H : (r3_Near.j2 kj23 a0 a1 t504 (wrap64 (x13_23 + 1)) t515) = some r := H
       have A40 := A_ A400;clear A400
       have H' := A_ H
       clear H
       have hnb41 := NB513_502.out
       have hnc41 := NB502_513.out
       have hnb42 := NB513_503.out
       have hnc42 := NB503_513.out
       have hcz43_0 := bv_ BK513.out 0
       have hfz43_0 := blk_frozen BK513.out 0
       go_wp2_with (first | ((with_reducible refine gate_callee (f := 100) rfl ?_); refine gl_ (some 62) Try.func100 #[.agg #[.slice Ao34 t510.length co34], .int .i64 1] ?_; (with_reducible refine (r1_Half.calls kj23 _ _ t510 1 t515 t518 _ ?side1 ?side2 A40.out).mono ?_); (case side1 => exact cs_ ((Kd.R_reads' HO512.out).2.2)); (case side2 => exact (Kd.R_reads' HO512.out).2.1); rintro e w44 ⟨v516, rfl, ho0, hb⟩; refine ⟨_, rfl, ?_⟩; have HO517 := A_ (Kd.R_lower (Kd.R_new' ho0 (Kd.R_lt (kr_ HO512.out))) (below_size (hb3_ HB.out GE502.out GE503.out GE513.out))); replace HO512 := A_ (Kd.R_elder' (kr_ HO512.out) (Kd.R_base ho0) hb); replace BK502 := A_ (bb_ BK502.out hb); replace BK503 := A_ (bb_ BK503.out hb); replace BK513 := A_ (bb_ BK513.out hb); replace HB := A_ (below_step (hb3_ HB.out GE502.out GE503.out GE513.out) hb); (try clear hb); (try clear hb2); (try clear hk); (try clear hi); (try clear ho0); obtain ⟨Ao45, co45, eo45⟩ := Kd.R_slice HO517.out; subst eo45; have hcz46_0 := bv_ BK513.out 0; have hfz46_0 := blk_frozen BK513.out 0))
       go_meet
       case rel => exact ⟨_, (wrap64 (x13_23 + 1)), (t515), (.slice Ao45 t515.length co45), sm_, H', ⟨by have := HJ10.out; have := HJ23.out; first | omega | exact Nat.le_refl _⟩, ⟨by (with_reducible repeat (first | apply Kd.R_alloc | apply Kd.R_drewN | apply Kd.R_drew)); exact Kd.R_mono (Kd.R_far (p := ⟨gb513, 0, none⟩) (Kd.R_types HO517.out BK513.out (by decide)) (fun _ hk => hk.2) (.slice Ao45 t515.length co45)) (fun _ hk => trivial)⟩, ⟨bf1_ BK502.out NB502_513.out⟩, ⟨bf1_ BK503.out NB503_513.out⟩, ⟨by (with_reducible repeat (first | refine blk_drewN ?_ _ | refine blk_drew ?_ | refine blk_alloc ?_ _)); refine blk_put (cs := #[.slice Ao34 t510.length co34]) ?_ 0 _ rfl; (with_reducible repeat (first | refine blk_drewN ?_ _ | refine blk_drew ?_ | refine blk_alloc ?_ _)); exact BK513.out⟩, ⟨hb3_ HB.out GE502.out GE503.out GE513.out⟩⟩
      ·rw [if_neg c39] at H
       have c39b0 : decide ((wrap64 (t504 + 1)) < t514) = false := decide_eq_false c39
       clear c39
       (first | rw [c39b0] | (simp only [i64_w, i32_w]; rw [c39b0]) | skip)
       have H' := A_ H
       clear H
       go_wp2
       go_meet
       case rel => exact ⟨_, (x13_23), (t510), (.slice Ao34 t510.length co34), sm_, H', ⟨by have := HJ10.out; have := HJ23.out; first | omega | exact Nat.le_refl _⟩, ⟨by (with_reducible repeat (first | apply Kd.R_alloc | apply Kd.R_drewN | apply Kd.R_drew)); exact HO512.out⟩, ⟨bk_ BK502.out⟩, ⟨bk_ BK503.out⟩, ⟨bk_ BK513.out⟩, ⟨hb3_ HB.out GE502.out GE503.out GE513.out⟩⟩
     case rest =>
      clear HC28
      try clear c1
      try clear c2
      try clear p2
      try clear c3
      try clear c4
      try clear c5
      try clear c6
      try clear p6
      try clear c9
      try clear c10
      try clear c18
      try clear c18b0
      try clear c20
      try clear c25
      try clear c29
      try clear c35
      try clear c36
      try clear c39
      try clear c39b0
      try clear c41
      try clear c42
      try clear hcz21_0
      try clear hcz22_0
      try clear hcz30_0
      try clear hcz31_0
      try clear hcz37_0
      try clear hcz43_0
      try clear hcz46_0
      try clear hfz21_0
      try clear hfz22_0
      try clear hfz30_0
      try clear hfz31_0
      try clear hfz37_0
      try clear hfz43_0
      try clear hfz46_0
      try clear p2
      try clear p6
      obtain ⟨kq, x13_27, x514000_27, u514000, rfl, HA, HJ27, HO_514000, BK502, BK503, BK513, HB⟩ := hcut
      cases kq with
      | zero => exact absurd HA.out (by simp [r3_Near.j2])
      | succ kj27 =>
       have H := HA.out
       clear HA
       simp only [r3_Near.j2] at H
       replace H := ob_ H
       obtain ⟨t519, A470, H⟩ := H
       replace H : ((r2_Top.f kj27 a0).bind fun t520 => (if x13_27 > (wrap64 ((wrap64 (t519 + t520)) - 2)) then ((r2_Inf.f kj27 a0 a1).bind fun t521 => (some t521)) else ((r1_Uint.f x514000_27).bind fun t522 => ((r2_Two.f kj27 t504).bind fun t523 => (if t522 < t523 then ((r2_Make.f kj27 a0 a1 0 t522).bind fun t524 => (some t524)) else ((r3_Low.f a0).bind fun t525 => ((r2_Two.f kj27 t504).bind fun t526 => ((r2_Make.f kj27 a0 a1 (wrap64 ((wrap64 (x13_27 - t525)) + 1)) (IntKind.u64.wrap (t522 - t526))).bind fun t527 => (some t527))))))))) = some r := H
       have A47 := A_ A470;clear A470
       replace H := ob_ H
       obtain ⟨t520, A480, H⟩ := H
       replace H : (if x13_27 > (wrap64 ((wrap64 (t519 + t520)) - 2)) then ((r2_Inf.f kj27 a0 a1).bind fun t521 => (some t521)) else ((r1_Uint.f x514000_27).bind fun t522 => ((r2_Two.f kj27 t504).bind fun t523 => (if t522 < t523 then ((r2_Make.f kj27 a0 a1 0 t522).bind fun t524 => (some t524)) else ((r3_Low.f a0).bind fun t525 => ((r2_Two.f kj27 t504).bind fun t526 => ((r2_Make.f kj27 a0 a1 (wrap64 ((wrap64 (x13_27 - t525)) + 1)) (IntKind.u64.wrap (t522 - t526))).bind fun t527 => (some t527)))))))) = some r := H
       have A48 := A_ A480;clear A480
       by_cases c49 : x13_27 > (wrap64 ((wrap64 (t519 + t520)) - 2))
       ·rw [if_pos c49] at H
        have c49b0 : decide ((wrap64 ((wrap64 (t519 + t520)) - 2)) < x13_27) = true := decide_eq_true c49
        clear c49
        replace H := ob_ H
        obtain ⟨t521, A500, H⟩ := H
        replace H : (some t521) = some r := H
        have A50 := A_ A500;clear A500
        obtain rfl := Option.some.inj H
        go_wp2_with (first | ((with_reducible refine gate_callee (f := 97) rfl ?_); refine gl_ (some 67) Try.func97 #[.int .i64 a0] ?_; (with_reducible refine (r3_Low.calls a0 t519 _ A47.out).mono ?_); rintro e w' ⟨rfl, ⟨nd, rfl⟩⟩; refine ⟨_, rfl, ?_⟩) | ((with_reducible refine gate_callee (f := 88) rfl ?_); refine gl_ (some 69) Try.func88 #[.int .i64 a0] ?_; (with_reducible refine (r2_Top.calls kj27 a0 t520 _ A48.out).mono ?_); rintro e w' ⟨rfl, ⟨nd, rfl⟩⟩; refine ⟨_, rfl, ?_⟩) | ((with_reducible refine gate_callee (f := 59) rfl ?_); refine gl_ (some 75) Try.func59 #[.int .i64 a0, .bool a1] ?_; (with_reducible refine (r2_Inf.calls kj27 a0 a1 t521 _ A50.out).mono ?_); rintro e w' ⟨rfl, ⟨nd, rfl⟩⟩; refine ⟨_, rfl, ?_⟩))
        go_ret
        exact ⟨by first | rfl | (simp [errW_none, errW_some] <;> rfl) | (simp only [← hji10]; first | rfl | (simp [errW_none, errW_some] <;> rfl)) | (simp [*, errW_none, errW_some] <;> rfl), hb3_ HB.out GE502.out GE503.out GE513.out⟩
       ·rw [if_neg c49] at H
        have c49b0 : decide ((wrap64 ((wrap64 (t519 + t520)) - 2)) < x13_27) = false := decide_eq_false c49
        clear c49
        replace H := ob_ H
        obtain ⟨t522, A510, H⟩ := H
        replace H : ((r2_Two.f kj27 t504).bind fun t523 => (if t522 < t523 then ((r2_Make.f kj27 a0 a1 0 t522).bind fun t524 => (some t524)) else ((r3_Low.f a0).bind fun t525 => ((r2_Two.f kj27 t504).bind fun t526 => ((r2_Make.f kj27 a0 a1 (wrap64 ((wrap64 (x13_27 - t525)) + 1)) (IntKind.u64.wrap (t522 - t526))).bind fun t527 => (some t527)))))) = some r := H
        have A51 := A_ A510;clear A510
        replace H := ob_ H
        obtain ⟨t523, A520, H⟩ := H
        replace H : (if t522 < t523 then ((r2_Make.f kj27 a0 a1 0 t522).bind fun t524 => (some t524)) else ((r3_Low.f a0).bind fun t525 => ((r2_Two.f kj27 t504).bind fun t526 => ((r2_Make.f kj27 a0 a1 (wrap64 ((wrap64 (x13_27 - t525)) + 1)) (IntKind.u64.wrap (t522 - t526))).bind fun t527 => (some t527))))) = some r := H
        have A52 := A_ A520;clear A520
        by_cases c53 : t522 < t523
        ·rw [if_pos c53] at H
         have c53b0 : decide (t522 < t523) = true := decide_eq_true c53
         clear c53
         replace H := ob_ H
         obtain ⟨t524, A540, H⟩ := H
         replace H : (some t524) = some r := H
         have A54 := A_ A540;clear A540
         obtain rfl := Option.some.inj H
         go_wp2_with (first | ((with_reducible refine gate_callee (f := 97) rfl ?_); refine goesL_ (some 67) rfl rfl Try.func97 (by kernel_rfl) rfl #[.int .i64 a0] rfl (by (try simp only [List.map_toArray, List.map_cons, List.map_nil]); first | done | rfl | (simp only [List.length_drop, List.length_take]; rfl)) ?_; (with_reducible refine (r3_Low.calls a0 t519 _ A47.out).mono ?_); rintro e w' ⟨rfl, ⟨nd, rfl⟩⟩; refine ⟨_, rfl, ?_⟩) | ((with_reducible refine gate_callee (f := 88) rfl ?_); refine goesL_ (some 69) rfl rfl Try.func88 (by kernel_rfl) rfl #[.int .i64 a0] rfl (by (try simp only [List.map_toArray, List.map_cons, List.map_nil]); first | done | rfl | (simp only [List.length_drop, List.length_take]; rfl)) ?_; (with_reducible refine (r2_Top.calls kj27 a0 t520 _ A48.out).mono ?_); rintro e w' ⟨rfl, ⟨nd, rfl⟩⟩; refine ⟨_, rfl, ?_⟩; have hnb55 := NB513_502.out; have hnc55 := NB502_513.out; have hnb56 := NB513_503.out; have hnc56 := NB503_513.out; have hcz57_0 : wc.cell? ⟨gb513, 0, none⟩ = some (u514000) := (blk_cell BK513.out 0).trans rfl; have hfz57_0 := blk_frozen BK513.out 0; obtain ⟨Ao58, co58, eo58⟩ := Kd.R_slice HO_514000.out; subst eo58) | ((with_reducible refine gate_callee (f := 101) rfl ?_); refine goesL_ (some 77) rfl rfl Try.func101 (by kernel_rfl) rfl #[.agg #[.slice Ao58 x514000_27.length co58]] rfl (by (try simp only [List.map_toArray, List.map_cons, List.map_nil]); first | done | rfl | (simp only [List.length_drop, List.length_take]; rfl)) ?_; (with_reducible refine (r1_Uint.calls _ _ x514000_27 t522 _ ?side1 ?side2 A51.out).mono ?_); (case side1 => repeat (first | exact (Kd.R_reads' HO_514000.out).2.2 | (with_reducible refine Kd.C_alloc ?_ _) | (with_reducible refine Kd.C_drewN ?_ _) | (with_reducible refine Kd.C_drew ?_))); (case side2 => exact (Kd.R_reads' HO_514000.out).2.1); rintro e w59 ⟨rfl, hb⟩; refine ⟨_, rfl, ?_⟩; have n0_ := Aside0.mk (Kd.R_below (by (with_reducible repeat (first | apply Kd.R_alloc | apply Kd.R_drewN | apply Kd.R_drew)); exact HO_514000.out) hb); have n1_ := Aside0.mk (blk_below (g := gb502) (o := .cells #[.slice A2_0 l2_0.length c2_0] 63 (0, 0)) (by (with_reducible repeat (first | refine blk_drewN ?_ _ | refine blk_drew ?_ | refine blk_alloc ?_ _)); exact BK502.out) hb); have n2_ := Aside0.mk (blk_below (g := gb503) (o := .cells #[.slice A3_0 l3_0.length c3_0] 63 (0, 0)) (by (with_reducible repeat (first | refine blk_drewN ?_ _ | refine blk_drew ?_ | refine blk_alloc ?_ _)); exact BK503.out) hb); have n3_ := Aside0.mk (blk_below (g := gb513) (o := .cells #[.slice Ao58 x514000_27.length co58] 63 (0, 0)) (by (with_reducible repeat (first | refine blk_drewN ?_ _ | refine blk_drew ?_ | refine blk_alloc ?_ _)); exact BK513.out) hb); have n4_ := Aside0.mk (below_step (by repeat (first | (with_reducible first | exact HB.out | apply below_alloc | apply pw_below_drewN | apply below_drew1 | refine below_set ?_ GE502.out | refine below_set ?_ GE503.out | refine below_set ?_ GE513.out) | exact HB.out)) hb); clear HO_514000; clear BK502; clear BK503; clear BK513; clear HB; have HO_514000 := n0_; have BK502 := n1_; have BK503 := n2_; have BK513 := n3_; have HB := n4_; clear n0_ n1_ n2_ n3_ n4_; (try clear hb); (try clear hb2); (try clear hk); (try clear hi)) | ((with_reducible refine gate_callee (f := 51) rfl ?_); refine goesL_ (some 80) rfl rfl Try.func51 (by kernel_rfl) rfl #[.int .i64 t504] rfl (by (try simp only [List.map_toArray, List.map_cons, List.map_nil]); first | done | rfl | (simp only [List.length_drop, List.length_take]; rfl)) ?_; (with_reducible refine (r2_Two.calls kj27 t504 t523 _ A52.out).mono ?_); rintro e w' ⟨rfl, ⟨nd, rfl⟩⟩; refine ⟨_, rfl, ?_⟩) | ((with_reducible refine gate_callee (f := 17) rfl ?_); refine goesL_ (some 85) rfl rfl Try.func17 (by kernel_rfl) rfl #[.int .i64 a0, .bool a1, .int .i64 0, .int .u64 t522] rfl (by (try simp only [List.map_toArray, List.map_cons, List.map_nil]); first | done | rfl | (simp only [List.length_drop, List.length_take]; rfl)) ?_; (with_reducible refine (r2_Make.calls kj27 a0 a1 0 t522 t524 _ A54.out).mono ?_); rintro e w' ⟨rfl, ⟨nd, rfl⟩⟩; refine ⟨_, rfl, ?_⟩))
         go_ret
         exact ⟨by first | rfl | (simp [errW_none, errW_some] <;> rfl) | (simp only [← hji10]; first | rfl | (simp [errW_none, errW_some] <;> rfl)) | (simp [*, errW_none, errW_some] <;> rfl), hb3_ HB.out GE502.out GE503.out GE513.out⟩
        ·rw [if_neg c53] at H
         have c53b0 : decide (t522 < t523) = false := decide_eq_false c53
         clear c53
         replace H := ob_ H
         obtain ⟨t525, A600, H⟩ := H
         replace H : ((r2_Two.f kj27 t504).bind fun t526 => ((r2_Make.f kj27 a0 a1 (wrap64 ((wrap64 (x13_27 - t525)) + 1)) (IntKind.u64.wrap (t522 - t526))).bind fun t527 => (some t527))) = some r := H
         have A60 := A_ A600;clear A600
         replace H := ob_ H
         obtain ⟨t526, A610, H⟩ := H
         replace H : ((r2_Make.f kj27 a0 a1 (wrap64 ((wrap64 (x13_27 - t525)) + 1)) (IntKind.u64.wrap (t522 - t526))).bind fun t527 => (some t527)) = some r := H
         have A61 := A_ A610;clear A610
         replace H := ob_ H
         obtain ⟨t527, A620, H⟩ := H
         replace H : (some t527) = some r := H
         have A62 := A_ A620;clear A620
         obtain rfl := Option.some.inj H
         go_wp2_with (first | ((with_reducible refine gate_callee (f := 97) rfl ?_); refine goesL_ (some 67) rfl rfl Try.func97 (by kernel_rfl) rfl #[.int .i64 a0] rfl (by (try simp only [List.map_toArray, List.map_cons, List.map_nil]); first | done | rfl | (simp only [List.length_drop, List.length_take]; rfl)) ?_; (with_reducible refine (r3_Low.calls a0 t519 _ A47.out).mono ?_); rintro e w' ⟨rfl, ⟨nd, rfl⟩⟩; refine ⟨_, rfl, ?_⟩) | ((with_reducible refine gate_callee (f := 88) rfl ?_); refine goesL_ (some 69) rfl rfl Try.func88 (by kernel_rfl) rfl #[.int .i64 a0] rfl (by (try simp only [List.map_toArray, List.map_cons, List.map_nil]); first | done | rfl | (simp only [List.length_drop, List.length_take]; rfl)) ?_; (with_reducible refine (r2_Top.calls kj27 a0 t520 _ A48.out).mono ?_); rintro e w' ⟨rfl, ⟨nd, rfl⟩⟩; refine ⟨_, rfl, ?_⟩; have hnb63 := NB513_502.out; have hnc63 := NB502_513.out; have hnb64 := NB513_503.out; have hnc64 := NB503_513.out; have hcz65_0 : wc.cell? ⟨gb513, 0, none⟩ = some (u514000) := (blk_cell BK513.out 0).trans rfl; have hfz65_0 := blk_frozen BK513.out 0; obtain ⟨Ao66, co66, eo66⟩ := Kd.R_slice HO_514000.out; subst eo66) | ((with_reducible refine gate_callee (f := 101) rfl ?_); refine goesL_ (some 77) rfl rfl Try.func101 (by kernel_rfl) rfl #[.agg #[.slice Ao66 x514000_27.length co66]] rfl (by (try simp only [List.map_toArray, List.map_cons, List.map_nil]); first | done | rfl | (simp only [List.length_drop, List.length_take]; rfl)) ?_; (with_reducible refine (r1_Uint.calls _ _ x514000_27 t522 _ ?side1 ?side2 A51.out).mono ?_); (case side1 => repeat (first | exact (Kd.R_reads' HO_514000.out).2.2 | (with_reducible refine Kd.C_alloc ?_ _) | (with_reducible refine Kd.C_drewN ?_ _) | (with_reducible refine Kd.C_drew ?_))); (case side2 => exact (Kd.R_reads' HO_514000.out).2.1); rintro e w67 ⟨rfl, hb⟩; refine ⟨_, rfl, ?_⟩; have n0_ := Aside0.mk (Kd.R_below (by (with_reducible repeat (first | apply Kd.R_alloc | apply Kd.R_drewN | apply Kd.R_drew)); exact HO_514000.out) hb); have n1_ := Aside0.mk (blk_below (g := gb502) (o := .cells #[.slice A2_0 l2_0.length c2_0] 63 (0, 0)) (by (with_reducible repeat (first | refine blk_drewN ?_ _ | refine blk_drew ?_ | refine blk_alloc ?_ _)); exact BK502.out) hb); have n2_ := Aside0.mk (blk_below (g := gb503) (o := .cells #[.slice A3_0 l3_0.length c3_0] 63 (0, 0)) (by (with_reducible repeat (first | refine blk_drewN ?_ _ | refine blk_drew ?_ | refine blk_alloc ?_ _)); exact BK503.out) hb); have n3_ := Aside0.mk (blk_below (g := gb513) (o := .cells #[.slice Ao66 x514000_27.length co66] 63 (0, 0)) (by (with_reducible repeat (first | refine blk_drewN ?_ _ | refine blk_drew ?_ | refine blk_alloc ?_ _)); exact BK513.out) hb); have n4_ := Aside0.mk (below_step (by repeat (first | (with_reducible first | exact HB.out | apply below_alloc | apply pw_below_drewN | apply below_drew1 | refine below_set ?_ GE502.out | refine below_set ?_ GE503.out | refine below_set ?_ GE513.out) | exact HB.out)) hb); clear HO_514000; clear BK502; clear BK503; clear BK513; clear HB; have HO_514000 := n0_; have BK502 := n1_; have BK503 := n2_; have BK513 := n3_; have HB := n4_; clear n0_ n1_ n2_ n3_ n4_; (try clear hb); (try clear hb2); (try clear hk); (try clear hi)) | ((with_reducible refine gate_callee (f := 51) rfl ?_); refine goesL_ (some 80) rfl rfl Try.func51 (by kernel_rfl) rfl #[.int .i64 t504] rfl (by (try simp only [List.map_toArray, List.map_cons, List.map_nil]); first | done | rfl | (simp only [List.length_drop, List.length_take]; rfl)) ?_; (with_reducible refine (r2_Two.calls kj27 t504 t523 _ A52.out).mono ?_); rintro e w' ⟨rfl, ⟨nd, rfl⟩⟩; refine ⟨_, rfl, ?_⟩) | ((with_reducible refine gate_callee (f := 97) rfl ?_); refine goesL_ (some 90) rfl rfl Try.func97 (by kernel_rfl) rfl #[.int .i64 a0] rfl (by (try simp only [List.map_toArray, List.map_cons, List.map_nil]); first | done | rfl | (simp only [List.length_drop, List.length_take]; rfl)) ?_; (with_reducible refine (r3_Low.calls a0 t525 _ A60.out).mono ?_); rintro e w' ⟨rfl, ⟨nd, rfl⟩⟩; refine ⟨_, rfl, ?_⟩) | ((with_reducible refine gate_callee (f := 51) rfl ?_); refine goesL_ (some 95) rfl rfl Try.func51 (by kernel_rfl) rfl #[.int .i64 t504] rfl (by (try simp only [List.map_toArray, List.map_cons, List.map_nil]); first | done | rfl | (simp only [List.length_drop, List.length_take]; rfl)) ?_; (with_reducible refine (r2_Two.calls kj27 t504 t526 _ A61.out).mono ?_); rintro e w' ⟨rfl, ⟨nd, rfl⟩⟩; refine ⟨_, rfl, ?_⟩) | ((with_reducible refine gate_callee (f := 17) rfl ?_); refine goesL_ (some 97) rfl rfl Try.func17 (by kernel_rfl) rfl #[.int .i64 a0, .bool a1, .int .i64 (wrap64 ((wrap64 (x13_27 - t525)) + 1)), .int .u64 (IntKind.u64.wrap (t522 - t526))] rfl (by (try simp only [List.map_toArray, List.map_cons, List.map_nil]); first | done | rfl | (simp only [List.length_drop, List.length_take]; rfl)) ?_; (with_reducible refine (r2_Make.calls kj27 a0 a1 (wrap64 ((wrap64 (x13_27 - t525)) + 1)) (IntKind.u64.wrap (t522 - t526)) t527 _ A62.out).mono ?_); rintro e w' ⟨rfl, ⟨nd, rfl⟩⟩; refine ⟨_, rfl, ?_⟩))
         go_ret
         exact ⟨by first | rfl | (simp [errW_none, errW_some] <;> rfl) | (simp only [← hji10]; first | rfl | (simp [errW_none, errW_some] <;> rfl)) | (simp [*, errW_none, errW_some] <;> rfl), hb3_ HB.out GE502.out GE503.out GE513.out⟩
def r3_Exact.j0 : Nat → Int → Bool → Int → Bool → List Int → Option (Int)
 | 0, _, _, _, _, _ => none
 | k + 1, x0, x1, x3, x16, x529000 => if x16 = true then ((r2_Make.f k x0 x1 0 0).bind fun t529 => (some t529)) else (if x3 > 4000 then ((r2_Inf.f k x0 x1).bind fun t530 => (some t530)) else ((r1_Of.f k 1).bind fun t531 => ((r3_Near.f k x0 x1 x529000 t531 x3).bind fun t534 => (some t534))))
def r3_Exact.f (k : Nat) (a0 : Int) (a1 : Bool) (l2_0 : List Int) (a3 : Int) : Option (Int) := if (l2_0.length : Int) = 0 then (r3_Exact.j0 k a0 a1 a3 true l2_0) else (r3_Exact.j0 k a0 a1 a3 (decide (a3 < (-4000))) l2_0)
theorem r3_Exact.mono_l : ∀ k, (∀ y0 y1 y2 y3 y4, LeO (r3_Exact.j0 k y0 y1 y2 y3 y4) (r3_Exact.j0 (k + 1) y0 y1 y2 y3 y4))
 | 0 => fun _ _ _ _ _ r h => by simp [r3_Exact.j0] at h
 | k + 1 => by
  have ih0 := r3_Exact.mono_l k
  ·intro y0 y1 y2 y3 y4
   unfold r3_Exact.j0
   repeat' first
   | (with_reducible exact ih0 _ _ _ _ _)
   | (with_reducible exact r1_Of.mono _ _)
   | (with_reducible exact r2_Inf.mono _ _ _)
   | (with_reducible exact r2_Make.mono _ _ _ _ _)
   | (with_reducible exact r3_Near.mono _ _ _ _ _ _)
   | (with_reducible exact LeO.refl _)
   | (with_reducible exact LeO.none _)
   | (with_reducible refine LeO.ite ?_ ?_)
   | (with_reducible refine LeO.bind ?_ (fun _ => ?_))
   | exact ih0 _ _ _ _ _
   | exact r1_Of.mono _ _
   | exact r2_Inf.mono _ _ _
   | exact r2_Make.mono _ _ _ _ _
   | exact r3_Near.mono _ _ _ _ _ _
   | exact LeO.none _
   | refine LeO.ite ?_ ?_
   | refine LeO.bind ?_ (fun _ => ?_)
theorem r3_Exact.mono : ∀ a0 a1 a2 a3 k, LeO (r3_Exact.f k a0 a1 a2 a3) (r3_Exact.f (k + 1) a0 a1 a2 a3) := by
 intro a0 a1 a2 a3 k
 have ih0 := r3_Exact.mono_l k
 unfold r3_Exact.f
 repeat' first
   | (with_reducible exact ih0 _ _ _ _ _)
   | (with_reducible exact r1_Of.mono _ _)
   | (with_reducible exact r2_Inf.mono _ _ _)
   | (with_reducible exact r2_Make.mono _ _ _ _ _)
   | (with_reducible exact r3_Near.mono _ _ _ _ _ _)
   | (with_reducible exact LeO.refl _)
   | (with_reducible exact LeO.none _)
   | (with_reducible refine LeO.ite ?_ ?_)
   | (with_reducible refine LeO.bind ?_ (fun _ => ?_))
   | exact ih0 _ _ _ _ _
   | exact r1_Of.mono _ _
   | exact r2_Inf.mono _ _ _
   | exact r2_Make.mono _ _ _ _ _
   | exact r3_Near.mono _ _ _ _ _ _
   | exact LeO.none _
   | refine LeO.ite ?_ ?_
   | refine LeO.bind ?_ (fun _ => ?_)
theorem r3_Exact.calls (k : Nat) (a0 : Int) (a1 : Bool) (A2_0 : Option Addr) (c2_0 : Nat) (l2_0 : List Int) (a3 : Int) (r : Int) (w : World) (hr2_0 : Kd.C (Kd.int .u64) w A2_0 l2_0.length l2_0) (hc2_0 : l2_0.length ≤ c2_0) (h : r3_Exact.f k a0 a1 l2_0 a3 = some r) :
  Calls Try.prog 60 #[.int .i64 a0, .bool a1, .agg #[.slice A2_0 l2_0.length c2_0], .int .i64 a3] w fun e w' => e = .returned (.int .u64 r) ∧ Below w.heap.size w w' := by
 have hu63 := Try.underlying63
 have HR2_0 := A_ hr2_0;have HC2_0 := A_ hc2_0;clear hr2_0 hc2_0
 have HB := A_ (Below.refl w.heap.size w)
 have H : (if (l2_0.length : Int) = 0 then (r3_Exact.j0 k a0 a1 a3 true l2_0) else (r3_Exact.j0 k a0 a1 a3 (decide (a3 < (-4000))) l2_0)) = some r := h
 clear h;have HC5 := A_ H;clear H
 go_enter Try.func60, Try.ntmps60
 go_upto_region 1 with (first | ((with_reducible refine gate_dst (N := 6) rfl ?_); refine be_ 6 #[.slice A2_0 l2_0.length c2_0] 63 ?_; intro gb528 hg w6 hbox hb; have BK528 := A_ (hbox); have GW528 := A_ (sz_ hg (hb_ HB.out)); have GE528 := A_ (sz_ hg (hb_ HB.out)); replace HB := A_ (below_step (hb_ HB.out) hb); clear hb hbox hg))
 (try simp only [Act.put, lI_, l0_, lS_])
 go_cut [16] (fun v16 wc => ∃ (kq : Nat) (x16_4 : Bool), v16 = .bool x16_4 ∧ Aside0 (r3_Exact.j0 kq a0 a1 a3 x16_4 l2_0 = some r) ∧ Aside0 (kq ≤ k) ∧ Aside0 (wc.heap[gb528]? = some (.cells #[(.slice A2_0 l2_0.length c2_0)] 63 (0, 0))) ∧ Aside0 (Below w.heap.size w wc))
 case first =>
  have H := HC5.out
  clear HC5
  by_cases c7 : (l2_0.length : Int) = 0
  ·rw [if_pos c7] at H
   have c7b0 : ((l2_0.length : Int) == 0) = true := beq_iff_eq.mpr c7
   have c7b1 : ((l2_0.length : Int) != 0) = false := bne_eq_false_iff_eq.mpr c7
   clear c7
   (first | rw [c7b0] | (simp only [i64_w, i32_w]; rw [c7b0]) | skip)
   have H' := A_ H
   clear H
   have hcz8_0 := bv_ BK528.out 0
   have hfz8_0 := blk_frozen BK528.out 0
   go_wp2
   go_meet
   case rel => exact ⟨_, (true), sm_, H', ⟨by first | omega | exact Nat.le_refl _⟩, ⟨bk_ BK528.out⟩, ⟨hb1_ HB.out GE528.out⟩⟩
  ·rw [if_neg c7] at H
   have c7b0 : ((l2_0.length : Int) == 0) = false := beq_eq_false_iff_ne.mpr c7
   have c7b1 : ((l2_0.length : Int) != 0) = true := bne_iff_ne.mpr c7
   have c7b2 : ¬ (l2_0 = []) := fun h_ => c7 (by rw [h_]; rfl)
   (first | rw [c7b0] | (simp only [i64_w, i32_w]; rw [c7b0]) | skip)
   have H' := A_ H
   clear H
   have hcz9_0 := bv_ BK528.out 0
   have hfz9_0 := blk_frozen BK528.out 0
   go_wp2
   go_meet
   case rel => exact ⟨_, (decide (a3 < (-4000))), sm_, H', ⟨by first | omega | exact Nat.le_refl _⟩, ⟨bk_ BK528.out⟩, ⟨hb1_ HB.out GE528.out⟩⟩
 case rest =>
  clear HC5
  try clear c2
  try clear p2
  try clear c6
  try clear c7
  try clear c7b0
  try clear c7b1
  try clear c7b2
  try clear hcz8_0
  try clear hcz9_0
  try clear hfz8_0
  try clear hfz9_0
  obtain ⟨kq, x16_4, rfl, HA, HJ4, BK528, HB⟩ := hcut
  cases kq with
  | zero => exact absurd HA.out (by simp [r3_Exact.j0])
  | succ kj4 =>
   have H := HA.out
   clear HA
   simp only [r3_Exact.j0] at H
   by_cases c10 : x16_4 = true
   ·subst c10
    have H1 : ((r2_Make.f kj4 a0 a1 0 0).bind fun t529 => (some t529)) = some r := by rw [if_pos rfl] at H; exact H
    clear H;have H := H1;clear H1
    replace H := ob_ H
    obtain ⟨t529, A110, H⟩ := H
    replace H : (some t529) = some r := H
    have A11 := A_ A110;clear A110
    obtain rfl := Option.some.inj H
    go_wp2_with (first | ((with_reducible refine gate_callee (f := 17) rfl ?_); refine gl_ (some 19) Try.func17 #[.int .i64 a0, .bool a1, .int .i64 0, .int .u64 0] ?_; (with_reducible refine (r2_Make.calls kj4 a0 a1 0 0 t529 _ A11.out).mono ?_); rintro e w' ⟨rfl, ⟨nd, rfl⟩⟩; refine ⟨_, rfl, ?_⟩))
    go_ret
    exact ⟨er_, hb1_ HB.out GE528.out⟩
   ·replace c10 := Bool.eq_false_iff.mpr c10
    subst c10
    have H1 : (if a3 > 4000 then ((r2_Inf.f kj4 a0 a1).bind fun t530 => (some t530)) else ((r1_Of.f kj4 1).bind fun t531 => ((r3_Near.f kj4 a0 a1 l2_0 t531 a3).bind fun t534 => (some t534)))) = some r := by rw [if_neg (show ¬ (false = true) by decide)] at H; exact H
    clear H;have H := H1;clear H1
    by_cases c12 : a3 > 4000
    ·rw [if_pos c12] at H
     have c12b0 : decide (4000 < a3) = true := decide_eq_true c12
     clear c12
     replace H := ob_ H
     obtain ⟨t530, A130, H⟩ := H
     replace H : (some t530) = some r := H
     have A13 := A_ A130;clear A130
     obtain rfl := Option.some.inj H
     go_wp2_with (first | ((with_reducible refine gate_callee (f := 59) rfl ?_); refine gl_ (some 24) Try.func59 #[.int .i64 a0, .bool a1] ?_; (with_reducible refine (r2_Inf.calls kj4 a0 a1 t530 _ A13.out).mono ?_); rintro e w' ⟨rfl, ⟨nd, rfl⟩⟩; refine ⟨_, rfl, ?_⟩))
     go_ret
     exact ⟨er_, hb1_ HB.out GE528.out⟩
    ·rw [if_neg c12] at H
     have c12b0 : decide (4000 < a3) = false := decide_eq_false c12
     clear c12
     replace H := ob_ H
     obtain ⟨t531, A140, H⟩ := H
     replace H : ((r3_Near.f kj4 a0 a1 l2_0 t531 a3).bind fun t534 => (some t534)) = some r := H
     have A14 := A_ A140;clear A140
     replace H := ob_ H
     obtain ⟨t534, A150, H⟩ := H
     replace H : (some t534) = some r := H
     have A15 := A_ A150;clear A150
     obtain rfl := Option.some.inj H
     try go_wp2
     replace BK528 := A_ (blk_drew BK528.out)
     replace HB := A_ (below_drew1 HB.out)
     refine start_ (n := 7) (S := fun w' => w'.cell? ⟨gb528, 0, none⟩ = some (.slice A2_0 l2_0.length c2_0)) (ds := []) #[false, false, false, false, false, false, false] (by kernel_rfl) rfl rfl (bc_ BK528.out 0) (fun hHeld => ?_)
     generalize wc.drew = w16 at BK528 HB hHeld ⊢
     refine pu_ 0 (some 25) #[true, false, false, false, false, false, false] rfl rfl (by kernel_rfl) ?_
     refine pu_ 1 (some 26) #[true, true, false, false, false, false, false] rfl rfl (by kernel_rfl) ?_
     refine pu_ 4 (some 29) #[true, true, false, false, true, false, false] rfl rfl (by kernel_rfl) ?_
     refine tk1_ 2 (some 27) #[true, true, true, false, true, false, false] rfl rfl (by kernel_rfl) hHeld ?_
     refine one_ (i := 3) (N := some 28) #[true, true, true, true, true, false, false] rfl rfl (by kernel_rfl) (by decide) (fun K hK => ?_)
     refine goes_ Try.func62 (by kernel_rfl) rfl #[.int .u64 1] (by rfl) rfl rfl mp_ ?_
     with_reducible refine (r1_Of.calls kj4 1 t531 _ A14.out).mono ?_
     rintro e w17 ⟨v532, rfl, ho0, hb⟩
     refine ⟨_, rfl, ?_⟩
     have HO533 := A_ (Kd.R_lower ho0 (below_size (hb1_ HB.out GE528.out)))
     replace BK528 := A_ (bb_ BK528.out hb)
     replace HB := A_ (below_step (hb1_ HB.out GE528.out) hb);(try clear hb);(try clear hb2);(try clear hk);(try clear hi);(try clear ho0)
     obtain ⟨Ao18, co18, eo18⟩ := Kd.R_slice HO533.out
     (first | subst eo18 | (injection eo18 with f1_ f2_ f3_; have f4_ := f1_.symm; have f5_ := f3_.symm; clear f1_ f2_ f3_; subst f4_; subst f5_))
     refine hK.out _ _ (bc_ BK528.out 0) (fun hHeld => ?_)
     clear hK K
     refine norm_ (a' := ?_) ?_ ?_
     rotate_left
     ·show Act.put _ (some 28) _ = _
      simp only [Act.put, lI_, l0_, lS_, i64_w, i32_w]
      rfl
     refine one_ (i := 5) (N := some 30) #[true, true, true, true, true, true, false] rfl rfl (by kernel_rfl) (by decide) (fun K hK => ?_)
     refine goes_ Try.func66 (by kernel_rfl) rfl #[.int .i64 a0, .bool a1, .agg #[.slice A2_0 l2_0.length c2_0], .agg #[.slice Ao18 t531.length co18], .int .i64 a3] (by rfl) rfl rfl mp_ ?_
     with_reducible refine (r3_Near.calls kj4 a0 a1 _ _ l2_0 _ _ t531 a3 t534 _ ?side1 ?side2 ?side3 ?side4 A15.out).mono ?_
     (case side1 => exact cs_ ((Kd.C_below HR2_0.out HB.out)))
     (case side2 => exact HC2_0.out)
     (case side3 => exact cs_ ((Kd.R_reads' HO533.out).2.2))
     (case side4 => exact (Kd.R_reads' HO533.out).2.1)
     rintro e w19 ⟨rfl, hb⟩
     refine ⟨_, rfl, ?_⟩
     replace HO533 := A_ (Kd.R_below (kr_ HO533.out) hb)
     replace BK528 := A_ (bb_ BK528.out hb)
     replace HB := A_ (below_step (hb1_ HB.out GE528.out) hb);(try clear hb);(try clear hb2);(try clear hk);(try clear hi)
     refine hK.out _ _ (bc_ BK528.out 0) (fun hHeld => ?_)
     clear hK K
     refine norm_ (a' := ?_) ?_ ?_
     rotate_left
     ·show Act.put _ (some 30) _ = _
      simp only [Act.put, lI_, l0_, lS_, i64_w, i32_w]
      rfl
     refine pu_ 6 (some 8) #[true, true, true, true, true, true, true] rfl rfl (by kernel_rfl) ?_
     refine done_ (by kernel_rfl) ?_
     try go_wp2
     go_ret
     exact ⟨er_, hb1_ HB.out GE528.out⟩
def r3_Pack.f (k : Nat) (a0 : Int) (a1 : Bool) (a2 : Int) (a3 : Int) (a4 : Int) (a5 : Bool) : Option (Int) := (r1_Pair.f k a2 a3).bind fun t587 => ((r1_Shl.f k t587 1).bind fun t590 => (if a5 = true then ((r1_Of.f k 1).bind fun t594 => ((r1_Add.f k t590 t594).bind fun t597 => ((r3_Exact.f k a0 a1 t597 ((mx (mn a4 10000) (-10000)) - 1)).bind fun t600 => (some t600)))) else ((r3_Exact.f k a0 a1 t590 ((mx (mn a4 10000) (-10000)) - 1)).bind fun t601 => (some t601))))
theorem r3_Pack.mono : ∀ a0 a1 a2 a3 a4 a5 k, LeO (r3_Pack.f k a0 a1 a2 a3 a4 a5) (r3_Pack.f (k + 1) a0 a1 a2 a3 a4 a5) := by
 intro a0 a1 a2 a3 a4 a5 k
 unfold r3_Pack.f
 repeat' first
   | (with_reducible exact r1_Add.mono _ _ _)
   | (with_reducible exact r1_Of.mono _ _)
   | (with_reducible exact r1_Pair.mono _ _ _)
   | (with_reducible exact r1_Shl.mono _ _ _)
   | (with_reducible exact r3_Exact.mono _ _ _ _ _)
   | (with_reducible exact LeO.refl _)
   | (with_reducible exact LeO.none _)
   | (with_reducible refine LeO.ite ?_ ?_)
   | (with_reducible refine LeO.bind ?_ (fun _ => ?_))
   | exact r1_Add.mono _ _ _
   | exact r1_Of.mono _ _
   | exact r1_Pair.mono _ _ _
   | exact r1_Shl.mono _ _ _
   | exact r3_Exact.mono _ _ _ _ _
   | exact LeO.none _
   | refine LeO.ite ?_ ?_
   | refine LeO.bind ?_ (fun _ => ?_)
theorem r3_Pack.calls (k : Nat) (a0 : Int) (a1 : Bool) (a2 : Int) (a3 : Int) (a4 : Int) (a5 : Bool) (r : Int) (w : World) (h : r3_Pack.f k a0 a1 a2 a3 a4 a5 = some r) :
  Calls Try.prog 37 #[.int .i64 a0, .bool a1, .int .u64 a2, .int .u64 a3, .int .i64 a4, .bool a5] w fun e w' => e = .returned (.int .u64 r) ∧ Below w.heap.size w w' := by
 have hu63 := Try.underlying63
 have HB := A_ (Below.refl w.heap.size w)
 have H : ((r1_Pair.f k a2 a3).bind fun t587 => ((r1_Shl.f k t587 1).bind fun t590 => (if a5 = true then ((r1_Of.f k 1).bind fun t594 => ((r1_Add.f k t590 t594).bind fun t597 => ((r3_Exact.f k a0 a1 t597 ((mx (mn a4 10000) (-10000)) - 1)).bind fun t600 => (some t600)))) else ((r3_Exact.f k a0 a1 t590 ((mx (mn a4 10000) (-10000)) - 1)).bind fun t601 => (some t601))))) = some r := h
 clear h
 replace H := ob_ H
 obtain ⟨t587, A70, H⟩ := H
 replace H : ((r1_Shl.f k t587 1).bind fun t590 => (if a5 = true then ((r1_Of.f k 1).bind fun t594 => ((r1_Add.f k t590 t594).bind fun t597 => ((r3_Exact.f k a0 a1 t597 ((mx (mn a4 10000) (-10000)) - 1)).bind fun t600 => (some t600)))) else ((r3_Exact.f k a0 a1 t590 ((mx (mn a4 10000) (-10000)) - 1)).bind fun t601 => (some t601)))) = some r := H
 have A7 := A_ A70;clear A70
 replace H := ob_ H
 obtain ⟨t590, A80, H⟩ := H
 replace H : (if a5 = true then ((r1_Of.f k 1).bind fun t594 => ((r1_Add.f k t590 t594).bind fun t597 => ((r3_Exact.f k a0 a1 t597 ((mx (mn a4 10000) (-10000)) - 1)).bind fun t600 => (some t600)))) else ((r3_Exact.f k a0 a1 t590 ((mx (mn a4 10000) (-10000)) - 1)).bind fun t601 => (some t601))) = some r := H
 have A8 := A_ A80;clear A80
 by_cases c9 : a5 = true
 ·subst c9
  have H1 : ((r1_Of.f k 1).bind fun t594 => ((r1_Add.f k t590 t594).bind fun t597 => ((r3_Exact.f k a0 a1 t597 ((mx (mn a4 10000) (-10000)) - 1)).bind fun t600 => (some t600)))) = some r := by rw [if_pos rfl] at H; exact H
  clear H;have H := H1;clear H1
  replace H := ob_ H
  obtain ⟨t594, A100, H⟩ := H
  replace H : ((r1_Add.f k t590 t594).bind fun t597 => ((r3_Exact.f k a0 a1 t597 ((mx (mn a4 10000) (-10000)) - 1)).bind fun t600 => (some t600))) = some r := H
  have A10 := A_ A100;clear A100
  replace H := ob_ H
  obtain ⟨t597, A110, H⟩ := H
  replace H : ((r3_Exact.f k a0 a1 t597 ((mx (mn a4 10000) (-10000)) - 1)).bind fun t600 => (some t600)) = some r := H
  have A11 := A_ A110;clear A110
  obtain ⟨ji12, hji12⟩ : ∃ j_ : Int, (mn a4 10000) = j_ := ⟨_, rfl⟩
  replace H : ((r3_Exact.f k a0 a1 t597 ((mx (ji12) (-10000)) - 1)).bind fun t600 => (some t600)) = some r := by first | (rw [hji12] at H; exact H) | (simp only [hji12] at H ⊢; exact H)
  (try rw [hji12] at A7)
  (try rw [hji12] at A8)
  (try rw [hji12] at A10)
  (try rw [hji12] at A11)
  (try (have hji12h : ji12 ≤ 10000 := by (rw [← hji12]; unfold mn; (repeat' split) <;> omega)))
  (try (have hji12g : ji12 ≤ 64 := by omega))
  have hji12_ : (if 10000 < a4 then 10000 else a4) = ji12 := hji12
  obtain ⟨ji13, hji13⟩ : ∃ j_ : Int, (mx (ji12) (-10000)) = j_ := ⟨_, rfl⟩
  replace H : ((r3_Exact.f k a0 a1 t597 ((ji13) - 1)).bind fun t600 => (some t600)) = some r := by first | (rw [hji13] at H; exact H) | (simp only [hji13] at H ⊢; exact H)
  (try rw [hji13] at A7)
  (try rw [hji13] at A8)
  (try rw [hji13] at A10)
  (try rw [hji13] at A11)
  have hji13_ : (if (ji12) < (-10000) then (-10000) else (ji12)) = ji13 := hji13
  replace H := ob_ H
  obtain ⟨t600, A140, H⟩ := H
  replace H : (some t600) = some r := H
  have A14 := A_ A140;clear A140
  obtain rfl := Option.some.inj H
  go_enter Try.func37, Try.ntmps37
  try go_wp2_with (first | ((with_reducible refine gate_callee (f := 79) rfl ?_); refine gl_ (some 16) Try.func79 #[.int .u64 a2, .int .u64 a3] ?_; (with_reducible refine (r1_Pair.calls k a2 a3 t587 _ A7.out).mono ?_); rintro e w15 ⟨v588, rfl, ho0, hb⟩; refine ⟨_, rfl, ?_⟩; have HO589 := A_ (Kd.R_lower ho0 (below_size (hb_ HB.out))); replace HB := A_ (below_step (hb_ HB.out) hb); (try clear hb); (try clear hb2); (try clear hk); (try clear hi); (try clear ho0); obtain ⟨Ao16, co16, eo16⟩ := Kd.R_slice HO589.out; subst eo16) | ((with_reducible refine gate_callee (f := 78) rfl ?_); refine gl_ (some 17) Try.func78 #[.agg #[.slice Ao16 t587.length co16], .int .i64 1] ?_; (with_reducible refine (r1_Shl.calls k _ _ t587 1 t590 _ ?side1 ?side2 A8.out).mono ?_); (case side1 => exact cs_ ((Kd.R_reads' HO589.out).2.2)); (case side2 => exact (Kd.R_reads' HO589.out).2.1); rintro e w17 ⟨v591, rfl, ho0, hb⟩; refine ⟨_, rfl, ?_⟩; have HO592 := A_ (Kd.R_lower (Kd.R_new' ho0 (Kd.R_lt (kr_ HO589.out))) (below_size (hb_ HB.out))); replace HO589 := A_ (Kd.R_elder' (kr_ HO589.out) (Kd.R_base ho0) hb); replace HB := A_ (below_step (hb_ HB.out) hb); (try clear hb); (try clear hb2); (try clear hk); (try clear hi); (try clear ho0)) | ((with_reducible refine gate_dst (N := 13) rfl ?_); refine be_ 13 #[.slice none 0 0] 63 ?_; intro gb593 hg w18 hbox hb; have BK593 := A_ (hbox); have GW593 := A_ (sz_ hg (hb_ HB.out)); have GE593 := A_ (sz_ hg (hb_ HB.out)); replace HO589 := A_ (Kd.R_below (kr_ HO589.out) hb); replace HO592 := A_ (Kd.R_below (kr_ HO592.out) hb); replace HB := A_ (below_step (hb_ HB.out) hb); clear hb hbox hg; obtain ⟨Ao19, co19, eo19⟩ := Kd.R_slice HO592.out; subst eo19; have hcz20_0 := bv_ BK593.out 0; have hfz20_0 := blk_frozen BK593.out 0))
  have n0_ : Aside0 (Kd.R (Kd.int .u64) 22 (w18.setCell ⟨gb593, 0, none⟩ (.slice Ao19 t590.length co19)) w.heap.size (fun k_ => some k_ ≠ (.slice Ao19 t590.length co19 : Value).ownBlock) (.slice Ao16 t587.length co16) t587) := ⟨by (with_reducible repeat (first | apply Kd.R_alloc | apply Kd.R_drewN | apply Kd.R_drew)); exact Kd.R_mono (Kd.R_far (p := ⟨gb593, 0, none⟩) (Kd.R_types HO589.out BK593.out (by decide)) (fun _ hk => hk.2) (.slice Ao19 t590.length co19)) (fun _ hk => hk.1.2)⟩
  have n1_ : Aside0 (Kd.R (Kd.int .u64) 22 (w18.setCell ⟨gb593, 0, none⟩ (.slice Ao19 t590.length co19)) w.heap.size (fun k_ => some k_ ≠ (.slice Ao16 t587.length co16 : Value).ownBlock) (.slice Ao19 t590.length co19) t590) := ⟨by (with_reducible repeat (first | apply Kd.R_alloc | apply Kd.R_drewN | apply Kd.R_drew)); exact Kd.R_mono (Kd.R_far (p := ⟨gb593, 0, none⟩) (Kd.R_types HO592.out BK593.out (by decide)) (fun _ hk => hk.2) (.slice Ao19 t590.length co19)) (fun _ hk => hk.1.2)⟩
  have n2_ : Aside0 ((w18.setCell ⟨gb593, 0, none⟩ (.slice Ao19 t590.length co19)).heap[gb593]? = some (.cells #[.slice Ao19 t590.length co19] 63 (0, 0))) := ⟨by (with_reducible repeat (first | refine blk_drewN ?_ _ | refine blk_drew ?_ | refine blk_alloc ?_ _)); refine blk_put (cs := #[.slice none 0 0]) ?_ 0 _ rfl; (with_reducible repeat (first | refine blk_drewN ?_ _ | refine blk_drew ?_ | refine blk_alloc ?_ _)); exact BK593.out⟩
  have n3_ : Aside0 (Below w.heap.size w (w18.setCell ⟨gb593, 0, none⟩ (.slice Ao19 t590.length co19))) := ⟨hb1_ HB.out GE593.out⟩
  (try clear HO589);(try clear HO592);(try clear BK593);(try clear HB)
  generalize (w18.setCell ⟨gb593, 0, none⟩ (.slice Ao19 t590.length co19)) = w21 at n0_ n1_ n2_ n3_ ⊢
  have HO589 := n0_;have HO592 := n1_;have BK593 := n2_;have HB := n3_;clear n0_ n1_ n2_ n3_
  replace HO589 := A_ (Kd.R_drew HO589.out)
  replace HO592 := A_ (Kd.R_drew HO592.out)
  replace BK593 := A_ (blk_drew BK593.out)
  replace HB := A_ (below_drew1 HB.out)
  refine start_ (n := 4) (S := fun w' => w'.cell? ⟨gb593, 0, none⟩ = some (.slice Ao19 t590.length co19)) (ds := [3]) #[false, false, false, false] (by kernel_rfl) rfl rfl (bc_ BK593.out 0) (fun hHeld => ?_)
  generalize w21.drew = w22 at HO589 HO592 BK593 HB hHeld ⊢
  refine tk1_ 0 (some 19) #[true, false, false, false] rfl rfl (by kernel_rfl) hHeld ?_
  refine one_ (i := 1) (N := some 20) #[true, true, false, false] rfl rfl (by kernel_rfl) (by decide) (fun K hK => ?_)
  refine goes_ Try.func62 (by kernel_rfl) rfl #[.int .u64 1] (by rfl) rfl rfl mp_ ?_
  with_reducible refine (r1_Of.calls k 1 t594 _ A10.out).mono ?_
  rintro e w23 ⟨v595, rfl, ho0, hb⟩
  refine ⟨_, rfl, ?_⟩
  have HO596 := A_ (Kd.R_lower (Kd.R_new' (Kd.R_new' ho0 (Kd.R_lt (kr_ HO589.out))) (Kd.R_lt (kr_ HO592.out))) (below_size (hb1_ HB.out GE593.out)))
  replace HO589 := A_ (Kd.R_elder' (kr_ HO589.out) (Kd.R_base ho0) hb)
  replace HO592 := A_ (Kd.R_elder' (kr_ HO592.out) (Kd.R_base ho0) hb)
  replace BK593 := A_ (bb_ BK593.out hb)
  replace HB := A_ (below_step (hb1_ HB.out GE593.out) hb);(try clear hb);(try clear hb2);(try clear hk);(try clear hi);(try clear ho0)
  obtain ⟨Ao24, co24, eo24⟩ := Kd.R_slice HO596.out
  (first | subst eo24 | (injection eo24 with f1_ f2_ f3_; have f4_ := f1_.symm; have f5_ := f3_.symm; clear f1_ f2_ f3_; subst f4_; subst f5_))
  refine hK.out _ _ (bc_ BK593.out 0) (fun hHeld => ?_)
  clear hK K
  refine norm_ (a' := ?_) ?_ ?_
  rotate_left
  ·show Act.put _ (some 20) _ = _
   simp only [Act.put, lI_, l0_, lS_, i64_w, i32_w]
   rfl
  refine one_ (i := 2) (N := some 21) #[true, true, true, false] rfl rfl (by kernel_rfl) (by decide) (fun K hK => ?_)
  refine goes_ Try.func80 (by kernel_rfl) rfl #[.agg #[.slice Ao19 t590.length co19], .agg #[.slice Ao24 t594.length co24]] (by rfl) rfl rfl mp_ ?_
  with_reducible refine (r1_Add.calls k _ _ t590 _ _ t594 t597 _ ?side1 ?side2 ?side3 ?side4 A11.out).mono ?_
  (case side1 => exact cs_ ((Kd.R_reads' HO592.out).2.2))
  (case side2 => exact (Kd.R_reads' HO592.out).2.1)
  (case side3 => exact cs_ ((Kd.R_reads' HO596.out).2.2))
  (case side4 => exact (Kd.R_reads' HO596.out).2.1)
  rintro e w25 ⟨v598, rfl, ho0, hb⟩
  refine ⟨_, rfl, ?_⟩
  have HO599 := A_ (Kd.R_lower (Kd.R_new' (Kd.R_new' (Kd.R_new' ho0 (Kd.R_lt (kr_ HO589.out))) (Kd.R_lt (kr_ HO592.out))) (Kd.R_lt (kr_ HO596.out))) (below_size (hb1_ HB.out GE593.out)))
  replace HO589 := A_ (Kd.R_elder' (kr_ HO589.out) (Kd.R_base ho0) hb)
  replace HO592 := A_ (Kd.R_elder' (kr_ HO592.out) (Kd.R_base ho0) hb)
  replace HO596 := A_ (Kd.R_elder' (kr_ HO596.out) (Kd.R_base ho0) hb)
  replace BK593 := A_ (bb_ BK593.out hb)
  replace HB := A_ (below_step (hb1_ HB.out GE593.out) hb);(try clear hb);(try clear hb2);(try clear hk);(try clear hi);(try clear ho0)
  obtain ⟨Ao26, co26, eo26⟩ := Kd.R_slice HO599.out
  (first | subst eo26 | (injection eo26 with f1_ f2_ f3_; have f4_ := f1_.symm; have f5_ := f3_.symm; clear f1_ f2_ f3_; subst f4_; subst f5_))
  refine hK.out _ _ (bc_ BK593.out 0) (fun hHeld => ?_)
  clear hK K
  refine norm_ (a' := ?_) ?_ ?_
  rotate_left
  ·show Act.put _ (some 21) _ = _
   simp only [Act.put, lI_, l0_, lS_, i64_w, i32_w]
   rfl
  refine last_ (i := 3) (N := none) #[true, true, true, true] rfl rfl (by kernel_rfl) (by decide) (fun K hK => ?_)
  have hs27 : w25.cell? ⟨gb593, 0, none⟩ = some (.slice Ao19 t590.length co19) := bc_ BK593.out 0
  have hfs27 := blk_frozen BK593.out 0
  refine skip_ (w1 := ?_) (by rfl) rfl ?_ ?_
  rotate_left
  ·go_simp
   rfl
  refine hK.out _ _ ?_
  clear hK K
  refine done_ (by kernel_rfl) ?_
  have hcz28_0 := bv_ BK593.out 0
  have hfz28_0 := blk_frozen BK593.out 0
  try go_wp2_with (first | ((with_reducible refine gate_callee (f := 60) rfl ?_); refine goesL_ (some 29) rfl rfl Try.func60 (by kernel_rfl) rfl #[.int .i64 a0, .bool a1, .agg #[.slice Ao26 t597.length co26], .int .i64 ((ji13) - 1)] rfl (by (try simp only [List.map_toArray, List.map_cons, List.map_nil]); first | done | (simp only [hji13]; rfl) | rfl | (simp only [List.length_drop, List.length_take]; rfl)) ?_; (with_reducible refine (r3_Exact.calls k a0 a1 _ _ t597 ((ji13) - 1) t600 _ ?side1 ?side2 A14.out).mono ?_); (case side1 => refine (Kd.R_reads' (e := 22) (base := w.heap.size) (ok := fun k_ => (((True ∧ some k_ ≠ (.slice Ao16 t587.length co16 : Value).ownBlock) ∧ some k_ ≠ (.slice Ao19 t590.length co19 : Value).ownBlock) ∧ some k_ ≠ (.slice Ao24 t594.length co24 : Value).ownBlock)) (n := t597.length) (c := co26) ?_).2.2; exact (by (with_reducible repeat (first | apply Kd.R_alloc | apply Kd.R_drewN | apply Kd.R_drew)); exact (Kd.R_mono (Kd.R_far (p := ⟨gb593, 0, none⟩) (Kd.R_types HO599.out BK593.out (by decide)) (fun _ hk => hk.2) (.slice Ao26 t597.length co26)) (fun _ h_ => h_.1)))); (case side2 => exact (Kd.R_reads' HO599.out).2.1); rintro e w29 ⟨rfl, hb⟩; refine ⟨_, rfl, ?_⟩; replace HO589 := A_ (Kd.R_below (by (with_reducible repeat (first | apply Kd.R_alloc | apply Kd.R_drewN | apply Kd.R_drew)); exact (Kd.R_mono (Kd.R_far (p := ⟨gb593, 0, none⟩) (Kd.R_types HO589.out BK593.out (by decide)) (fun _ hk => hk.2) (.slice Ao26 t597.length co26)) (fun _ h_ => h_.1))) hb); replace HO592 := A_ (Kd.R_below (by (with_reducible repeat (first | apply Kd.R_alloc | apply Kd.R_drewN | apply Kd.R_drew)); exact (Kd.R_mono (Kd.R_far (p := ⟨gb593, 0, none⟩) (Kd.R_types HO592.out BK593.out (by decide)) (fun _ hk => hk.2) (.slice Ao26 t597.length co26)) (fun _ h_ => h_.1))) hb); replace HO596 := A_ (Kd.R_below (by (with_reducible repeat (first | apply Kd.R_alloc | apply Kd.R_drewN | apply Kd.R_drew)); exact (Kd.R_mono (Kd.R_far (p := ⟨gb593, 0, none⟩) (Kd.R_types HO596.out BK593.out (by decide)) (fun _ hk => hk.2) (.slice Ao26 t597.length co26)) (fun _ h_ => h_.1))) hb); replace HO599 := A_ (Kd.R_below (by (with_reducible repeat (first | apply Kd.R_alloc | apply Kd.R_drewN | apply Kd.R_drew)); exact (Kd.R_mono (Kd.R_far (p := ⟨gb593, 0, none⟩) (Kd.R_types HO599.out BK593.out (by decide)) (fun _ hk => hk.2) (.slice Ao26 t597.length co26)) (fun _ h_ => h_.1))) hb); replace BK593 := A_ (blk_below (g := gb593) (o := .cells #[.slice Ao26 t597.length co26] 63 (0, 0)) (by (with_reducible repeat (first | refine blk_drewN ?_ _ | refine blk_drew ?_ | refine blk_alloc ?_ _)); refine blk_put (cs := #[.slice Ao19 t590.length co19]) ?_ 0 _ rfl; (with_reducible repeat (first | refine blk_drewN ?_ _ | refine blk_drew ?_ | refine blk_alloc ?_ _)); exact BK593.out) hb); replace HB := A_ (below_step (hb1_ HB.out GE593.out) hb); (try clear hb); (try clear hb2); (try clear hk); (try clear hi)))
  go_ret
  exact ⟨by first | rfl | (simp [errW_none, errW_some] <;> rfl) | (simp only [← hji12, ← hji13]; first | rfl | (simp [errW_none, errW_some] <;> rfl)) | (simp [*, errW_none, errW_some] <;> rfl), hb1_ HB.out GE593.out⟩
 ·replace c9 := Bool.eq_false_iff.mpr c9
  subst c9
  have H1 : ((r3_Exact.f k a0 a1 t590 ((mx (mn a4 10000) (-10000)) - 1)).bind fun t601 => (some t601)) = some r := by rw [if_neg (show ¬ (false = true) by decide)] at H; exact H
  clear H;have H := H1;clear H1
  obtain ⟨ji30, hji30⟩ : ∃ j_ : Int, (mn a4 10000) = j_ := ⟨_, rfl⟩
  replace H : ((r3_Exact.f k a0 a1 t590 ((mx (ji30) (-10000)) - 1)).bind fun t601 => (some t601)) = some r := by first | (rw [hji30] at H; exact H) | (simp only [hji30] at H ⊢; exact H)
  (try rw [hji30] at A7)
  (try rw [hji30] at A8)
  (try (have hji30h : ji30 ≤ 10000 := by (rw [← hji30]; unfold mn; (repeat' split) <;> omega)))
  (try (have hji30g : ji30 ≤ 64 := by omega))
  have hji30_ : (if 10000 < a4 then 10000 else a4) = ji30 := hji30
  obtain ⟨ji31, hji31⟩ : ∃ j_ : Int, (mx (ji30) (-10000)) = j_ := ⟨_, rfl⟩
  replace H : ((r3_Exact.f k a0 a1 t590 ((ji31) - 1)).bind fun t601 => (some t601)) = some r := by first | (rw [hji31] at H; exact H) | (simp only [hji31] at H ⊢; exact H)
  (try rw [hji31] at A7)
  (try rw [hji31] at A8)
  have hji31_ : (if (ji30) < (-10000) then (-10000) else (ji30)) = ji31 := hji31
  replace H := ob_ H
  obtain ⟨t601, A320, H⟩ := H
  replace H : (some t601) = some r := H
  have A32 := A_ A320;clear A320
  obtain rfl := Option.some.inj H
  go_enter Try.func37, Try.ntmps37
  go_wp2_with (first | ((with_reducible refine gate_callee (f := 79) rfl ?_); refine gl_ (some 16) Try.func79 #[.int .u64 a2, .int .u64 a3] ?_; (with_reducible refine (r1_Pair.calls k a2 a3 t587 _ A7.out).mono ?_); rintro e w33 ⟨v588, rfl, ho0, hb⟩; refine ⟨_, rfl, ?_⟩; have HO589 := A_ (Kd.R_lower ho0 (below_size (hb_ HB.out))); replace HB := A_ (below_step (hb_ HB.out) hb); (try clear hb); (try clear hb2); (try clear hk); (try clear hi); (try clear ho0); obtain ⟨Ao34, co34, eo34⟩ := Kd.R_slice HO589.out; subst eo34) | ((with_reducible refine gate_callee (f := 78) rfl ?_); refine gl_ (some 17) Try.func78 #[.agg #[.slice Ao34 t587.length co34], .int .i64 1] ?_; (with_reducible refine (r1_Shl.calls k _ _ t587 1 t590 _ ?side1 ?side2 A8.out).mono ?_); (case side1 => exact cs_ ((Kd.R_reads' HO589.out).2.2)); (case side2 => exact (Kd.R_reads' HO589.out).2.1); rintro e w35 ⟨v591, rfl, ho0, hb⟩; refine ⟨_, rfl, ?_⟩; have HO592 := A_ (Kd.R_lower (Kd.R_new' ho0 (Kd.R_lt (kr_ HO589.out))) (below_size (hb_ HB.out))); replace HO589 := A_ (Kd.R_elder' (kr_ HO589.out) (Kd.R_base ho0) hb); replace HB := A_ (below_step (hb_ HB.out) hb); (try clear hb); (try clear hb2); (try clear hk); (try clear hi); (try clear ho0)) | ((with_reducible refine gate_dst (N := 13) rfl ?_); refine be_ 13 #[.slice none 0 0] 63 ?_; intro gb593 hg w36 hbox hb; have BK593 := A_ (hbox); have GW593 := A_ (sz_ hg (hb_ HB.out)); have GE593 := A_ (sz_ hg (hb_ HB.out)); replace HO589 := A_ (Kd.R_below (kr_ HO589.out) hb); replace HO592 := A_ (Kd.R_below (kr_ HO592.out) hb); replace HB := A_ (below_step (hb_ HB.out) hb); clear hb hbox hg; obtain ⟨Ao37, co37, eo37⟩ := Kd.R_slice HO592.out; subst eo37; have hcz38_0 := bv_ BK593.out 0; have hfz38_0 := blk_frozen BK593.out 0) | ((with_reducible refine gate_callee (f := 60) rfl ?_); refine goesL_ (some 29) rfl rfl Try.func60 (by kernel_rfl) rfl #[.int .i64 a0, .bool a1, .agg #[.slice Ao37 t590.length co37], .int .i64 ((ji31) - 1)] rfl (by (try simp only [List.map_toArray, List.map_cons, List.map_nil]); first | done | (simp only [hji31]; rfl) | rfl | (simp only [List.length_drop, List.length_take]; rfl)) ?_; (with_reducible refine (r3_Exact.calls k a0 a1 _ _ t590 ((ji31) - 1) t601 _ ?side1 ?side2 A32.out).mono ?_); (case side1 => refine (Kd.R_reads' (e := 22) (base := w.heap.size) (ok := fun k_ => (True ∧ some k_ ≠ (.slice Ao34 t587.length co34 : Value).ownBlock)) (n := t590.length) (c := co37) ?_).2.2; exact (by (with_reducible repeat (first | apply Kd.R_alloc | apply Kd.R_drewN | apply Kd.R_drew)); exact (Kd.R_mono (Kd.R_far (p := ⟨gb593, 0, none⟩) (Kd.R_types HO592.out BK593.out (by decide)) (fun _ hk => hk.2) (.slice Ao37 t590.length co37)) (fun _ h_ => h_.1)))); (case side2 => exact (Kd.R_reads' HO592.out).2.1); rintro e w39 ⟨rfl, hb⟩; refine ⟨_, rfl, ?_⟩; replace HO589 := A_ (Kd.R_below (by (with_reducible repeat (first | apply Kd.R_alloc | apply Kd.R_drewN | apply Kd.R_drew)); exact (Kd.R_mono (Kd.R_far (p := ⟨gb593, 0, none⟩) (Kd.R_types HO589.out BK593.out (by decide)) (fun _ hk => hk.2) (.slice Ao37 t590.length co37)) (fun _ h_ => h_.1))) hb); replace HO592 := A_ (Kd.R_below (by (with_reducible repeat (first | apply Kd.R_alloc | apply Kd.R_drewN | apply Kd.R_drew)); exact (Kd.R_mono (Kd.R_far (p := ⟨gb593, 0, none⟩) (Kd.R_types HO592.out BK593.out (by decide)) (fun _ hk => hk.2) (.slice Ao37 t590.length co37)) (fun _ h_ => h_.1))) hb); replace BK593 := A_ (blk_below (g := gb593) (o := .cells #[.slice Ao37 t590.length co37] 63 (0, 0)) (by (with_reducible repeat (first | refine blk_drewN ?_ _ | refine blk_drew ?_ | refine blk_alloc ?_ _)); refine blk_put (cs := #[.slice none 0 0]) ?_ 0 _ rfl; (with_reducible repeat (first | refine blk_drewN ?_ _ | refine blk_drew ?_ | refine blk_alloc ?_ _)); exact BK593.out) hb); replace HB := A_ (below_step (hb1_ HB.out GE593.out) hb); (try clear hb); (try clear hb2); (try clear hk); (try clear hi)))
  go_ret
  exact ⟨by first | rfl | (simp [errW_none, errW_some] <;> rfl) | (simp only [← hji30, ← hji31]; first | rfl | (simp [errW_none, errW_some] <;> rfl)) | (simp [*, errW_none, errW_some] <;> rfl), hb1_ HB.out GE593.out⟩
def L03_RoundPacks.f (k : Nat) (a0 : Int) (a1_0 : Bool) (a1_1 : Int) (a1_2 : Int) (a1_3 : Int) (a1_4 : Bool) : Option (Bool) := (L03_awake.f).bind fun t727 => (if t727 = true then ((round_Pack.f a0 a1_0 a1_1 a1_2 a1_3 a1_4).bind fun t728 => ((r2_Known.f a0).bind fun t729 => (if t729 = true then ((r3_Pack.f k a0 a1_0 a1_1 a1_2 a1_3 a1_4).bind fun t730 => (some (t728 == t730))) else (some (t728 == 0))))) else (some false))
theorem L03_RoundPacks.mono : ∀ a0 a1 a2 a3 a4 a5 k, LeO (L03_RoundPacks.f k a0 a1 a2 a3 a4 a5) (L03_RoundPacks.f (k + 1) a0 a1 a2 a3 a4 a5) := by
 intro a0 a1 a2 a3 a4 a5 k
 unfold L03_RoundPacks.f
 repeat' first
   | (with_reducible exact r3_Pack.mono _ _ _ _ _ _ _)
   | (with_reducible exact LeO.refl _)
   | (with_reducible exact LeO.none _)
   | (with_reducible refine LeO.ite ?_ ?_)
   | (with_reducible refine LeO.bind ?_ (fun _ => ?_))
   | exact r3_Pack.mono _ _ _ _ _ _ _
   | exact LeO.none _
   | refine LeO.ite ?_ ?_
   | refine LeO.bind ?_ (fun _ => ?_)
theorem L03_RoundPacks.calls (k : Nat) (a0 : Int) (a1_0 : Bool) (a1_1 : Int) (a1_2 : Int) (a1_3 : Int) (a1_4 : Bool) (r : Bool) (w : World) (h : L03_RoundPacks.f k a0 a1_0 a1_1 a1_2 a1_3 a1_4 = some r) (hr_ : Aside0 (r = true)) :
  Calls Try.prog 8 #[.int .i64 a0, .agg #[.bool a1_0, .int .u64 a1_1, .int .u64 a1_2, .int .i64 a1_3, .bool a1_4]] w fun e w' => e = .returned (.bool r) ∧ Below w.heap.size w w' := by
 have hu44 := Try.underlying44
 have hu42 := Try.underlying42
 have HB := A_ (Below.refl w.heap.size w)
 have H : ((L03_awake.f).bind fun t727 => (if t727 = true then ((round_Pack.f a0 a1_0 a1_1 a1_2 a1_3 a1_4).bind fun t728 => ((r2_Known.f a0).bind fun t729 => (if t729 = true then ((r3_Pack.f k a0 a1_0 a1_1 a1_2 a1_3 a1_4).bind fun t730 => (some (t728 == t730))) else (some (t728 == 0))))) else (some false))) = some r := h
 clear h
 replace H := ob_ H
 obtain ⟨t727, A30, H⟩ := H
 replace H : (if t727 = true then ((round_Pack.f a0 a1_0 a1_1 a1_2 a1_3 a1_4).bind fun t728 => ((r2_Known.f a0).bind fun t729 => (if t729 = true then ((r3_Pack.f k a0 a1_0 a1_1 a1_2 a1_3 a1_4).bind fun t730 => (some (t728 == t730))) else (some (t728 == 0))))) else (some false)) = some r := H
 have A3 := A_ A30;clear A30
 by_cases c4 : t727 = true
 ·subst c4
  have H1 : ((round_Pack.f a0 a1_0 a1_1 a1_2 a1_3 a1_4).bind fun t728 => ((r2_Known.f a0).bind fun t729 => (if t729 = true then ((r3_Pack.f k a0 a1_0 a1_1 a1_2 a1_3 a1_4).bind fun t730 => (some (t728 == t730))) else (some (t728 == 0))))) = some r := by rw [if_pos rfl] at H; exact H
  clear H;have H := H1;clear H1
  replace H := ob_ H
  obtain ⟨t728, A50, H⟩ := H
  replace H : ((r2_Known.f a0).bind fun t729 => (if t729 = true then ((r3_Pack.f k a0 a1_0 a1_1 a1_2 a1_3 a1_4).bind fun t730 => (some (t728 == t730))) else (some (t728 == 0)))) = some r := H
  have A5 := A_ A50;clear A50
  replace H := ob_ H
  obtain ⟨t729, A60, H⟩ := H
  replace H : (if t729 = true then ((r3_Pack.f k a0 a1_0 a1_1 a1_2 a1_3 a1_4).bind fun t730 => (some (t728 == t730))) else (some (t728 == 0))) = some r := H
  have A6 := A_ A60;clear A60
  by_cases c7 : t729 = true
  ·subst c7
   have H1 : ((r3_Pack.f k a0 a1_0 a1_1 a1_2 a1_3 a1_4).bind fun t730 => (some (t728 == t730))) = some r := by rw [if_pos rfl] at H; exact H
   clear H;have H := H1;clear H1
   replace H := ob_ H
   obtain ⟨t730, A80, H⟩ := H
   replace H : (some (t728 == t730)) = some r := H
   have A8 := A_ A80;clear A80
   obtain rfl := Option.some.inj H
   go_enter Try.func8, Try.ntmps8
   go_wp2_with (first | ((with_reducible refine gate_dst (N := 3) rfl ?_); refine be_ 3 #[.bool a1_0, .int .u64 a1_1, .int .u64 a1_2, .int .i64 a1_3, .bool a1_4] 44 ?_; intro gb726 hg w9 hbox hb; have BK726 := A_ (hbox); have GW726 := A_ (sz_ hg (hb_ HB.out)); have GE726 := A_ (sz_ hg (hb_ HB.out)); replace HB := A_ (below_step (hb_ HB.out) hb); clear hb hbox hg) | ((with_reducible refine gate_callee (f := 35) rfl ?_); refine gl_ (some 6) Try.func35 #[] ?_; (with_reducible refine (L03_awake.calls  true _ A3.out).mono ?_); rintro e w10 ⟨rfl, hb⟩; refine ⟨_, rfl, ?_⟩; replace BK726 := A_ (bb_ BK726.out hb); replace HB := A_ (below_step (hb1_ HB.out GE726.out) hb); (try clear hb); (try clear hb2); (try clear hk); (try clear hi); have hcz11_0 := bv_ BK726.out 0; have hcz11_1 := bv_ BK726.out 1; have hcz11_2 := bv_ BK726.out 2; have hcz11_3 := bv_ BK726.out 3; have hcz11_4 := bv_ BK726.out 4; have hfz11_0 := blk_frozen BK726.out 0; have hfz11_1 := blk_frozen BK726.out 1; have hfz11_2 := blk_frozen BK726.out 2; have hfz11_3 := blk_frozen BK726.out 3; have hfz11_4 := blk_frozen BK726.out 4) | ((with_reducible refine gate_callee (f := 36) rfl ?_); refine gl_ (some 17) Try.func36 #[.int .i64 a0, .bool a1_0, .agg #[.int .u64 a1_1, .int .u64 a1_2], .int .i64 a1_3, .bool a1_4] ?_; (with_reducible refine (round_Pack.calls a0 a1_0 a1_1 a1_2 a1_3 a1_4 t728 _ A5.out).mono ?_); rintro e w12 ⟨rfl, hb⟩; refine ⟨_, rfl, ?_⟩; replace BK726 := A_ (bb_ BK726.out hb); replace HB := A_ (below_step (hb1_ HB.out GE726.out) hb); (try clear hb); (try clear hb2); (try clear hk); (try clear hi)) | ((with_reducible refine gate_callee (f := 16) rfl ?_); refine gl_ (some 19) Try.func16 #[.int .i64 a0] ?_; (with_reducible refine (r2_Known.calls a0 true _ A6.out).mono ?_); rintro e w' ⟨rfl, ⟨nd, rfl⟩⟩; refine ⟨_, rfl, ?_⟩; have hcz13_0 := bv_ BK726.out 0; have hcz13_1 := bv_ BK726.out 1; have hcz13_2 := bv_ BK726.out 2; have hcz13_3 := bv_ BK726.out 3; have hcz13_4 := bv_ BK726.out 4; have hfz13_0 := blk_frozen BK726.out 0; have hfz13_1 := blk_frozen BK726.out 1; have hfz13_2 := blk_frozen BK726.out 2; have hfz13_3 := blk_frozen BK726.out 3; have hfz13_4 := blk_frozen BK726.out 4) | ((with_reducible refine gate_callee (f := 37) rfl ?_); refine gl_ (some 37) Try.func37 #[.int .i64 a0, .bool a1_0, .int .u64 a1_1, .int .u64 a1_2, .int .i64 a1_3, .bool a1_4] ?_; (with_reducible refine (r3_Pack.calls k a0 a1_0 a1_1 a1_2 a1_3 a1_4 t730 _ A8.out).mono ?_); rintro e w14 ⟨rfl, hb⟩; refine ⟨_, rfl, ?_⟩; replace BK726 := A_ (bb_ BK726.out hb); replace HB := A_ (below_step (hb1_ HB.out GE726.out) hb); (try clear hb); (try clear hb2); (try clear hk); (try clear hi)))
   go_ret
   exact ⟨er_, hb1_ HB.out GE726.out⟩
  ·replace c7 := Bool.eq_false_iff.mpr c7
   subst c7
   have H1 : (some (t728 == 0)) = some r := by rw [if_neg (show ¬ (false = true) by decide)] at H; exact H
   clear H;have H := H1;clear H1
   obtain rfl := Option.some.inj H
   go_enter Try.func8, Try.ntmps8
   go_wp2_with (first | ((with_reducible refine gate_dst (N := 3) rfl ?_); refine be_ 3 #[.bool a1_0, .int .u64 a1_1, .int .u64 a1_2, .int .i64 a1_3, .bool a1_4] 44 ?_; intro gb726 hg w15 hbox hb; have BK726 := A_ (hbox); have GW726 := A_ (sz_ hg (hb_ HB.out)); have GE726 := A_ (sz_ hg (hb_ HB.out)); replace HB := A_ (below_step (hb_ HB.out) hb); clear hb hbox hg) | ((with_reducible refine gate_callee (f := 35) rfl ?_); refine gl_ (some 6) Try.func35 #[] ?_; (with_reducible refine (L03_awake.calls  true _ A3.out).mono ?_); rintro e w16 ⟨rfl, hb⟩; refine ⟨_, rfl, ?_⟩; replace BK726 := A_ (bb_ BK726.out hb); replace HB := A_ (below_step (hb1_ HB.out GE726.out) hb); (try clear hb); (try clear hb2); (try clear hk); (try clear hi); have hcz17_0 := bv_ BK726.out 0; have hcz17_1 := bv_ BK726.out 1; have hcz17_2 := bv_ BK726.out 2; have hcz17_3 := bv_ BK726.out 3; have hcz17_4 := bv_ BK726.out 4; have hfz17_0 := blk_frozen BK726.out 0; have hfz17_1 := blk_frozen BK726.out 1; have hfz17_2 := blk_frozen BK726.out 2; have hfz17_3 := blk_frozen BK726.out 3; have hfz17_4 := blk_frozen BK726.out 4) | ((with_reducible refine gate_callee (f := 36) rfl ?_); refine gl_ (some 17) Try.func36 #[.int .i64 a0, .bool a1_0, .agg #[.int .u64 a1_1, .int .u64 a1_2], .int .i64 a1_3, .bool a1_4] ?_; (with_reducible refine (round_Pack.calls a0 a1_0 a1_1 a1_2 a1_3 a1_4 t728 _ A5.out).mono ?_); rintro e w18 ⟨rfl, hb⟩; refine ⟨_, rfl, ?_⟩; replace BK726 := A_ (bb_ BK726.out hb); replace HB := A_ (below_step (hb1_ HB.out GE726.out) hb); (try clear hb); (try clear hb2); (try clear hk); (try clear hi)) | ((with_reducible refine gate_callee (f := 16) rfl ?_); refine gl_ (some 19) Try.func16 #[.int .i64 a0] ?_; (with_reducible refine (r2_Known.calls a0 false _ A6.out).mono ?_); rintro e w' ⟨rfl, ⟨nd, rfl⟩⟩; refine ⟨_, rfl, ?_⟩))
   go_ret
   exact ⟨er_, hb1_ HB.out GE726.out⟩
 ·replace c4 := Bool.eq_false_iff.mpr c4
  subst c4
  have H1 : (some false) = some r := by rw [if_neg (show ¬ (false = true) by decide)] at H; exact H
  clear H;have H := H1;clear H1
  exact absurd ((Option.some.inj H).trans hr_.out) (by decide)
def L03_RoundPacks.Pure : Prop := ∀ (a0 : Int) (a1_0 : Bool) (a1_1 : Int) (a1_2 : Int) (a1_3 : Int) (a1_4 : Bool), (Lit.int .i64 a0).wf = true → (Lit.int .u64 a1_1).wf = true → (Lit.int .u64 a1_2).wf = true → (Lit.int .i64 a1_3).wf = true → ∃ k, L03_RoundPacks.f k a0 a1_0 a1_1 a1_2 a1_3 a1_4 = some true
theorem L03_RoundPacks.walk (P : L03_RoundPacks.Pure) (a0 : Int) (a1_0 : Bool) (a1_1 : Int) (a1_2 : Int) (a1_3 : Int) (a1_4 : Bool) (w : World) (w0 : (Lit.int .i64 a0).wf = true) (wh : (Lit.int .u64 a1_1).wf = true) (wl : (Lit.int .u64 a1_2).wf = true) (we : (Lit.int .i64 a1_3).wf = true) :
  Calls Try.prog 8 #[.int .i64 a0, .agg #[.bool a1_0, .int .u64 a1_1, .int .u64 a1_2, .int .i64 a1_3, .bool a1_4]] w fun e w' => e = .returned (.bool true) ∧ Below w.heap.size w w' := by
 obtain ⟨k, h⟩ := P a0 a1_0 a1_1 a1_2 a1_3 a1_4 w0 wh wl we
 refine (L03_RoundPacks.calls k a0 a1_0 a1_1 a1_2 a1_3 a1_4 true w h ⟨rfl⟩).mono ?_
 rintro e w' ⟨rfl, hd⟩
 exact ⟨rfl, hd⟩
end Go.Proofs.Ytbpmnmceajmmcaa.PA
section
set_option linter.unusedVariables false
set_option linter.unusedSimpArgs false
namespace Go.Proofs.Ytbpmnmceajmmcaa.Th
open Go.RowKit Go.Proofs.YtbpmnmceajmmcaaW.PrintWords Go.Proofs.YtbpmnmceajmmcaaW.PrintLast Go.Proofs.YtbpmnmceajmmcaaW.PrintMore Go.Proofs.Ytbpmnmceajmmcaa.PA Bit Flo
theorem two_i {n : Int} (m : Nat) (h : n = m) (hm : m < 64) : Ev (fun k => r2_Two.f k n) ((2 ^ m : Nat) : Int) := by subst h; exact two_f m hm

theorem r2E32 : r2_E.f 32 = some 8 := by decide +kernel
theorem r2F32 : r2_F.f 32 = some 23 := by decide +kernel
theorem r2Tf32 : Ev (fun k => r2_Two.f k 23) ((8388608 : Nat) : Int) := by have h := two_i (n := 23) 23 rfl (by decide); rw [show (2 : Nat) ^ 23 = 8388608 by decide] at h; exact h
theorem r2Te32 : Ev (fun k => r2_Two.f k 8) ((256 : Nat) : Int) := by have h := two_i (n := 8) 8 rfl (by decide); rw [show (2 : Nat) ^ 8 = 256 by decide] at h; exact h
theorem r2Ts32 : Ev (fun k => r2_Two.f k (wrap64 (32 - 1))) ((2147483648 : Nat) : Int) := by have h := two_i (n := wrap64 (32 - 1)) 31 (by decide +kernel) (by decide); rw [show (2 : Nat) ^ 31 = 2147483648 by decide] at h; exact h
theorem r2Top32 : Ev (fun k => r2_Top.f k 32) ((255 : Nat) : Int) := by
  unfold r2_Top.f
  exact Ev.bs r2E32 (Ev.bind r2Te32 (Ev.out (by decide +kernel)))
theorem r2Make32 (s : Bool) (e fr : Nat) (he : e ≤ 255) (hf : fr < 8388608) : Ev (fun k => r2_Make.f k 32 s e fr) ((mkN 32 (e * 8388608 + fr) s : Nat) : Int) := by
  unfold r2_Make.f
  refine Ev.bs r2F32 (Ev.bind r2Tf32 ?_)
  rw [u64_id (n := (e : Int)) (by omega) (by omega), u64_id (n := (e : Int) * ((8388608 : Nat) : Int)) (by omega) (by omega), u64_id (n := (e : Int) * ((8388608 : Nat) : Int) + fr) (by omega) (by omega)]
  unfold mkN
  rw [show sb 32 = 2147483648 by decide]
  cases s
  · exact Ev.neg (by decide) (Ev.out (by simp))
  · refine Ev.pos rfl (Ev.bind r2Ts32 (Ev.out ?_))
    rw [u64_id (by omega) (by omega)]; simp only [if_true]; omega
theorem r2Inf32 (s : Bool) : Ev (fun k => r2_Inf.f k 32 s) ((mkN 32 f32.inf s : Nat) : Int) := by
  unfold r2_Inf.f
  have h := r2Make32 s 255 0 (by decide) (by decide)
  exact Ev.bind r2Top32 (Ev.bind h (Ev.out (by rw [inf32])))
theorem r2E64 : r2_E.f 64 = some 11 := by decide +kernel
theorem r2F64 : r2_F.f 64 = some 52 := by decide +kernel
theorem r2Tf64 : Ev (fun k => r2_Two.f k 52) ((4503599627370496 : Nat) : Int) := by have h := two_i (n := 52) 52 rfl (by decide); rw [show (2 : Nat) ^ 52 = 4503599627370496 by decide] at h; exact h
theorem r2Te64 : Ev (fun k => r2_Two.f k 11) ((2048 : Nat) : Int) := by have h := two_i (n := 11) 11 rfl (by decide); rw [show (2 : Nat) ^ 11 = 2048 by decide] at h; exact h
theorem r2Ts64 : Ev (fun k => r2_Two.f k (wrap64 (64 - 1))) ((9223372036854775808 : Nat) : Int) := by have h := two_i (n := wrap64 (64 - 1)) 63 (by decide +kernel) (by decide); rw [show (2 : Nat) ^ 63 = 9223372036854775808 by decide] at h; exact h
theorem r2Top64 : Ev (fun k => r2_Top.f k 64) ((2047 : Nat) : Int) := by
  unfold r2_Top.f
  exact Ev.bs r2E64 (Ev.bind r2Te64 (Ev.out (by decide +kernel)))
theorem r2Make64 (s : Bool) (e fr : Nat) (he : e ≤ 2047) (hf : fr < 4503599627370496) : Ev (fun k => r2_Make.f k 64 s e fr) ((mkN 64 (e * 4503599627370496 + fr) s : Nat) : Int) := by
  unfold r2_Make.f
  refine Ev.bs r2F64 (Ev.bind r2Tf64 ?_)
  rw [u64_id (n := (e : Int)) (by omega) (by omega), u64_id (n := (e : Int) * ((4503599627370496 : Nat) : Int)) (by omega) (by omega), u64_id (n := (e : Int) * ((4503599627370496 : Nat) : Int) + fr) (by omega) (by omega)]
  unfold mkN
  rw [show sb 64 = 9223372036854775808 by decide]
  cases s
  · exact Ev.neg (by decide) (Ev.out (by simp))
  · refine Ev.pos rfl (Ev.bind r2Ts64 (Ev.out ?_))
    rw [u64_id (by omega) (by omega)]; simp only [if_true]; omega
theorem r2Inf64 (s : Bool) : Ev (fun k => r2_Inf.f k 64 s) ((mkN 64 f64.inf s : Nat) : Int) := by
  unfold r2_Inf.f
  have h := r2Make64 s 2047 0 (by decide) (by decide)
  exact Ev.bind r2Top64 (Ev.bind h (Ev.out (by rw [inf64])))
def nn (w : Int) (a : Nat) : Bool := (opn w a).2.1 == 3
end Go.Proofs.Ytbpmnmceajmmcaa.Th
end
section
set_option linter.unusedVariables false
set_option linter.unusedSimpArgs false
namespace Go.Proofs.Ytbpmnmceajmmcaa.Th
open Flo
theorem fmt_bd (w : Int) : (fmt w).f < 100 ∧ (-5000 < (fmt w).low ∧ (fmt w).low < 0) ∧ (fmt w).top < 5000 := by
  unfold fmt; split <;> decide
theorem fmt_f (w : Int) : (fmt w).f ≤ 52 := by unfold fmt; split <;> decide
end Go.Proofs.Ytbpmnmceajmmcaa.Th
end
section
set_option linter.unusedVariables false
set_option linter.unusedSimpArgs false
namespace Go.Proofs.Ytbpmnmceajmmcaa.Th
open Go.RowKit Go.Proofs.YtbpmnmceajmmcaaW.PrintWords Go.Proofs.YtbpmnmceajmmcaaW.PrintLast Go.Proofs.YtbpmnmceajmmcaaW.PrintMore Go.Proofs.Ytbpmnmceajmmcaa.PA Dig

theorem one_dg : Ev (fun k => r1_Of.f k 1) (dg 1) := of_dg 1 (by decide)
theorem cmp_nonneg (m n : Nat) : cmpN m n ≥ 0 ↔ n ≤ m := by unfold cmpN; split <;> (try split) <;> omega
theorem div_loop (A n : Nat) (hn0 : 0 < n) (hA : bl A < 100000000) (hn : bl n < 100000000) (s : Nat) : ∀ (q m : Nat), s < 100000000 → q * n + m = A → m < n * 2 ^ s →
    Ev (fun k => r1_Div.l0 k ((s : Int) - 1) (dg n) (dg q) (dg m)) (dg (A / n), dg (A % n)) := by
  induction s with
  | zero =>
    intro q m _ he hm
    refine Ev.step (fun _ => r1_Div.l0.eq_2 ..) ?_
    refine Ev.neg (by omega) (Ev.out ?_)
    rw [Nat.pow_zero, Nat.mul_one] at hm
    have h1 : A / n = q := by rw [← he, Nat.mul_comm, Nat.mul_add_div hn0, Nat.div_eq_of_lt hm, Nat.add_zero]
    have h2 : A % n = m := by rw [← he, Nat.mul_comm, Nat.mul_add_mod, Nat.mod_eq_of_lt hm]
    rw [h1, h2]
  | succ s ih =>
    intro q m hs he hm
    have e1 : (((s + 1 : Nat) : Int) - 1) = ((s : Nat) : Int) := by omega
    rw [e1]
    have hm2 : m ≤ A := by omega
    have hq2 : q ≤ A := Nat.le_trans (Nat.le_mul_of_pos_right q hn0) (by omega)
    have b1 := bl_mono hm2
    have b2 := bl_mono hq2
    have b3 := bl_shl n s
    have hw : wrap64 ((s : Int) - 1) = (s : Int) - 1 := w64_id (by omega) (by omega)
    refine Ev.step (fun _ => r1_Div.l0.eq_2 ..) ?_
    rw [hw]
    refine Ev.pos (by omega) (Ev.bind (shl_bl n s (by omega) (by omega)) (Ev.bind (cmp_bl m (n * 2 ^ s) (by omega) (by omega)) ?_))
    by_cases h : n * 2 ^ s ≤ m
    · refine Ev.pos ((cmp_nonneg _ _).2 h) (Ev.bind (sub_bl m (n * 2 ^ s) h (by omega)) (Ev.bind one_dg (Ev.bind (shl_bl 1 s (by omega) (by decide)) ?_)))
      have h3 : 2 ^ s ≤ A := Nat.le_trans (Nat.le_mul_of_pos_left _ hn0) (Nat.le_trans h hm2)
      have b4 := bl_mono h3
      rw [Nat.one_mul]
      refine Ev.bind (add_bl q (2 ^ s) (by omega) (by omega)) (ih (q + 2 ^ s) (m - n * 2 ^ s) (by omega) ?_ ?_)
      · rw [Nat.add_mul, Nat.mul_comm (2 ^ s) n]; omega
      · rw [Nat.pow_succ, ← Nat.mul_assoc] at hm; omega
    · exact Ev.neg (fun h' => h ((cmp_nonneg _ _).1 h')) (ih q m (by omega) he (by omega))
theorem div_dg (a b : Nat) (hb : 0 < b) (ha1 : bl a < 100000000) (hb1 : bl b < 100000000) : Ev (fun k => r1_Div.f k (dg a) (dg b)) (dg (a / b), dg (a % b)) := by
  unfold r1_Div.f
  refine Ev.bind (len_dg a (by omega)) (Ev.bind (len_dg b (by omega)) ?_)
  rw [w64_id (by omega) (by omega)]
  by_cases h : bl b ≤ bl a
  · rw [show ((bl a : Nat) : Int) - ((bl b : Nat) : Int) = (((bl a - bl b + 1 : Nat) : Int) - 1) by omega, ← dg_zero]
    have h4 := bl_pos.2 hb
    refine div_loop a b hb ha1 hb1 (bl a - bl b + 1) 0 a (by omega) (by simp) ?_
    have h1 := lt_two_bl a
    have h2 := two_bl_le hb
    have h3 : 2 ^ (bl b - 1) * 2 ^ (bl a - bl b + 1) ≤ b * 2 ^ (bl a - bl b + 1) := Nat.mul_le_mul_right _ h2
    rw [← Nat.pow_add, show bl b - 1 + (bl a - bl b + 1) = bl a by omega] at h3
    omega
  · refine Ev.step (fun _ => r1_Div.l0.eq_2 ..) ?_
    have h1 : a < b := by
      rcases Nat.lt_or_ge a b with h1 | h1
      · exact h1
      · exact absurd (bl_mono h1) h
    refine Ev.neg (by omega) (Ev.out ?_)
    rw [Nat.div_eq_of_lt h1, Nat.mod_eq_of_lt h1, dg_zero]
theorem dg_len_pos (n : Nat) : decide (((dg n).length : Int) > 0) = decide (0 < n) := by
  have := len_pos (n := n)
  by_cases h : 0 < n
  · rw [decide_eq_true h, decide_eq_true (by omega)]
  · rw [decide_eq_false h, decide_eq_false (by omega)]
theorem half_dg (a n : Nat) (ha : bl a < 100000000) (hn : n < 90000000) : Ev (fun k => r1_Half.f k (dg a) n) (dg (a / 2 ^ n), decide (0 < a % 2 ^ n)) := by
  unfold r1_Half.f
  have h1 := bl_two n
  refine Ev.bind one_dg (Ev.bind (shl_bl 1 n (by omega) (by decide)) ?_)
  rw [Nat.one_mul]
  refine Ev.bind (div_dg a (2 ^ n) (Nat.pow_pos (by decide)) ha (by omega)) (Ev.out ?_)
  rw [dg_len_pos]
end Go.Proofs.Ytbpmnmceajmmcaa.Th
end
