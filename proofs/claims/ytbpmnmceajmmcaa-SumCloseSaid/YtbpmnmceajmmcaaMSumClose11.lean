/- What the Go functions that the statement SumClose reaches compute, and the mathematics on it, in the order in which one leans on the other; for every input. -/
import Derived.Test.YtbpmnmceajmmcaaVSumClose0
import Derived.Test.YtbpmnmceajmmcaaMSumClose0
import Derived.Test.YtbpmnmceajmmcaaMSumClose9
import Derived.Test.YtbpmnmceajmmcaaMSumClose5
import Derived.Test.YtbpmnmceajmmcaaMSumClose4
import Derived.Test.YtbpmnmceajmmcaaMSumClose8
import Derived.Test.YtbpmnmceajmmcaaMSumClose3
import Derived.Test.YtbpmnmceajmmcaaMSumClose10
import Derived.Deep.RegionHeld3
import Derived.Test.YtbpmnmceajmmcaaMSumClose1
namespace Go.Proofs.Ytbpmnmceajmmcaa.PA
open Go.RowKit Go.Proofs.YtbpmnmceajmmcaaW.PrintWords Go.Proofs.YtbpmnmceajmmcaaW.PrintLast Go.Proofs.YtbpmnmceajmmcaaW.PrintMore
attribute [local go_sem] max2_int min2_int max_two min_two max_three min_three max_four min_four   -- for this text's walks alone
set_option linter.unusedVariables false
set_option linter.unusedSimpArgs false
set_option maxHeartbeats 8000000
set_option maxRecDepth 100000
mutual
def r3_Near.j0 : Nat → Int → Bool → Int → Int → Int → Bool → List Int → List Int → Option (Int)
 | 0, _, _, _, _, _, _, _, _ => none
 | k + 1, x0, x1, x4, x11, x13, x44, x503000, x504000 => if x44 = true then (r3_Near.j1 k x0 x1 x4 x11 (wrap64 (x13 - 1)) x503000 x504000) else (r3_Near.j1 k x0 x1 x4 x11 x13 x503000 x504000)
def r3_Near.j1 : Nat → Int → Bool → Int → Int → Int → List Int → List Int → Option (Int)
 | 0, _, _, _, _, _, _, _ => none
 | k + 1, x0, x1, x4, x11, x13, x503000, x504000 => (r3_grain.f k x503000 x504000 (wrap64 (x4 - x13))).bind fun t510 => ((r1_Len.f k t510).bind fun t514 => (if t514 > (wrap64 (x11 + 1)) then ((r1_Half.f k t510 1).bind fun bt515 => (r3_Near.j2 k x0 x1 x11 (wrap64 (x13 + 1)) bt515.1)) else (r3_Near.j2 k x0 x1 x11 x13 t510)))
def r3_Near.j2 : Nat → Int → Bool → Int → Int → List Int → Option (Int)
 | 0, _, _, _, _, _ => none
 | k + 1, x0, x1, x11, x13, x514000 => (r3_Low.f x0).bind fun t519 => ((r2_Top.f k x0).bind fun t520 => (if x13 > (wrap64 ((wrap64 (t519 + t520)) - 2)) then ((r2_Inf.f k x0 x1).bind fun t521 => (some t521)) else ((r1_Uint.f x514000).bind fun t522 => ((r2_Two.f k x11).bind fun t523 => (if t522 < t523 then ((r2_Make.f k x0 x1 0 t522).bind fun t524 => (some t524)) else ((r3_Low.f x0).bind fun t525 => ((r2_Two.f k x11).bind fun t526 => ((r2_Make.f k x0 x1 (wrap64 ((wrap64 (x13 - t525)) + 1)) (IntKind.u64.wrap (t522 - t526))).bind fun t527 => (some t527)))))))))
end
def r3_Near.f (k : Nat) (a0 : Int) (a1 : Bool) (l2_0 : List Int) (l3_0 : List Int) (a4 : Int) : Option (Int) := (r2_F.f a0).bind fun t504 => ((r1_Len.f k l2_0).bind fun t505 => ((r1_Len.f k l3_0).bind fun t506 => ((r3_Low.f a0).bind fun t507 => ((r3_Low.f a0).bind fun t508 => (if (mx (wrap64 ((wrap64 ((wrap64 (t505 - t506)) + a4)) - t504)) t507) > t508 then ((r3_under.f k l2_0 l3_0 (wrap64 ((wrap64 (a4 - (mx (wrap64 ((wrap64 ((wrap64 (t505 - t506)) + a4)) - t504)) t507))) - t504))).bind fun t509 => (r3_Near.j0 k a0 a1 a4 t504 (mx (wrap64 ((wrap64 ((wrap64 (t505 - t506)) + a4)) - t504)) t507) t509 l2_0 l3_0)) else (r3_Near.j0 k a0 a1 a4 t504 (mx (wrap64 ((wrap64 ((wrap64 (t505 - t506)) + a4)) - t504)) t507) false l2_0 l3_0))))))
theorem r3_Near.mono_l : ∀ k, (∀ y0 y1 y2 y3 y4 y5 y6 y7, LeO (r3_Near.j0 k y0 y1 y2 y3 y4 y5 y6 y7) (r3_Near.j0 (k + 1) y0 y1 y2 y3 y4 y5 y6 y7)) ∧ (∀ y0 y1 y2 y3 y4 y5 y6, LeO (r3_Near.j1 k y0 y1 y2 y3 y4 y5 y6) (r3_Near.j1 (k + 1) y0 y1 y2 y3 y4 y5 y6)) ∧ (∀ y0 y1 y2 y3 y4, LeO (r3_Near.j2 k y0 y1 y2 y3 y4) (r3_Near.j2 (k + 1) y0 y1 y2 y3 y4))
 | 0 => ⟨fun _ _ _ _ _ _ _ _ r h => by simp [r3_Near.j0] at h, fun _ _ _ _ _ _ _ r h => by simp [r3_Near.j1] at h, fun _ _ _ _ _ r h => by simp [r3_Near.j2] at h⟩
 | k + 1 => by
  obtain ⟨ih0, ih1, ih2⟩ := r3_Near.mono_l k
  refine ⟨?_, ?_, ?_⟩
  ·intro y0 y1 y2 y3 y4 y5 y6 y7
   unfold r3_Near.j0
   repeat' first
   | (with_reducible exact ih0 _ _ _ _ _ _ _ _)
   | (with_reducible exact ih1 _ _ _ _ _ _ _)
   | (with_reducible exact ih2 _ _ _ _ _)
   | (with_reducible exact r1_Half.mono _ _ _)
   | (with_reducible exact r1_Len.mono _ _)
   | (with_reducible exact r2_Inf.mono _ _ _)
   | (with_reducible exact r2_Make.mono _ _ _ _ _)
   | (with_reducible exact r2_Top.mono _ _)
   | (with_reducible exact r2_Two.mono _ _)
   | (with_reducible exact r3_grain.mono _ _ _ _)
   | (with_reducible exact r3_under.mono _ _ _ _)
   | (with_reducible exact LeO.refl _)
   | (with_reducible exact LeO.none _)
   | (with_reducible refine LeO.ite ?_ ?_)
   | (with_reducible refine LeO.bind ?_ (fun _ => ?_))
   | exact ih0 _ _ _ _ _ _ _ _
   | exact ih1 _ _ _ _ _ _ _
   | exact ih2 _ _ _ _ _
   | exact r1_Half.mono _ _ _
   | exact r1_Len.mono _ _
   | exact r2_Inf.mono _ _ _
   | exact r2_Make.mono _ _ _ _ _
   | exact r2_Top.mono _ _
   | exact r2_Two.mono _ _
   | exact r3_grain.mono _ _ _ _
   | exact r3_under.mono _ _ _ _
   | exact LeO.none _
   | refine LeO.ite ?_ ?_
   | refine LeO.bind ?_ (fun _ => ?_)
  ·intro y0 y1 y2 y3 y4 y5 y6
   unfold r3_Near.j1
   repeat' first
   | (with_reducible exact ih0 _ _ _ _ _ _ _ _)
   | (with_reducible exact ih1 _ _ _ _ _ _ _)
   | (with_reducible exact ih2 _ _ _ _ _)
   | (with_reducible exact r1_Half.mono _ _ _)
   | (with_reducible exact r1_Len.mono _ _)
   | (with_reducible exact r2_Inf.mono _ _ _)
   | (with_reducible exact r2_Make.mono _ _ _ _ _)
   | (with_reducible exact r2_Top.mono _ _)
   | (with_reducible exact r2_Two.mono _ _)
   | (with_reducible exact r3_grain.mono _ _ _ _)
   | (with_reducible exact r3_under.mono _ _ _ _)
   | (with_reducible exact LeO.refl _)
   | (with_reducible exact LeO.none _)
   | (with_reducible refine LeO.ite ?_ ?_)
   | (with_reducible refine LeO.bind ?_ (fun _ => ?_))
   | exact ih0 _ _ _ _ _ _ _ _
   | exact ih1 _ _ _ _ _ _ _
   | exact ih2 _ _ _ _ _
   | exact r1_Half.mono _ _ _
   | exact r1_Len.mono _ _
   | exact r2_Inf.mono _ _ _
   | exact r2_Make.mono _ _ _ _ _
   | exact r2_Top.mono _ _
   | exact r2_Two.mono _ _
   | exact r3_grain.mono _ _ _ _
   | exact r3_under.mono _ _ _ _
   | exact LeO.none _
   | refine LeO.ite ?_ ?_
   | refine LeO.bind ?_ (fun _ => ?_)
  ·intro y0 y1 y2 y3 y4
   unfold r3_Near.j2
   repeat' first
   | (with_reducible exact ih0 _ _ _ _ _ _ _ _)
   | (with_reducible exact ih1 _ _ _ _ _ _ _)
   | (with_reducible exact ih2 _ _ _ _ _)
   | (with_reducible exact r1_Half.mono _ _ _)
   | (with_reducible exact r1_Len.mono _ _)
   | (with_reducible exact r2_Inf.mono _ _ _)
   | (with_reducible exact r2_Make.mono _ _ _ _ _)
   | (with_reducible exact r2_Top.mono _ _)
   | (with_reducible exact r2_Two.mono _ _)
   | (with_reducible exact r3_grain.mono _ _ _ _)
   | (with_reducible exact r3_under.mono _ _ _ _)
   | (with_reducible exact LeO.refl _)
   | (with_reducible exact LeO.none _)
   | (with_reducible refine LeO.ite ?_ ?_)
   | (with_reducible refine LeO.bind ?_ (fun _ => ?_))
   | exact ih0 _ _ _ _ _ _ _ _
   | exact ih1 _ _ _ _ _ _ _
   | exact ih2 _ _ _ _ _
   | exact r1_Half.mono _ _ _
   | exact r1_Len.mono _ _
   | exact r2_Inf.mono _ _ _
   | exact r2_Make.mono _ _ _ _ _
   | exact r2_Top.mono _ _
   | exact r2_Two.mono _ _
   | exact r3_grain.mono _ _ _ _
   | exact r3_under.mono _ _ _ _
   | exact LeO.none _
   | refine LeO.ite ?_ ?_
   | refine LeO.bind ?_ (fun _ => ?_)
theorem r3_Near.mono : ∀ a0 a1 a2 a3 a4 k, LeO (r3_Near.f k a0 a1 a2 a3 a4) (r3_Near.f (k + 1) a0 a1 a2 a3 a4) := by
 intro a0 a1 a2 a3 a4 k
 obtain ⟨ih0, ih1, ih2⟩ := r3_Near.mono_l k
 unfold r3_Near.f
 repeat' first
   | (with_reducible exact ih0 _ _ _ _ _ _ _ _)
   | (with_reducible exact ih1 _ _ _ _ _ _ _)
   | (with_reducible exact ih2 _ _ _ _ _)
   | (with_reducible exact r1_Half.mono _ _ _)
   | (with_reducible exact r1_Len.mono _ _)
   | (with_reducible exact r2_Inf.mono _ _ _)
   | (with_reducible exact r2_Make.mono _ _ _ _ _)
   | (with_reducible exact r2_Top.mono _ _)
   | (with_reducible exact r2_Two.mono _ _)
   | (with_reducible exact r3_grain.mono _ _ _ _)
   | (with_reducible exact r3_under.mono _ _ _ _)
   | (with_reducible exact LeO.refl _)
   | (with_reducible exact LeO.none _)
   | (with_reducible refine LeO.ite ?_ ?_)
   | (with_reducible refine LeO.bind ?_ (fun _ => ?_))
   | exact ih0 _ _ _ _ _ _ _ _
   | exact ih1 _ _ _ _ _ _ _
   | exact ih2 _ _ _ _ _
   | exact r1_Half.mono _ _ _
   | exact r1_Len.mono _ _
   | exact r2_Inf.mono _ _ _
   | exact r2_Make.mono _ _ _ _ _
   | exact r2_Top.mono _ _
   | exact r2_Two.mono _ _
   | exact r3_grain.mono _ _ _ _
   | exact r3_under.mono _ _ _ _
   | exact LeO.none _
   | refine LeO.ite ?_ ?_
   | refine LeO.bind ?_ (fun _ => ?_)
def r3_Near.T2 : Bool × List (List Nat × List Nat) := (true, [([], []), ([0], [0]), ([], []), ([2, 1], [2]), ([1, 3], [1, 3]), ([], []), ([4, 5], [4, 5]), ([6, 3, 0, 1, 2, 3, 4, 5, 6], [6])])
def r3_Near.B2 : List Nat := [0, 1, 0, 7, 15, 0, 63, 127]
theorem r3_Near.tab2 : rtab .any (opsOf Try.f66 2) = r3_Near.T2 := by kernel_rfl
theorem r3_Near.bits2 : waitsOk r3_Near.T2.2 r3_Near.B2 = true := by kernel_rfl
theorem r3_Near.calls (k : Nat) (a0 : Int) (a1 : Bool) (A2_0 : Option Addr) (c2_0 : Nat) (l2_0 : List Int) (A3_0 : Option Addr) (c3_0 : Nat) (l3_0 : List Int) (a4 : Int) (r : Int) (w : World) (hr2_0 : Kd.C (Kd.int .u64) w A2_0 l2_0.length l2_0) (hc2_0 : l2_0.length ≤ c2_0) (hr3_0 : Kd.C (Kd.int .u64) w A3_0 l3_0.length l3_0) (hc3_0 : l3_0.length ≤ c3_0) (h : r3_Near.f k a0 a1 l2_0 l3_0 a4 = some r) :
  Calls Try.prog 66 #[.int .i64 a0, .bool a1, .agg #[.slice A2_0 l2_0.length c2_0], .agg #[.slice A3_0 l3_0.length c3_0], .int .i64 a4] w fun e w' => e = .returned (.int .u64 r) ∧ Below w.heap.size w w' := by
 have hu63 := Try.underlying63
 have HR2_0 := A_ hr2_0;have HC2_0 := A_ hc2_0;clear hr2_0 hc2_0;have HR3_0 := A_ hr3_0;have HC3_0 := A_ hc3_0;clear hr3_0 hc3_0
 have HB := A_ (Below.refl w.heap.size w)
 have H : ((r2_F.f a0).bind fun t504 => ((r1_Len.f k l2_0).bind fun t505 => ((r1_Len.f k l3_0).bind fun t506 => ((r3_Low.f a0).bind fun t507 => ((r3_Low.f a0).bind fun t508 => (if (mx (wrap64 ((wrap64 ((wrap64 (t505 - t506)) + a4)) - t504)) t507) > t508 then ((r3_under.f k l2_0 l3_0 (wrap64 ((wrap64 (a4 - (mx (wrap64 ((wrap64 ((wrap64 (t505 - t506)) + a4)) - t504)) t507))) - t504))).bind fun t509 => (r3_Near.j0 k a0 a1 a4 t504 (mx (wrap64 ((wrap64 ((wrap64 (t505 - t506)) + a4)) - t504)) t507) t509 l2_0 l3_0)) else (r3_Near.j0 k a0 a1 a4 t504 (mx (wrap64 ((wrap64 ((wrap64 (t505 - t506)) + a4)) - t504)) t507) false l2_0 l3_0))))))) = some r := h
 clear h
 replace H := ob_ H
 obtain ⟨t504, A60, H⟩ := H
 replace H : ((r1_Len.f k l2_0).bind fun t505 => ((r1_Len.f k l3_0).bind fun t506 => ((r3_Low.f a0).bind fun t507 => ((r3_Low.f a0).bind fun t508 => (if (mx (wrap64 ((wrap64 ((wrap64 (t505 - t506)) + a4)) - t504)) t507) > t508 then ((r3_under.f k l2_0 l3_0 (wrap64 ((wrap64 (a4 - (mx (wrap64 ((wrap64 ((wrap64 (t505 - t506)) + a4)) - t504)) t507))) - t504))).bind fun t509 => (r3_Near.j0 k a0 a1 a4 t504 (mx (wrap64 ((wrap64 ((wrap64 (t505 - t506)) + a4)) - t504)) t507) t509 l2_0 l3_0)) else (r3_Near.j0 k a0 a1 a4 t504 (mx (wrap64 ((wrap64 ((wrap64 (t505 - t506)) + a4)) - t504)) t507) false l2_0 l3_0)))))) = some r := H
 have A6 := A_ A60;clear A60
 replace H := ob_ H
 obtain ⟨t505, A70, H⟩ := H
 replace H : ((r1_Len.f k l3_0).bind fun t506 => ((r3_Low.f a0).bind fun t507 => ((r3_Low.f a0).bind fun t508 => (if (mx (wrap64 ((wrap64 ((wrap64 (t505 - t506)) + a4)) - t504)) t507) > t508 then ((r3_under.f k l2_0 l3_0 (wrap64 ((wrap64 (a4 - (mx (wrap64 ((wrap64 ((wrap64 (t505 - t506)) + a4)) - t504)) t507))) - t504))).bind fun t509 => (r3_Near.j0 k a0 a1 a4 t504 (mx (wrap64 ((wrap64 ((wrap64 (t505 - t506)) + a4)) - t504)) t507) t509 l2_0 l3_0)) else (r3_Near.j0 k a0 a1 a4 t504 (mx (wrap64 ((wrap64 ((wrap64 (t505 - t506)) + a4)) - t504)) t507) false l2_0 l3_0))))) = some r := H
 have A7 := A_ A70;clear A70
 replace H := ob_ H
 obtain ⟨t506, A80, H⟩ := H
 replace H : ((r3_Low.f a0).bind fun t507 => ((r3_Low.f a0).bind fun t508 => (if (mx (wrap64 ((wrap64 ((wrap64 (t505 - t506)) + a4)) - t504)) t507) > t508 then ((r3_under.f k l2_0 l3_0 (wrap64 ((wrap64 (a4 - (mx (wrap64 ((wrap64 ((wrap64 (t505 - t506)) + a4)) - t504)) t507))) - t504))).bind fun t509 => (r3_Near.j0 k a0 a1 a4 t504 (mx (wrap64 ((wrap64 ((wrap64 (t505 - t506)) + a4)) - t504)) t507) t509 l2_0 l3_0)) else (r3_Near.j0 k a0 a1 a4 t504 (mx (wrap64 ((wrap64 ((wrap64 (t505 - t506)) + a4)) - t504)) t507) false l2_0 l3_0)))) = some r := H
 have A8 := A_ A80;clear A80
 replace H := ob_ H
 obtain ⟨t507, A90, H⟩ := H
 replace H : ((r3_Low.f a0).bind fun t508 => (if (mx (wrap64 ((wrap64 ((wrap64 (t505 - t506)) + a4)) - t504)) t507) > t508 then ((r3_under.f k l2_0 l3_0 (wrap64 ((wrap64 (a4 - (mx (wrap64 ((wrap64 ((wrap64 (t505 - t506)) + a4)) - t504)) t507))) - t504))).bind fun t509 => (r3_Near.j0 k a0 a1 a4 t504 (mx (wrap64 ((wrap64 ((wrap64 (t505 - t506)) + a4)) - t504)) t507) t509 l2_0 l3_0)) else (r3_Near.j0 k a0 a1 a4 t504 (mx (wrap64 ((wrap64 ((wrap64 (t505 - t506)) + a4)) - t504)) t507) false l2_0 l3_0))) = some r := H
 have A9 := A_ A90;clear A90
 obtain ⟨ji10, hji10⟩ : ∃ j_ : Int, (mx (wrap64 ((wrap64 ((wrap64 (t505 - t506)) + a4)) - t504)) t507) = j_ := ⟨_, rfl⟩
 replace H : ((r3_Low.f a0).bind fun t508 => (if (ji10) > t508 then ((r3_under.f k l2_0 l3_0 (wrap64 ((wrap64 (a4 - (ji10))) - t504))).bind fun t509 => (r3_Near.j0 k a0 a1 a4 t504 ji10 t509 l2_0 l3_0)) else (r3_Near.j0 k a0 a1 a4 t504 ji10 false l2_0 l3_0))) = some r := by first | (rw [hji10] at H; exact H) | (simp only [hji10] at H ⊢; exact H)
 (try rw [hji10] at A6)
 (try rw [hji10] at A7)
 (try rw [hji10] at A8)
 (try rw [hji10] at A9)
 have hji10_ : (if (wrap64 ((wrap64 ((wrap64 (t505 - t506)) + a4)) - t504)) < t507 then t507 else (wrap64 ((wrap64 ((wrap64 (t505 - t506)) + a4)) - t504))) = ji10 := hji10
 have HC11 := A_ H;clear H
 go_enter Try.func66, Try.ntmps66
 try go_wp2_with (first | ((with_reducible refine gate_dst (N := 7) rfl ?_); refine be_ 7 #[.slice A2_0 l2_0.length c2_0] 63 ?_; intro gb502 hg w12 hbox hb; have BK502 := A_ (hbox); have GW502 := A_ (sz_ hg (hb_ HB.out)); have GE502 := A_ (sz_ hg (hb_ HB.out)); replace HB := A_ (below_step (hb_ HB.out) hb); clear hb hbox hg) | ((with_reducible refine gate_dst (N := 8) rfl ?_); refine be_ 8 #[.slice A3_0 l3_0.length c3_0] 63 ?_; intro gb503 hg w13 hbox hb; have BK503 := A_ (hbox); have GW503 := A_ (sz_ hg (hb1_ HB.out GE502.out)); have GE503 := A_ (sz_ hg (hb1_ HB.out GE502.out)); have NB502_503 := A_ (nl_ hg BK502.out); have NB503_502 := A_ (ng_ hg BK502.out); replace BK502 := A_ (bb_ BK502.out hb); replace HB := A_ (below_step (hb1_ HB.out GE502.out) hb); clear hb hbox hg) | ((with_reducible refine gate_callee (f := 52) rfl ?_); refine gl_ (some 17) Try.func52 #[.int .i64 a0] ?_; (with_reducible refine (r2_F.calls a0 t504 _ A6.out).mono ?_); rintro e w' ⟨rfl, ⟨nd, rfl⟩⟩; refine ⟨_, rfl, ?_⟩))
 (try (rw [drewN_self w13]; generalize hq_ : World.drewN w13 _ = w13; have n0_ : Aside0 (w13.heap[gb502]? = some (.cells #[.slice A2_0 l2_0.length c2_0] 63 (0, 0))) := ⟨by rw [← hq_]; exact (bk_ BK502.out)⟩; have n1_ : Aside0 (w13.heap[gb503]? = some (.cells #[.slice A3_0 l3_0.length c3_0] 63 (0, 0))) := ⟨by rw [← hq_]; exact (bk_ BK503.out)⟩; have n2_ : Aside0 (Below w.heap.size w w13) := ⟨by rw [← hq_]; exact (hb2_ HB.out GE502.out GE503.out)⟩; clear BK502 BK503 HB hq_; have BK502 := n0_; have BK503 := n1_; have HB := n2_; clear n0_ n1_ n2_))
 replace BK502 := A_ (blk_drew BK502.out)
 replace BK503 := A_ (blk_drew BK503.out)
 replace HB := A_ (below_drew1 HB.out)
 refine start_ (n := 8) (S := fun w' => w'.cell? ⟨gb502, 0, none⟩ = some (.slice A2_0 l2_0.length c2_0) ∧ w'.cell? ⟨gb503, 0, none⟩ = some (.slice A3_0 l3_0.length c3_0)) (ds := []) #[false, false, false, false, false, false, false, false] (by kernel_rfl) rfl rfl ⟨bc_ BK502.out 0, bc_ BK503.out 0⟩ (fun hHeld => ?_); refine with_tabW r3_Near.tab2 r3_Near.bits2 (fun HT_ HW_ => ?_)
 generalize w13.drew = w14 at BK502 BK503 HB hHeld ⊢
 refine pu_ 5 (some 23) #[false, false, false, false, false, true, false, false] rfl rfl (any_of HT_.out (by kernel_rfl)) ?_
 refine tk2_ 0 (some 18) #[true, false, false, false, false, true, false, false] rfl rfl (take_ofW HT_.out HW_.out (by kernel_rfl)) hHeld ?_
 refine tk2_ 2 (some 20) #[true, false, true, false, false, true, false, false] rfl rfl (take_ofW HT_.out HW_.out (by kernel_rfl)) hHeld ?_
 refine one_ (i := 1) (N := some 19) #[true, true, true, false, false, true, false, false] rfl rfl (one_of HT_.out (by kernel_rfl)) (by decide) (fun K hK => ?_)
 refine goes_ Try.func96 (by kernel_rfl) rfl #[.agg #[.slice A2_0 l2_0.length c2_0]] (by rfl) rfl rfl mp_ ?_
 with_reducible refine (r1_Len.calls k _ _ l2_0 t505 _ ?side1 ?side2 A7.out).mono ?_
 (case side1 => exact cs_ ((Kd.C_below HR2_0.out HB.out)))
 (case side2 => exact HC2_0.out)
 rintro e w15 ⟨rfl, hb⟩
 refine ⟨_, rfl, ?_⟩
 replace BK502 := A_ (bb_ BK502.out hb)
 replace BK503 := A_ (bb_ BK503.out hb)
 replace HB := A_ (below_step (hb2_ HB.out GE502.out GE503.out) hb);(try clear hb);(try clear hb2);(try clear hk);(try clear hi)
 refine hK.out _ _ ⟨bc_ BK502.out 0, bc_ BK503.out 0⟩ (fun hHeld => ?_)
 clear hK K
 refine norm_ (a' := ?_) ?_ ?_
 rotate_left
 ·show Act.put _ (some 19) _ = _
  simp only [Act.put, lI_, l0_, lS_, i64_w, i32_w]
  rfl
 refine one_ (i := 3) (N := some 21) #[true, true, true, true, false, true, false, false] rfl rfl (one_of HT_.out (by kernel_rfl)) (by decide) (fun K hK => ?_)
 refine goes_ Try.func96 (by kernel_rfl) rfl #[.agg #[.slice A3_0 l3_0.length c3_0]] (by rfl) rfl rfl mp_ ?_
 with_reducible refine (r1_Len.calls k _ _ l3_0 t506 _ ?side1 ?side2 A8.out).mono ?_
 (case side1 => exact cs_ ((Kd.C_below HR3_0.out HB.out)))
 (case side2 => exact HC3_0.out)
 rintro e w16 ⟨rfl, hb⟩
 refine ⟨_, rfl, ?_⟩
 replace BK502 := A_ (bb_ BK502.out hb)
 replace BK503 := A_ (bb_ BK503.out hb)
 replace HB := A_ (below_step (hb2_ HB.out GE502.out GE503.out) hb);(try clear hb);(try clear hb2);(try clear hk);(try clear hi)
 refine hK.out _ _ ⟨bc_ BK502.out 0, bc_ BK503.out 0⟩ (fun hHeld => ?_)
 clear hK K
 refine norm_ (a' := ?_) ?_ ?_
 rotate_left
 ·show Act.put _ (some 21) _ = _
  simp only [Act.put, lI_, l0_, lS_, i64_w, i32_w]
  rfl
 refine pu_ 4 (some 22) #[true, true, true, true, true, true, false, false] rfl rfl (any_of HT_.out (by kernel_rfl)) ?_
 refine pu_ 6 (some 24) #[true, true, true, true, true, true, true, false] rfl rfl (any_of HT_.out (by kernel_rfl)) ?_
 refine pu_ 7 (some 12) #[true, true, true, true, true, true, true, true] rfl rfl (any_of HT_.out (by kernel_rfl)) ?_
 refine done_ (done_of HT_.out (by kernel_rfl)) ?_
 go_upto_region 4 with (first | ((with_reducible refine gate_callee (f := 97) rfl ?_); refine gl_ (some 29) Try.func97 #[.int .i64 a0] ?_; (with_reducible refine (r3_Low.calls a0 t507 _ A9.out).mono ?_); rintro e w' ⟨rfl, ⟨nd, rfl⟩⟩; refine ⟨_, rfl, ?_⟩))
 (try simp only [Act.put, lI_, l0_, lS_])
 go_cut [44] (fun v44 wc => ∃ (kq : Nat) (x44_10 : Bool), v44 = .bool x44_10 ∧ Aside0 (r3_Near.j0 kq a0 a1 a4 t504 ji10 x44_10 l2_0 l3_0 = some r) ∧ Aside0 (kq ≤ k) ∧ Aside0 (wc.heap[gb502]? = some (.cells #[(.slice A2_0 l2_0.length c2_0)] 63 (0, 0))) ∧ Aside0 (wc.heap[gb503]? = some (.cells #[(.slice A3_0 l3_0.length c3_0)] 63 (0, 0))) ∧ Aside0 (Below w.heap.size w wc))
 case first =>
  have H := HC11.out
  clear HC11
  replace H := ob_ H
  obtain ⟨t508, A170, H⟩ := H
  replace H : (if (ji10) > t508 then ((r3_under.f k l2_0 l3_0 (wrap64 ((wrap64 (a4 - (ji10))) - t504))).bind fun t509 => (r3_Near.j0 k a0 a1 a4 t504 ji10 t509 l2_0 l3_0)) else (r3_Near.j0 k a0 a1 a4 t504 ji10 false l2_0 l3_0)) = some r := H
  have A17 := A_ A170;clear A170
  by_cases c18 : (ji10) > t508
  ·rw [if_pos c18] at H
   have c18b0 : decide (t508 < (ji10)) = true := decide_eq_true c18
   clear c18
   (first | rw [c18b0] | (simp only [i64_w, i32_w]; rw [c18b0]) | skip)
   replace H := ob_ H
   obtain ⟨t509, A190, H⟩ := H
   replace H : (r3_Near.j0 k a0 a1 a4 t504 ji10 t509 l2_0 l3_0) = some r := H
   have A19 := A_ A190;clear A190
   have H' := A_ H
   clear H
   go_wp2_with (first | ((with_reducible refine gate_callee (f := 97) rfl ?_); refine gl_ (some 33) Try.func97 #[.int .i64 a0] ?_; (with_reducible refine (r3_Low.calls a0 t508 _ A17.out).mono ?_); rintro e w' ⟨rfl, ⟨nd, rfl⟩⟩; refine ⟨_, rfl, ?_⟩; have hnb20 := NB502_503.out; have hnc20 := NB503_502.out; have hcz21_0 := bv_ BK502.out 0; have hfz21_0 := blk_frozen BK502.out 0; have hcz22_0 := bv_ BK503.out 0; have hfz22_0 := blk_frozen BK503.out 0) | (go_at_call 98; (with_reducible refine (r3_under.calls k _ _ l2_0 _ _ l3_0 (wrap64 ((wrap64 (a4 - (ji10))) - t504)) t509 _ ?side1 ?side2 ?side3 ?side4 A19.out).mono ?_); (case side1 => exact cs_ ((Kd.C_below HR2_0.out (hb2_ HB.out GE502.out GE503.out)))); (case side2 => exact HC2_0.out); (case side3 => exact cs_ ((Kd.C_below HR3_0.out (hb2_ HB.out GE502.out GE503.out)))); (case side4 => exact HC3_0.out); rintro e w23 ⟨rfl, hb⟩; replace BK502 := A_ (bb_ BK502.out hb); replace BK503 := A_ (bb_ BK503.out hb); replace HB := A_ (below_step (hb2_ HB.out GE502.out GE503.out) hb); (try clear hb); (try clear hb2); (try clear hk); (try clear hi)))
   go_meet
   case rel => exact ⟨_, (t509), sm_, H', ⟨by first | omega | exact Nat.le_refl _⟩, ⟨bk_ BK502.out⟩, ⟨bk_ BK503.out⟩, ⟨hb2_ HB.out GE502.out GE503.out⟩⟩
  ·rw [if_neg c18] at H
   have c18b0 : decide (t508 < (ji10)) = false := decide_eq_false c18
   clear c18
   (first | rw [c18b0] | (simp only [i64_w, i32_w]; rw [c18b0]) | skip)
   have H' := A_ H
   clear H
   go_wp2_with (first | ((with_reducible refine gate_callee (f := 97) rfl ?_); refine gl_ (some 33) Try.func97 #[.int .i64 a0] ?_; (with_reducible refine (r3_Low.calls a0 t508 _ A17.out).mono ?_); rintro e w' ⟨rfl, ⟨nd, rfl⟩⟩; refine ⟨_, rfl, ?_⟩))
   go_meet
   case rel => exact ⟨_, (false), sm_, H', ⟨by first | omega | exact Nat.le_refl _⟩, ⟨bk_ BK502.out⟩, ⟨bk_ BK503.out⟩, ⟨hb2_ HB.out GE502.out GE503.out⟩⟩
 case rest =>
  clear HC11
  try clear c1
  try clear c2
  try clear p2
  try clear c3
  try clear c5
  try clear c6
  try clear p6
  try clear c9
  try clear c18
  try clear c18b0
  try clear c20
  try clear hcz21_0
  try clear hcz22_0
  try clear hfz21_0
  try clear hfz22_0
  obtain ⟨kq, x44_10, rfl, HA, HJ10, BK502, BK503, HB⟩ := hcut
  cases kq with
  | zero => exact absurd HA.out (by simp [r3_Near.j0])
  | succ kj10 =>
   have H := HA.out
   clear HA
   simp only [r3_Near.j0] at H
   have HC24 := A_ H;clear H
   go_upto_if 44 with (fail)
   go_cut [13] (fun v13 wc => ∃ (kq : Nat) (x13_23 : Int), v13 = .int .i64 x13_23 ∧ Aside0 (r3_Near.j1 kq a0 a1 a4 t504 x13_23 l2_0 l3_0 = some r) ∧ Aside0 (kq ≤ kj10) ∧ Aside0 (wc.heap[gb502]? = some (.cells #[(.slice A2_0 l2_0.length c2_0)] 63 (0, 0))) ∧ Aside0 (wc.heap[gb503]? = some (.cells #[(.slice A3_0 l3_0.length c3_0)] 63 (0, 0))) ∧ Aside0 (Below w.heap.size w wc))
   case first =>
    have H := HC24.out
    clear HC24
    by_cases c25 : x44_10 = true
    ·subst c25
     have H1 : (r3_Near.j1 kj10 a0 a1 a4 t504 (wrap64 (ji10 - 1)) l2_0 l3_0) = some r := by rw [if_pos rfl] at H; exact H
     clear H;have H := H1;clear H1
     have H' := A_ H
     clear H
     go_wp2
     go_meet
     case rel => exact ⟨_, (wrap64 (ji10 - 1)), (by first | rfl | (simp; done) | (simp only [← hji10] <;> (first | rfl | simp)) | (simp [*]; done)), H', ⟨by have := HJ10.out; first | omega | exact Nat.le_refl _⟩, ⟨bk_ BK502.out⟩, ⟨bk_ BK503.out⟩, ⟨hb2_ HB.out GE502.out GE503.out⟩⟩
    ·replace c25 := Bool.eq_false_iff.mpr c25
     subst c25
     have H1 : (r3_Near.j1 kj10 a0 a1 a4 t504 ji10 l2_0 l3_0) = some r := by rw [if_neg (show ¬ (false = true) by decide)] at H; exact H
     clear H;have H := H1;clear H1
     have H' := A_ H
     clear H
     go_wp2
     go_meet
     case rel => exact ⟨_, (ji10), (by first | rfl | (simp; done) | (simp only [← hji10] <;> (first | rfl | simp)) | (simp [*]; done)), H', ⟨by have := HJ10.out; first | omega | exact Nat.le_refl _⟩, ⟨bk_ BK502.out⟩, ⟨bk_ BK503.out⟩, ⟨hb2_ HB.out GE502.out GE503.out⟩⟩
   case rest =>
    clear HC24
    try clear c1
    try clear c2
    try clear p2
    try clear c3
    try clear c5
    try clear c6
    try clear p6
    try clear c9
    try clear c18
    try clear c18b0
    try clear c20
    try clear c25
    try clear hcz21_0
    try clear hcz22_0
    try clear hfz21_0
    try clear hfz22_0
    try clear p2
    try clear p6
    obtain ⟨kq, x13_23, rfl, HA, HJ23, BK502, BK503, HB⟩ := hcut
    cases kq with
    | zero => exact absurd HA.out (by simp [r3_Near.j1])
    | succ kj23 =>
     have H := HA.out
     clear HA
     simp only [r3_Near.j1] at H
     replace H := ob_ H
     obtain ⟨t510, A260, H⟩ := H
     replace H : ((r1_Len.f kj23 t510).bind fun t514 => (if t514 > (wrap64 (t504 + 1)) then ((r1_Half.f kj23 t510 1).bind fun bt515 => (r3_Near.j2 kj23 a0 a1 t504 (wrap64 (x13_23 + 1)) bt515.1)) else (r3_Near.j2 kj23 a0 a1 t504 x13_23 t510))) = some r := H
     have A26 := A_ A260;clear A260
     replace H := ob_ H
     obtain ⟨t514, A270, H⟩ := H
     replace H : (if t514 > (wrap64 (t504 + 1)) then ((r1_Half.f kj23 t510 1).bind fun bt515 => (r3_Near.j2 kj23 a0 a1 t504 (wrap64 (x13_23 + 1)) bt515.1)) else (r3_Near.j2 kj23 a0 a1 t504 x13_23 t510)) = some r := H
     have A27 := A_ A270;clear A270;have HC28 := A_ H;clear H
     have hnb29 := NB502_503.out
     have hnc29 := NB503_502.out
     have hcz30_0 := bv_ BK502.out 0
     have hfz30_0 := blk_frozen BK502.out 0
     have hcz31_0 := bv_ BK503.out 0
     have hfz31_0 := blk_frozen BK503.out 0
     go_upto_if 57 with (first | ((with_reducible refine gate_callee (f := 99) rfl ?_); refine gl_ (some 52) Try.func99 #[.agg #[.slice A2_0 l2_0.length c2_0], .agg #[.slice A3_0 l3_0.length c3_0], .int .i64 (wrap64 (a4 - x13_23))] ?_; (with_reducible refine (r3_grain.calls kj23 _ _ l2_0 _ _ l3_0 (wrap64 (a4 - x13_23)) t510 _ ?side1 ?side2 ?side3 ?side4 A26.out).mono ?_); (case side1 => exact cs_ ((Kd.C_below HR2_0.out HB.out))); (case side2 => exact HC2_0.out); (case side3 => exact cs_ ((Kd.C_below HR3_0.out HB.out))); (case side4 => exact HC3_0.out); rintro e w32 ⟨v511, rfl, ho0, hb⟩; refine ⟨_, rfl, ?_⟩; have HO512 := A_ (Kd.R_lower ho0 (below_size (hb2_ HB.out GE502.out GE503.out))); replace BK502 := A_ (bb_ BK502.out hb); replace BK503 := A_ (bb_ BK503.out hb); replace HB := A_ (below_step (hb2_ HB.out GE502.out GE503.out) hb); (try clear hb); (try clear hb2); (try clear hk); (try clear hi); (try clear ho0)) | ((with_reducible refine gate_dst (N := 14) rfl ?_); refine be_ 14 #[.slice none 0 0] 63 ?_; intro gb513 hg w33 hbox hb; have BK513 := A_ (hbox); have GW513 := A_ (sz_ hg (hb2_ HB.out GE502.out GE503.out)); have GE513 := A_ (sz_ hg (hb2_ HB.out GE502.out GE503.out)); have NB502_513 := A_ (nl_ hg BK502.out); have NB513_502 := A_ (ng_ hg BK502.out); have NB503_513 := A_ (nl_ hg BK503.out); have NB513_503 := A_ (ng_ hg BK503.out); replace HO512 := A_ (Kd.R_below (kr_ HO512.out) hb); replace BK502 := A_ (bb_ BK502.out hb); replace BK503 := A_ (bb_ BK503.out hb); replace HB := A_ (below_step (hb2_ HB.out GE502.out GE503.out) hb); clear hb hbox hg; obtain ⟨Ao34, co34, eo34⟩ := Kd.R_slice HO512.out; subst eo34; have hnb35 := NB513_502.out; have hnc35 := NB502_513.out; have hnb36 := NB513_503.out; have hnc36 := NB503_513.out; have hcz37_0 := bv_ BK513.out 0; have hfz37_0 := blk_frozen BK513.out 0) | ((with_reducible refine gate_callee (f := 96) rfl ?_); refine gl_ (some 54) Try.func96 #[.agg #[.slice Ao34 t510.length co34]] ?_; (with_reducible refine (r1_Len.calls kj23 _ _ t510 t514 _ ?side1 ?side2 A27.out).mono ?_); (case side1 => refine (Kd.R_reads' (e := 22) (base := w.heap.size) (ok := fun k_ => True) (n := t510.length) (c := co34) ?_).2.2; exact (by (with_reducible repeat (first | apply Kd.R_alloc | apply Kd.R_drewN | apply Kd.R_drew)); exact (Kd.R_mono (Kd.R_far (p := ⟨gb513, 0, none⟩) (Kd.R_types HO512.out BK513.out (by decide)) (fun _ hk => hk.2) (.slice Ao34 t510.length co34)) (fun _ h_ => h_.1)))); (case side2 => exact (Kd.R_reads' HO512.out).2.1); rintro e w38 ⟨rfl, hb⟩; refine ⟨_, rfl, ?_⟩; replace HO512 := A_ (Kd.R_below (by (with_reducible repeat (first | apply Kd.R_alloc | apply Kd.R_drewN | apply Kd.R_drew)); exact (Kd.R_mono (Kd.R_far (p := ⟨gb513, 0, none⟩) (Kd.R_types HO512.out BK513.out (by decide)) (fun _ hk => hk.2) (.slice Ao34 t510.length co34)) (fun _ h_ => h_.1))) hb); replace BK502 := A_ (blk_below (g := gb502) (o := .cells #[.slice A2_0 l2_0.length c2_0] 63 (0, 0)) (bf1_ BK502.out NB502_513.out) hb); replace BK503 := A_ (blk_below (g := gb503) (o := .cells #[.slice A3_0 l3_0.length c3_0] 63 (0, 0)) (bf1_ BK503.out NB503_513.out) hb); replace BK513 := A_ (blk_below (g := gb513) (o := .cells #[.slice Ao34 t510.length co34] 63 (0, 0)) (by (with_reducible repeat (first | refine blk_drewN ?_ _ | refine blk_drew ?_ | refine blk_alloc ?_ _)); refine blk_put (cs := #[.slice none 0 0]) ?_ 0 _ rfl; (with_reducible repeat (first | refine blk_drewN ?_ _ | refine blk_drew ?_ | refine blk_alloc ?_ _)); exact BK513.out) hb); replace HB := A_ (below_step (hb3_ HB.out GE502.out GE503.out GE513.out) hb); (try clear hb); (try clear hb2); (try clear hk); (try clear hi)))
     (try simp only [Act.put, lI_, l0_, lS_])
     go_cut [13] (fun v13 wc => ∃ (kq : Nat) (x13_27 : Int) (x514000_27 : List Int) (u514000 : Value), v13 = .int .i64 x13_27 ∧ Aside0 (r3_Near.j2 kq a0 a1 t504 x13_27 x514000_27 = some r) ∧ Aside0 (kq ≤ kj23) ∧ Aside0 (Kd.R (Kd.int .u64) 22 wc w.heap.size (fun _ => True) u514000 x514000_27) ∧ Aside0 (wc.heap[gb502]? = some (.cells #[(.slice A2_0 l2_0.length c2_0)] 63 (0, 0))) ∧ Aside0 (wc.heap[gb503]? = some (.cells #[(.slice A3_0 l3_0.length c3_0)] 63 (0, 0))) ∧ Aside0 (wc.heap[gb513]? = some (.cells #[u514000] 63 (0, 0))) ∧ Aside0 (Below w.heap.size w wc))
     case first =>
      have H := HC28.out
      clear HC28
      by_cases c39 : t514 > (wrap64 (t504 + 1))
      ·rw [if_pos c39] at H
       have c39b0 : decide ((wrap64 (t504 + 1)) < t514) = true := decide_eq_true c39
       clear c39
       (first | rw [c39b0] | (simp only [i64_w, i32_w]; rw [c39b0]) | skip)
       replace H := ob_ H
       obtain ⟨⟨t515, t518⟩, A400, H⟩ := H
       replace H : (r3_Near.j2 kj23 a0 a1 t504 (wrap64 (x13_23 + 1)) t515) = some r := H
       have A40 := A_ A400;clear A400
       have H' := A_ H
       clear H
       have hnb41 := NB513_502.out
       have hnc41 := NB502_513.out
       have hnb42 := NB513_503.out
       have hnc42 := NB503_513.out
       have hcz43_0 := bv_ BK513.out 0
       have hfz43_0 := blk_frozen BK513.out 0
       go_wp2_with (first | ((with_reducible refine gate_callee (f := 100) rfl ?_); refine gl_ (some 62) Try.func100 #[.agg #[.slice Ao34 t510.length co34], .int .i64 1] ?_; (with_reducible refine (r1_Half.calls kj23 _ _ t510 1 t515 t518 _ ?side1 ?side2 A40.out).mono ?_); (case side1 => exact cs_ ((Kd.R_reads' HO512.out).2.2)); (case side2 => exact (Kd.R_reads' HO512.out).2.1); rintro e w44 ⟨v516, rfl, ho0, hb⟩; refine ⟨_, rfl, ?_⟩; have HO517 := A_ (Kd.R_lower (Kd.R_new' ho0 (Kd.R_lt (kr_ HO512.out))) (below_size (hb3_ HB.out GE502.out GE503.out GE513.out))); replace HO512 := A_ (Kd.R_elder' (kr_ HO512.out) (Kd.R_base ho0) hb); replace BK502 := A_ (bb_ BK502.out hb); replace BK503 := A_ (bb_ BK503.out hb); replace BK513 := A_ (bb_ BK513.out hb); replace HB := A_ (below_step (hb3_ HB.out GE502.out GE503.out GE513.out) hb); (try clear hb); (try clear hb2); (try clear hk); (try clear hi); (try clear ho0); obtain ⟨Ao45, co45, eo45⟩ := Kd.R_slice HO517.out; subst eo45; have hcz46_0 := bv_ BK513.out 0; have hfz46_0 := blk_frozen BK513.out 0))
       go_meet
       case rel => exact ⟨_, (wrap64 (x13_23 + 1)), (t515), (.slice Ao45 t515.length co45), sm_, H', ⟨by have := HJ10.out; have := HJ23.out; first | omega | exact Nat.le_refl _⟩, ⟨by (with_reducible repeat (first | apply Kd.R_alloc | apply Kd.R_drewN | apply Kd.R_drew)); exact Kd.R_mono (Kd.R_far (p := ⟨gb513, 0, none⟩) (Kd.R_types HO517.out BK513.out (by decide)) (fun _ hk => hk.2) (.slice Ao45 t515.length co45)) (fun _ hk => trivial)⟩, ⟨bf1_ BK502.out NB502_513.out⟩, ⟨bf1_ BK503.out NB503_513.out⟩, ⟨by (with_reducible repeat (first | refine blk_drewN ?_ _ | refine blk_drew ?_ | refine blk_alloc ?_ _)); refine blk_put (cs := #[.slice Ao34 t510.length co34]) ?_ 0 _ rfl; (with_reducible repeat (first | refine blk_drewN ?_ _ | refine blk_drew ?_ | refine blk_alloc ?_ _)); exact BK513.out⟩, ⟨hb3_ HB.out GE502.out GE503.out GE513.out⟩⟩
      ·rw [if_neg c39] at H
       have c39b0 : decide ((wrap64 (t504 + 1)) < t514) = false := decide_eq_false c39
       clear c39
       (first | rw [c39b0] | (simp only [i64_w, i32_w]; rw [c39b0]) | skip)
       have H' := A_ H
       clear H
       go_wp2
       go_meet
       case rel => exact ⟨_, (x13_23), (t510), (.slice Ao34 t510.length co34), sm_, H', ⟨by have := HJ10.out; have := HJ23.out; first | omega | exact Nat.le_refl _⟩, ⟨by (with_reducible repeat (first | apply Kd.R_alloc | apply Kd.R_drewN | apply Kd.R_drew)); exact HO512.out⟩, ⟨bk_ BK502.out⟩, ⟨bk_ BK503.out⟩, ⟨bk_ BK513.out⟩, ⟨hb3_ HB.out GE502.out GE503.out GE513.out⟩⟩
     case rest =>
      clear HC28
      try clear c1
      try clear c2
      try clear p2
      try clear c3
      try clear c4
      try clear c5
      try clear c6
      try clear p6
      try clear c9
      try clear c10
      try clear c18
      try clear c18b0
      try clear c20
      try clear c25
      try clear c29
      try clear c35
      try clear c36
      try clear c39
      try clear c39b0
      try clear c41
      try clear c42
      try clear hcz21_0
      try clear hcz22_0
      try clear hcz30_0
      try clear hcz31_0
      try clear hcz37_0
      try clear hcz43_0
      try clear hcz46_0
      try clear hfz21_0
      try clear hfz22_0
      try clear hfz30_0
      try clear hfz31_0
      try clear hfz37_0
      try clear hfz43_0
      try clear hfz46_0
      try clear p2
      try clear p6
      obtain ⟨kq, x13_27, x514000_27, u514000, rfl, HA, HJ27, HO_514000, BK502, BK503, BK513, HB⟩ := hcut
      cases kq with
      | zero => exact absurd HA.out (by simp [r3_Near.j2])
      | succ kj27 =>
       have H := HA.out
       clear HA
       simp only [r3_Near.j2] at H
       replace H := ob_ H
       obtain ⟨t519, A470, H⟩ := H
       replace H : ((r2_Top.f kj27 a0).bind fun t520 => (if x13_27 > (wrap64 ((wrap64 (t519 + t520)) - 2)) then ((r2_Inf.f kj27 a0 a1).bind fun t521 => (some t521)) else ((r1_Uint.f x514000_27).bind fun t522 => ((r2_Two.f kj27 t504).bind fun t523 => (if t522 < t523 then ((r2_Make.f kj27 a0 a1 0 t522).bind fun t524 => (some t524)) else ((r3_Low.f a0).bind fun t525 => ((r2_Two.f kj27 t504).bind fun t526 => ((r2_Make.f kj27 a0 a1 (wrap64 ((wrap64 (x13_27 - t525)) + 1)) (IntKind.u64.wrap (t522 - t526))).bind fun t527 => (some t527))))))))) = some r := H
       have A47 := A_ A470;clear A470
       replace H := ob_ H
       obtain ⟨t520, A480, H⟩ := H
       replace H : (if x13_27 > (wrap64 ((wrap64 (t519 + t520)) - 2)) then ((r2_Inf.f kj27 a0 a1).bind fun t521 => (some t521)) else ((r1_Uint.f x514000_27).bind fun t522 => ((r2_Two.f kj27 t504).bind fun t523 => (if t522 < t523 then ((r2_Make.f kj27 a0 a1 0 t522).bind fun t524 => (some t524)) else ((r3_Low.f a0).bind fun t525 => ((r2_Two.f kj27 t504).bind fun t526 => ((r2_Make.f kj27 a0 a1 (wrap64 ((wrap64 (x13_27 - t525)) + 1)) (IntKind.u64.wrap (t522 - t526))).bind fun t527 => (some t527)))))))) = some r := H
       have A48 := A_ A480;clear A480
       by_cases c49 : x13_27 > (wrap64 ((wrap64 (t519 + t520)) - 2))
       ·rw [if_pos c49] at H
        have c49b0 : decide ((wrap64 ((wrap64 (t519 + t520)) - 2)) < x13_27) = true := decide_eq_true c49
        clear c49
        replace H := ob_ H
        obtain ⟨t521, A500, H⟩ := H
        replace H : (some t521) = some r := H
        have A50 := A_ A500;clear A500
        obtain rfl := Option.some.inj H
        go_wp2_with (first | ((with_reducible refine gate_callee (f := 97) rfl ?_); refine gl_ (some 67) Try.func97 #[.int .i64 a0] ?_; (with_reducible refine (r3_Low.calls a0 t519 _ A47.out).mono ?_); rintro e w' ⟨rfl, ⟨nd, rfl⟩⟩; refine ⟨_, rfl, ?_⟩) | ((with_reducible refine gate_callee (f := 88) rfl ?_); refine gl_ (some 69) Try.func88 #[.int .i64 a0] ?_; (with_reducible refine (r2_Top.calls kj27 a0 t520 _ A48.out).mono ?_); rintro e w' ⟨rfl, ⟨nd, rfl⟩⟩; refine ⟨_, rfl, ?_⟩) | ((with_reducible refine gate_callee (f := 59) rfl ?_); refine gl_ (some 75) Try.func59 #[.int .i64 a0, .bool a1] ?_; (with_reducible refine (r2_Inf.calls kj27 a0 a1 t521 _ A50.out).mono ?_); rintro e w' ⟨rfl, ⟨nd, rfl⟩⟩; refine ⟨_, rfl, ?_⟩))
        go_ret
        exact ⟨by first | rfl | (simp [errW_none, errW_some] <;> rfl) | (simp only [← hji10]; first | rfl | (simp [errW_none, errW_some] <;> rfl)) | (simp [*, errW_none, errW_some] <;> rfl), hb3_ HB.out GE502.out GE503.out GE513.out⟩
       ·rw [if_neg c49] at H
        have c49b0 : decide ((wrap64 ((wrap64 (t519 + t520)) - 2)) < x13_27) = false := decide_eq_false c49
        clear c49
        replace H := ob_ H
        obtain ⟨t522, A510, H⟩ := H
        replace H : ((r2_Two.f kj27 t504).bind fun t523 => (if t522 < t523 then ((r2_Make.f kj27 a0 a1 0 t522).bind fun t524 => (some t524)) else ((r3_Low.f a0).bind fun t525 => ((r2_Two.f kj27 t504).bind fun t526 => ((r2_Make.f kj27 a0 a1 (wrap64 ((wrap64 (x13_27 - t525)) + 1)) (IntKind.u64.wrap (t522 - t526))).bind fun t527 => (some t527)))))) = some r := H
        have A51 := A_ A510;clear A510
        replace H := ob_ H
        obtain ⟨t523, A520, H⟩ := H
        replace H : (if t522 < t523 then ((r2_Make.f kj27 a0 a1 0 t522).bind fun t524 => (some t524)) else ((r3_Low.f a0).bind fun t525 => ((r2_Two.f kj27 t504).bind fun t526 => ((r2_Make.f kj27 a0 a1 (wrap64 ((wrap64 (x13_27 - t525)) + 1)) (IntKind.u64.wrap (t522 - t526))).bind fun t527 => (some t527))))) = some r := H
        have A52 := A_ A520;clear A520
        by_cases c53 : t522 < t523
        ·rw [if_pos c53] at H
         have c53b0 : decide (t522 < t523) = true := decide_eq_true c53
         clear c53
         replace H := ob_ H
         obtain ⟨t524, A540, H⟩ := H
         replace H : (some t524) = some r := H
         have A54 := A_ A540;clear A540
         obtain rfl := Option.some.inj H
         go_wp2_with (first | ((with_reducible refine gate_callee (f := 97) rfl ?_); refine goesL_ (some 67) rfl rfl Try.func97 (by kernel_rfl) rfl #[.int .i64 a0] rfl (by (try simp only [List.map_toArray, List.map_cons, List.map_nil]); first | done | rfl | (simp only [List.length_drop, List.length_take]; rfl)) ?_; (with_reducible refine (r3_Low.calls a0 t519 _ A47.out).mono ?_); rintro e w' ⟨rfl, ⟨nd, rfl⟩⟩; refine ⟨_, rfl, ?_⟩) | ((with_reducible refine gate_callee (f := 88) rfl ?_); refine goesL_ (some 69) rfl rfl Try.func88 (by kernel_rfl) rfl #[.int .i64 a0] rfl (by (try simp only [List.map_toArray, List.map_cons, List.map_nil]); first | done | rfl | (simp only [List.length_drop, List.length_take]; rfl)) ?_; (with_reducible refine (r2_Top.calls kj27 a0 t520 _ A48.out).mono ?_); rintro e w' ⟨rfl, ⟨nd, rfl⟩⟩; refine ⟨_, rfl, ?_⟩; have hnb55 := NB513_502.out; have hnc55 := NB502_513.out; have hnb56 := NB513_503.out; have hnc56 := NB503_513.out; have hcz57_0 : wc.cell? ⟨gb513, 0, none⟩ = some (u514000) := (blk_cell BK513.out 0).trans rfl; have hfz57_0 := blk_frozen BK513.out 0; obtain ⟨Ao58, co58, eo58⟩ := Kd.R_slice HO_514000.out; subst eo58) | ((with_reducible refine gate_callee (f := 101) rfl ?_); refine goesL_ (some 77) rfl rfl Try.func101 (by kernel_rfl) rfl #[.agg #[.slice Ao58 x514000_27.length co58]] rfl (by (try simp only [List.map_toArray, List.map_cons, List.map_nil]); first | done | rfl | (simp only [List.length_drop, List.length_take]; rfl)) ?_; (with_reducible refine (r1_Uint.calls _ _ x514000_27 t522 _ ?side1 ?side2 A51.out).mono ?_); (case side1 => repeat (first | exact (Kd.R_reads' HO_514000.out).2.2 | (with_reducible refine Kd.C_alloc ?_ _) | (with_reducible refine Kd.C_drewN ?_ _) | (with_reducible refine Kd.C_drew ?_))); (case side2 => exact (Kd.R_reads' HO_514000.out).2.1); rintro e w59 ⟨rfl, hb⟩; refine ⟨_, rfl, ?_⟩; have n0_ := Aside0.mk (Kd.R_below (by (with_reducible repeat (first | apply Kd.R_alloc | apply Kd.R_drewN | apply Kd.R_drew)); exact HO_514000.out) hb); have n1_ := Aside0.mk (blk_below (g := gb502) (o := .cells #[.slice A2_0 l2_0.length c2_0] 63 (0, 0)) (by (with_reducible repeat (first | refine blk_drewN ?_ _ | refine blk_drew ?_ | refine blk_alloc ?_ _)); exact BK502.out) hb); have n2_ := Aside0.mk (blk_below (g := gb503) (o := .cells #[.slice A3_0 l3_0.length c3_0] 63 (0, 0)) (by (with_reducible repeat (first | refine blk_drewN ?_ _ | refine blk_drew ?_ | refine blk_alloc ?_ _)); exact BK503.out) hb); have n3_ := Aside0.mk (blk_below (g := gb513) (o := .cells #[.slice Ao58 x514000_27.length co58] 63 (0, 0)) (by (with_reducible repeat (first | refine blk_drewN ?_ _ | refine blk_drew ?_ | refine blk_alloc ?_ _)); exact BK513.out) hb); have n4_ := Aside0.mk (below_step (by repeat (first | (with_reducible first | exact HB.out | apply below_alloc | apply pw_below_drewN | apply below_drew1 | refine below_set ?_ GE502.out | refine below_set ?_ GE503.out | refine below_set ?_ GE513.out) | exact HB.out)) hb); clear HO_514000; clear BK502; clear BK503; clear BK513; clear HB; have HO_514000 := n0_; have BK502 := n1_; have BK503 := n2_; have BK513 := n3_; have HB := n4_; clear n0_ n1_ n2_ n3_ n4_; (try clear hb); (try clear hb2); (try clear hk); (try clear hi)) | ((with_reducible refine gate_callee (f := 51) rfl ?_); refine goesL_ (some 80) rfl rfl Try.func51 (by kernel_rfl) rfl #[.int .i64 t504] rfl (by (try simp only [List.map_toArray, List.map_cons, List.map_nil]); first | done | rfl | (simp only [List.length_drop, List.length_take]; rfl)) ?_; (with_reducible refine (r2_Two.calls kj27 t504 t523 _ A52.out).mono ?_); rintro e w' ⟨rfl, ⟨nd, rfl⟩⟩; refine ⟨_, rfl, ?_⟩) | ((with_reducible refine gate_callee (f := 17) rfl ?_); refine goesL_ (some 85) rfl rfl Try.func17 (by kernel_rfl) rfl #[.int .i64 a0, .bool a1, .int .i64 0, .int .u64 t522] rfl (by (try simp only [List.map_toArray, List.map_cons, List.map_nil]); first | done | rfl | (simp only [List.length_drop, List.length_take]; rfl)) ?_; (with_reducible refine (r2_Make.calls kj27 a0 a1 0 t522 t524 _ A54.out).mono ?_); rintro e w' ⟨rfl, ⟨nd, rfl⟩⟩; refine ⟨_, rfl, ?_⟩))
         go_ret
         exact ⟨by first | rfl | (simp [errW_none, errW_some] <;> rfl) | (simp only [← hji10]; first | rfl | (simp [errW_none, errW_some] <;> rfl)) | (simp [*, errW_none, errW_some] <;> rfl), hb3_ HB.out GE502.out GE503.out GE513.out⟩
        ·rw [if_neg c53] at H
         have c53b0 : decide (t522 < t523) = false := decide_eq_false c53
         clear c53
         replace H := ob_ H
         obtain ⟨t525, A600, H⟩ := H
         replace H : ((r2_Two.f kj27 t504).bind fun t526 => ((r2_Make.f kj27 a0 a1 (wrap64 ((wrap64 (x13_27 - t525)) + 1)) (IntKind.u64.wrap (t522 - t526))).bind fun t527 => (some t527))) = some r := H
         have A60 := A_ A600;clear A600
         replace H := ob_ H
         obtain ⟨t526, A610, H⟩ := H
         replace H : ((r2_Make.f kj27 a0 a1 (wrap64 ((wrap64 (x13_27 - t525)) + 1)) (IntKind.u64.wrap (t522 - t526))).bind fun t527 => (some t527)) = some r := H
         have A61 := A_ A610;clear A610
         replace H := ob_ H
         obtain ⟨t527, A620, H⟩ := H
         replace H : (some t527) = some r := H
         have A62 := A_ A620;clear A620
         obtain rfl := Option.some.inj H
         go_wp2_with (first | ((with_reducible refine gate_callee (f := 97) rfl ?_); refine goesL_ (some 67) rfl rfl Try.func97 (by kernel_rfl) rfl #[.int .i64 a0] rfl (by (try simp only [List.map_toArray, List.map_cons, List.map_nil]); first | done | rfl | (simp only [List.length_drop, List.length_take]; rfl)) ?_; (with_reducible refine (r3_Low.calls a0 t519 _ A47.out).mono ?_); rintro e w' ⟨rfl, ⟨nd, rfl⟩⟩; refine ⟨_, rfl, ?_⟩) | ((with_reducible refine gate_callee (f := 88) rfl ?_); refine goesL_ (some 69) rfl rfl Try.func88 (by kernel_rfl) rfl #[.int .i64 a0] rfl (by (try simp only [List.map_toArray, List.map_cons, List.map_nil]); first | done | rfl | (simp only [List.length_drop, List.length_take]; rfl)) ?_; (with_reducible refine (r2_Top.calls kj27 a0 t520 _ A48.out).mono ?_); rintro e w' ⟨rfl, ⟨nd, rfl⟩⟩; refine ⟨_, rfl, ?_⟩; have hnb63 := NB513_502.out; have hnc63 := NB502_513.out; have hnb64 := NB513_503.out; have hnc64 := NB503_513.out; have hcz65_0 : wc.cell? ⟨gb513, 0, none⟩ = some (u514000) := (blk_cell BK513.out 0).trans rfl; have hfz65_0 := blk_frozen BK513.out 0; obtain ⟨Ao66, co66, eo66⟩ := Kd.R_slice HO_514000.out; subst eo66) | ((with_reducible refine gate_callee (f := 101) rfl ?_); refine goesL_ (some 77) rfl rfl Try.func101 (by kernel_rfl) rfl #[.agg #[.slice Ao66 x514000_27.length co66]] rfl (by (try simp only [List.map_toArray, List.map_cons, List.map_nil]); first | done | rfl | (simp only [List.length_drop, List.length_take]; rfl)) ?_; (with_reducible refine (r1_Uint.calls _ _ x514000_27 t522 _ ?side1 ?side2 A51.out).mono ?_); (case side1 => repeat (first | exact (Kd.R_reads' HO_514000.out).2.2 | (with_reducible refine Kd.C_alloc ?_ _) | (with_reducible refine Kd.C_drewN ?_ _) | (with_reducible refine Kd.C_drew ?_))); (case side2 => exact (Kd.R_reads' HO_514000.out).2.1); rintro e w67 ⟨rfl, hb⟩; refine ⟨_, rfl, ?_⟩; have n0_ := Aside0.mk (Kd.R_below (by (with_reducible repeat (first | apply Kd.R_alloc | apply Kd.R_drewN | apply Kd.R_drew)); exact HO_514000.out) hb); have n1_ := Aside0.mk (blk_below (g := gb502) (o := .cells #[.slice A2_0 l2_0.length c2_0] 63 (0, 0)) (by (with_reducible repeat (first | refine blk_drewN ?_ _ | refine blk_drew ?_ | refine blk_alloc ?_ _)); exact BK502.out) hb); have n2_ := Aside0.mk (blk_below (g := gb503) (o := .cells #[.slice A3_0 l3_0.length c3_0] 63 (0, 0)) (by (with_reducible repeat (first | refine blk_drewN ?_ _ | refine blk_drew ?_ | refine blk_alloc ?_ _)); exact BK503.out) hb); have n3_ := Aside0.mk (blk_below (g := gb513) (o := .cells #[.slice Ao66 x514000_27.length co66] 63 (0, 0)) (by (with_reducible repeat (first | refine blk_drewN ?_ _ | refine blk_drew ?_ | refine blk_alloc ?_ _)); exact BK513.out) hb); have n4_ := Aside0.mk (below_step (by repeat (first | (with_reducible first | exact HB.out | apply below_alloc | apply pw_below_drewN | apply below_drew1 | refine below_set ?_ GE502.out | refine below_set ?_ GE503.out | refine below_set ?_ GE513.out) | exact HB.out)) hb); clear HO_514000; clear BK502; clear BK503; clear BK513; clear HB; have HO_514000 := n0_; have BK502 := n1_; have BK503 := n2_; have BK513 := n3_; have HB := n4_; clear n0_ n1_ n2_ n3_ n4_; (try clear hb); (try clear hb2); (try clear hk); (try clear hi)) | ((with_reducible refine gate_callee (f := 51) rfl ?_); refine goesL_ (some 80) rfl rfl Try.func51 (by kernel_rfl) rfl #[.int .i64 t504] rfl (by (try simp only [List.map_toArray, List.map_cons, List.map_nil]); first | done | rfl | (simp only [List.length_drop, List.length_take]; rfl)) ?_; (with_reducible refine (r2_Two.calls kj27 t504 t523 _ A52.out).mono ?_); rintro e w' ⟨rfl, ⟨nd, rfl⟩⟩; refine ⟨_, rfl, ?_⟩) | ((with_reducible refine gate_callee (f := 97) rfl ?_); refine goesL_ (some 90) rfl rfl Try.func97 (by kernel_rfl) rfl #[.int .i64 a0] rfl (by (try simp only [List.map_toArray, List.map_cons, List.map_nil]); first | done | rfl | (simp only [List.length_drop, List.length_take]; rfl)) ?_; (with_reducible refine (r3_Low.calls a0 t525 _ A60.out).mono ?_); rintro e w' ⟨rfl, ⟨nd, rfl⟩⟩; refine ⟨_, rfl, ?_⟩) | ((with_reducible refine gate_callee (f := 51) rfl ?_); refine goesL_ (some 95) rfl rfl Try.func51 (by kernel_rfl) rfl #[.int .i64 t504] rfl (by (try simp only [List.map_toArray, List.map_cons, List.map_nil]); first | done | rfl | (simp only [List.length_drop, List.length_take]; rfl)) ?_; (with_reducible refine (r2_Two.calls kj27 t504 t526 _ A61.out).mono ?_); rintro e w' ⟨rfl, ⟨nd, rfl⟩⟩; refine ⟨_, rfl, ?_⟩) | ((with_reducible refine gate_callee (f := 17) rfl ?_); refine goesL_ (some 97) rfl rfl Try.func17 (by kernel_rfl) rfl #[.int .i64 a0, .bool a1, .int .i64 (wrap64 ((wrap64 (x13_27 - t525)) + 1)), .int .u64 (IntKind.u64.wrap (t522 - t526))] rfl (by (try simp only [List.map_toArray, List.map_cons, List.map_nil]); first | done | rfl | (simp only [List.length_drop, List.length_take]; rfl)) ?_; (with_reducible refine (r2_Make.calls kj27 a0 a1 (wrap64 ((wrap64 (x13_27 - t525)) + 1)) (IntKind.u64.wrap (t522 - t526)) t527 _ A62.out).mono ?_); rintro e w' ⟨rfl, ⟨nd, rfl⟩⟩; refine ⟨_, rfl, ?_⟩))
         go_ret
         exact ⟨by first | rfl | (simp [errW_none, errW_some] <;> rfl) | (simp only [← hji10]; first | rfl | (simp [errW_none, errW_some] <;> rfl)) | (simp [*, errW_none, errW_some] <;> rfl), hb3_ HB.out GE502.out GE503.out GE513.out⟩
def r3_Exact.j0 : Nat → Int → Bool → Int → Bool → List Int → Option (Int)
 | 0, _, _, _, _, _ => none
 | k + 1, x0, x1, x3, x16, x529000 => if x16 = true then ((r2_Make.f k x0 x1 0 0).bind fun t529 => (some t529)) else (if x3 > 4000 then ((r2_Inf.f k x0 x1).bind fun t530 => (some t530)) else ((r1_Of.f k 1).bind fun t531 => ((r3_Near.f k x0 x1 x529000 t531 x3).bind fun t534 => (some t534))))
def r3_Exact.f (k : Nat) (a0 : Int) (a1 : Bool) (l2_0 : List Int) (a3 : Int) : Option (Int) := if (l2_0.length : Int) = 0 then (r3_Exact.j0 k a0 a1 a3 true l2_0) else (r3_Exact.j0 k a0 a1 a3 (decide (a3 < (-4000))) l2_0)
theorem r3_Exact.mono_l : ∀ k, (∀ y0 y1 y2 y3 y4, LeO (r3_Exact.j0 k y0 y1 y2 y3 y4) (r3_Exact.j0 (k + 1) y0 y1 y2 y3 y4))
 | 0 => fun _ _ _ _ _ r h => by simp [r3_Exact.j0] at h
 | k + 1 => by
  have ih0 := r3_Exact.mono_l k
  ·intro y0 y1 y2 y3 y4
   unfold r3_Exact.j0
   repeat' first
   | (with_reducible exact ih0 _ _ _ _ _)
   | (with_reducible exact r1_Of.mono _ _)
   | (with_reducible exact r2_Inf.mono _ _ _)
   | (with_reducible exact r2_Make.mono _ _ _ _ _)
   | (with_reducible exact r3_Near.mono _ _ _ _ _ _)
   | (with_reducible exact LeO.refl _)
   | (with_reducible exact LeO.none _)
   | (with_reducible refine LeO.ite ?_ ?_)
   | (with_reducible refine LeO.bind ?_ (fun _ => ?_))
   | exact ih0 _ _ _ _ _
   | exact r1_Of.mono _ _
   | exact r2_Inf.mono _ _ _
   | exact r2_Make.mono _ _ _ _ _
   | exact r3_Near.mono _ _ _ _ _ _
   | exact LeO.none _
   | refine LeO.ite ?_ ?_
   | refine LeO.bind ?_ (fun _ => ?_)
theorem r3_Exact.mono : ∀ a0 a1 a2 a3 k, LeO (r3_Exact.f k a0 a1 a2 a3) (r3_Exact.f (k + 1) a0 a1 a2 a3) := by
 intro a0 a1 a2 a3 k
 have ih0 := r3_Exact.mono_l k
 unfold r3_Exact.f
 repeat' first
   | (with_reducible exact ih0 _ _ _ _ _)
   | (with_reducible exact r1_Of.mono _ _)
   | (with_reducible exact r2_Inf.mono _ _ _)
   | (with_reducible exact r2_Make.mono _ _ _ _ _)
   | (with_reducible exact r3_Near.mono _ _ _ _ _ _)
   | (with_reducible exact LeO.refl _)
   | (with_reducible exact LeO.none _)
   | (with_reducible refine LeO.ite ?_ ?_)
   | (with_reducible refine LeO.bind ?_ (fun _ => ?_))
   | exact ih0 _ _ _ _ _
   | exact r1_Of.mono _ _
   | exact r2_Inf.mono _ _ _
   | exact r2_Make.mono _ _ _ _ _
   | exact r3_Near.mono _ _ _ _ _ _
   | exact LeO.none _
   | refine LeO.ite ?_ ?_
   | refine LeO.bind ?_ (fun _ => ?_)
theorem r3_Exact.calls (k : Nat) (a0 : Int) (a1 : Bool) (A2_0 : Option Addr) (c2_0 : Nat) (l2_0 : List Int) (a3 : Int) (r : Int) (w : World) (hr2_0 : Kd.C (Kd.int .u64) w A2_0 l2_0.length l2_0) (hc2_0 : l2_0.length ≤ c2_0) (h : r3_Exact.f k a0 a1 l2_0 a3 = some r) :
  Calls Try.prog 60 #[.int .i64 a0, .bool a1, .agg #[.slice A2_0 l2_0.length c2_0], .int .i64 a3] w fun e w' => e = .returned (.int .u64 r) ∧ Below w.heap.size w w' := by
 have hu63 := Try.underlying63
 have HR2_0 := A_ hr2_0;have HC2_0 := A_ hc2_0;clear hr2_0 hc2_0
 have HB := A_ (Below.refl w.heap.size w)
 have H : (if (l2_0.length : Int) = 0 then (r3_Exact.j0 k a0 a1 a3 true l2_0) else (r3_Exact.j0 k a0 a1 a3 (decide (a3 < (-4000))) l2_0)) = some r := h
 clear h;have HC5 := A_ H;clear H
 go_enter Try.func60, Try.ntmps60
 go_upto_region 1 with (first | ((with_reducible refine gate_dst (N := 6) rfl ?_); refine be_ 6 #[.slice A2_0 l2_0.length c2_0] 63 ?_; intro gb528 hg w6 hbox hb; have BK528 := A_ (hbox); have GW528 := A_ (sz_ hg (hb_ HB.out)); have GE528 := A_ (sz_ hg (hb_ HB.out)); replace HB := A_ (below_step (hb_ HB.out) hb); clear hb hbox hg))
 (try simp only [Act.put, lI_, l0_, lS_])
 go_cut [16] (fun v16 wc => ∃ (kq : Nat) (x16_4 : Bool), v16 = .bool x16_4 ∧ Aside0 (r3_Exact.j0 kq a0 a1 a3 x16_4 l2_0 = some r) ∧ Aside0 (kq ≤ k) ∧ Aside0 (wc.heap[gb528]? = some (.cells #[(.slice A2_0 l2_0.length c2_0)] 63 (0, 0))) ∧ Aside0 (Below w.heap.size w wc))
 case first =>
  have H := HC5.out
  clear HC5
  by_cases c7 : (l2_0.length : Int) = 0
  ·rw [if_pos c7] at H
   have c7b0 : ((l2_0.length : Int) == 0) = true := beq_iff_eq.mpr c7
   have c7b1 : ((l2_0.length : Int) != 0) = false := bne_eq_false_iff_eq.mpr c7
   clear c7
   (first | rw [c7b0] | (simp only [i64_w, i32_w]; rw [c7b0]) | skip)
   have H' := A_ H
   clear H
   have hcz8_0 := bv_ BK528.out 0
   have hfz8_0 := blk_frozen BK528.out 0
   go_wp2
   go_meet
   case rel => exact ⟨_, (true), sm_, H', ⟨by first | omega | exact Nat.le_refl _⟩, ⟨bk_ BK528.out⟩, ⟨hb1_ HB.out GE528.out⟩⟩
  ·rw [if_neg c7] at H
   have c7b0 : ((l2_0.length : Int) == 0) = false := beq_eq_false_iff_ne.mpr c7
   have c7b1 : ((l2_0.length : Int) != 0) = true := bne_iff_ne.mpr c7
   have c7b2 : ¬ (l2_0 = []) := fun h_ => c7 (by rw [h_]; rfl)
   (first | rw [c7b0] | (simp only [i64_w, i32_w]; rw [c7b0]) | skip)
   have H' := A_ H
   clear H
   have hcz9_0 := bv_ BK528.out 0
   have hfz9_0 := blk_frozen BK528.out 0
   go_wp2
   go_meet
   case rel => exact ⟨_, (decide (a3 < (-4000))), sm_, H', ⟨by first | omega | exact Nat.le_refl _⟩, ⟨bk_ BK528.out⟩, ⟨hb1_ HB.out GE528.out⟩⟩
 case rest =>
  clear HC5
  try clear c2
  try clear p2
  try clear c6
  try clear c7
  try clear c7b0
  try clear c7b1
  try clear c7b2
  try clear hcz8_0
  try clear hcz9_0
  try clear hfz8_0
  try clear hfz9_0
  obtain ⟨kq, x16_4, rfl, HA, HJ4, BK528, HB⟩ := hcut
  cases kq with
  | zero => exact absurd HA.out (by simp [r3_Exact.j0])
  | succ kj4 =>
   have H := HA.out
   clear HA
   simp only [r3_Exact.j0] at H
   by_cases c10 : x16_4 = true
   ·subst c10
    have H1 : ((r2_Make.f kj4 a0 a1 0 0).bind fun t529 => (some t529)) = some r := by rw [if_pos rfl] at H; exact H
    clear H;have H := H1;clear H1
    replace H := ob_ H
    obtain ⟨t529, A110, H⟩ := H
    replace H : (some t529) = some r := H
    have A11 := A_ A110;clear A110
    obtain rfl := Option.some.inj H
    go_wp2_with (first | ((with_reducible refine gate_callee (f := 17) rfl ?_); refine gl_ (some 19) Try.func17 #[.int .i64 a0, .bool a1, .int .i64 0, .int .u64 0] ?_; (with_reducible refine (r2_Make.calls kj4 a0 a1 0 0 t529 _ A11.out).mono ?_); rintro e w' ⟨rfl, ⟨nd, rfl⟩⟩; refine ⟨_, rfl, ?_⟩))
    go_ret
    exact ⟨er_, hb1_ HB.out GE528.out⟩
   ·replace c10 := Bool.eq_false_iff.mpr c10
    subst c10
    have H1 : (if a3 > 4000 then ((r2_Inf.f kj4 a0 a1).bind fun t530 => (some t530)) else ((r1_Of.f kj4 1).bind fun t531 => ((r3_Near.f kj4 a0 a1 l2_0 t531 a3).bind fun t534 => (some t534)))) = some r := by rw [if_neg (show ¬ (false = true) by decide)] at H; exact H
    clear H;have H := H1;clear H1
    by_cases c12 : a3 > 4000
    ·rw [if_pos c12] at H
     have c12b0 : decide (4000 < a3) = true := decide_eq_true c12
     clear c12
     replace H := ob_ H
     obtain ⟨t530, A130, H⟩ := H
     replace H : (some t530) = some r := H
     have A13 := A_ A130;clear A130
     obtain rfl := Option.some.inj H
     go_wp2_with (first | ((with_reducible refine gate_callee (f := 59) rfl ?_); refine gl_ (some 24) Try.func59 #[.int .i64 a0, .bool a1] ?_; (with_reducible refine (r2_Inf.calls kj4 a0 a1 t530 _ A13.out).mono ?_); rintro e w' ⟨rfl, ⟨nd, rfl⟩⟩; refine ⟨_, rfl, ?_⟩))
     go_ret
     exact ⟨er_, hb1_ HB.out GE528.out⟩
    ·rw [if_neg c12] at H
     have c12b0 : decide (4000 < a3) = false := decide_eq_false c12
     clear c12
     replace H := ob_ H
     obtain ⟨t531, A140, H⟩ := H
     replace H : ((r3_Near.f kj4 a0 a1 l2_0 t531 a3).bind fun t534 => (some t534)) = some r := H
     have A14 := A_ A140;clear A140
     replace H := ob_ H
     obtain ⟨t534, A150, H⟩ := H
     replace H : (some t534) = some r := H
     have A15 := A_ A150;clear A150
     obtain rfl := Option.some.inj H
     try go_wp2
     replace BK528 := A_ (blk_drew BK528.out)
     replace HB := A_ (below_drew1 HB.out)
     refine start_ (n := 7) (S := fun w' => w'.cell? ⟨gb528, 0, none⟩ = some (.slice A2_0 l2_0.length c2_0)) (ds := []) #[false, false, false, false, false, false, false] (by kernel_rfl) rfl rfl (bc_ BK528.out 0) (fun hHeld => ?_)
     generalize wc.drew = w16 at BK528 HB hHeld ⊢
     refine pu_ 0 (some 25) #[true, false, false, false, false, false, false] rfl rfl (by kernel_rfl) ?_
     refine pu_ 1 (some 26) #[true, true, false, false, false, false, false] rfl rfl (by kernel_rfl) ?_
     refine pu_ 4 (some 29) #[true, true, false, false, true, false, false] rfl rfl (by kernel_rfl) ?_
     refine tk1_ 2 (some 27) #[true, true, true, false, true, false, false] rfl rfl (by kernel_rfl) hHeld ?_
     refine one_ (i := 3) (N := some 28) #[true, true, true, true, true, false, false] rfl rfl (by kernel_rfl) (by decide) (fun K hK => ?_)
     refine goes_ Try.func62 (by kernel_rfl) rfl #[.int .u64 1] (by rfl) rfl rfl mp_ ?_
     with_reducible refine (r1_Of.calls kj4 1 t531 _ A14.out).mono ?_
     rintro e w17 ⟨v532, rfl, ho0, hb⟩
     refine ⟨_, rfl, ?_⟩
     have HO533 := A_ (Kd.R_lower ho0 (below_size (hb1_ HB.out GE528.out)))
     replace BK528 := A_ (bb_ BK528.out hb)
     replace HB := A_ (below_step (hb1_ HB.out GE528.out) hb);(try clear hb);(try clear hb2);(try clear hk);(try clear hi);(try clear ho0)
     obtain ⟨Ao18, co18, eo18⟩ := Kd.R_slice HO533.out
     (first | subst eo18 | (injection eo18 with f1_ f2_ f3_; have f4_ := f1_.symm; have f5_ := f3_.symm; clear f1_ f2_ f3_; subst f4_; subst f5_))
     refine hK.out _ _ (bc_ BK528.out 0) (fun hHeld => ?_)
     clear hK K
     refine norm_ (a' := ?_) ?_ ?_
     rotate_left
     ·show Act.put _ (some 28) _ = _
      simp only [Act.put, lI_, l0_, lS_, i64_w, i32_w]
      rfl
     refine one_ (i := 5) (N := some 30) #[true, true, true, true, true, true, false] rfl rfl (by kernel_rfl) (by decide) (fun K hK => ?_)
     refine goes_ Try.func66 (by kernel_rfl) rfl #[.int .i64 a0, .bool a1, .agg #[.slice A2_0 l2_0.length c2_0], .agg #[.slice Ao18 t531.length co18], .int .i64 a3] (by rfl) rfl rfl mp_ ?_
     with_reducible refine (r3_Near.calls kj4 a0 a1 _ _ l2_0 _ _ t531 a3 t534 _ ?side1 ?side2 ?side3 ?side4 A15.out).mono ?_
     (case side1 => exact cs_ ((Kd.C_below HR2_0.out HB.out)))
     (case side2 => exact HC2_0.out)
     (case side3 => exact cs_ ((Kd.R_reads' HO533.out).2.2))
     (case side4 => exact (Kd.R_reads' HO533.out).2.1)
     rintro e w19 ⟨rfl, hb⟩
     refine ⟨_, rfl, ?_⟩
     replace HO533 := A_ (Kd.R_below (kr_ HO533.out) hb)
     replace BK528 := A_ (bb_ BK528.out hb)
     replace HB := A_ (below_step (hb1_ HB.out GE528.out) hb);(try clear hb);(try clear hb2);(try clear hk);(try clear hi)
     refine hK.out _ _ (bc_ BK528.out 0) (fun hHeld => ?_)
     clear hK K
     refine norm_ (a' := ?_) ?_ ?_
     rotate_left
     ·show Act.put _ (some 30) _ = _
      simp only [Act.put, lI_, l0_, lS_, i64_w, i32_w]
      rfl
     refine pu_ 6 (some 8) #[true, true, true, true, true, true, true] rfl rfl (by kernel_rfl) ?_
     refine done_ (by kernel_rfl) ?_
     try go_wp2
     go_ret
     exact ⟨er_, hb1_ HB.out GE528.out⟩
def r4_exact.f (k : Nat) (a0 : Int) (a1_0 : Bool) (a1_1 : Int) (a1_2 : Int) (a1_3 : Int) (a2_0 : Bool) (a2_1 : Int) (a2_2 : Int) (a2_3 : Int) : Option (Int) := (r1_Of.f k a1_3).bind fun t777 => ((r1_Shl.f k t777 (wrap64 (a1_2 - (mn a1_2 a2_2)))).bind fun t780 => ((r1_Of.f k a2_3).bind fun t784 => ((r1_Shl.f k t784 (wrap64 (a2_2 - (mn a1_2 a2_2)))).bind fun t787 => (if (a1_0 == a2_0) = true then ((r1_Add.f k t780 t787).bind fun t791 => ((r3_Exact.f k a0 a1_0 t791 (mn a1_2 a2_2)).bind fun t794 => (some t794))) else ((r1_Cmp.f k t780 t787).bind fun t795 => (if t795 = 0 then (some 0) else (if t795 < 0 then ((r1_Sub.f k t787 t780).bind fun t796 => ((r3_Exact.f k a0 a2_0 t796 (mn a1_2 a2_2)).bind fun t799 => (some t799))) else ((r1_Sub.f k t780 t787).bind fun t800 => ((r3_Exact.f k a0 a1_0 t800 (mn a1_2 a2_2)).bind fun t803 => (some t803))))))))))
theorem r4_exact.mono : ∀ a0 a1 a2 a3 a4 a5 a6 a7 a8 k, LeO (r4_exact.f k a0 a1 a2 a3 a4 a5 a6 a7 a8) (r4_exact.f (k + 1) a0 a1 a2 a3 a4 a5 a6 a7 a8) := by
 intro a0 a1 a2 a3 a4 a5 a6 a7 a8 k
 unfold r4_exact.f
 repeat' first
   | (with_reducible exact r1_Add.mono _ _ _)
   | (with_reducible exact r1_Cmp.mono _ _ _)
   | (with_reducible exact r1_Of.mono _ _)
   | (with_reducible exact r1_Shl.mono _ _ _)
   | (with_reducible exact r1_Sub.mono _ _ _)
   | (with_reducible exact r3_Exact.mono _ _ _ _ _)
   | (with_reducible exact LeO.refl _)
   | (with_reducible exact LeO.none _)
   | (with_reducible refine LeO.ite ?_ ?_)
   | (with_reducible refine LeO.bind ?_ (fun _ => ?_))
   | exact r1_Add.mono _ _ _
   | exact r1_Cmp.mono _ _ _
   | exact r1_Of.mono _ _
   | exact r1_Shl.mono _ _ _
   | exact r1_Sub.mono _ _ _
   | exact r3_Exact.mono _ _ _ _ _
   | exact LeO.none _
   | refine LeO.ite ?_ ?_
   | refine LeO.bind ?_ (fun _ => ?_)
-- IMPORT Derived.Deep.RegionHeld3
-- IMPORT Derived.Test.YtbpmnmceajmmcaaNr
-- IMPORT Derived.Test.YtbpmnmceajmmcaaPAtrunnionref01Div
theorem Nr.exact (k : Nat) (a0 : Int) (s : Bool) (v : Value) (l : List Int) (e r : Int) (w : World) (n : Nr.Nr w v l) (h : r3_Exact.f k a0 s l e = some r) : Calls Try.prog 60 #[.int .i64 a0, .bool s, .agg #[v], .int .i64 e] w fun o w' => o = .returned (.int .u64 r) ∧ Below w.heap.size w w' := by
 obtain ⟨A, c, rfl, hc, hC⟩ := n
 exact r3_Exact.calls k a0 s A c l e r w hC hc h
theorem Nr.newfrz {w w1 : World} {v : Value} {ty : Nat} (h : Below (w.alloc (.cells #[v] ty)).heap.size (w.alloc (.cells #[v] ty)) w1) : w1.frozen? ⟨w.heap.size, 0, none⟩ = false := by
 rw [(Nr.bcell h).2 _ _ (by simp)]
 simp [go_sem]
theorem Nr.exS {W w' : World} {b : Nat} {x y : Int} (q2 : W.cell? ⟨b, 2, none⟩ = some (.int .i64 x)) (q3 : W.cell? ⟨b, 3, none⟩ = some (.int .u64 y)) (hz : b < W.heap.size) (hB : Below W.heap.size W w') :
  w'.cell? ⟨b, 2, none⟩ = some (.int .i64 x) ∧ w'.cell? ⟨b, 3, none⟩ = some (.int .u64 y) ∧ W.heap.size ≤ w'.heap.size ∧ Below W.heap.size W w' :=
 ⟨((Nr.bcell hB).1 _ _ hz).trans q2, ((Nr.bcell hB).1 _ _ hz).trans q3, hB.size, hB⟩
theorem Nr.exS5 {W w' : World} {b g h : Nat} {s : Bool} {u v : Value} (q : W.cell? ⟨b, 0, none⟩ = some (.bool s)) (hg : W.cell? ⟨g, 0, none⟩ = some u) (hh : W.cell? ⟨h, 0, none⟩ = some v) (z : b < W.heap.size) (zg : g < W.heap.size) (zh : h < W.heap.size) (hB : Below W.heap.size W w') :
  w'.cell? ⟨b, 0, none⟩ = some (.bool s) ∧ w'.cell? ⟨g, 0, none⟩ = some u ∧ w'.cell? ⟨h, 0, none⟩ = some v ∧ W.heap.size ≤ w'.heap.size ∧ Below W.heap.size W w' :=
 ⟨((Nr.bcell hB).1 _ _ z).trans q, ((Nr.bcell hB).1 _ _ zg).trans hg, ((Nr.bcell hB).1 _ _ zh).trans hh, hB.size, hB⟩
theorem r4_exact.calls (k : Nat) (a0 : Int) (a1_0 : Bool) (a1_1 : Int) (a1_2 : Int) (a1_3 : Int) (a2_0 : Bool) (a2_1 : Int) (a2_2 : Int) (a2_3 : Int) (r : Int) (w : World) (h : r4_exact.f k a0 a1_0 a1_1 a1_2 a1_3 a2_0 a2_1 a2_2 a2_3 = some r) :
  Calls Try.prog 106 #[.int .i64 a0, .agg #[.bool a1_0, .int .i64 a1_1, .int .i64 a1_2, .int .u64 a1_3], .agg #[.bool a2_0, .int .i64 a2_1, .int .i64 a2_2, .int .u64 a2_3]] w fun e w' => e = .returned (.int .u64 r) ∧ Below w.heap.size w w' := by
 obtain ⟨lo, hlo⟩ : ∃ j : Int, mn a1_2 a2_2 = j := ⟨_, rfl⟩
 unfold r4_exact.f at h
 rw [hlo] at h
 obtain ⟨t0, B0, H1⟩ := ob_ h
 obtain ⟨x, B1, H2⟩ := ob_ H1
 obtain ⟨t1, B2, H3⟩ := ob_ H2
 obtain ⟨y, B3, H⟩ := ob_ H3
 obtain ⟨d0, hd0⟩ : ∃ j : Int, wrap64 (a1_2 - lo) = j := ⟨_, rfl⟩
 obtain ⟨d1, hd1⟩ : ∃ j : Int, wrap64 (a2_2 - lo) = j := ⟨_, rfl⟩
 rw [hd0] at B1
 rw [hd1] at B3
 have e0 : IntKind.i64.wrap (a1_2 - lo) = d0 := (i64_w _).trans hd0
 have e1 : IntKind.i64.wrap (a2_2 - lo) = d1 := (i64_w _).trans hd1
 have T0 := A_ B0;have T1 := A_ B1;have T2 := A_ B2;have T3 := A_ B3;have HH := A_ H
 have hlo_ : (if a2_2 < a1_2 then a2_2 else a1_2) = lo := hlo
 clear h B0 B1 B2 B3 H H1 H2 H3 hlo hd0 hd1
 have hu57 := Try.underlying57
 have hu63 := Try.underlying63
 go_enter Try.func106, Try.ntmps106
 go_upto_region 2 with fail
 have q0 : ((w.alloc (.cells #[.bool a1_0, .int .i64 a1_1, .int .i64 a1_2, .int .u64 a1_3] 57)).alloc (.cells #[.bool a2_0, .int .i64 a2_1, .int .i64 a2_2, .int .u64 a2_3] 57)).cell? ⟨w.heap.size, 0, none⟩ = some (.bool a1_0) := by simp [go_sem, World.cell?_alloc_past]
 have q2 : ((w.alloc (.cells #[.bool a1_0, .int .i64 a1_1, .int .i64 a1_2, .int .u64 a1_3] 57)).alloc (.cells #[.bool a2_0, .int .i64 a2_1, .int .i64 a2_2, .int .u64 a2_3] 57)).cell? ⟨w.heap.size, 2, none⟩ = some (.int .i64 a1_2) := by simp [go_sem, World.cell?_alloc_past]
 have q3 : ((w.alloc (.cells #[.bool a1_0, .int .i64 a1_1, .int .i64 a1_2, .int .u64 a1_3] 57)).alloc (.cells #[.bool a2_0, .int .i64 a2_1, .int .i64 a2_2, .int .u64 a2_3] 57)).cell? ⟨w.heap.size, 3, none⟩ = some (.int .u64 a1_3) := by simp [go_sem, World.cell?_alloc_past]
 have p0 : ((w.alloc (.cells #[.bool a1_0, .int .i64 a1_1, .int .i64 a1_2, .int .u64 a1_3] 57)).alloc (.cells #[.bool a2_0, .int .i64 a2_1, .int .i64 a2_2, .int .u64 a2_3] 57)).cell? ⟨w.heap.size + 1, 0, none⟩ = some (.bool a2_0) := by simp [go_sem, World.cell?_alloc_past]
 have p2 : ((w.alloc (.cells #[.bool a1_0, .int .i64 a1_1, .int .i64 a1_2, .int .u64 a1_3] 57)).alloc (.cells #[.bool a2_0, .int .i64 a2_1, .int .i64 a2_2, .int .u64 a2_3] 57)).cell? ⟨w.heap.size + 1, 2, none⟩ = some (.int .i64 a2_2) := by simp [go_sem, World.cell?_alloc_past]
 have p3 : ((w.alloc (.cells #[.bool a1_0, .int .i64 a1_1, .int .i64 a1_2, .int .u64 a1_3] 57)).alloc (.cells #[.bool a2_0, .int .i64 a2_1, .int .i64 a2_2, .int .u64 a2_3] 57)).cell? ⟨w.heap.size + 1, 3, none⟩ = some (.int .u64 a2_3) := by simp [go_sem, World.cell?_alloc_past]
 have hz : w.heap.size + 1 < ((w.alloc (.cells #[.bool a1_0, .int .i64 a1_1, .int .i64 a1_2, .int .u64 a1_3] 57)).alloc (.cells #[.bool a2_0, .int .i64 a2_1, .int .i64 a2_2, .int .u64 a2_3] 57)).heap.size := by simp [go_sem]
 have bl : Below w.heap.size w ((w.alloc (.cells #[.bool a1_0, .int .i64 a1_1, .int .i64 a1_2, .int .u64 a1_3] 57)).alloc (.cells #[.bool a2_0, .int .i64 a2_1, .int .i64 a2_2, .int .u64 a2_3] 57)) := below_alloc (below_alloc (Below.refl _ _) _) _
 generalize hW : (w.alloc (.cells #[.bool a1_0, .int .i64 a1_1, .int .i64 a1_2, .int .u64 a1_3] 57)).alloc (.cells #[.bool a2_0, .int .i64 a2_1, .int .i64 a2_2, .int .u64 a2_3] 57) = W at q0 q2 q3 p0 p2 p3 hz bl ⊢
 clear hW
 have hz0 : w.heap.size < W.heap.size := by omega
 go_cut [8] (fun s8 wx => ∃ (g : Nat) (A : Option Addr) (c : Nat), s8 = .pointer (some ⟨g, 0, none⟩) ∧ W.heap.size ≤ g ∧ g < wx.heap.size ∧ wx.cell? ⟨g, 0, none⟩ = some (.slice A x.length c) ∧ Nr.Nr wx (.slice A x.length c) x ∧ Below W.heap.size W wx)
 case first =>
  go_region_held3 (fun w' => w'.cell? ⟨w.heap.size, 2, none⟩ = some (.int .i64 a1_2) ∧ w'.cell? ⟨w.heap.size, 3, none⟩ = some (.int .u64 a1_3) ∧ W.heap.size ≤ w'.heap.size ∧ Below W.heap.size W w')
   (((try go_split_ands); (try dsimp only); refine Nr.exS q2 q3 hz0 ?_; (repeat (first | assumption | exact BW2.out | exact BW1.out | exact Below.refl _ _ | apply below_drew1 | apply below_alloc | (refine below_set ?_ (by first | omega | (simp [go_sem]; omega))))); done))
   (first
    | (go_at_call 62; refine (Nr.of k _ t0 _ T0.out).mono ?_; rintro e w1 ⟨Ao, co, rfl, oo, hb⟩; (try go_split_ands); have BW1 := A_ (show Below W.heap.size W w1 from below_step (by first | assumption | exact Below.refl _ _) hb); have z1 := BW1.out.size; (try replace hb := Nr.undrew hb); (try (have tq := Nr.newcell hb; have tf := Nr.newfrz hb; have tl := Nr.newlt hb)); obtain ⟨hc, hf⟩ := Nr.bcell hb; have n0 := A_ oo.nr)
    | (go_at_call 78; (try rw [e0]); refine (Nr.shl k _ t0 d0 x _ (by repeat (first | exact n0.out | apply Nr.Nr.alloc | apply Nr.Nr.drew)) T1.out).mono ?_; rintro e w2 ⟨As, cs, rfl, os, hb⟩; (try go_split_ands); have BW2 := A_ (show Below W.heap.size W w2 from below_step (by first | assumption | exact BW1.out) hb); have z2 := BW2.out.size; (try have tl2 := Nat.lt_of_lt_of_le tl hb.size); (try (have sq := Nr.newcell hb; have sf := Nr.newfrz hb; have sl := Nr.newlt hb)); obtain ⟨hc, hf⟩ := Nr.bcell hb; (try (replace tq := (hc _ _ (by omega)).trans tq; replace tf := (hf _ _ (by omega)).trans tf)); have n1 := A_ os.nr))
  all_goals (go_wp2_with fail; go_meet)
  all_goals (
   refine ⟨_, As, cs, rfl, ?_, ?_, ?_, ?_, ?_⟩
   all_goals first
    | omega
    | (simp [go_sem]; done)
    | (simp; omega)
    | (simp [go_sem]; omega)
    | exact (World.cell?_alloc_new _ _ _ _).trans rfl
    | exact World.cell?_setCell_same _ _ _ sq
    | exact World.cell?_setCell_same _ _ _ tq
    | exact Nr.Nr.alloc n1.out _
    | exact Nr.Nr.set n1.out _ (by rw [sq]; exact Nr.IsRow.slice _ _ _)
    | exact Nr.Nr.set n1.out _ (by rw [tq]; exact Nr.IsRow.slice _ _ _)
    | (repeat (first | assumption | exact BW2.out | apply below_drew1 | apply below_alloc | (refine below_set ?_ (by omega)))))
 case rest =>
  obtain ⟨g, A, c, rfl, hg1, hg2, gc, gn, BW⟩ := hcut
  rename World => V
  replace q0 := ((Nr.bcell BW).1 _ _ (by omega)).trans q0
  replace p0 := ((Nr.bcell BW).1 _ _ hz).trans p0
  replace p2 := ((Nr.bcell BW).1 _ _ hz).trans p2
  replace p3 := ((Nr.bcell BW).1 _ _ hz).trans p3
  replace bl := below_step bl BW
  have hz1 : w.heap.size + 1 < V.heap.size := Nat.lt_of_lt_of_le hz BW.size
  clear q2 q3 BW
  go_step
  go_upto_region 3 with fail
  go_cut [9] (fun s9 wx => ∃ (h : Nat) (B : Option Addr) (d : Nat), s9 = .pointer (some ⟨h, 0, none⟩) ∧ V.heap.size ≤ h ∧ h < wx.heap.size ∧ wx.cell? ⟨h, 0, none⟩ = some (.slice B y.length d) ∧ Nr.Nr wx (.slice B y.length d) y ∧ Below V.heap.size V wx)
  case first =>
   go_region_held3 (fun w' => w'.cell? ⟨w.heap.size + 1, 2, none⟩ = some (.int .i64 a2_2) ∧ w'.cell? ⟨w.heap.size + 1, 3, none⟩ = some (.int .u64 a2_3) ∧ V.heap.size ≤ w'.heap.size ∧ Below V.heap.size V w')
    (((try go_split_ands); (try dsimp only); refine Nr.exS p2 p3 hz1 ?_; (repeat (first | assumption | exact BW2.out | exact BW1.out | exact Below.refl _ _ | apply below_drew1 | apply below_alloc | (refine below_set ?_ (by first | omega | (simp [go_sem]; omega))))); done))
    (first
     | (go_at_call 62; refine (Nr.of k _ t1 _ T2.out).mono ?_; rintro e w1 ⟨Ao, co, rfl, oo, hb⟩; (try go_split_ands); have BW1 := A_ (show Below V.heap.size V w1 from below_step (by first | assumption | exact Below.refl _ _) hb); have z1 := BW1.out.size; (try replace hb := Nr.undrew hb); (try (have tq := Nr.newcell hb; have tf := Nr.newfrz hb; have tl := Nr.newlt hb)); obtain ⟨hc, hf⟩ := Nr.bcell hb; have n0 := A_ oo.nr)
     | (go_at_call 78; (try rw [e1]); refine (Nr.shl k _ t1 d1 y _ (by repeat (first | exact n0.out | apply Nr.Nr.alloc | apply Nr.Nr.drew)) T3.out).mono ?_; rintro e w2 ⟨As, cs, rfl, os, hb⟩; (try go_split_ands); have BW2 := A_ (show Below V.heap.size V w2 from below_step (by first | assumption | exact BW1.out) hb); have z2 := BW2.out.size; (try have tl2 := Nat.lt_of_lt_of_le tl hb.size); (try (have sq := Nr.newcell hb; have sf := Nr.newfrz hb; have sl := Nr.newlt hb)); obtain ⟨hc, hf⟩ := Nr.bcell hb; (try (replace tq := (hc _ _ (by omega)).trans tq; replace tf := (hf _ _ (by omega)).trans tf)); have n1 := A_ os.nr))
   all_goals (go_wp2_with fail; go_meet)
   all_goals (
    refine ⟨_, As, cs, rfl, ?_, ?_, ?_, ?_, ?_⟩
    all_goals first
     | omega
     | (simp [go_sem]; done)
     | (simp; omega)
     | (simp [go_sem]; omega)
     | exact (World.cell?_alloc_new _ _ _ _).trans rfl
     | exact World.cell?_setCell_same _ _ _ sq
     | exact World.cell?_setCell_same _ _ _ tq
     | exact Nr.Nr.alloc n1.out _
     | exact Nr.Nr.set n1.out _ (by rw [sq]; exact Nr.IsRow.slice _ _ _)
     | exact Nr.Nr.set n1.out _ (by rw [tq]; exact Nr.IsRow.slice _ _ _)
     | (repeat (first | assumption | exact BW2.out | apply below_drew1 | apply below_alloc | (refine below_set ?_ (by omega)))))
  case rest =>
   obtain ⟨h, B, d, rfl, hh1, hh2, hc, hn, BV⟩ := hcut
   rename World => U
   replace q0 := ((Nr.bcell BV).1 _ _ (by omega)).trans q0
   replace p0 := ((Nr.bcell BV).1 _ _ hz1).trans p0
   replace gc := ((Nr.bcell BV).1 _ _ hg2).trans gc
   replace gn := Nr.Nr.below gn BV
   replace bl := below_step bl BV
   have hz2 : w.heap.size + 1 < U.heap.size := Nat.lt_of_lt_of_le hz1 BV.size
   have hg3 : g < U.heap.size := Nat.lt_of_lt_of_le hg2 BV.size
   clear p2 p3 BV hg1 hg2 hh1
   have H := HH.out
   clear HH T0 T1 T2 T3
   go_step
   by_cases c1 : (a1_0 == a2_0) = true
   ·rw [if_pos c1] at H
    obtain ⟨z, B5, H1⟩ := ob_ H
    obtain ⟨r', B6, H2⟩ := ob_ H1
    have hrr : r' = r := Option.some.inj H2
    rw [hrr] at B6
    have T5 := A_ B5;have T6 := A_ B6;clear H H1 H2 B5 B6
    go_upto_region 5 with fail
    go_region_held3 (fun w' => w'.cell? ⟨w.heap.size, 0, none⟩ = some (.bool a1_0) ∧ w'.cell? ⟨g, 0, none⟩ = some (.slice A x.length c) ∧ w'.cell? ⟨h, 0, none⟩ = some (.slice B y.length d) ∧ U.heap.size ≤ w'.heap.size ∧ Below U.heap.size U w')
     (((try go_split_ands); (try dsimp only); refine Nr.exS5 q0 gc hc (by omega) (by omega) (by omega) ?_; (repeat (first | assumption | exact BW4.out | exact BW3.out | exact Below.refl _ _ | apply below_drew1)); done))
     (first
      | (go_at_call 80; (try go_split_ands); refine (Nr.add k _ _ x y z _ (Nr.Nr.below gn (by first | assumption | exact Below.refl _ _)) (Nr.Nr.below hn (by first | assumption | exact Below.refl _ _)) T5.out).mono ?_; rintro e w3 ⟨Az, cz, rfl, oz, hb⟩; have BW3 := A_ (show Below U.heap.size U w3 from below_step (by first | assumption | exact Below.refl _ _) hb); have nz := A_ oz.nr)
      | (go_at_call 60; (try go_split_ands); refine (Nr.exact k a0 a1_0 _ z lo r _ nz.out T6.out).mono ?_; rintro e w4 ⟨rfl, hb⟩; have BW4 := A_ (show Below U.heap.size U w4 from below_step (by first | assumption | exact BW3.out) hb)))
    all_goals go_wp2
    all_goals exact bodyPost_ret (v := .int .u64 r) (by simp [results, Try.results106, go_sem]) rfl ⟨rfl, below_step bl BW4.out⟩
   ·rw [if_neg c1] at H
    have c1b : (a1_0 == a2_0) = false := Bool.eq_false_iff.mpr c1
    clear c1
    obtain ⟨t, B5, H1⟩ := ob_ H
    have T5 := A_ B5;have HC := A_ H1;clear H H1 B5
    have H := HC.out
    clear HC
    by_cases c2 : t = 0
    ·rw [if_pos c2] at H
     have c2b : decide (t = 0) = true := decide_eq_true c2
     have c2c : (t == 0) = true := beq_iff_eq.mpr c2
     obtain rfl : (0 : Int) = r := Option.some.inj H
     clear H
     go_wp2_with (first | (go_at_call 113; refine (Nr.cmp k _ _ x y t _ gn hn T5.out).mono ?_; rintro e w5 ⟨rfl, hb⟩; (try replace hb := Nr.undrew hb); obtain ⟨hcc, hff⟩ := Nr.bcell hb; have hs := hb.size; replace q0 := (hcc _ _ (by omega)).trans q0; replace p0 := (hcc _ _ hz2).trans p0; replace gc := (hcc _ _ hg3).trans gc; replace hc := (hcc _ _ hh2).trans hc; replace gn := Nr.Nr.below gn hb; replace hn := Nr.Nr.below hn hb; replace bl := below_step bl hb; replace hz2 := Nat.lt_of_lt_of_le hz2 hs; replace hg3 := Nat.lt_of_lt_of_le hg3 hs; replace hh2 := Nat.lt_of_lt_of_le hh2 hs; clear hcc hff hs hb))
     exact bodyPost_ret (v := .int .u64 0) (by simp [results, Try.results106, go_sem]) rfl ⟨rfl, bl⟩
    ·rw [if_neg c2] at H
     have c2b : decide (t = 0) = false := decide_eq_false c2
     have c2c : (t == 0) = false := beq_eq_false_iff_ne.mpr c2
     by_cases c3 : t < 0
     ·rw [if_pos c3] at H
      have c3b : decide (t < 0) = true := decide_eq_true c3
      obtain ⟨z, B5, H1⟩ := ob_ H
      obtain ⟨r', B6, H2⟩ := ob_ H1
      have hrr : r' = r := Option.some.inj H2
      rw [hrr] at B6
      have T7 := A_ B5;have T6 := A_ B6;clear H H1 H2 B5 B6 c2 c3 hrr
      go_upto_region 10 with (first | (go_at_call 113; refine (Nr.cmp k _ _ x y t _ gn hn T5.out).mono ?_; rintro e w5 ⟨rfl, hb⟩; (try replace hb := Nr.undrew hb); obtain ⟨hcc, hff⟩ := Nr.bcell hb; have hs := hb.size; replace q0 := (hcc _ _ (by omega)).trans q0; replace p0 := (hcc _ _ hz2).trans p0; replace gc := (hcc _ _ hg3).trans gc; replace hc := (hcc _ _ hh2).trans hc; replace gn := Nr.Nr.below gn hb; replace hn := Nr.Nr.below hn hb; replace bl := below_step bl hb; replace hz2 := Nat.lt_of_lt_of_le hz2 hs; replace hg3 := Nat.lt_of_lt_of_le hg3 hs; replace hh2 := Nat.lt_of_lt_of_le hh2 hs; clear hcc hff hs hb))
      rename World => U
      go_region_held3 (fun w' => w'.cell? ⟨w.heap.size + 1, 0, none⟩ = some (.bool a2_0) ∧ w'.cell? ⟨g, 0, none⟩ = some (.slice A x.length c) ∧ w'.cell? ⟨h, 0, none⟩ = some (.slice B y.length d) ∧ U.heap.size ≤ w'.heap.size ∧ Below U.heap.size U w')
       (((try go_split_ands); (try dsimp only); refine Nr.exS5 p0 gc hc (by omega) (by omega) (by omega) ?_; (repeat (first | assumption | exact BW4.out | exact BW3.out | exact Below.refl _ _ | apply below_drew1)); done))
       (first
        | (go_at_call 118; (try go_split_ands); refine (Nr.sub k _ _ y x z _ (Nr.Nr.below hn (by first | assumption | exact Below.refl _ _)) (Nr.Nr.below gn (by first | assumption | exact Below.refl _ _)) T7.out).mono ?_; rintro e w3 ⟨Az, cz, rfl, oz, hb⟩; have BW3 := A_ (show Below U.heap.size U w3 from below_step (by first | assumption | exact Below.refl _ _) hb); have nz := A_ oz.nr)
        | (go_at_call 60; (try go_split_ands); refine (Nr.exact k a0 a2_0 _ z lo r _ nz.out T6.out).mono ?_; rintro e w4 ⟨rfl, hb⟩; have BW4 := A_ (show Below U.heap.size U w4 from below_step (by first | assumption | exact BW3.out) hb)))
      all_goals go_wp2
      all_goals exact bodyPost_ret (v := .int .u64 r) (by simp [results, Try.results106, go_sem]) rfl ⟨rfl, below_step bl BW4.out⟩
     ·rw [if_neg c3] at H
      have c3b : decide (t < 0) = false := decide_eq_false c3
      obtain ⟨z, B5, H1⟩ := ob_ H
      obtain ⟨r', B6, H2⟩ := ob_ H1
      have hrr : r' = r := Option.some.inj H2
      rw [hrr] at B6
      have T7 := A_ B5;have T6 := A_ B6;clear H H1 H2 B5 B6 c2 c3 hrr
      go_upto_region 11 with (first | (go_at_call 113; refine (Nr.cmp k _ _ x y t _ gn hn T5.out).mono ?_; rintro e w5 ⟨rfl, hb⟩; (try replace hb := Nr.undrew hb); obtain ⟨hcc, hff⟩ := Nr.bcell hb; have hs := hb.size; replace q0 := (hcc _ _ (by omega)).trans q0; replace p0 := (hcc _ _ hz2).trans p0; replace gc := (hcc _ _ hg3).trans gc; replace hc := (hcc _ _ hh2).trans hc; replace gn := Nr.Nr.below gn hb; replace hn := Nr.Nr.below hn hb; replace bl := below_step bl hb; replace hz2 := Nat.lt_of_lt_of_le hz2 hs; replace hg3 := Nat.lt_of_lt_of_le hg3 hs; replace hh2 := Nat.lt_of_lt_of_le hh2 hs; clear hcc hff hs hb))
      rename World => U
      go_region_held3 (fun w' => w'.cell? ⟨w.heap.size, 0, none⟩ = some (.bool a1_0) ∧ w'.cell? ⟨g, 0, none⟩ = some (.slice A x.length c) ∧ w'.cell? ⟨h, 0, none⟩ = some (.slice B y.length d) ∧ U.heap.size ≤ w'.heap.size ∧ Below U.heap.size U w')
       (((try go_split_ands); (try dsimp only); refine Nr.exS5 q0 gc hc (by omega) (by omega) (by omega) ?_; (repeat (first | assumption | exact BW4.out | exact BW3.out | exact Below.refl _ _ | apply below_drew1)); done))
       (first
        | (go_at_call 118; (try go_split_ands); refine (Nr.sub k _ _ x y z _ (Nr.Nr.below gn (by first | assumption | exact Below.refl _ _)) (Nr.Nr.below hn (by first | assumption | exact Below.refl _ _)) T7.out).mono ?_; rintro e w3 ⟨Az, cz, rfl, oz, hb⟩; have BW3 := A_ (show Below U.heap.size U w3 from below_step (by first | assumption | exact Below.refl _ _) hb); have nz := A_ oz.nr)
        | (go_at_call 60; (try go_split_ands); refine (Nr.exact k a0 a1_0 _ z lo r _ nz.out T6.out).mono ?_; rintro e w4 ⟨rfl, hb⟩; have BW4 := A_ (show Below U.heap.size U w4 from below_step (by first | assumption | exact BW3.out) hb)))
      all_goals go_wp2
      all_goals exact bodyPost_ret (v := .int .u64 r) (by simp [results, Try.results106, go_sem]) rfl ⟨rfl, below_step bl BW4.out⟩
def r4_parts.j0 : Nat → Int → Bool → Bool → Int → Int → Int → Bool → Int → Int → Int → Option (Int)
 | 0, _, _, _, _, _, _, _, _, _, _ => none
 | k + 1, x0, x31, x805000, x805001, x805002, x805003, x806000, x806001, x806002, x806003 => if x31 = true then ((r2_Nan.f k x0).bind fun t806 => (some t806)) else (if x805001 = 2 then ((r2_Inf.f k x0 x805000).bind fun t807 => (some t807)) else (if x806001 = 2 then ((r2_Inf.f k x0 x806000).bind fun t808 => (some t808)) else ((r4_exact.f k x0 x805000 x805001 x805002 x805003 x806000 x806001 x806002 x806003).bind fun t809 => (some t809))))
def r4_parts.f (k : Nat) (a0 : Int) (a1_0 : Bool) (a1_1 : Int) (a1_2 : Int) (a1_3 : Int) (a2_0 : Bool) (a2_1 : Int) (a2_2 : Int) (a2_3 : Int) : Option (Int) := if a1_1 = 3 then (r4_parts.j0 k a0 true a1_0 a1_1 a1_2 a1_3 a2_0 a2_1 a2_2 a2_3) else (if a2_1 = 3 then (r4_parts.j0 k a0 true a1_0 a1_1 a1_2 a1_3 a2_0 a2_1 a2_2 a2_3) else (if a1_1 = 2 then (if a2_1 = 2 then (r4_parts.j0 k a0 (a1_0 != a2_0) a1_0 a1_1 a1_2 a1_3 a2_0 a2_1 a2_2 a2_3) else (r4_parts.j0 k a0 false a1_0 a1_1 a1_2 a1_3 a2_0 a2_1 a2_2 a2_3)) else (r4_parts.j0 k a0 false a1_0 a1_1 a1_2 a1_3 a2_0 a2_1 a2_2 a2_3)))
theorem r4_parts.mono_l : ∀ k, (∀ y0 y1 y2 y3 y4 y5 y6 y7 y8 y9, LeO (r4_parts.j0 k y0 y1 y2 y3 y4 y5 y6 y7 y8 y9) (r4_parts.j0 (k + 1) y0 y1 y2 y3 y4 y5 y6 y7 y8 y9))
 | 0 => fun _ _ _ _ _ _ _ _ _ _ r h => by simp [r4_parts.j0] at h
 | k + 1 => by
  have ih0 := r4_parts.mono_l k
  ·intro y0 y1 y2 y3 y4 y5 y6 y7 y8 y9
   unfold r4_parts.j0
   repeat' first
   | (with_reducible exact ih0 _ _ _ _ _ _ _ _ _ _)
   | (with_reducible exact r2_Inf.mono _ _ _)
   | (with_reducible exact r2_Nan.mono _ _)
   | (with_reducible exact r4_exact.mono _ _ _ _ _ _ _ _ _ _)
   | (with_reducible exact LeO.refl _)
   | (with_reducible exact LeO.none _)
   | (with_reducible refine LeO.ite ?_ ?_)
   | (with_reducible refine LeO.bind ?_ (fun _ => ?_))
   | exact ih0 _ _ _ _ _ _ _ _ _ _
   | exact r2_Inf.mono _ _ _
   | exact r2_Nan.mono _ _
   | exact r4_exact.mono _ _ _ _ _ _ _ _ _ _
   | exact LeO.none _
   | refine LeO.ite ?_ ?_
   | refine LeO.bind ?_ (fun _ => ?_)
theorem r4_parts.mono : ∀ a0 a1 a2 a3 a4 a5 a6 a7 a8 k, LeO (r4_parts.f k a0 a1 a2 a3 a4 a5 a6 a7 a8) (r4_parts.f (k + 1) a0 a1 a2 a3 a4 a5 a6 a7 a8) := by
 intro a0 a1 a2 a3 a4 a5 a6 a7 a8 k
 have ih0 := r4_parts.mono_l k
 unfold r4_parts.f
 repeat' first
   | (with_reducible exact ih0 _ _ _ _ _ _ _ _ _ _)
   | (with_reducible exact r2_Inf.mono _ _ _)
   | (with_reducible exact r2_Nan.mono _ _)
   | (with_reducible exact r4_exact.mono _ _ _ _ _ _ _ _ _ _)
   | (with_reducible exact LeO.refl _)
   | (with_reducible exact LeO.none _)
   | (with_reducible refine LeO.ite ?_ ?_)
   | (with_reducible refine LeO.bind ?_ (fun _ => ?_))
   | exact ih0 _ _ _ _ _ _ _ _ _ _
   | exact r2_Inf.mono _ _ _
   | exact r2_Nan.mono _ _
   | exact r4_exact.mono _ _ _ _ _ _ _ _ _ _
   | exact LeO.none _
   | refine LeO.ite ?_ ?_
   | refine LeO.bind ?_ (fun _ => ?_)
theorem r4_parts.calls (k : Nat) (a0 : Int) (a1_0 : Bool) (a1_1 : Int) (a1_2 : Int) (a1_3 : Int) (a2_0 : Bool) (a2_1 : Int) (a2_2 : Int) (a2_3 : Int) (r : Int) (w : World) (h : r4_parts.f k a0 a1_0 a1_1 a1_2 a1_3 a2_0 a2_1 a2_2 a2_3 = some r) :
  Calls Try.prog 84 #[.int .i64 a0, .agg #[.bool a1_0, .int .i64 a1_1, .int .i64 a1_2, .int .u64 a1_3], .agg #[.bool a2_0, .int .i64 a2_1, .int .i64 a2_2, .int .u64 a2_3]] w fun e w' => e = .returned (.int .u64 r) ∧ Below w.heap.size w w' := by
 have hu57 := Try.underlying57
 have HB := A_ (Below.refl w.heap.size w)
 have H : (if a1_1 = 3 then (r4_parts.j0 k a0 true a1_0 a1_1 a1_2 a1_3 a2_0 a2_1 a2_2 a2_3) else (if a2_1 = 3 then (r4_parts.j0 k a0 true a1_0 a1_1 a1_2 a1_3 a2_0 a2_1 a2_2 a2_3) else (if a1_1 = 2 then (if a2_1 = 2 then (r4_parts.j0 k a0 (a1_0 != a2_0) a1_0 a1_1 a1_2 a1_3 a2_0 a2_1 a2_2 a2_3) else (r4_parts.j0 k a0 false a1_0 a1_1 a1_2 a1_3 a2_0 a2_1 a2_2 a2_3)) else (r4_parts.j0 k a0 false a1_0 a1_1 a1_2 a1_3 a2_0 a2_1 a2_2 a2_3)))) = some r := h
 clear h;have HC4 := A_ H;clear H
 go_enter Try.func84, Try.ntmps84
 go_upto_region 1 with (first | ((with_reducible refine gate_dst (N := 4) rfl ?_); refine be_ 4 #[.bool a1_0, .int .i64 a1_1, .int .i64 a1_2, .int .u64 a1_3] 57 ?_; intro gb804 hg w5 hbox hb; have BK804 := A_ (hbox); have GW804 := A_ (sz_ hg (hb_ HB.out)); have GE804 := A_ (sz_ hg (hb_ HB.out)); replace HB := A_ (below_step (hb_ HB.out) hb); clear hb hbox hg) | ((with_reducible refine gate_dst (N := 5) rfl ?_); refine be_ 5 #[.bool a2_0, .int .i64 a2_1, .int .i64 a2_2, .int .u64 a2_3] 57 ?_; intro gb805 hg w6 hbox hb; have BK805 := A_ (hbox); have GW805 := A_ (sz_ hg (hb1_ HB.out GE804.out)); have GE805 := A_ (sz_ hg (hb1_ HB.out GE804.out)); have NB804_805 := A_ (nl_ hg BK804.out); have NB805_804 := A_ (ng_ hg BK804.out); replace BK804 := A_ (bb_ BK804.out hb); replace HB := A_ (below_step (hb1_ HB.out GE804.out) hb); clear hb hbox hg))
 (try simp only [Act.put, lI_, l0_, lS_])
 go_cut [31] (fun v31 wc => ∃ (kq : Nat) (x31_3 : Bool), v31 = .bool x31_3 ∧ Aside0 (r4_parts.j0 kq a0 x31_3 a1_0 a1_1 a1_2 a1_3 a2_0 a2_1 a2_2 a2_3 = some r) ∧ Aside0 (kq ≤ k) ∧ Aside0 (wc.heap[gb804]? = some (.cells #[.bool a1_0, .int .i64 a1_1, .int .i64 a1_2, .int .u64 a1_3] 57 (0, 0))) ∧ Aside0 (wc.heap[gb805]? = some (.cells #[.bool a2_0, .int .i64 a2_1, .int .i64 a2_2, .int .u64 a2_3] 57 (0, 0))) ∧ Aside0 (Below w.heap.size w wc))
 case first =>
  have H := HC4.out
  clear HC4
  by_cases c7 : a1_1 = 3
  ·rw [if_pos c7] at H
   have c7b0 : (a1_1 == 3) = true := beq_iff_eq.mpr c7
   have c7b1 : (a1_1 != 3) = false := bne_eq_false_iff_eq.mpr c7
   clear c7
   (first | rw [c7b0] | (simp only [i64_w, i32_w]; rw [c7b0]) | skip)
   have H' := A_ H
   clear H
   have hnb8 := NB804_805.out
   have hnc8 := NB805_804.out
   have hcz9_0 := bv_ BK804.out 0
   have hcz9_1 := bv_ BK804.out 1
   have hcz9_2 := bv_ BK804.out 2
   have hcz9_3 := bv_ BK804.out 3
   have hfz9_0 := blk_frozen BK804.out 0
   have hfz9_1 := blk_frozen BK804.out 1
   have hfz9_2 := blk_frozen BK804.out 2
   have hfz9_3 := blk_frozen BK804.out 3
   go_wp2
   go_meet
   case rel => exact ⟨_, (true), sm_, H', ⟨by first | omega | exact Nat.le_refl _⟩, ⟨bk_ BK804.out⟩, ⟨bk_ BK805.out⟩, ⟨hb2_ HB.out GE804.out GE805.out⟩⟩
  ·rw [if_neg c7] at H
   have c7b0 : (a1_1 == 3) = false := beq_eq_false_iff_ne.mpr c7
   have c7b1 : (a1_1 != 3) = true := bne_iff_ne.mpr c7
   (first | rw [c7b0] | (simp only [i64_w, i32_w]; rw [c7b0]) | skip)
   by_cases c10 : a2_1 = 3
   ·rw [if_pos c10] at H
    have c10b0 : (a2_1 == 3) = true := beq_iff_eq.mpr c10
    have c10b1 : (a2_1 != 3) = false := bne_eq_false_iff_eq.mpr c10
    clear c10
    have H' := A_ H
    clear H
    have hnb11 := NB804_805.out
    have hnc11 := NB805_804.out
    have hcz12_0 := bv_ BK804.out 0
    have hcz12_1 := bv_ BK804.out 1
    have hcz12_2 := bv_ BK804.out 2
    have hcz12_3 := bv_ BK804.out 3
    have hfz12_0 := blk_frozen BK804.out 0
    have hfz12_1 := blk_frozen BK804.out 1
    have hfz12_2 := blk_frozen BK804.out 2
    have hfz12_3 := blk_frozen BK804.out 3
    have hcz13_0 := bv_ BK805.out 0
    have hcz13_1 := bv_ BK805.out 1
    have hcz13_2 := bv_ BK805.out 2
    have hcz13_3 := bv_ BK805.out 3
    have hfz13_0 := blk_frozen BK805.out 0
    have hfz13_1 := blk_frozen BK805.out 1
    have hfz13_2 := blk_frozen BK805.out 2
    have hfz13_3 := blk_frozen BK805.out 3
    go_wp2
    go_meet
    case rel => exact ⟨_, (true), sm_, H', ⟨by first | omega | exact Nat.le_refl _⟩, ⟨bk_ BK804.out⟩, ⟨bk_ BK805.out⟩, ⟨hb2_ HB.out GE804.out GE805.out⟩⟩
   ·rw [if_neg c10] at H
    have c10b0 : (a2_1 == 3) = false := beq_eq_false_iff_ne.mpr c10
    have c10b1 : (a2_1 != 3) = true := bne_iff_ne.mpr c10
    by_cases c14 : a1_1 = 2
    ·rw [if_pos c14] at H
     have c14b0 : (a1_1 == 2) = true := beq_iff_eq.mpr c14
     have c14b1 : (a1_1 != 2) = false := bne_eq_false_iff_eq.mpr c14
     clear c14
     by_cases c15 : a2_1 = 2
     ·rw [if_pos c15] at H
      have c15b0 : (a2_1 == 2) = true := beq_iff_eq.mpr c15
      have c15b1 : (a2_1 != 2) = false := bne_eq_false_iff_eq.mpr c15
      clear c15
      have H' := A_ H
      clear H
      have hnb16 := NB804_805.out
      have hnc16 := NB805_804.out
      have hcz17_0 := bv_ BK804.out 0
      have hcz17_1 := bv_ BK804.out 1
      have hcz17_2 := bv_ BK804.out 2
      have hcz17_3 := bv_ BK804.out 3
      have hfz17_0 := blk_frozen BK804.out 0
      have hfz17_1 := blk_frozen BK804.out 1
      have hfz17_2 := blk_frozen BK804.out 2
      have hfz17_3 := blk_frozen BK804.out 3
      have hcz18_0 := bv_ BK805.out 0
      have hcz18_1 := bv_ BK805.out 1
      have hcz18_2 := bv_ BK805.out 2
      have hcz18_3 := bv_ BK805.out 3
      have hfz18_0 := blk_frozen BK805.out 0
      have hfz18_1 := blk_frozen BK805.out 1
      have hfz18_2 := blk_frozen BK805.out 2
      have hfz18_3 := blk_frozen BK805.out 3
      go_wp2
      go_meet
      case rel => exact ⟨_, ((a1_0 != a2_0)), sm_, H', ⟨by first | omega | exact Nat.le_refl _⟩, ⟨bk_ BK804.out⟩, ⟨bk_ BK805.out⟩, ⟨hb2_ HB.out GE804.out GE805.out⟩⟩
     ·rw [if_neg c15] at H
      have c15b0 : (a2_1 == 2) = false := beq_eq_false_iff_ne.mpr c15
      have c15b1 : (a2_1 != 2) = true := bne_iff_ne.mpr c15
      have H' := A_ H
      clear H
      have hnb19 := NB804_805.out
      have hnc19 := NB805_804.out
      have hcz20_0 := bv_ BK804.out 0
      have hcz20_1 := bv_ BK804.out 1
      have hcz20_2 := bv_ BK804.out 2
      have hcz20_3 := bv_ BK804.out 3
      have hfz20_0 := blk_frozen BK804.out 0
      have hfz20_1 := blk_frozen BK804.out 1
      have hfz20_2 := blk_frozen BK804.out 2
      have hfz20_3 := blk_frozen BK804.out 3
      have hcz21_0 := bv_ BK805.out 0
      have hcz21_1 := bv_ BK805.out 1
      have hcz21_2 := bv_ BK805.out 2
      have hcz21_3 := bv_ BK805.out 3
      have hfz21_0 := blk_frozen BK805.out 0
      have hfz21_1 := blk_frozen BK805.out 1
      have hfz21_2 := blk_frozen BK805.out 2
      have hfz21_3 := blk_frozen BK805.out 3
      go_wp2
      go_meet
      case rel => exact ⟨_, (false), sm_, H', ⟨by first | omega | exact Nat.le_refl _⟩, ⟨bk_ BK804.out⟩, ⟨bk_ BK805.out⟩, ⟨hb2_ HB.out GE804.out GE805.out⟩⟩
    ·rw [if_neg c14] at H
     have c14b0 : (a1_1 == 2) = false := beq_eq_false_iff_ne.mpr c14
     have c14b1 : (a1_1 != 2) = true := bne_iff_ne.mpr c14
     have H' := A_ H
     clear H
     have hnb22 := NB804_805.out
     have hnc22 := NB805_804.out
     have hcz23_0 := bv_ BK804.out 0
     have hcz23_1 := bv_ BK804.out 1
     have hcz23_2 := bv_ BK804.out 2
     have hcz23_3 := bv_ BK804.out 3
     have hfz23_0 := blk_frozen BK804.out 0
     have hfz23_1 := blk_frozen BK804.out 1
     have hfz23_2 := blk_frozen BK804.out 2
     have hfz23_3 := blk_frozen BK804.out 3
     have hcz24_0 := bv_ BK805.out 0
     have hcz24_1 := bv_ BK805.out 1
     have hcz24_2 := bv_ BK805.out 2
     have hcz24_3 := bv_ BK805.out 3
     have hfz24_0 := blk_frozen BK805.out 0
     have hfz24_1 := blk_frozen BK805.out 1
     have hfz24_2 := blk_frozen BK805.out 2
     have hfz24_3 := blk_frozen BK805.out 3
     go_wp2
     go_meet
     case rel => exact ⟨_, (false), sm_, H', ⟨by first | omega | exact Nat.le_refl _⟩, ⟨bk_ BK804.out⟩, ⟨bk_ BK805.out⟩, ⟨hb2_ HB.out GE804.out GE805.out⟩⟩
 case rest =>
  clear HC4
  try clear c1
  try clear c2
  try clear p2
  try clear c7
  try clear c7b0
  try clear c7b1
  try clear c8
  try clear c10
  try clear c10b0
  try clear c10b1
  try clear c11
  try clear c14
  try clear c14b0
  try clear c14b1
  try clear c15
  try clear c15b0
  try clear c15b1
  try clear c16
  try clear c19
  try clear c22
  try clear hcz12_0
  try clear hcz12_1
  try clear hcz12_2
  try clear hcz12_3
  try clear hcz13_0
  try clear hcz13_1
  try clear hcz13_2
  try clear hcz13_3
  try clear hcz17_0
  try clear hcz17_1
  try clear hcz17_2
  try clear hcz17_3
  try clear hcz18_0
  try clear hcz18_1
  try clear hcz18_2
  try clear hcz18_3
  try clear hcz20_0
  try clear hcz20_1
  try clear hcz20_2
  try clear hcz20_3
  try clear hcz21_0
  try clear hcz21_1
  try clear hcz21_2
  try clear hcz21_3
  try clear hcz23_0
  try clear hcz23_1
  try clear hcz23_2
  try clear hcz23_3
  try clear hcz24_0
  try clear hcz24_1
  try clear hcz24_2
  try clear hcz24_3
  try clear hcz9_0
  try clear hcz9_1
  try clear hcz9_2
  try clear hcz9_3
  try clear hfz12_0
  try clear hfz12_1
  try clear hfz12_2
  try clear hfz12_3
  try clear hfz13_0
  try clear hfz13_1
  try clear hfz13_2
  try clear hfz13_3
  try clear hfz17_0
  try clear hfz17_1
  try clear hfz17_2
  try clear hfz17_3
  try clear hfz18_0
  try clear hfz18_1
  try clear hfz18_2
  try clear hfz18_3
  try clear hfz20_0
  try clear hfz20_1
  try clear hfz20_2
  try clear hfz20_3
  try clear hfz21_0
  try clear hfz21_1
  try clear hfz21_2
  try clear hfz21_3
  try clear hfz23_0
  try clear hfz23_1
  try clear hfz23_2
  try clear hfz23_3
  try clear hfz24_0
  try clear hfz24_1
  try clear hfz24_2
  try clear hfz24_3
  try clear hfz9_0
  try clear hfz9_1
  try clear hfz9_2
  try clear hfz9_3
  obtain ⟨kq, x31_3, rfl, HA, HJ3, BK804, BK805, HB⟩ := hcut
  cases kq with
  | zero => exact absurd HA.out (by simp [r4_parts.j0])
  | succ kj3 =>
   have H := HA.out
   clear HA
   simp only [r4_parts.j0] at H
   by_cases c25 : x31_3 = true
   ·subst c25
    have H1 : ((r2_Nan.f kj3 a0).bind fun t806 => (some t806)) = some r := by rw [if_pos rfl] at H; exact H
    clear H;have H := H1;clear H1
    replace H := ob_ H
    obtain ⟨t806, A260, H⟩ := H
    replace H : (some t806) = some r := H
    have A26 := A_ A260;clear A260
    obtain rfl := Option.some.inj H
    go_wp2_with (first | ((with_reducible refine gate_callee (f := 58) rfl ?_); refine gl_ (some 33) Try.func58 #[.int .i64 a0] ?_; (with_reducible refine (r2_Nan.calls kj3 a0 t806 _ A26.out).mono ?_); rintro e w' ⟨rfl, ⟨nd, rfl⟩⟩; refine ⟨_, rfl, ?_⟩))
    go_ret
    exact ⟨er_, hb2_ HB.out GE804.out GE805.out⟩
   ·replace c25 := Bool.eq_false_iff.mpr c25
    subst c25
    have H1 : (if a1_1 = 2 then ((r2_Inf.f kj3 a0 a1_0).bind fun t807 => (some t807)) else (if a2_1 = 2 then ((r2_Inf.f kj3 a0 a2_0).bind fun t808 => (some t808)) else ((r4_exact.f kj3 a0 a1_0 a1_1 a1_2 a1_3 a2_0 a2_1 a2_2 a2_3).bind fun t809 => (some t809)))) = some r := by rw [if_neg (show ¬ (false = true) by decide)] at H; exact H
    clear H;have H := H1;clear H1
    by_cases c27 : a1_1 = 2
    ·rw [if_pos c27] at H
     have c27b0 : (a1_1 == 2) = true := beq_iff_eq.mpr c27
     have c27b1 : (a1_1 != 2) = false := bne_eq_false_iff_eq.mpr c27
     clear c27
     replace H := ob_ H
     obtain ⟨t807, A280, H⟩ := H
     replace H : (some t807) = some r := H
     have A28 := A_ A280;clear A280
     obtain rfl := Option.some.inj H
     have hnb29 := NB804_805.out
     have hnc29 := NB805_804.out
     have hcz30_0 := bv_ BK804.out 0
     have hcz30_1 := bv_ BK804.out 1
     have hcz30_2 := bv_ BK804.out 2
     have hcz30_3 := bv_ BK804.out 3
     have hfz30_0 := blk_frozen BK804.out 0
     have hfz30_1 := blk_frozen BK804.out 1
     have hfz30_2 := blk_frozen BK804.out 2
     have hfz30_3 := blk_frozen BK804.out 3
     go_wp2_with (first | ((with_reducible refine gate_callee (f := 59) rfl ?_); refine gl_ (some 40) Try.func59 #[.int .i64 a0, .bool a1_0] ?_; (with_reducible refine (r2_Inf.calls kj3 a0 a1_0 t807 _ A28.out).mono ?_); rintro e w' ⟨rfl, ⟨nd, rfl⟩⟩; refine ⟨_, rfl, ?_⟩))
     go_ret
     exact ⟨er_, hb2_ HB.out GE804.out GE805.out⟩
    ·rw [if_neg c27] at H
     have c27b0 : (a1_1 == 2) = false := beq_eq_false_iff_ne.mpr c27
     have c27b1 : (a1_1 != 2) = true := bne_iff_ne.mpr c27
     by_cases c31 : a2_1 = 2
     ·rw [if_pos c31] at H
      have c31b0 : (a2_1 == 2) = true := beq_iff_eq.mpr c31
      have c31b1 : (a2_1 != 2) = false := bne_eq_false_iff_eq.mpr c31
      clear c31
      replace H := ob_ H
      obtain ⟨t808, A320, H⟩ := H
      replace H : (some t808) = some r := H
      have A32 := A_ A320;clear A320
      obtain rfl := Option.some.inj H
      have hnb33 := NB804_805.out
      have hnc33 := NB805_804.out
      have hcz34_0 := bv_ BK804.out 0
      have hcz34_1 := bv_ BK804.out 1
      have hcz34_2 := bv_ BK804.out 2
      have hcz34_3 := bv_ BK804.out 3
      have hfz34_0 := blk_frozen BK804.out 0
      have hfz34_1 := blk_frozen BK804.out 1
      have hfz34_2 := blk_frozen BK804.out 2
      have hfz34_3 := blk_frozen BK804.out 3
      have hcz35_0 := bv_ BK805.out 0
      have hcz35_1 := bv_ BK805.out 1
      have hcz35_2 := bv_ BK805.out 2
      have hcz35_3 := bv_ BK805.out 3
      have hfz35_0 := blk_frozen BK805.out 0
      have hfz35_1 := blk_frozen BK805.out 1
      have hfz35_2 := blk_frozen BK805.out 2
      have hfz35_3 := blk_frozen BK805.out 3
      go_wp2_with (first | ((with_reducible refine gate_callee (f := 59) rfl ?_); refine gl_ (some 47) Try.func59 #[.int .i64 a0, .bool a2_0] ?_; (with_reducible refine (r2_Inf.calls kj3 a0 a2_0 t808 _ A32.out).mono ?_); rintro e w' ⟨rfl, ⟨nd, rfl⟩⟩; refine ⟨_, rfl, ?_⟩))
      go_ret
      exact ⟨er_, hb2_ HB.out GE804.out GE805.out⟩
     ·rw [if_neg c31] at H
      have c31b0 : (a2_1 == 2) = false := beq_eq_false_iff_ne.mpr c31
      have c31b1 : (a2_1 != 2) = true := bne_iff_ne.mpr c31
      replace H := ob_ H
      obtain ⟨t809, A360, H⟩ := H
      replace H : (some t809) = some r := H
      have A36 := A_ A360;clear A360
      obtain rfl := Option.some.inj H
      have hnb37 := NB804_805.out
      have hnc37 := NB805_804.out
      have hcz38_0 := bv_ BK804.out 0
      have hcz38_1 := bv_ BK804.out 1
      have hcz38_2 := bv_ BK804.out 2
      have hcz38_3 := bv_ BK804.out 3
      have hfz38_0 := blk_frozen BK804.out 0
      have hfz38_1 := blk_frozen BK804.out 1
      have hfz38_2 := blk_frozen BK804.out 2
      have hfz38_3 := blk_frozen BK804.out 3
      have hcz39_0 := bv_ BK805.out 0
      have hcz39_1 := bv_ BK805.out 1
      have hcz39_2 := bv_ BK805.out 2
      have hcz39_3 := bv_ BK805.out 3
      have hfz39_0 := blk_frozen BK805.out 0
      have hfz39_1 := blk_frozen BK805.out 1
      have hfz39_2 := blk_frozen BK805.out 2
      have hfz39_3 := blk_frozen BK805.out 3
      go_wp2_with (first | ((with_reducible refine gate_callee (f := 106) rfl ?_); refine gl_ (some 51) Try.func106 #[.int .i64 a0, .agg #[.bool a1_0, .int .i64 a1_1, .int .i64 a1_2, .int .u64 a1_3], .agg #[.bool a2_0, .int .i64 a2_1, .int .i64 a2_2, .int .u64 a2_3]] ?_; (with_reducible refine (r4_exact.calls kj3 a0 a1_0 a1_1 a1_2 a1_3 a2_0 a2_1 a2_2 a2_3 t809 _ A36.out).mono ?_); rintro e w40 ⟨rfl, hb⟩; refine ⟨_, rfl, ?_⟩; replace BK804 := A_ (bb_ BK804.out hb); replace BK805 := A_ (bb_ BK805.out hb); replace HB := A_ (below_step (hb2_ HB.out GE804.out GE805.out) hb); (try clear hb); (try clear hb2); (try clear hk); (try clear hi)))
      go_ret
      exact ⟨er_, hb2_ HB.out GE804.out GE805.out⟩
end Go.Proofs.Ytbpmnmceajmmcaa.PA
