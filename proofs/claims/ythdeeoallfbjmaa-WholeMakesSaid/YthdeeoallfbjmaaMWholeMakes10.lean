/- What the Go functions that the statement WholeMakes reaches compute, and the mathematics on it, in the order in which one leans on the other; for every input. -/
import Derived.Test.YthdeeoallfbjmaaVWholeMakes1
import Derived.Test.YthdeeoallfbjmaaMWholeMakes0
import Derived.Test.YthdeeoallfbjmaaMWholeMakes9
import Derived.Test.YthdeeoallfbjmaaMWholeMakes5
import Derived.Test.YthdeeoallfbjmaaMWholeMakes4
import Derived.Test.YthdeeoallfbjmaaMWholeMakes6
import Derived.Test.YthdeeoallfbjmaaMWholeMakes3
import Derived.Test.YthdeeoallfbjmaaMWholeMakes7
import Derived.Test.YthdeeoallfbjmaaMWholeMakes8
namespace Go.Proofs.Ythdeeoallfbjmaa.PA
open Go.RowKit Go.Proofs.YthdeeoallfbjmaaW.PrintWords Go.Proofs.YthdeeoallfbjmaaW.PrintLast Go.Proofs.YthdeeoallfbjmaaW.PrintMore
attribute [local go_sem] max2_int min2_int max_two min_two max_three min_three max_four min_four   -- for this text's walks alone
set_option linter.unusedVariables false
set_option linter.unusedSimpArgs false
set_option maxHeartbeats 8000000
set_option maxRecDepth 100000
mutual
def r3_Near.j0 : Nat → Int → Bool → Int → Int → Int → Bool → List Int → List Int → Option (Int)
 | 0, _, _, _, _, _, _, _, _ => none
 | k + 1, x0, x1, x4, x11, x13, x44, x431000, x432000 => if x44 = true then (r3_Near.j1 k x0 x1 x4 x11 (wrap64 (x13 - 1)) x431000 x432000) else (r3_Near.j1 k x0 x1 x4 x11 x13 x431000 x432000)
def r3_Near.j1 : Nat → Int → Bool → Int → Int → Int → List Int → List Int → Option (Int)
 | 0, _, _, _, _, _, _, _ => none
 | k + 1, x0, x1, x4, x11, x13, x431000, x432000 => (r3_grain.f k x431000 x432000 (wrap64 (x4 - x13))).bind fun t438 => ((r1_Len.f k t438).bind fun t442 => (if t442 > (wrap64 (x11 + 1)) then ((r1_Half.f k t438 1).bind fun bt443 => (r3_Near.j2 k x0 x1 x11 (wrap64 (x13 + 1)) bt443.1)) else (r3_Near.j2 k x0 x1 x11 x13 t438)))
def r3_Near.j2 : Nat → Int → Bool → Int → Int → List Int → Option (Int)
 | 0, _, _, _, _, _ => none
 | k + 1, x0, x1, x11, x13, x442000 => (r3_Low.f x0).bind fun t447 => ((r2_Top.f k x0).bind fun t448 => (if x13 > (wrap64 ((wrap64 (t447 + t448)) - 2)) then ((r2_Inf.f k x0 x1).bind fun t449 => (some t449)) else ((r1_Uint.f x442000).bind fun t450 => ((r2_Two.f k x11).bind fun t451 => (if t450 < t451 then ((r2_Make.f k x0 x1 0 t450).bind fun t452 => (some t452)) else ((r3_Low.f x0).bind fun t453 => ((r2_Two.f k x11).bind fun t454 => ((r2_Make.f k x0 x1 (wrap64 ((wrap64 (x13 - t453)) + 1)) (IntKind.u64.wrap (t450 - t454))).bind fun t455 => (some t455)))))))))
end
def r3_Near.f (k : Nat) (a0 : Int) (a1 : Bool) (l2_0 : List Int) (l3_0 : List Int) (a4 : Int) : Option (Int) := (r2_F.f a0).bind fun t432 => ((r1_Len.f k l2_0).bind fun t433 => ((r1_Len.f k l3_0).bind fun t434 => ((r3_Low.f a0).bind fun t435 => ((r3_Low.f a0).bind fun t436 => (if (mx (wrap64 ((wrap64 ((wrap64 (t433 - t434)) + a4)) - t432)) t435) > t436 then ((r3_under.f k l2_0 l3_0 (wrap64 ((wrap64 (a4 - (mx (wrap64 ((wrap64 ((wrap64 (t433 - t434)) + a4)) - t432)) t435))) - t432))).bind fun t437 => (r3_Near.j0 k a0 a1 a4 t432 (mx (wrap64 ((wrap64 ((wrap64 (t433 - t434)) + a4)) - t432)) t435) t437 l2_0 l3_0)) else (r3_Near.j0 k a0 a1 a4 t432 (mx (wrap64 ((wrap64 ((wrap64 (t433 - t434)) + a4)) - t432)) t435) false l2_0 l3_0))))))
theorem r3_Near.mono_l : ∀ k, (∀ y0 y1 y2 y3 y4 y5 y6 y7, LeO (r3_Near.j0 k y0 y1 y2 y3 y4 y5 y6 y7) (r3_Near.j0 (k + 1) y0 y1 y2 y3 y4 y5 y6 y7)) ∧ (∀ y0 y1 y2 y3 y4 y5 y6, LeO (r3_Near.j1 k y0 y1 y2 y3 y4 y5 y6) (r3_Near.j1 (k + 1) y0 y1 y2 y3 y4 y5 y6)) ∧ (∀ y0 y1 y2 y3 y4, LeO (r3_Near.j2 k y0 y1 y2 y3 y4) (r3_Near.j2 (k + 1) y0 y1 y2 y3 y4))
 | 0 => ⟨fun _ _ _ _ _ _ _ _ r h => by simp [r3_Near.j0] at h, fun _ _ _ _ _ _ _ r h => by simp [r3_Near.j1] at h, fun _ _ _ _ _ r h => by simp [r3_Near.j2] at h⟩
 | k + 1 => by
  obtain ⟨ih0, ih1, ih2⟩ := r3_Near.mono_l k
  refine ⟨?_, ?_, ?_⟩
  ·intro y0 y1 y2 y3 y4 y5 y6 y7
   unfold r3_Near.j0
   repeat' first
   | (with_reducible exact ih0 _ _ _ _ _ _ _ _)
   | (with_reducible exact ih1 _ _ _ _ _ _ _)
   | (with_reducible exact ih2 _ _ _ _ _)
   | (with_reducible exact r1_Half.mono _ _ _)
   | (with_reducible exact r1_Len.mono _ _)
   | (with_reducible exact r2_Inf.mono _ _ _)
   | (with_reducible exact r2_Make.mono _ _ _ _ _)
   | (with_reducible exact r2_Top.mono _ _)
   | (with_reducible exact r2_Two.mono _ _)
   | (with_reducible exact r3_grain.mono _ _ _ _)
   | (with_reducible exact r3_under.mono _ _ _ _)
   | (with_reducible exact LeO.refl _)
   | (with_reducible exact LeO.none _)
   | (with_reducible refine LeO.ite ?_ ?_)
   | (with_reducible refine LeO.bind ?_ (fun _ => ?_))
   | exact ih0 _ _ _ _ _ _ _ _
   | exact ih1 _ _ _ _ _ _ _
   | exact ih2 _ _ _ _ _
   | exact r1_Half.mono _ _ _
   | exact r1_Len.mono _ _
   | exact r2_Inf.mono _ _ _
   | exact r2_Make.mono _ _ _ _ _
   | exact r2_Top.mono _ _
   | exact r2_Two.mono _ _
   | exact r3_grain.mono _ _ _ _
   | exact r3_under.mono _ _ _ _
   | exact LeO.none _
   | refine LeO.ite ?_ ?_
   | refine LeO.bind ?_ (fun _ => ?_)
  ·intro y0 y1 y2 y3 y4 y5 y6
   unfold r3_Near.j1
   repeat' first
   | (with_reducible exact ih0 _ _ _ _ _ _ _ _)
   | (with_reducible exact ih1 _ _ _ _ _ _ _)
   | (with_reducible exact ih2 _ _ _ _ _)
   | (with_reducible exact r1_Half.mono _ _ _)
   | (with_reducible exact r1_Len.mono _ _)
   | (with_reducible exact r2_Inf.mono _ _ _)
   | (with_reducible exact r2_Make.mono _ _ _ _ _)
   | (with_reducible exact r2_Top.mono _ _)
   | (with_reducible exact r2_Two.mono _ _)
   | (with_reducible exact r3_grain.mono _ _ _ _)
   | (with_reducible exact r3_under.mono _ _ _ _)
   | (with_reducible exact LeO.refl _)
   | (with_reducible exact LeO.none _)
   | (with_reducible refine LeO.ite ?_ ?_)
   | (with_reducible refine LeO.bind ?_ (fun _ => ?_))
   | exact ih0 _ _ _ _ _ _ _ _
   | exact ih1 _ _ _ _ _ _ _
   | exact ih2 _ _ _ _ _
   | exact r1_Half.mono _ _ _
   | exact r1_Len.mono _ _
   | exact r2_Inf.mono _ _ _
   | exact r2_Make.mono _ _ _ _ _
   | exact r2_Top.mono _ _
   | exact r2_Two.mono _ _
   | exact r3_grain.mono _ _ _ _
   | exact r3_under.mono _ _ _ _
   | exact LeO.none _
   | refine LeO.ite ?_ ?_
   | refine LeO.bind ?_ (fun _ => ?_)
  ·intro y0 y1 y2 y3 y4
   unfold r3_Near.j2
   repeat' first
   | (with_reducible exact ih0 _ _ _ _ _ _ _ _)
   | (with_reducible exact ih1 _ _ _ _ _ _ _)
   | (with_reducible exact ih2 _ _ _ _ _)
   | (with_reducible exact r1_Half.mono _ _ _)
   | (with_reducible exact r1_Len.mono _ _)
   | (with_reducible exact r2_Inf.mono _ _ _)
   | (with_reducible exact r2_Make.mono _ _ _ _ _)
   | (with_reducible exact r2_Top.mono _ _)
   | (with_reducible exact r2_Two.mono _ _)
   | (with_reducible exact r3_grain.mono _ _ _ _)
   | (with_reducible exact r3_under.mono _ _ _ _)
   | (with_reducible exact LeO.refl _)
   | (with_reducible exact LeO.none _)
   | (with_reducible refine LeO.ite ?_ ?_)
   | (with_reducible refine LeO.bind ?_ (fun _ => ?_))
   | exact ih0 _ _ _ _ _ _ _ _
   | exact ih1 _ _ _ _ _ _ _
   | exact ih2 _ _ _ _ _
   | exact r1_Half.mono _ _ _
   | exact r1_Len.mono _ _
   | exact r2_Inf.mono _ _ _
   | exact r2_Make.mono _ _ _ _ _
   | exact r2_Top.mono _ _
   | exact r2_Two.mono _ _
   | exact r3_grain.mono _ _ _ _
   | exact r3_under.mono _ _ _ _
   | exact LeO.none _
   | refine LeO.ite ?_ ?_
   | refine LeO.bind ?_ (fun _ => ?_)
theorem r3_Near.mono : ∀ a0 a1 a2 a3 a4 k, LeO (r3_Near.f k a0 a1 a2 a3 a4) (r3_Near.f (k + 1) a0 a1 a2 a3 a4) := by
 intro a0 a1 a2 a3 a4 k
 obtain ⟨ih0, ih1, ih2⟩ := r3_Near.mono_l k
 unfold r3_Near.f
 repeat' first
   | (with_reducible exact ih0 _ _ _ _ _ _ _ _)
   | (with_reducible exact ih1 _ _ _ _ _ _ _)
   | (with_reducible exact ih2 _ _ _ _ _)
   | (with_reducible exact r1_Half.mono _ _ _)
   | (with_reducible exact r1_Len.mono _ _)
   | (with_reducible exact r2_Inf.mono _ _ _)
   | (with_reducible exact r2_Make.mono _ _ _ _ _)
   | (with_reducible exact r2_Top.mono _ _)
   | (with_reducible exact r2_Two.mono _ _)
   | (with_reducible exact r3_grain.mono _ _ _ _)
   | (with_reducible exact r3_under.mono _ _ _ _)
   | (with_reducible exact LeO.refl _)
   | (with_reducible exact LeO.none _)
   | (with_reducible refine LeO.ite ?_ ?_)
   | (with_reducible refine LeO.bind ?_ (fun _ => ?_))
   | exact ih0 _ _ _ _ _ _ _ _
   | exact ih1 _ _ _ _ _ _ _
   | exact ih2 _ _ _ _ _
   | exact r1_Half.mono _ _ _
   | exact r1_Len.mono _ _
   | exact r2_Inf.mono _ _ _
   | exact r2_Make.mono _ _ _ _ _
   | exact r2_Top.mono _ _
   | exact r2_Two.mono _ _
   | exact r3_grain.mono _ _ _ _
   | exact r3_under.mono _ _ _ _
   | exact LeO.none _
   | refine LeO.ite ?_ ?_
   | refine LeO.bind ?_ (fun _ => ?_)
def r3_Near.T2 : Bool × List (List Nat × List Nat) := (true, [([], []), ([0], [0]), ([], []), ([2, 1], [2]), ([1, 3], [1, 3]), ([], []), ([4, 5], [4, 5]), ([6, 3, 0, 1, 2, 3, 4, 5, 6], [6])])
def r3_Near.B2 : List Nat := [0, 1, 0, 7, 15, 0, 63, 127]
theorem r3_Near.tab2 : rtab .any (opsOf Try.f62 2) = r3_Near.T2 := by kernel_rfl
theorem r3_Near.bits2 : waitsOk r3_Near.T2.2 r3_Near.B2 = true := by kernel_rfl
theorem r3_Near.calls (k : Nat) (a0 : Int) (a1 : Bool) (A2_0 : Option Addr) (c2_0 : Nat) (l2_0 : List Int) (A3_0 : Option Addr) (c3_0 : Nat) (l3_0 : List Int) (a4 : Int) (r : Int) (w : World) (hr2_0 : Kd.C (Kd.int .u64) w A2_0 l2_0.length l2_0) (hc2_0 : l2_0.length ≤ c2_0) (hr3_0 : Kd.C (Kd.int .u64) w A3_0 l3_0.length l3_0) (hc3_0 : l3_0.length ≤ c3_0) (h : r3_Near.f k a0 a1 l2_0 l3_0 a4 = some r) :
  Calls Try.prog 62 #[.int .i64 a0, .bool a1, .agg #[.slice A2_0 l2_0.length c2_0], .agg #[.slice A3_0 l3_0.length c3_0], .int .i64 a4] w fun e w' => e = .returned (.int .u64 r) ∧ Below w.heap.size w w' := by
 have hu33 := Try.underlying33
 have HR2_0 := A_ hr2_0;have HC2_0 := A_ hc2_0;clear hr2_0 hc2_0;have HR3_0 := A_ hr3_0;have HC3_0 := A_ hc3_0;clear hr3_0 hc3_0
 have HB := A_ (Below.refl w.heap.size w)
 have H : ((r2_F.f a0).bind fun t432 => ((r1_Len.f k l2_0).bind fun t433 => ((r1_Len.f k l3_0).bind fun t434 => ((r3_Low.f a0).bind fun t435 => ((r3_Low.f a0).bind fun t436 => (if (mx (wrap64 ((wrap64 ((wrap64 (t433 - t434)) + a4)) - t432)) t435) > t436 then ((r3_under.f k l2_0 l3_0 (wrap64 ((wrap64 (a4 - (mx (wrap64 ((wrap64 ((wrap64 (t433 - t434)) + a4)) - t432)) t435))) - t432))).bind fun t437 => (r3_Near.j0 k a0 a1 a4 t432 (mx (wrap64 ((wrap64 ((wrap64 (t433 - t434)) + a4)) - t432)) t435) t437 l2_0 l3_0)) else (r3_Near.j0 k a0 a1 a4 t432 (mx (wrap64 ((wrap64 ((wrap64 (t433 - t434)) + a4)) - t432)) t435) false l2_0 l3_0))))))) = some r := h
 clear h
 replace H := ob_ H
 obtain ⟨t432, A60, H⟩ := H
 replace H : ((r1_Len.f k l2_0).bind fun t433 => ((r1_Len.f k l3_0).bind fun t434 => ((r3_Low.f a0).bind fun t435 => ((r3_Low.f a0).bind fun t436 => (if (mx (wrap64 ((wrap64 ((wrap64 (t433 - t434)) + a4)) - t432)) t435) > t436 then ((r3_under.f k l2_0 l3_0 (wrap64 ((wrap64 (a4 - (mx (wrap64 ((wrap64 ((wrap64 (t433 - t434)) + a4)) - t432)) t435))) - t432))).bind fun t437 => (r3_Near.j0 k a0 a1 a4 t432 (mx (wrap64 ((wrap64 ((wrap64 (t433 - t434)) + a4)) - t432)) t435) t437 l2_0 l3_0)) else (r3_Near.j0 k a0 a1 a4 t432 (mx (wrap64 ((wrap64 ((wrap64 (t433 - t434)) + a4)) - t432)) t435) false l2_0 l3_0)))))) = some r := H
 have A6 := A_ A60;clear A60
 replace H := ob_ H
 obtain ⟨t433, A70, H⟩ := H
 replace H : ((r1_Len.f k l3_0).bind fun t434 => ((r3_Low.f a0).bind fun t435 => ((r3_Low.f a0).bind fun t436 => (if (mx (wrap64 ((wrap64 ((wrap64 (t433 - t434)) + a4)) - t432)) t435) > t436 then ((r3_under.f k l2_0 l3_0 (wrap64 ((wrap64 (a4 - (mx (wrap64 ((wrap64 ((wrap64 (t433 - t434)) + a4)) - t432)) t435))) - t432))).bind fun t437 => (r3_Near.j0 k a0 a1 a4 t432 (mx (wrap64 ((wrap64 ((wrap64 (t433 - t434)) + a4)) - t432)) t435) t437 l2_0 l3_0)) else (r3_Near.j0 k a0 a1 a4 t432 (mx (wrap64 ((wrap64 ((wrap64 (t433 - t434)) + a4)) - t432)) t435) false l2_0 l3_0))))) = some r := H
 have A7 := A_ A70;clear A70
 replace H := ob_ H
 obtain ⟨t434, A80, H⟩ := H
 replace H : ((r3_Low.f a0).bind fun t435 => ((r3_Low.f a0).bind fun t436 => (if (mx (wrap64 ((wrap64 ((wrap64 (t433 - t434)) + a4)) - t432)) t435) > t436 then ((r3_under.f k l2_0 l3_0 (wrap64 ((wrap64 (a4 - (mx (wrap64 ((wrap64 ((wrap64 (t433 - t434)) + a4)) - t432)) t435))) - t432))).bind fun t437 => (r3_Near.j0 k a0 a1 a4 t432 (mx (wrap64 ((wrap64 ((wrap64 (t433 - t434)) + a4)) - t432)) t435) t437 l2_0 l3_0)) else (r3_Near.j0 k a0 a1 a4 t432 (mx (wrap64 ((wrap64 ((wrap64 (t433 - t434)) + a4)) - t432)) t435) false l2_0 l3_0)))) = some r := H
 have A8 := A_ A80;clear A80
 replace H := ob_ H
 obtain ⟨t435, A90, H⟩ := H
 replace H : ((r3_Low.f a0).bind fun t436 => (if (mx (wrap64 ((wrap64 ((wrap64 (t433 - t434)) + a4)) - t432)) t435) > t436 then ((r3_under.f k l2_0 l3_0 (wrap64 ((wrap64 (a4 - (mx (wrap64 ((wrap64 ((wrap64 (t433 - t434)) + a4)) - t432)) t435))) - t432))).bind fun t437 => (r3_Near.j0 k a0 a1 a4 t432 (mx (wrap64 ((wrap64 ((wrap64 (t433 - t434)) + a4)) - t432)) t435) t437 l2_0 l3_0)) else (r3_Near.j0 k a0 a1 a4 t432 (mx (wrap64 ((wrap64 ((wrap64 (t433 - t434)) + a4)) - t432)) t435) false l2_0 l3_0))) = some r := H
 have A9 := A_ A90;clear A90
 obtain ⟨ji10, hji10⟩ : ∃ j_ : Int, (mx (wrap64 ((wrap64 ((wrap64 (t433 - t434)) + a4)) - t432)) t435) = j_ := ⟨_, rfl⟩
 replace H : ((r3_Low.f a0).bind fun t436 => (if (ji10) > t436 then ((r3_under.f k l2_0 l3_0 (wrap64 ((wrap64 (a4 - (ji10))) - t432))).bind fun t437 => (r3_Near.j0 k a0 a1 a4 t432 ji10 t437 l2_0 l3_0)) else (r3_Near.j0 k a0 a1 a4 t432 ji10 false l2_0 l3_0))) = some r := by first | (rw [hji10] at H; exact H) | (simp only [hji10] at H ⊢; exact H)
 (try rw [hji10] at A6)
 (try rw [hji10] at A7)
 (try rw [hji10] at A8)
 (try rw [hji10] at A9)
 have hji10_ : (if (wrap64 ((wrap64 ((wrap64 (t433 - t434)) + a4)) - t432)) < t435 then t435 else (wrap64 ((wrap64 ((wrap64 (t433 - t434)) + a4)) - t432))) = ji10 := hji10
 have HC11 := A_ H;clear H
 go_enter Try.func62, Try.ntmps62
 try go_wp2_with (first | ((with_reducible refine gate_dst (N := 7) rfl ?_); refine be_ 7 #[.slice A2_0 l2_0.length c2_0] 33 ?_; intro gb430 hg w12 hbox hb; have BK430 := A_ (hbox); have GW430 := A_ (sz_ hg (hb_ HB.out)); have GE430 := A_ (sz_ hg (hb_ HB.out)); replace HB := A_ (below_step (hb_ HB.out) hb); clear hb hbox hg) | ((with_reducible refine gate_dst (N := 8) rfl ?_); refine be_ 8 #[.slice A3_0 l3_0.length c3_0] 33 ?_; intro gb431 hg w13 hbox hb; have BK431 := A_ (hbox); have GW431 := A_ (sz_ hg (hb1_ HB.out GE430.out)); have GE431 := A_ (sz_ hg (hb1_ HB.out GE430.out)); have NB430_431 := A_ (nl_ hg BK430.out); have NB431_430 := A_ (ng_ hg BK430.out); replace BK430 := A_ (bb_ BK430.out hb); replace HB := A_ (below_step (hb1_ HB.out GE430.out) hb); clear hb hbox hg) | ((with_reducible refine gate_callee (f := 42) rfl ?_); refine gl_ (some 17) Try.func42 #[.int .i64 a0] ?_; (with_reducible refine (r2_F.calls a0 t432 _ A6.out).mono ?_); rintro e w' ⟨rfl, ⟨nd, rfl⟩⟩; refine ⟨_, rfl, ?_⟩))
 (try (rw [drewN_self w13]; generalize hq_ : World.drewN w13 _ = w13; have n0_ : Aside0 (w13.heap[gb430]? = some (.cells #[.slice A2_0 l2_0.length c2_0] 33 (0, 0))) := ⟨by rw [← hq_]; exact (bk_ BK430.out)⟩; have n1_ : Aside0 (w13.heap[gb431]? = some (.cells #[.slice A3_0 l3_0.length c3_0] 33 (0, 0))) := ⟨by rw [← hq_]; exact (bk_ BK431.out)⟩; have n2_ : Aside0 (Below w.heap.size w w13) := ⟨by rw [← hq_]; exact (hb2_ HB.out GE430.out GE431.out)⟩; clear BK430 BK431 HB hq_; have BK430 := n0_; have BK431 := n1_; have HB := n2_; clear n0_ n1_ n2_))
 replace BK430 := A_ (blk_drew BK430.out)
 replace BK431 := A_ (blk_drew BK431.out)
 replace HB := A_ (below_drew1 HB.out)
 refine start_ (n := 8) (S := fun w' => w'.cell? ⟨gb430, 0, none⟩ = some (.slice A2_0 l2_0.length c2_0) ∧ w'.cell? ⟨gb431, 0, none⟩ = some (.slice A3_0 l3_0.length c3_0)) (ds := []) #[false, false, false, false, false, false, false, false] (by kernel_rfl) rfl rfl ⟨bc_ BK430.out 0, bc_ BK431.out 0⟩ (fun hHeld => ?_); refine with_tabW r3_Near.tab2 r3_Near.bits2 (fun HT_ HW_ => ?_)
 generalize w13.drew = w14 at BK430 BK431 HB hHeld ⊢
 refine pu_ 5 (some 23) #[false, false, false, false, false, true, false, false] rfl rfl (any_of HT_.out (by kernel_rfl)) ?_
 refine tk2_ 0 (some 18) #[true, false, false, false, false, true, false, false] rfl rfl (take_ofW HT_.out HW_.out (by kernel_rfl)) hHeld ?_
 refine tk2_ 2 (some 20) #[true, false, true, false, false, true, false, false] rfl rfl (take_ofW HT_.out HW_.out (by kernel_rfl)) hHeld ?_
 refine one_ (i := 1) (N := some 19) #[true, true, true, false, false, true, false, false] rfl rfl (one_of HT_.out (by kernel_rfl)) (by decide) (fun K hK => ?_)
 refine goes_ Try.func65 (by kernel_rfl) rfl #[.agg #[.slice A2_0 l2_0.length c2_0]] (by rfl) rfl rfl mp_ ?_
 with_reducible refine (r1_Len.calls k _ _ l2_0 t433 _ ?side1 ?side2 A7.out).mono ?_
 (case side1 => exact cs_ ((Kd.C_below HR2_0.out HB.out)))
 (case side2 => exact HC2_0.out)
 rintro e w15 ⟨rfl, hb⟩
 refine ⟨_, rfl, ?_⟩
 replace BK430 := A_ (bb_ BK430.out hb)
 replace BK431 := A_ (bb_ BK431.out hb)
 replace HB := A_ (below_step (hb2_ HB.out GE430.out GE431.out) hb);(try clear hb);(try clear hb2);(try clear hk);(try clear hi)
 refine hK.out _ _ ⟨bc_ BK430.out 0, bc_ BK431.out 0⟩ (fun hHeld => ?_)
 clear hK K
 refine norm_ (a' := ?_) ?_ ?_
 rotate_left
 ·show Act.put _ (some 19) _ = _
  simp only [Act.put, lI_, l0_, lS_, i64_w, i32_w]
  rfl
 refine one_ (i := 3) (N := some 21) #[true, true, true, true, false, true, false, false] rfl rfl (one_of HT_.out (by kernel_rfl)) (by decide) (fun K hK => ?_)
 refine goes_ Try.func65 (by kernel_rfl) rfl #[.agg #[.slice A3_0 l3_0.length c3_0]] (by rfl) rfl rfl mp_ ?_
 with_reducible refine (r1_Len.calls k _ _ l3_0 t434 _ ?side1 ?side2 A8.out).mono ?_
 (case side1 => exact cs_ ((Kd.C_below HR3_0.out HB.out)))
 (case side2 => exact HC3_0.out)
 rintro e w16 ⟨rfl, hb⟩
 refine ⟨_, rfl, ?_⟩
 replace BK430 := A_ (bb_ BK430.out hb)
 replace BK431 := A_ (bb_ BK431.out hb)
 replace HB := A_ (below_step (hb2_ HB.out GE430.out GE431.out) hb);(try clear hb);(try clear hb2);(try clear hk);(try clear hi)
 refine hK.out _ _ ⟨bc_ BK430.out 0, bc_ BK431.out 0⟩ (fun hHeld => ?_)
 clear hK K
 refine norm_ (a' := ?_) ?_ ?_
 rotate_left
 ·show Act.put _ (some 21) _ = _
  simp only [Act.put, lI_, l0_, lS_, i64_w, i32_w]
  rfl
 refine pu_ 4 (some 22) #[true, true, true, true, true, true, false, false] rfl rfl (any_of HT_.out (by kernel_rfl)) ?_
 refine pu_ 6 (some 24) #[true, true, true, true, true, true, true, false] rfl rfl (any_of HT_.out (by kernel_rfl)) ?_
 refine pu_ 7 (some 12) #[true, true, true, true, true, true, true, true] rfl rfl (any_of HT_.out (by kernel_rfl)) ?_
 refine done_ (done_of HT_.out (by kernel_rfl)) ?_
 go_upto_region 4 with (first | ((with_reducible refine gate_callee (f := 81) rfl ?_); refine gl_ (some 29) Try.func81 #[.int .i64 a0] ?_; (with_reducible refine (r3_Low.calls a0 t435 _ A9.out).mono ?_); rintro e w' ⟨rfl, ⟨nd, rfl⟩⟩; refine ⟨_, rfl, ?_⟩))
 (try simp only [Act.put, lI_, l0_, lS_])
 go_cut [44] (fun v44 wc => ∃ (kq : Nat) (x44_10 : Bool), v44 = .bool x44_10 ∧ Aside0 (r3_Near.j0 kq a0 a1 a4 t432 ji10 x44_10 l2_0 l3_0 = some r) ∧ Aside0 (kq ≤ k) ∧ Aside0 (wc.heap[gb430]? = some (.cells #[(.slice A2_0 l2_0.length c2_0)] 33 (0, 0))) ∧ Aside0 (wc.heap[gb431]? = some (.cells #[(.slice A3_0 l3_0.length c3_0)] 33 (0, 0))) ∧ Aside0 (Below w.heap.size w wc))
 case first =>
  have H := HC11.out
  clear HC11
  replace H := ob_ H
  obtain ⟨t436, A170, H⟩ := H
  replace H : (if (ji10) > t436 then ((r3_under.f k l2_0 l3_0 (wrap64 ((wrap64 (a4 - (ji10))) - t432))).bind fun t437 => (r3_Near.j0 k a0 a1 a4 t432 ji10 t437 l2_0 l3_0)) else (r3_Near.j0 k a0 a1 a4 t432 ji10 false l2_0 l3_0)) = some r := H
  have A17 := A_ A170;clear A170
  by_cases c18 : (ji10) > t436
  ·rw [if_pos c18] at H
   have c18b0 : decide (t436 < (ji10)) = true := decide_eq_true c18
   clear c18
   (first | rw [c18b0] | (simp only [i64_w, i32_w]; rw [c18b0]) | skip)
   replace H := ob_ H
   obtain ⟨t437, A190, H⟩ := H
   replace H : (r3_Near.j0 k a0 a1 a4 t432 ji10 t437 l2_0 l3_0) = some r := H
   have A19 := A_ A190;clear A190
   have H' := A_ H
   clear H
   go_wp2_with (first | ((with_reducible refine gate_callee (f := 81) rfl ?_); refine gl_ (some 33) Try.func81 #[.int .i64 a0] ?_; (with_reducible refine (r3_Low.calls a0 t436 _ A17.out).mono ?_); rintro e w' ⟨rfl, ⟨nd, rfl⟩⟩; refine ⟨_, rfl, ?_⟩; have hnb20 := NB430_431.out; have hnc20 := NB431_430.out; have hcz21_0 := bv_ BK430.out 0; have hfz21_0 := blk_frozen BK430.out 0; have hcz22_0 := bv_ BK431.out 0; have hfz22_0 := blk_frozen BK431.out 0) | (go_at_call 82; (with_reducible refine (r3_under.calls k _ _ l2_0 _ _ l3_0 (wrap64 ((wrap64 (a4 - (ji10))) - t432)) t437 _ ?side1 ?side2 ?side3 ?side4 A19.out).mono ?_); (case side1 => exact cs_ ((Kd.C_below HR2_0.out (hb2_ HB.out GE430.out GE431.out)))); (case side2 => exact HC2_0.out); (case side3 => exact cs_ ((Kd.C_below HR3_0.out (hb2_ HB.out GE430.out GE431.out)))); (case side4 => exact HC3_0.out); rintro e w23 ⟨rfl, hb⟩; replace BK430 := A_ (bb_ BK430.out hb); replace BK431 := A_ (bb_ BK431.out hb); replace HB := A_ (below_step (hb2_ HB.out GE430.out GE431.out) hb); (try clear hb); (try clear hb2); (try clear hk); (try clear hi)))
   go_meet
   case rel => exact ⟨_, (t437), sm_, H', ⟨by first | omega | exact Nat.le_refl _⟩, ⟨bk_ BK430.out⟩, ⟨bk_ BK431.out⟩, ⟨hb2_ HB.out GE430.out GE431.out⟩⟩
  ·rw [if_neg c18] at H
   have c18b0 : decide (t436 < (ji10)) = false := decide_eq_false c18
   clear c18
   (first | rw [c18b0] | (simp only [i64_w, i32_w]; rw [c18b0]) | skip)
   have H' := A_ H
   clear H
   go_wp2_with (first | ((with_reducible refine gate_callee (f := 81) rfl ?_); refine gl_ (some 33) Try.func81 #[.int .i64 a0] ?_; (with_reducible refine (r3_Low.calls a0 t436 _ A17.out).mono ?_); rintro e w' ⟨rfl, ⟨nd, rfl⟩⟩; refine ⟨_, rfl, ?_⟩))
   go_meet
   case rel => exact ⟨_, (false), sm_, H', ⟨by first | omega | exact Nat.le_refl _⟩, ⟨bk_ BK430.out⟩, ⟨bk_ BK431.out⟩, ⟨hb2_ HB.out GE430.out GE431.out⟩⟩
 case rest =>
  clear HC11
  try clear c1
  try clear c2
  try clear p2
  try clear c3
  try clear c4
  try clear c6
  try clear p6
  try clear c8
  try clear c18
  try clear c18b0
  try clear c20
  try clear hcz21_0
  try clear hcz22_0
  try clear hfz21_0
  try clear hfz22_0
  obtain ⟨kq, x44_10, rfl, HA, HJ10, BK430, BK431, HB⟩ := hcut
  cases kq with
  | zero => exact absurd HA.out (by simp [r3_Near.j0])
  | succ kj10 =>
   have H := HA.out
   clear HA
   simp only [r3_Near.j0] at H
   have HC24 := A_ H;clear H
   go_upto_if 44 with (fail)
   go_cut [13] (fun v13 wc => ∃ (kq : Nat) (x13_23 : Int), v13 = .int .i64 x13_23 ∧ Aside0 (r3_Near.j1 kq a0 a1 a4 t432 x13_23 l2_0 l3_0 = some r) ∧ Aside0 (kq ≤ kj10) ∧ Aside0 (wc.heap[gb430]? = some (.cells #[(.slice A2_0 l2_0.length c2_0)] 33 (0, 0))) ∧ Aside0 (wc.heap[gb431]? = some (.cells #[(.slice A3_0 l3_0.length c3_0)] 33 (0, 0))) ∧ Aside0 (Below w.heap.size w wc))
   case first =>
    have H := HC24.out
    clear HC24
    by_cases c25 : x44_10 = true
    ·subst c25
     have H1 : (r3_Near.j1 kj10 a0 a1 a4 t432 (wrap64 (ji10 - 1)) l2_0 l3_0) = some r := by rw [if_pos rfl] at H; exact H
     clear H;have H := H1;clear H1
     have H' := A_ H
     clear H
     go_wp2
     go_meet
     case rel => exact ⟨_, (wrap64 (ji10 - 1)), (by first | rfl | (simp; done) | (simp only [← hji10] <;> (first | rfl | simp)) | (simp [*]; done)), H', ⟨by have := HJ10.out; first | omega | exact Nat.le_refl _⟩, ⟨bk_ BK430.out⟩, ⟨bk_ BK431.out⟩, ⟨hb2_ HB.out GE430.out GE431.out⟩⟩
    ·replace c25 := Bool.eq_false_iff.mpr c25
     subst c25
     have H1 : (r3_Near.j1 kj10 a0 a1 a4 t432 ji10 l2_0 l3_0) = some r := by rw [if_neg (show ¬ (false = true) by decide)] at H; exact H
     clear H;have H := H1;clear H1
     have H' := A_ H
     clear H
     go_wp2
     go_meet
     case rel => exact ⟨_, (ji10), (by first | rfl | (simp; done) | (simp only [← hji10] <;> (first | rfl | simp)) | (simp [*]; done)), H', ⟨by have := HJ10.out; first | omega | exact Nat.le_refl _⟩, ⟨bk_ BK430.out⟩, ⟨bk_ BK431.out⟩, ⟨hb2_ HB.out GE430.out GE431.out⟩⟩
   case rest =>
    clear HC24
    try clear c1
    try clear c2
    try clear p2
    try clear c3
    try clear c4
    try clear c6
    try clear p6
    try clear c8
    try clear c18
    try clear c18b0
    try clear c20
    try clear c25
    try clear hcz21_0
    try clear hcz22_0
    try clear hfz21_0
    try clear hfz22_0
    try clear p2
    try clear p6
    obtain ⟨kq, x13_23, rfl, HA, HJ23, BK430, BK431, HB⟩ := hcut
    cases kq with
    | zero => exact absurd HA.out (by simp [r3_Near.j1])
    | succ kj23 =>
     have H := HA.out
     clear HA
     simp only [r3_Near.j1] at H
     replace H := ob_ H
     obtain ⟨t438, A260, H⟩ := H
     replace H : ((r1_Len.f kj23 t438).bind fun t442 => (if t442 > (wrap64 (t432 + 1)) then ((r1_Half.f kj23 t438 1).bind fun bt443 => (r3_Near.j2 kj23 a0 a1 t432 (wrap64 (x13_23 + 1)) bt443.1)) else (r3_Near.j2 kj23 a0 a1 t432 x13_23 t438))) = some r := H
     have A26 := A_ A260;clear A260
     replace H := ob_ H
     obtain ⟨t442, A270, H⟩ := H
     replace H : (if t442 > (wrap64 (t432 + 1)) then ((r1_Half.f kj23 t438 1).bind fun bt443 => (r3_Near.j2 kj23 a0 a1 t432 (wrap64 (x13_23 + 1)) bt443.1)) else (r3_Near.j2 kj23 a0 a1 t432 x13_23 t438)) = some r := H
     have A27 := A_ A270;clear A270;have HC28 := A_ H;clear H
     have hnb29 := NB430_431.out
     have hnc29 := NB431_430.out
     have hcz30_0 := bv_ BK430.out 0
     have hfz30_0 := blk_frozen BK430.out 0
     have hcz31_0 := bv_ BK431.out 0
     have hfz31_0 := blk_frozen BK431.out 0
     go_upto_if 57 with (first | ((with_reducible refine gate_callee (f := 83) rfl ?_); refine gl_ (some 52) Try.func83 #[.agg #[.slice A2_0 l2_0.length c2_0], .agg #[.slice A3_0 l3_0.length c3_0], .int .i64 (wrap64 (a4 - x13_23))] ?_; (with_reducible refine (r3_grain.calls kj23 _ _ l2_0 _ _ l3_0 (wrap64 (a4 - x13_23)) t438 _ ?side1 ?side2 ?side3 ?side4 A26.out).mono ?_); (case side1 => exact cs_ ((Kd.C_below HR2_0.out HB.out))); (case side2 => exact HC2_0.out); (case side3 => exact cs_ ((Kd.C_below HR3_0.out HB.out))); (case side4 => exact HC3_0.out); rintro e w32 ⟨v439, rfl, ho0, hb⟩; refine ⟨_, rfl, ?_⟩; have HO440 := A_ (Kd.R_lower ho0 (below_size (hb2_ HB.out GE430.out GE431.out))); replace BK430 := A_ (bb_ BK430.out hb); replace BK431 := A_ (bb_ BK431.out hb); replace HB := A_ (below_step (hb2_ HB.out GE430.out GE431.out) hb); (try clear hb); (try clear hb2); (try clear hk); (try clear hi); (try clear ho0)) | ((with_reducible refine gate_dst (N := 14) rfl ?_); refine be_ 14 #[.slice none 0 0] 33 ?_; intro gb441 hg w33 hbox hb; have BK441 := A_ (hbox); have GW441 := A_ (sz_ hg (hb2_ HB.out GE430.out GE431.out)); have GE441 := A_ (sz_ hg (hb2_ HB.out GE430.out GE431.out)); have NB430_441 := A_ (nl_ hg BK430.out); have NB441_430 := A_ (ng_ hg BK430.out); have NB431_441 := A_ (nl_ hg BK431.out); have NB441_431 := A_ (ng_ hg BK431.out); replace HO440 := A_ (Kd.R_below (kr_ HO440.out) hb); replace BK430 := A_ (bb_ BK430.out hb); replace BK431 := A_ (bb_ BK431.out hb); replace HB := A_ (below_step (hb2_ HB.out GE430.out GE431.out) hb); clear hb hbox hg; obtain ⟨Ao34, co34, eo34⟩ := Kd.R_slice HO440.out; subst eo34; have hnb35 := NB441_430.out; have hnc35 := NB430_441.out; have hnb36 := NB441_431.out; have hnc36 := NB431_441.out; have hcz37_0 := bv_ BK441.out 0; have hfz37_0 := blk_frozen BK441.out 0) | ((with_reducible refine gate_callee (f := 65) rfl ?_); refine gl_ (some 54) Try.func65 #[.agg #[.slice Ao34 t438.length co34]] ?_; (with_reducible refine (r1_Len.calls kj23 _ _ t438 t442 _ ?side1 ?side2 A27.out).mono ?_); (case side1 => refine (Kd.R_reads' (e := 22) (base := w.heap.size) (ok := fun k_ => True) (n := t438.length) (c := co34) ?_).2.2; exact (by (with_reducible repeat (first | apply Kd.R_alloc | apply Kd.R_drewN | apply Kd.R_drew)); exact (Kd.R_mono (Kd.R_far (p := ⟨gb441, 0, none⟩) (Kd.R_types HO440.out BK441.out (by decide)) (fun _ hk => hk.2) (.slice Ao34 t438.length co34)) (fun _ h_ => h_.1)))); (case side2 => exact (Kd.R_reads' HO440.out).2.1); rintro e w38 ⟨rfl, hb⟩; refine ⟨_, rfl, ?_⟩; replace HO440 := A_ (Kd.R_below (by (with_reducible repeat (first | apply Kd.R_alloc | apply Kd.R_drewN | apply Kd.R_drew)); exact (Kd.R_mono (Kd.R_far (p := ⟨gb441, 0, none⟩) (Kd.R_types HO440.out BK441.out (by decide)) (fun _ hk => hk.2) (.slice Ao34 t438.length co34)) (fun _ h_ => h_.1))) hb); replace BK430 := A_ (blk_below (g := gb430) (o := .cells #[.slice A2_0 l2_0.length c2_0] 33 (0, 0)) (bf1_ BK430.out NB430_441.out) hb); replace BK431 := A_ (blk_below (g := gb431) (o := .cells #[.slice A3_0 l3_0.length c3_0] 33 (0, 0)) (bf1_ BK431.out NB431_441.out) hb); replace BK441 := A_ (blk_below (g := gb441) (o := .cells #[.slice Ao34 t438.length co34] 33 (0, 0)) (by (with_reducible repeat (first | refine blk_drewN ?_ _ | refine blk_drew ?_ | refine blk_alloc ?_ _)); refine blk_put (cs := #[.slice none 0 0]) ?_ 0 _ rfl; (with_reducible repeat (first | refine blk_drewN ?_ _ | refine blk_drew ?_ | refine blk_alloc ?_ _)); exact BK441.out) hb); replace HB := A_ (below_step (hb3_ HB.out GE430.out GE431.out GE441.out) hb); (try clear hb); (try clear hb2); (try clear hk); (try clear hi)))
     (try simp only [Act.put, lI_, l0_, lS_])
     go_cut [13] (fun v13 wc => ∃ (kq : Nat) (x13_27 : Int) (x442000_27 : List Int) (u442000 : Value), v13 = .int .i64 x13_27 ∧ Aside0 (r3_Near.j2 kq a0 a1 t432 x13_27 x442000_27 = some r) ∧ Aside0 (kq ≤ kj23) ∧ Aside0 (Kd.R (Kd.int .u64) 22 wc w.heap.size (fun _ => True) u442000 x442000_27) ∧ Aside0 (wc.heap[gb430]? = some (.cells #[(.slice A2_0 l2_0.length c2_0)] 33 (0, 0))) ∧ Aside0 (wc.heap[gb431]? = some (.cells #[(.slice A3_0 l3_0.length c3_0)] 33 (0, 0))) ∧ Aside0 (wc.heap[gb441]? = some (.cells #[u442000] 33 (0, 0))) ∧ Aside0 (Below w.heap.size w wc))
     case first =>
      have H := HC28.out
      clear HC28
      by_cases c39 : t442 > (wrap64 (t432 + 1))
      ·rw [if_pos c39] at H
       have c39b0 : decide ((wrap64 (t432 + 1)) < t442) = true := decide_eq_true c39
       clear c39
       (first | rw [c39b0] | (simp only [i64_w, i32_w]; rw [c39b0]) | skip)
       replace H := ob_ H
       obtain ⟨⟨t443, t446⟩, A400, H⟩ := H
       replace H : (r3_Near.j2 kj23 a0 a1 t432 (wrap64 (x13_23 + 1)) t443) = some r := H
       have A40 := A_ A400;clear A400
       have H' := A_ H
       clear H
       have hnb41 := NB441_430.out
       have hnc41 := NB430_441.out
       have hnb42 := NB441_431.out
       have hnc42 := NB431_441.out
       have hcz43_0 := bv_ BK441.out 0
       have hfz43_0 := blk_frozen BK441.out 0
       go_wp2_with (first | ((with_reducible refine gate_callee (f := 84) rfl ?_); refine gl_ (some 62) Try.func84 #[.agg #[.slice Ao34 t438.length co34], .int .i64 1] ?_; (with_reducible refine (r1_Half.calls kj23 _ _ t438 1 t443 t446 _ ?side1 ?side2 A40.out).mono ?_); (case side1 => exact cs_ ((Kd.R_reads' HO440.out).2.2)); (case side2 => exact (Kd.R_reads' HO440.out).2.1); rintro e w44 ⟨v444, rfl, ho0, hb⟩; refine ⟨_, rfl, ?_⟩; have HO445 := A_ (Kd.R_lower (Kd.R_new' ho0 (Kd.R_lt (kr_ HO440.out))) (below_size (hb3_ HB.out GE430.out GE431.out GE441.out))); replace HO440 := A_ (Kd.R_elder' (kr_ HO440.out) (Kd.R_base ho0) hb); replace BK430 := A_ (bb_ BK430.out hb); replace BK431 := A_ (bb_ BK431.out hb); replace BK441 := A_ (bb_ BK441.out hb); replace HB := A_ (below_step (hb3_ HB.out GE430.out GE431.out GE441.out) hb); (try clear hb); (try clear hb2); (try clear hk); (try clear hi); (try clear ho0); obtain ⟨Ao45, co45, eo45⟩ := Kd.R_slice HO445.out; subst eo45; have hcz46_0 := bv_ BK441.out 0; have hfz46_0 := blk_frozen BK441.out 0))
       go_meet
       case rel => exact ⟨_, (wrap64 (x13_23 + 1)), (t443), (.slice Ao45 t443.length co45), sm_, H', ⟨by have := HJ10.out; have := HJ23.out; first | omega | exact Nat.le_refl _⟩, ⟨by (with_reducible repeat (first | apply Kd.R_alloc | apply Kd.R_drewN | apply Kd.R_drew)); exact Kd.R_mono (Kd.R_far (p := ⟨gb441, 0, none⟩) (Kd.R_types HO445.out BK441.out (by decide)) (fun _ hk => hk.2) (.slice Ao45 t443.length co45)) (fun _ hk => trivial)⟩, ⟨bf1_ BK430.out NB430_441.out⟩, ⟨bf1_ BK431.out NB431_441.out⟩, ⟨by (with_reducible repeat (first | refine blk_drewN ?_ _ | refine blk_drew ?_ | refine blk_alloc ?_ _)); refine blk_put (cs := #[.slice Ao34 t438.length co34]) ?_ 0 _ rfl; (with_reducible repeat (first | refine blk_drewN ?_ _ | refine blk_drew ?_ | refine blk_alloc ?_ _)); exact BK441.out⟩, ⟨hb3_ HB.out GE430.out GE431.out GE441.out⟩⟩
      ·rw [if_neg c39] at H
       have c39b0 : decide ((wrap64 (t432 + 1)) < t442) = false := decide_eq_false c39
       clear c39
       (first | rw [c39b0] | (simp only [i64_w, i32_w]; rw [c39b0]) | skip)
       have H' := A_ H
       clear H
       go_wp2
       go_meet
       case rel => exact ⟨_, (x13_23), (t438), (.slice Ao34 t438.length co34), sm_, H', ⟨by have := HJ10.out; have := HJ23.out; first | omega | exact Nat.le_refl _⟩, ⟨by (with_reducible repeat (first | apply Kd.R_alloc | apply Kd.R_drewN | apply Kd.R_drew)); exact HO440.out⟩, ⟨bk_ BK430.out⟩, ⟨bk_ BK431.out⟩, ⟨bk_ BK441.out⟩, ⟨hb3_ HB.out GE430.out GE431.out GE441.out⟩⟩
     case rest =>
      clear HC28
      try clear c1
      try clear c2
      try clear p2
      try clear c3
      try clear c4
      try clear c6
      try clear p6
      try clear c8
      try clear c18
      try clear c18b0
      try clear c20
      try clear c25
      try clear c29
      try clear c35
      try clear c36
      try clear c39
      try clear c39b0
      try clear c41
      try clear c42
      try clear hcz21_0
      try clear hcz22_0
      try clear hcz30_0
      try clear hcz31_0
      try clear hcz37_0
      try clear hcz43_0
      try clear hcz46_0
      try clear hfz21_0
      try clear hfz22_0
      try clear hfz30_0
      try clear hfz31_0
      try clear hfz37_0
      try clear hfz43_0
      try clear hfz46_0
      try clear p2
      try clear p6
      obtain ⟨kq, x13_27, x442000_27, u442000, rfl, HA, HJ27, HO_442000, BK430, BK431, BK441, HB⟩ := hcut
      cases kq with
      | zero => exact absurd HA.out (by simp [r3_Near.j2])
      | succ kj27 =>
       have H := HA.out
       clear HA
       simp only [r3_Near.j2] at H
       replace H := ob_ H
       obtain ⟨t447, A470, H⟩ := H
       replace H : ((r2_Top.f kj27 a0).bind fun t448 => (if x13_27 > (wrap64 ((wrap64 (t447 + t448)) - 2)) then ((r2_Inf.f kj27 a0 a1).bind fun t449 => (some t449)) else ((r1_Uint.f x442000_27).bind fun t450 => ((r2_Two.f kj27 t432).bind fun t451 => (if t450 < t451 then ((r2_Make.f kj27 a0 a1 0 t450).bind fun t452 => (some t452)) else ((r3_Low.f a0).bind fun t453 => ((r2_Two.f kj27 t432).bind fun t454 => ((r2_Make.f kj27 a0 a1 (wrap64 ((wrap64 (x13_27 - t453)) + 1)) (IntKind.u64.wrap (t450 - t454))).bind fun t455 => (some t455))))))))) = some r := H
       have A47 := A_ A470;clear A470
       replace H := ob_ H
       obtain ⟨t448, A480, H⟩ := H
       replace H : (if x13_27 > (wrap64 ((wrap64 (t447 + t448)) - 2)) then ((r2_Inf.f kj27 a0 a1).bind fun t449 => (some t449)) else ((r1_Uint.f x442000_27).bind fun t450 => ((r2_Two.f kj27 t432).bind fun t451 => (if t450 < t451 then ((r2_Make.f kj27 a0 a1 0 t450).bind fun t452 => (some t452)) else ((r3_Low.f a0).bind fun t453 => ((r2_Two.f kj27 t432).bind fun t454 => ((r2_Make.f kj27 a0 a1 (wrap64 ((wrap64 (x13_27 - t453)) + 1)) (IntKind.u64.wrap (t450 - t454))).bind fun t455 => (some t455)))))))) = some r := H
       have A48 := A_ A480;clear A480
       by_cases c49 : x13_27 > (wrap64 ((wrap64 (t447 + t448)) - 2))
       ·rw [if_pos c49] at H
        have c49b0 : decide ((wrap64 ((wrap64 (t447 + t448)) - 2)) < x13_27) = true := decide_eq_true c49
        clear c49
        replace H := ob_ H
        obtain ⟨t449, A500, H⟩ := H
        replace H : (some t449) = some r := H
        have A50 := A_ A500;clear A500
        obtain rfl := Option.some.inj H
        go_wp2_with (first | ((with_reducible refine gate_callee (f := 81) rfl ?_); refine gl_ (some 67) Try.func81 #[.int .i64 a0] ?_; (with_reducible refine (r3_Low.calls a0 t447 _ A47.out).mono ?_); rintro e w' ⟨rfl, ⟨nd, rfl⟩⟩; refine ⟨_, rfl, ?_⟩) | ((with_reducible refine gate_callee (f := 41) rfl ?_); refine gl_ (some 69) Try.func41 #[.int .i64 a0] ?_; (with_reducible refine (r2_Top.calls kj27 a0 t448 _ A48.out).mono ?_); rintro e w' ⟨rfl, ⟨nd, rfl⟩⟩; refine ⟨_, rfl, ?_⟩) | ((with_reducible refine gate_callee (f := 61) rfl ?_); refine gl_ (some 75) Try.func61 #[.int .i64 a0, .bool a1] ?_; (with_reducible refine (r2_Inf.calls kj27 a0 a1 t449 _ A50.out).mono ?_); rintro e w' ⟨rfl, ⟨nd, rfl⟩⟩; refine ⟨_, rfl, ?_⟩))
        go_ret
        exact ⟨by first | rfl | (simp [errW_none, errW_some] <;> rfl) | (simp only [← hji10]; first | rfl | (simp [errW_none, errW_some] <;> rfl)) | (simp [*, errW_none, errW_some] <;> rfl), hb3_ HB.out GE430.out GE431.out GE441.out⟩
       ·rw [if_neg c49] at H
        have c49b0 : decide ((wrap64 ((wrap64 (t447 + t448)) - 2)) < x13_27) = false := decide_eq_false c49
        clear c49
        replace H := ob_ H
        obtain ⟨t450, A510, H⟩ := H
        replace H : ((r2_Two.f kj27 t432).bind fun t451 => (if t450 < t451 then ((r2_Make.f kj27 a0 a1 0 t450).bind fun t452 => (some t452)) else ((r3_Low.f a0).bind fun t453 => ((r2_Two.f kj27 t432).bind fun t454 => ((r2_Make.f kj27 a0 a1 (wrap64 ((wrap64 (x13_27 - t453)) + 1)) (IntKind.u64.wrap (t450 - t454))).bind fun t455 => (some t455)))))) = some r := H
        have A51 := A_ A510;clear A510
        replace H := ob_ H
        obtain ⟨t451, A520, H⟩ := H
        replace H : (if t450 < t451 then ((r2_Make.f kj27 a0 a1 0 t450).bind fun t452 => (some t452)) else ((r3_Low.f a0).bind fun t453 => ((r2_Two.f kj27 t432).bind fun t454 => ((r2_Make.f kj27 a0 a1 (wrap64 ((wrap64 (x13_27 - t453)) + 1)) (IntKind.u64.wrap (t450 - t454))).bind fun t455 => (some t455))))) = some r := H
        have A52 := A_ A520;clear A520
        by_cases c53 : t450 < t451
        ·rw [if_pos c53] at H
         have c53b0 : decide (t450 < t451) = true := decide_eq_true c53
         clear c53
         replace H := ob_ H
         obtain ⟨t452, A540, H⟩ := H
         replace H : (some t452) = some r := H
         have A54 := A_ A540;clear A540
         obtain rfl := Option.some.inj H
         go_wp2_with (first | ((with_reducible refine gate_callee (f := 81) rfl ?_); refine goesL_ (some 67) rfl rfl Try.func81 (by kernel_rfl) rfl #[.int .i64 a0] rfl (by (try simp only [List.map_toArray, List.map_cons, List.map_nil]); first | done | rfl | (simp only [List.length_drop, List.length_take]; rfl)) ?_; (with_reducible refine (r3_Low.calls a0 t447 _ A47.out).mono ?_); rintro e w' ⟨rfl, ⟨nd, rfl⟩⟩; refine ⟨_, rfl, ?_⟩) | ((with_reducible refine gate_callee (f := 41) rfl ?_); refine goesL_ (some 69) rfl rfl Try.func41 (by kernel_rfl) rfl #[.int .i64 a0] rfl (by (try simp only [List.map_toArray, List.map_cons, List.map_nil]); first | done | rfl | (simp only [List.length_drop, List.length_take]; rfl)) ?_; (with_reducible refine (r2_Top.calls kj27 a0 t448 _ A48.out).mono ?_); rintro e w' ⟨rfl, ⟨nd, rfl⟩⟩; refine ⟨_, rfl, ?_⟩; have hnb55 := NB441_430.out; have hnc55 := NB430_441.out; have hnb56 := NB441_431.out; have hnc56 := NB431_441.out; have hcz57_0 : wc.cell? ⟨gb441, 0, none⟩ = some (u442000) := (blk_cell BK441.out 0).trans rfl; have hfz57_0 := blk_frozen BK441.out 0; obtain ⟨Ao58, co58, eo58⟩ := Kd.R_slice HO_442000.out; subst eo58) | ((with_reducible refine gate_callee (f := 32) rfl ?_); refine goesL_ (some 77) rfl rfl Try.func32 (by kernel_rfl) rfl #[.agg #[.slice Ao58 x442000_27.length co58]] rfl (by (try simp only [List.map_toArray, List.map_cons, List.map_nil]); first | done | rfl | (simp only [List.length_drop, List.length_take]; rfl)) ?_; (with_reducible refine (r1_Uint.calls _ _ x442000_27 t450 _ ?side1 ?side2 A51.out).mono ?_); (case side1 => repeat (first | exact (Kd.R_reads' HO_442000.out).2.2 | (with_reducible refine Kd.C_alloc ?_ _) | (with_reducible refine Kd.C_drewN ?_ _) | (with_reducible refine Kd.C_drew ?_))); (case side2 => exact (Kd.R_reads' HO_442000.out).2.1); rintro e w59 ⟨rfl, hb⟩; refine ⟨_, rfl, ?_⟩; have n0_ := Aside0.mk (Kd.R_below (by (with_reducible repeat (first | apply Kd.R_alloc | apply Kd.R_drewN | apply Kd.R_drew)); exact HO_442000.out) hb); have n1_ := Aside0.mk (blk_below (g := gb430) (o := .cells #[.slice A2_0 l2_0.length c2_0] 33 (0, 0)) (by (with_reducible repeat (first | refine blk_drewN ?_ _ | refine blk_drew ?_ | refine blk_alloc ?_ _)); exact BK430.out) hb); have n2_ := Aside0.mk (blk_below (g := gb431) (o := .cells #[.slice A3_0 l3_0.length c3_0] 33 (0, 0)) (by (with_reducible repeat (first | refine blk_drewN ?_ _ | refine blk_drew ?_ | refine blk_alloc ?_ _)); exact BK431.out) hb); have n3_ := Aside0.mk (blk_below (g := gb441) (o := .cells #[.slice Ao58 x442000_27.length co58] 33 (0, 0)) (by (with_reducible repeat (first | refine blk_drewN ?_ _ | refine blk_drew ?_ | refine blk_alloc ?_ _)); exact BK441.out) hb); have n4_ := Aside0.mk (below_step (by repeat (first | (with_reducible first | exact HB.out | apply below_alloc | apply pw_below_drewN | apply below_drew1 | refine below_set ?_ GE430.out | refine below_set ?_ GE431.out | refine below_set ?_ GE441.out) | exact HB.out)) hb); clear HO_442000; clear BK430; clear BK431; clear BK441; clear HB; have HO_442000 := n0_; have BK430 := n1_; have BK431 := n2_; have BK441 := n3_; have HB := n4_; clear n0_ n1_ n2_ n3_ n4_; (try clear hb); (try clear hb2); (try clear hk); (try clear hi)) | ((with_reducible refine gate_callee (f := 43) rfl ?_); refine goesL_ (some 80) rfl rfl Try.func43 (by kernel_rfl) rfl #[.int .i64 t432] rfl (by (try simp only [List.map_toArray, List.map_cons, List.map_nil]); first | done | rfl | (simp only [List.length_drop, List.length_take]; rfl)) ?_; (with_reducible refine (r2_Two.calls kj27 t432 t451 _ A52.out).mono ?_); rintro e w' ⟨rfl, ⟨nd, rfl⟩⟩; refine ⟨_, rfl, ?_⟩) | ((with_reducible refine gate_callee (f := 22) rfl ?_); refine goesL_ (some 85) rfl rfl Try.func22 (by kernel_rfl) rfl #[.int .i64 a0, .bool a1, .int .i64 0, .int .u64 t450] rfl (by (try simp only [List.map_toArray, List.map_cons, List.map_nil]); first | done | rfl | (simp only [List.length_drop, List.length_take]; rfl)) ?_; (with_reducible refine (r2_Make.calls kj27 a0 a1 0 t450 t452 _ A54.out).mono ?_); rintro e w' ⟨rfl, ⟨nd, rfl⟩⟩; refine ⟨_, rfl, ?_⟩))
         go_ret
         exact ⟨by first | rfl | (simp [errW_none, errW_some] <;> rfl) | (simp only [← hji10]; first | rfl | (simp [errW_none, errW_some] <;> rfl)) | (simp [*, errW_none, errW_some] <;> rfl), hb3_ HB.out GE430.out GE431.out GE441.out⟩
        ·rw [if_neg c53] at H
         have c53b0 : decide (t450 < t451) = false := decide_eq_false c53
         clear c53
         replace H := ob_ H
         obtain ⟨t453, A600, H⟩ := H
         replace H : ((r2_Two.f kj27 t432).bind fun t454 => ((r2_Make.f kj27 a0 a1 (wrap64 ((wrap64 (x13_27 - t453)) + 1)) (IntKind.u64.wrap (t450 - t454))).bind fun t455 => (some t455))) = some r := H
         have A60 := A_ A600;clear A600
         replace H := ob_ H
         obtain ⟨t454, A610, H⟩ := H
         replace H : ((r2_Make.f kj27 a0 a1 (wrap64 ((wrap64 (x13_27 - t453)) + 1)) (IntKind.u64.wrap (t450 - t454))).bind fun t455 => (some t455)) = some r := H
         have A61 := A_ A610;clear A610
         replace H := ob_ H
         obtain ⟨t455, A620, H⟩ := H
         replace H : (some t455) = some r := H
         have A62 := A_ A620;clear A620
         obtain rfl := Option.some.inj H
         go_wp2_with (first | ((with_reducible refine gate_callee (f := 81) rfl ?_); refine goesL_ (some 67) rfl rfl Try.func81 (by kernel_rfl) rfl #[.int .i64 a0] rfl (by (try simp only [List.map_toArray, List.map_cons, List.map_nil]); first | done | rfl | (simp only [List.length_drop, List.length_take]; rfl)) ?_; (with_reducible refine (r3_Low.calls a0 t447 _ A47.out).mono ?_); rintro e w' ⟨rfl, ⟨nd, rfl⟩⟩; refine ⟨_, rfl, ?_⟩) | ((with_reducible refine gate_callee (f := 41) rfl ?_); refine goesL_ (some 69) rfl rfl Try.func41 (by kernel_rfl) rfl #[.int .i64 a0] rfl (by (try simp only [List.map_toArray, List.map_cons, List.map_nil]); first | done | rfl | (simp only [List.length_drop, List.length_take]; rfl)) ?_; (with_reducible refine (r2_Top.calls kj27 a0 t448 _ A48.out).mono ?_); rintro e w' ⟨rfl, ⟨nd, rfl⟩⟩; refine ⟨_, rfl, ?_⟩; have hnb63 := NB441_430.out; have hnc63 := NB430_441.out; have hnb64 := NB441_431.out; have hnc64 := NB431_441.out; have hcz65_0 : wc.cell? ⟨gb441, 0, none⟩ = some (u442000) := (blk_cell BK441.out 0).trans rfl; have hfz65_0 := blk_frozen BK441.out 0; obtain ⟨Ao66, co66, eo66⟩ := Kd.R_slice HO_442000.out; subst eo66) | ((with_reducible refine gate_callee (f := 32) rfl ?_); refine goesL_ (some 77) rfl rfl Try.func32 (by kernel_rfl) rfl #[.agg #[.slice Ao66 x442000_27.length co66]] rfl (by (try simp only [List.map_toArray, List.map_cons, List.map_nil]); first | done | rfl | (simp only [List.length_drop, List.length_take]; rfl)) ?_; (with_reducible refine (r1_Uint.calls _ _ x442000_27 t450 _ ?side1 ?side2 A51.out).mono ?_); (case side1 => repeat (first | exact (Kd.R_reads' HO_442000.out).2.2 | (with_reducible refine Kd.C_alloc ?_ _) | (with_reducible refine Kd.C_drewN ?_ _) | (with_reducible refine Kd.C_drew ?_))); (case side2 => exact (Kd.R_reads' HO_442000.out).2.1); rintro e w67 ⟨rfl, hb⟩; refine ⟨_, rfl, ?_⟩; have n0_ := Aside0.mk (Kd.R_below (by (with_reducible repeat (first | apply Kd.R_alloc | apply Kd.R_drewN | apply Kd.R_drew)); exact HO_442000.out) hb); have n1_ := Aside0.mk (blk_below (g := gb430) (o := .cells #[.slice A2_0 l2_0.length c2_0] 33 (0, 0)) (by (with_reducible repeat (first | refine blk_drewN ?_ _ | refine blk_drew ?_ | refine blk_alloc ?_ _)); exact BK430.out) hb); have n2_ := Aside0.mk (blk_below (g := gb431) (o := .cells #[.slice A3_0 l3_0.length c3_0] 33 (0, 0)) (by (with_reducible repeat (first | refine blk_drewN ?_ _ | refine blk_drew ?_ | refine blk_alloc ?_ _)); exact BK431.out) hb); have n3_ := Aside0.mk (blk_below (g := gb441) (o := .cells #[.slice Ao66 x442000_27.length co66] 33 (0, 0)) (by (with_reducible repeat (first | refine blk_drewN ?_ _ | refine blk_drew ?_ | refine blk_alloc ?_ _)); exact BK441.out) hb); have n4_ := Aside0.mk (below_step (by repeat (first | (with_reducible first | exact HB.out | apply below_alloc | apply pw_below_drewN | apply below_drew1 | refine below_set ?_ GE430.out | refine below_set ?_ GE431.out | refine below_set ?_ GE441.out) | exact HB.out)) hb); clear HO_442000; clear BK430; clear BK431; clear BK441; clear HB; have HO_442000 := n0_; have BK430 := n1_; have BK431 := n2_; have BK441 := n3_; have HB := n4_; clear n0_ n1_ n2_ n3_ n4_; (try clear hb); (try clear hb2); (try clear hk); (try clear hi)) | ((with_reducible refine gate_callee (f := 43) rfl ?_); refine goesL_ (some 80) rfl rfl Try.func43 (by kernel_rfl) rfl #[.int .i64 t432] rfl (by (try simp only [List.map_toArray, List.map_cons, List.map_nil]); first | done | rfl | (simp only [List.length_drop, List.length_take]; rfl)) ?_; (with_reducible refine (r2_Two.calls kj27 t432 t451 _ A52.out).mono ?_); rintro e w' ⟨rfl, ⟨nd, rfl⟩⟩; refine ⟨_, rfl, ?_⟩) | ((with_reducible refine gate_callee (f := 81) rfl ?_); refine goesL_ (some 90) rfl rfl Try.func81 (by kernel_rfl) rfl #[.int .i64 a0] rfl (by (try simp only [List.map_toArray, List.map_cons, List.map_nil]); first | done | rfl | (simp only [List.length_drop, List.length_take]; rfl)) ?_; (with_reducible refine (r3_Low.calls a0 t453 _ A60.out).mono ?_); rintro e w' ⟨rfl, ⟨nd, rfl⟩⟩; refine ⟨_, rfl, ?_⟩) | ((with_reducible refine gate_callee (f := 43) rfl ?_); refine goesL_ (some 95) rfl rfl Try.func43 (by kernel_rfl) rfl #[.int .i64 t432] rfl (by (try simp only [List.map_toArray, List.map_cons, List.map_nil]); first | done | rfl | (simp only [List.length_drop, List.length_take]; rfl)) ?_; (with_reducible refine (r2_Two.calls kj27 t432 t454 _ A61.out).mono ?_); rintro e w' ⟨rfl, ⟨nd, rfl⟩⟩; refine ⟨_, rfl, ?_⟩) | ((with_reducible refine gate_callee (f := 22) rfl ?_); refine goesL_ (some 97) rfl rfl Try.func22 (by kernel_rfl) rfl #[.int .i64 a0, .bool a1, .int .i64 (wrap64 ((wrap64 (x13_27 - t453)) + 1)), .int .u64 (IntKind.u64.wrap (t450 - t454))] rfl (by (try simp only [List.map_toArray, List.map_cons, List.map_nil]); first | done | rfl | (simp only [List.length_drop, List.length_take]; rfl)) ?_; (with_reducible refine (r2_Make.calls kj27 a0 a1 (wrap64 ((wrap64 (x13_27 - t453)) + 1)) (IntKind.u64.wrap (t450 - t454)) t455 _ A62.out).mono ?_); rintro e w' ⟨rfl, ⟨nd, rfl⟩⟩; refine ⟨_, rfl, ?_⟩))
         go_ret
         exact ⟨by first | rfl | (simp [errW_none, errW_some] <;> rfl) | (simp only [← hji10]; first | rfl | (simp [errW_none, errW_some] <;> rfl)) | (simp [*, errW_none, errW_some] <;> rfl), hb3_ HB.out GE430.out GE431.out GE441.out⟩
def r3_Exact.j0 : Nat → Int → Bool → Int → Bool → List Int → Option (Int)
 | 0, _, _, _, _, _ => none
 | k + 1, x0, x1, x3, x16, x457000 => if x16 = true then ((r2_Make.f k x0 x1 0 0).bind fun t457 => (some t457)) else (if x3 > 4000 then ((r2_Inf.f k x0 x1).bind fun t458 => (some t458)) else ((r1_Of.f k 1).bind fun t459 => ((r3_Near.f k x0 x1 x457000 t459 x3).bind fun t462 => (some t462))))
def r3_Exact.f (k : Nat) (a0 : Int) (a1 : Bool) (l2_0 : List Int) (a3 : Int) : Option (Int) := if (l2_0.length : Int) = 0 then (r3_Exact.j0 k a0 a1 a3 true l2_0) else (r3_Exact.j0 k a0 a1 a3 (decide (a3 < (-4000))) l2_0)
theorem r3_Exact.mono_l : ∀ k, (∀ y0 y1 y2 y3 y4, LeO (r3_Exact.j0 k y0 y1 y2 y3 y4) (r3_Exact.j0 (k + 1) y0 y1 y2 y3 y4))
 | 0 => fun _ _ _ _ _ r h => by simp [r3_Exact.j0] at h
 | k + 1 => by
  have ih0 := r3_Exact.mono_l k
  ·intro y0 y1 y2 y3 y4
   unfold r3_Exact.j0
   repeat' first
   | (with_reducible exact ih0 _ _ _ _ _)
   | (with_reducible exact r1_Of.mono _ _)
   | (with_reducible exact r2_Inf.mono _ _ _)
   | (with_reducible exact r2_Make.mono _ _ _ _ _)
   | (with_reducible exact r3_Near.mono _ _ _ _ _ _)
   | (with_reducible exact LeO.refl _)
   | (with_reducible exact LeO.none _)
   | (with_reducible refine LeO.ite ?_ ?_)
   | (with_reducible refine LeO.bind ?_ (fun _ => ?_))
   | exact ih0 _ _ _ _ _
   | exact r1_Of.mono _ _
   | exact r2_Inf.mono _ _ _
   | exact r2_Make.mono _ _ _ _ _
   | exact r3_Near.mono _ _ _ _ _ _
   | exact LeO.none _
   | refine LeO.ite ?_ ?_
   | refine LeO.bind ?_ (fun _ => ?_)
theorem r3_Exact.mono : ∀ a0 a1 a2 a3 k, LeO (r3_Exact.f k a0 a1 a2 a3) (r3_Exact.f (k + 1) a0 a1 a2 a3) := by
 intro a0 a1 a2 a3 k
 have ih0 := r3_Exact.mono_l k
 unfold r3_Exact.f
 repeat' first
   | (with_reducible exact ih0 _ _ _ _ _)
   | (with_reducible exact r1_Of.mono _ _)
   | (with_reducible exact r2_Inf.mono _ _ _)
   | (with_reducible exact r2_Make.mono _ _ _ _ _)
   | (with_reducible exact r3_Near.mono _ _ _ _ _ _)
   | (with_reducible exact LeO.refl _)
   | (with_reducible exact LeO.none _)
   | (with_reducible refine LeO.ite ?_ ?_)
   | (with_reducible refine LeO.bind ?_ (fun _ => ?_))
   | exact ih0 _ _ _ _ _
   | exact r1_Of.mono _ _
   | exact r2_Inf.mono _ _ _
   | exact r2_Make.mono _ _ _ _ _
   | exact r3_Near.mono _ _ _ _ _ _
   | exact LeO.none _
   | refine LeO.ite ?_ ?_
   | refine LeO.bind ?_ (fun _ => ?_)
theorem r3_Exact.calls (k : Nat) (a0 : Int) (a1 : Bool) (A2_0 : Option Addr) (c2_0 : Nat) (l2_0 : List Int) (a3 : Int) (r : Int) (w : World) (hr2_0 : Kd.C (Kd.int .u64) w A2_0 l2_0.length l2_0) (hc2_0 : l2_0.length ≤ c2_0) (h : r3_Exact.f k a0 a1 l2_0 a3 = some r) :
  Calls Try.prog 35 #[.int .i64 a0, .bool a1, .agg #[.slice A2_0 l2_0.length c2_0], .int .i64 a3] w fun e w' => e = .returned (.int .u64 r) ∧ Below w.heap.size w w' := by
 have hu33 := Try.underlying33
 have HR2_0 := A_ hr2_0;have HC2_0 := A_ hc2_0;clear hr2_0 hc2_0
 have HB := A_ (Below.refl w.heap.size w)
 have H : (if (l2_0.length : Int) = 0 then (r3_Exact.j0 k a0 a1 a3 true l2_0) else (r3_Exact.j0 k a0 a1 a3 (decide (a3 < (-4000))) l2_0)) = some r := h
 clear h;have HC5 := A_ H;clear H
 go_enter Try.func35, Try.ntmps35
 go_upto_region 1 with (first | ((with_reducible refine gate_dst (N := 6) rfl ?_); refine be_ 6 #[.slice A2_0 l2_0.length c2_0] 33 ?_; intro gb456 hg w6 hbox hb; have BK456 := A_ (hbox); have GW456 := A_ (sz_ hg (hb_ HB.out)); have GE456 := A_ (sz_ hg (hb_ HB.out)); replace HB := A_ (below_step (hb_ HB.out) hb); clear hb hbox hg))
 (try simp only [Act.put, lI_, l0_, lS_])
 go_cut [16] (fun v16 wc => ∃ (kq : Nat) (x16_4 : Bool), v16 = .bool x16_4 ∧ Aside0 (r3_Exact.j0 kq a0 a1 a3 x16_4 l2_0 = some r) ∧ Aside0 (kq ≤ k) ∧ Aside0 (wc.heap[gb456]? = some (.cells #[(.slice A2_0 l2_0.length c2_0)] 33 (0, 0))) ∧ Aside0 (Below w.heap.size w wc))
 case first =>
  have H := HC5.out
  clear HC5
  by_cases c7 : (l2_0.length : Int) = 0
  ·rw [if_pos c7] at H
   have c7b0 : ((l2_0.length : Int) == 0) = true := beq_iff_eq.mpr c7
   have c7b1 : ((l2_0.length : Int) != 0) = false := bne_eq_false_iff_eq.mpr c7
   clear c7
   (first | rw [c7b0] | (simp only [i64_w, i32_w]; rw [c7b0]) | skip)
   have H' := A_ H
   clear H
   have hcz8_0 := bv_ BK456.out 0
   have hfz8_0 := blk_frozen BK456.out 0
   go_wp2
   go_meet
   case rel => exact ⟨_, (true), sm_, H', ⟨by first | omega | exact Nat.le_refl _⟩, ⟨bk_ BK456.out⟩, ⟨hb1_ HB.out GE456.out⟩⟩
  ·rw [if_neg c7] at H
   have c7b0 : ((l2_0.length : Int) == 0) = false := beq_eq_false_iff_ne.mpr c7
   have c7b1 : ((l2_0.length : Int) != 0) = true := bne_iff_ne.mpr c7
   have c7b2 : ¬ (l2_0 = []) := fun h_ => c7 (by rw [h_]; rfl)
   (first | rw [c7b0] | (simp only [i64_w, i32_w]; rw [c7b0]) | skip)
   have H' := A_ H
   clear H
   have hcz9_0 := bv_ BK456.out 0
   have hfz9_0 := blk_frozen BK456.out 0
   go_wp2
   go_meet
   case rel => exact ⟨_, (decide (a3 < (-4000))), sm_, H', ⟨by first | omega | exact Nat.le_refl _⟩, ⟨bk_ BK456.out⟩, ⟨hb1_ HB.out GE456.out⟩⟩
 case rest =>
  clear HC5
  try clear c2
  try clear p2
  try clear c3
  try clear c7
  try clear c7b0
  try clear c7b1
  try clear c7b2
  try clear hcz8_0
  try clear hcz9_0
  try clear hfz8_0
  try clear hfz9_0
  obtain ⟨kq, x16_4, rfl, HA, HJ4, BK456, HB⟩ := hcut
  cases kq with
  | zero => exact absurd HA.out (by simp [r3_Exact.j0])
  | succ kj4 =>
   have H := HA.out
   clear HA
   simp only [r3_Exact.j0] at H
   by_cases c10 : x16_4 = true
   ·subst c10
    have H1 : ((r2_Make.f kj4 a0 a1 0 0).bind fun t457 => (some t457)) = some r := by rw [if_pos rfl] at H; exact H
    clear H;have H := H1;clear H1
    replace H := ob_ H
    obtain ⟨t457, A110, H⟩ := H
    replace H : (some t457) = some r := H
    have A11 := A_ A110;clear A110
    obtain rfl := Option.some.inj H
    go_wp2_with (first | ((with_reducible refine gate_callee (f := 22) rfl ?_); refine gl_ (some 19) Try.func22 #[.int .i64 a0, .bool a1, .int .i64 0, .int .u64 0] ?_; (with_reducible refine (r2_Make.calls kj4 a0 a1 0 0 t457 _ A11.out).mono ?_); rintro e w' ⟨rfl, ⟨nd, rfl⟩⟩; refine ⟨_, rfl, ?_⟩))
    go_ret
    exact ⟨er_, hb1_ HB.out GE456.out⟩
   ·replace c10 := Bool.eq_false_iff.mpr c10
    subst c10
    have H1 : (if a3 > 4000 then ((r2_Inf.f kj4 a0 a1).bind fun t458 => (some t458)) else ((r1_Of.f kj4 1).bind fun t459 => ((r3_Near.f kj4 a0 a1 l2_0 t459 a3).bind fun t462 => (some t462)))) = some r := by rw [if_neg (show ¬ (false = true) by decide)] at H; exact H
    clear H;have H := H1;clear H1
    by_cases c12 : a3 > 4000
    ·rw [if_pos c12] at H
     have c12b0 : decide (4000 < a3) = true := decide_eq_true c12
     clear c12
     replace H := ob_ H
     obtain ⟨t458, A130, H⟩ := H
     replace H : (some t458) = some r := H
     have A13 := A_ A130;clear A130
     obtain rfl := Option.some.inj H
     go_wp2_with (first | ((with_reducible refine gate_callee (f := 61) rfl ?_); refine gl_ (some 24) Try.func61 #[.int .i64 a0, .bool a1] ?_; (with_reducible refine (r2_Inf.calls kj4 a0 a1 t458 _ A13.out).mono ?_); rintro e w' ⟨rfl, ⟨nd, rfl⟩⟩; refine ⟨_, rfl, ?_⟩))
     go_ret
     exact ⟨er_, hb1_ HB.out GE456.out⟩
    ·rw [if_neg c12] at H
     have c12b0 : decide (4000 < a3) = false := decide_eq_false c12
     clear c12
     replace H := ob_ H
     obtain ⟨t459, A140, H⟩ := H
     replace H : ((r3_Near.f kj4 a0 a1 l2_0 t459 a3).bind fun t462 => (some t462)) = some r := H
     have A14 := A_ A140;clear A140
     replace H := ob_ H
     obtain ⟨t462, A150, H⟩ := H
     replace H : (some t462) = some r := H
     have A15 := A_ A150;clear A150
     obtain rfl := Option.some.inj H
     try go_wp2
     replace BK456 := A_ (blk_drew BK456.out)
     replace HB := A_ (below_drew1 HB.out)
     refine start_ (n := 7) (S := fun w' => w'.cell? ⟨gb456, 0, none⟩ = some (.slice A2_0 l2_0.length c2_0)) (ds := []) #[false, false, false, false, false, false, false] (by kernel_rfl) rfl rfl (bc_ BK456.out 0) (fun hHeld => ?_)
     generalize wc.drew = w16 at BK456 HB hHeld ⊢
     refine pu_ 0 (some 25) #[true, false, false, false, false, false, false] rfl rfl (by kernel_rfl) ?_
     refine pu_ 1 (some 26) #[true, true, false, false, false, false, false] rfl rfl (by kernel_rfl) ?_
     refine pu_ 4 (some 29) #[true, true, false, false, true, false, false] rfl rfl (by kernel_rfl) ?_
     refine tk1_ 2 (some 27) #[true, true, true, false, true, false, false] rfl rfl (by kernel_rfl) hHeld ?_
     refine one_ (i := 3) (N := some 28) #[true, true, true, true, true, false, false] rfl rfl (by kernel_rfl) (by decide) (fun K hK => ?_)
     refine goes_ Try.func34 (by kernel_rfl) rfl #[.int .u64 1] (by rfl) rfl rfl mp_ ?_
     with_reducible refine (r1_Of.calls kj4 1 t459 _ A14.out).mono ?_
     rintro e w17 ⟨v460, rfl, ho0, hb⟩
     refine ⟨_, rfl, ?_⟩
     have HO461 := A_ (Kd.R_lower ho0 (below_size (hb1_ HB.out GE456.out)))
     replace BK456 := A_ (bb_ BK456.out hb)
     replace HB := A_ (below_step (hb1_ HB.out GE456.out) hb);(try clear hb);(try clear hb2);(try clear hk);(try clear hi);(try clear ho0)
     obtain ⟨Ao18, co18, eo18⟩ := Kd.R_slice HO461.out
     (first | subst eo18 | (injection eo18 with f1_ f2_ f3_; have f4_ := f1_.symm; have f5_ := f3_.symm; clear f1_ f2_ f3_; subst f4_; subst f5_))
     refine hK.out _ _ (bc_ BK456.out 0) (fun hHeld => ?_)
     clear hK K
     refine norm_ (a' := ?_) ?_ ?_
     rotate_left
     ·show Act.put _ (some 28) _ = _
      simp only [Act.put, lI_, l0_, lS_, i64_w, i32_w]
      rfl
     refine one_ (i := 5) (N := some 30) #[true, true, true, true, true, true, false] rfl rfl (by kernel_rfl) (by decide) (fun K hK => ?_)
     refine goes_ Try.func62 (by kernel_rfl) rfl #[.int .i64 a0, .bool a1, .agg #[.slice A2_0 l2_0.length c2_0], .agg #[.slice Ao18 t459.length co18], .int .i64 a3] (by rfl) rfl rfl mp_ ?_
     with_reducible refine (r3_Near.calls kj4 a0 a1 _ _ l2_0 _ _ t459 a3 t462 _ ?side1 ?side2 ?side3 ?side4 A15.out).mono ?_
     (case side1 => exact cs_ ((Kd.C_below HR2_0.out HB.out)))
     (case side2 => exact HC2_0.out)
     (case side3 => exact cs_ ((Kd.R_reads' HO461.out).2.2))
     (case side4 => exact (Kd.R_reads' HO461.out).2.1)
     rintro e w19 ⟨rfl, hb⟩
     refine ⟨_, rfl, ?_⟩
     replace HO461 := A_ (Kd.R_below (kr_ HO461.out) hb)
     replace BK456 := A_ (bb_ BK456.out hb)
     replace HB := A_ (below_step (hb1_ HB.out GE456.out) hb);(try clear hb);(try clear hb2);(try clear hk);(try clear hi)
     refine hK.out _ _ (bc_ BK456.out 0) (fun hHeld => ?_)
     clear hK K
     refine norm_ (a' := ?_) ?_ ?_
     rotate_left
     ·show Act.put _ (some 30) _ = _
      simp only [Act.put, lI_, l0_, lS_, i64_w, i32_w]
      rfl
     refine pu_ 6 (some 8) #[true, true, true, true, true, true, true] rfl rfl (by kernel_rfl) ?_
     refine done_ (by kernel_rfl) ?_
     try go_wp2
     go_ret
     exact ⟨er_, hb1_ HB.out GE456.out⟩
def r9_Make.j0 : Nat → Int → Bool → Bool → Int → Int → Int → List Int → Option (Int)
 | 0, _, _, _, _, _, _, _ => none
 | k + 1, x0, x11, x468000, x468001, x468002, x468003, x476000 => if x11 = true then ((r1_Of.f k 1).bind fun t477 => ((r1_Add.f k x476000 t477).bind fun t480 => ((r3_Exact.f k x0 x468000 t480 0).bind fun t483 => (some t483)))) else ((r3_Exact.f k x0 x468000 x476000 0).bind fun t484 => (some t484))
def r9_Make.f (k : Nat) (a0 : Int) (a1 : Int) (a2 : Int) : Option (Int) := (r2_Open.f k a0 a1).bind fun bt463 => (if bt463.2.1 = 3 then ((r2_Nan.f k a0).bind fun t468 => (some t468)) else (if bt463.2.1 = 1 then ((r9_Down.f k bt463.1 bt463.2.1 bt463.2.2.1 bt463.2.2.2).bind fun bt470 => (if a2 = 1 then (if bt470.2.2 = true then (r9_Make.j0 k a0 (!bt463.1) bt463.1 bt463.2.1 bt463.2.2.1 bt463.2.2.2 bt470.1) else (r9_Make.j0 k a0 false bt463.1 bt463.2.1 bt463.2.2.1 bt463.2.2.2 bt470.1)) else (if a2 = 2 then (if bt470.2.2 = true then (r9_Make.j0 k a0 bt463.1 bt463.1 bt463.2.1 bt463.2.2.1 bt463.2.2.2 bt470.1) else (r9_Make.j0 k a0 false bt463.1 bt463.2.1 bt463.2.2.1 bt463.2.2.2 bt470.1)) else (if a2 = 4 then (if bt470.2.1 > 0 then (r9_Make.j0 k a0 true bt463.1 bt463.2.1 bt463.2.2.1 bt463.2.2.2 bt470.1) else (if bt470.2.1 = 0 then ((r1_Uint.f bt470.1).bind fun t476 => (r9_Make.j0 k a0 ((Int.tmod t476 2) == 1) bt463.1 bt463.2.1 bt463.2.2.1 bt463.2.2.2 bt470.1)) else (r9_Make.j0 k a0 false bt463.1 bt463.2.1 bt463.2.2.1 bt463.2.2.2 bt470.1))) else (r9_Make.j0 k a0 false bt463.1 bt463.2.1 bt463.2.2.1 bt463.2.2.2 bt470.1))))) else ((r2_Cut.f a0 a1).bind fun t469 => (some t469))))
theorem r9_Make.mono_l : ∀ k, (∀ y0 y1 y2 y3 y4 y5 y6, LeO (r9_Make.j0 k y0 y1 y2 y3 y4 y5 y6) (r9_Make.j0 (k + 1) y0 y1 y2 y3 y4 y5 y6))
 | 0 => fun _ _ _ _ _ _ _ r h => by simp [r9_Make.j0] at h
 | k + 1 => by
  have ih0 := r9_Make.mono_l k
  ·intro y0 y1 y2 y3 y4 y5 y6
   unfold r9_Make.j0
   repeat' first
   | (with_reducible exact ih0 _ _ _ _ _ _ _)
   | (with_reducible exact r1_Add.mono _ _ _)
   | (with_reducible exact r1_Of.mono _ _)
   | (with_reducible exact r2_Nan.mono _ _)
   | (with_reducible exact r2_Open.mono _ _ _)
   | (with_reducible exact r3_Exact.mono _ _ _ _ _)
   | (with_reducible exact r9_Down.mono _ _ _ _ _)
   | (with_reducible exact LeO.refl _)
   | (with_reducible exact LeO.none _)
   | (with_reducible refine LeO.ite ?_ ?_)
   | (with_reducible refine LeO.bind ?_ (fun _ => ?_))
   | exact ih0 _ _ _ _ _ _ _
   | exact r1_Add.mono _ _ _
   | exact r1_Of.mono _ _
   | exact r2_Nan.mono _ _
   | exact r2_Open.mono _ _ _
   | exact r3_Exact.mono _ _ _ _ _
   | exact r9_Down.mono _ _ _ _ _
   | exact LeO.none _
   | refine LeO.ite ?_ ?_
   | refine LeO.bind ?_ (fun _ => ?_)
theorem r9_Make.mono : ∀ a0 a1 a2 k, LeO (r9_Make.f k a0 a1 a2) (r9_Make.f (k + 1) a0 a1 a2) := by
 intro a0 a1 a2 k
 have ih0 := r9_Make.mono_l k
 unfold r9_Make.f
 repeat' first
   | (with_reducible exact ih0 _ _ _ _ _ _ _)
   | (with_reducible exact r1_Add.mono _ _ _)
   | (with_reducible exact r1_Of.mono _ _)
   | (with_reducible exact r2_Nan.mono _ _)
   | (with_reducible exact r2_Open.mono _ _ _)
   | (with_reducible exact r3_Exact.mono _ _ _ _ _)
   | (with_reducible exact r9_Down.mono _ _ _ _ _)
   | (with_reducible exact LeO.refl _)
   | (with_reducible exact LeO.none _)
   | (with_reducible refine LeO.ite ?_ ?_)
   | (with_reducible refine LeO.bind ?_ (fun _ => ?_))
   | exact ih0 _ _ _ _ _ _ _
   | exact r1_Add.mono _ _ _
   | exact r1_Of.mono _ _
   | exact r2_Nan.mono _ _
   | exact r2_Open.mono _ _ _
   | exact r3_Exact.mono _ _ _ _ _
   | exact r9_Down.mono _ _ _ _ _
   | exact LeO.none _
   | refine LeO.ite ?_ ?_
   | refine LeO.bind ?_ (fun _ => ?_)
theorem r9_Make.calls (k : Nat) (a0 : Int) (a1 : Int) (a2 : Int) (r : Int) (w : World) (h : r9_Make.f k a0 a1 a2 = some r) :
  Calls Try.prog 12 #[.int .i64 a0, .int .u64 a1, .int .i64 a2] w fun e w' => e = .returned (.int .u64 r) ∧ Below w.heap.size w w' := by
 have hu30 := Try.underlying30
 have hu33 := Try.underlying33
 have HB := A_ (Below.refl w.heap.size w)
 have H : ((r2_Open.f k a0 a1).bind fun bt463 => (if bt463.2.1 = 3 then ((r2_Nan.f k a0).bind fun t468 => (some t468)) else (if bt463.2.1 = 1 then ((r9_Down.f k bt463.1 bt463.2.1 bt463.2.2.1 bt463.2.2.2).bind fun bt470 => (if a2 = 1 then (if bt470.2.2 = true then (r9_Make.j0 k a0 (!bt463.1) bt463.1 bt463.2.1 bt463.2.2.1 bt463.2.2.2 bt470.1) else (r9_Make.j0 k a0 false bt463.1 bt463.2.1 bt463.2.2.1 bt463.2.2.2 bt470.1)) else (if a2 = 2 then (if bt470.2.2 = true then (r9_Make.j0 k a0 bt463.1 bt463.1 bt463.2.1 bt463.2.2.1 bt463.2.2.2 bt470.1) else (r9_Make.j0 k a0 false bt463.1 bt463.2.1 bt463.2.2.1 bt463.2.2.2 bt470.1)) else (if a2 = 4 then (if bt470.2.1 > 0 then (r9_Make.j0 k a0 true bt463.1 bt463.2.1 bt463.2.2.1 bt463.2.2.2 bt470.1) else (if bt470.2.1 = 0 then ((r1_Uint.f bt470.1).bind fun t476 => (r9_Make.j0 k a0 ((Int.tmod t476 2) == 1) bt463.1 bt463.2.1 bt463.2.2.1 bt463.2.2.2 bt470.1)) else (r9_Make.j0 k a0 false bt463.1 bt463.2.1 bt463.2.2.1 bt463.2.2.2 bt470.1))) else (r9_Make.j0 k a0 false bt463.1 bt463.2.1 bt463.2.2.1 bt463.2.2.2 bt470.1))))) else ((r2_Cut.f a0 a1).bind fun t469 => (some t469))))) = some r := h
 clear h
 replace H := ob_ H
 obtain ⟨⟨t463, t464, t465, t466⟩, A40, H⟩ := H
 replace H : (if t464 = 3 then ((r2_Nan.f k a0).bind fun t468 => (some t468)) else (if t464 = 1 then ((r9_Down.f k t463 t464 t465 t466).bind fun bt470 => (if a2 = 1 then (if bt470.2.2 = true then (r9_Make.j0 k a0 (!t463) t463 t464 t465 t466 bt470.1) else (r9_Make.j0 k a0 false t463 t464 t465 t466 bt470.1)) else (if a2 = 2 then (if bt470.2.2 = true then (r9_Make.j0 k a0 t463 t463 t464 t465 t466 bt470.1) else (r9_Make.j0 k a0 false t463 t464 t465 t466 bt470.1)) else (if a2 = 4 then (if bt470.2.1 > 0 then (r9_Make.j0 k a0 true t463 t464 t465 t466 bt470.1) else (if bt470.2.1 = 0 then ((r1_Uint.f bt470.1).bind fun t476 => (r9_Make.j0 k a0 ((Int.tmod t476 2) == 1) t463 t464 t465 t466 bt470.1)) else (r9_Make.j0 k a0 false t463 t464 t465 t466 bt470.1))) else (r9_Make.j0 k a0 false t463 t464 t465 t466 bt470.1))))) else ((r2_Cut.f a0 a1).bind fun t469 => (some t469)))) = some r := H
 have A4 := A_ A40;clear A40
 by_cases c5 : t464 = 3
 ·rw [if_pos c5] at H
  have c5b0 : (t464 == 3) = true := beq_iff_eq.mpr c5
  have c5b1 : (t464 != 3) = false := bne_eq_false_iff_eq.mpr c5
  clear c5
  replace H := ob_ H
  obtain ⟨t468, A60, H⟩ := H
  replace H : (some t468) = some r := H
  have A6 := A_ A60;clear A60
  obtain rfl := Option.some.inj H
  go_enter Try.func12, Try.ntmps12
  go_wp2_with (first | ((with_reducible refine gate_callee (f := 14) rfl ?_); refine gl_ (some 14) Try.func14 #[.int .i64 a0, .int .u64 a1] ?_; (with_reducible refine (r2_Open.calls k a0 a1 t463 t464 t465 t466 _ A4.out).mono ?_); rintro e w7 ⟨rfl, hb⟩; refine ⟨_, rfl, ?_⟩; replace HB := A_ (below_step (hb_ HB.out) hb); (try clear hb); (try clear hb2); (try clear hk); (try clear hi)) | ((with_reducible refine gate_dst (N := 7) rfl ?_); refine be_ 7 #[.bool false, .int .i64 0, .int .i64 0, .int .u64 0] 30 ?_; intro gb467 hg w8 hbox hb; have BK467 := A_ (hbox); have GW467 := A_ (sz_ hg (hb_ HB.out)); have GE467 := A_ (sz_ hg (hb_ HB.out)); replace HB := A_ (below_step (hb_ HB.out) hb); clear hb hbox hg; have hcz9_0 := bv_ BK467.out 0; have hcz9_1 := bv_ BK467.out 1; have hcz9_2 := bv_ BK467.out 2; have hcz9_3 := bv_ BK467.out 3; have hfz9_0 := blk_frozen BK467.out 0; have hfz9_1 := blk_frozen BK467.out 1; have hfz9_2 := blk_frozen BK467.out 2; have hfz9_3 := blk_frozen BK467.out 3) | ((with_reducible refine gate_callee (f := 30) rfl ?_); refine gl_ (some 19) Try.func30 #[.int .i64 a0] ?_; (with_reducible refine (r2_Nan.calls k a0 t468 _ A6.out).mono ?_); rintro e w' ⟨rfl, ⟨nd, rfl⟩⟩; refine ⟨_, rfl, ?_⟩))
  go_ret
  exact ⟨er_, hb1_ HB.out GE467.out⟩
 ·rw [if_neg c5] at H
  have c5b0 : (t464 == 3) = false := beq_eq_false_iff_ne.mpr c5
  have c5b1 : (t464 != 3) = true := bne_iff_ne.mpr c5
  by_cases c10 : t464 = 1
  ·rw [if_pos c10] at H
   have c10b0 : (t464 == 1) = true := beq_iff_eq.mpr c10
   have c10b1 : (t464 != 1) = false := bne_eq_false_iff_eq.mpr c10
   clear c10
   replace H := ob_ H
   obtain ⟨⟨t470, t473, t474⟩, A110, H⟩ := H
   replace H : (if a2 = 1 then (if t474 = true then (r9_Make.j0 k a0 (!t463) t463 t464 t465 t466 t470) else (r9_Make.j0 k a0 false t463 t464 t465 t466 t470)) else (if a2 = 2 then (if t474 = true then (r9_Make.j0 k a0 t463 t463 t464 t465 t466 t470) else (r9_Make.j0 k a0 false t463 t464 t465 t466 t470)) else (if a2 = 4 then (if t473 > 0 then (r9_Make.j0 k a0 true t463 t464 t465 t466 t470) else (if t473 = 0 then ((r1_Uint.f t470).bind fun t476 => (r9_Make.j0 k a0 ((Int.tmod t476 2) == 1) t463 t464 t465 t466 t470)) else (r9_Make.j0 k a0 false t463 t464 t465 t466 t470))) else (r9_Make.j0 k a0 false t463 t464 t465 t466 t470)))) = some r := H
   have A11 := A_ A110;clear A110;have HC12 := A_ H;clear H
   go_enter Try.func12, Try.ntmps12
   go_upto_block 0 with (first | ((with_reducible refine gate_callee (f := 14) rfl ?_); refine gl_ (some 14) Try.func14 #[.int .i64 a0, .int .u64 a1] ?_; (with_reducible refine (r2_Open.calls k a0 a1 t463 t464 t465 t466 _ A4.out).mono ?_); rintro e w13 ⟨rfl, hb⟩; refine ⟨_, rfl, ?_⟩; replace HB := A_ (below_step (hb_ HB.out) hb); (try clear hb); (try clear hb2); (try clear hk); (try clear hi)) | ((with_reducible refine gate_dst (N := 7) rfl ?_); refine be_ 7 #[.bool false, .int .i64 0, .int .i64 0, .int .u64 0] 30 ?_; intro gb467 hg w14 hbox hb; have BK467 := A_ (hbox); have GW467 := A_ (sz_ hg (hb_ HB.out)); have GE467 := A_ (sz_ hg (hb_ HB.out)); replace HB := A_ (below_step (hb_ HB.out) hb); clear hb hbox hg; have hcz15_0 := bv_ BK467.out 0; have hcz15_1 := bv_ BK467.out 1; have hcz15_2 := bv_ BK467.out 2; have hcz15_3 := bv_ BK467.out 3; have hfz15_0 := blk_frozen BK467.out 0; have hfz15_1 := blk_frozen BK467.out 1; have hfz15_2 := blk_frozen BK467.out 2; have hfz15_3 := blk_frozen BK467.out 3) | ((with_reducible refine gate_callee (f := 15) rfl ?_); refine gl_ (some 28) Try.func15 #[.agg #[.bool t463, .int .i64 t464, .int .i64 t465, .int .u64 t466]] ?_; (with_reducible refine (r9_Down.calls k t463 t464 t465 t466 t470 t473 t474 _ A11.out).mono ?_); rintro e w16 ⟨v471, rfl, ho0, hb⟩; refine ⟨_, rfl, ?_⟩; have HO472 := A_ (Kd.R_lower ho0 (below_size (hb1_ HB.out GE467.out))); replace BK467 := A_ (blk_below (g := gb467) (o := .cells #[.bool t463, .int .i64 t464, .int .i64 t465, .int .u64 t466] 30 (0, 0)) (by (with_reducible repeat (first | refine blk_drewN ?_ _ | refine blk_drew ?_ | refine blk_alloc ?_ _)); refine blk_put (cs := #[.bool t463, .int .i64 t464, .int .i64 t465, .int .u64 0]) ?_ 3 _ rfl; (with_reducible repeat (first | refine blk_drewN ?_ _ | refine blk_drew ?_ | refine blk_alloc ?_ _)); refine blk_put (cs := #[.bool t463, .int .i64 t464, .int .i64 0, .int .u64 0]) ?_ 2 _ rfl; (with_reducible repeat (first | refine blk_drewN ?_ _ | refine blk_drew ?_ | refine blk_alloc ?_ _)); refine blk_put (cs := #[.bool t463, .int .i64 0, .int .i64 0, .int .u64 0]) ?_ 1 _ rfl; (with_reducible repeat (first | refine blk_drewN ?_ _ | refine blk_drew ?_ | refine blk_alloc ?_ _)); refine blk_put (cs := #[.bool false, .int .i64 0, .int .i64 0, .int .u64 0]) ?_ 0 _ rfl; (with_reducible repeat (first | refine blk_drewN ?_ _ | refine blk_drew ?_ | refine blk_alloc ?_ _)); exact BK467.out) hb); replace HB := A_ (below_step (hb1_ HB.out GE467.out) hb); (try clear hb); (try clear hb2); (try clear hk); (try clear hi); (try clear ho0)) | ((with_reducible refine gate_dst (N := 8) rfl ?_); refine be_ 8 #[.slice none 0 0] 33 ?_; intro gb475 hg w17 hbox hb; have BK475 := A_ (hbox); have GW475 := A_ (sz_ hg (hb1_ HB.out GE467.out)); have GE475 := A_ (sz_ hg (hb1_ HB.out GE467.out)); have NB467_475 := A_ (nl_ hg BK467.out); have NB475_467 := A_ (ng_ hg BK467.out); replace HO472 := A_ (Kd.R_below (kr_ HO472.out) hb); replace BK467 := A_ (bb_ BK467.out hb); replace HB := A_ (below_step (hb1_ HB.out GE467.out) hb); clear hb hbox hg; obtain ⟨Ao18, co18, eo18⟩ := Kd.R_slice HO472.out; subst eo18; have hnb19 := NB475_467.out; have hnc19 := NB467_475.out; have hcz20_0 := bv_ BK475.out 0; have hfz20_0 := blk_frozen BK475.out 0))
   (try simp only [Act.put, lI_, l0_, lS_])
   go_cut [11] (fun v11 wc => ∃ (kq : Nat) (x11_11 : Bool), v11 = .bool x11_11 ∧ Aside0 (r9_Make.j0 kq a0 x11_11 t463 t464 t465 t466 t470 = some r) ∧ Aside0 (kq ≤ k) ∧ Aside0 (Kd.R (Kd.int .u64) 22 wc w.heap.size (fun _ => True) (.slice Ao18 t470.length co18) t470) ∧ Aside0 (wc.heap[gb467]? = some (.cells #[.bool t463, .int .i64 t464, .int .i64 t465, .int .u64 t466] 30 (0, 0))) ∧ Aside0 (wc.heap[gb475]? = some (.cells #[(.slice Ao18 t470.length co18)] 33 (0, 0))) ∧ Aside0 (Below w.heap.size w wc))
   case first =>
    have H := HC12.out
    clear HC12
    by_cases c21 : a2 = 1
    ·rw [if_pos c21] at H
     have c21b0 : (a2 == 1) = true := beq_iff_eq.mpr c21
     have c21b1 : (a2 != 1) = false := bne_eq_false_iff_eq.mpr c21
     clear c21
     (first | rw [c21b0] | (simp only [i64_w, i32_w]; rw [c21b0]) | skip)
     by_cases c22 : t474 = true
     ·subst c22
      have H1 : (r9_Make.j0 k a0 (!t463) t463 t464 t465 t466 t470) = some r := by rw [if_pos rfl] at H; exact H
      clear H;have H := H1;clear H1
      have H' := A_ H
      clear H
      have hnb23 := NB467_475.out
      have hnc23 := NB475_467.out
      have hcz24_0 := bv_ BK467.out 0
      have hcz24_1 := bv_ BK467.out 1
      have hcz24_2 := bv_ BK467.out 2
      have hcz24_3 := bv_ BK467.out 3
      have hfz24_0 := blk_frozen BK467.out 0
      have hfz24_1 := blk_frozen BK467.out 1
      have hfz24_2 := blk_frozen BK467.out 2
      have hfz24_3 := blk_frozen BK467.out 3
      go_wp2
      go_meet
      case rel => exact ⟨_, (!t463), sm_, H', ⟨by first | omega | exact Nat.le_refl _⟩, ⟨by (with_reducible repeat (first | apply Kd.R_alloc | apply Kd.R_drewN | apply Kd.R_drew)); exact Kd.R_mono (Kd.R_far (p := ⟨gb475, 0, none⟩) (Kd.R_types HO472.out BK475.out (by decide)) (fun _ hk => hk.2) (.slice Ao18 t470.length co18)) (fun _ hk => trivial)⟩, ⟨bf1_ BK467.out NB467_475.out⟩, ⟨by (with_reducible repeat (first | refine blk_drewN ?_ _ | refine blk_drew ?_ | refine blk_alloc ?_ _)); refine blk_put (cs := #[.slice none 0 0]) ?_ 0 _ rfl; (with_reducible repeat (first | refine blk_drewN ?_ _ | refine blk_drew ?_ | refine blk_alloc ?_ _)); exact BK475.out⟩, ⟨hb2_ HB.out GE467.out GE475.out⟩⟩
     ·replace c22 := Bool.eq_false_iff.mpr c22
      subst c22
      have H1 : (r9_Make.j0 k a0 false t463 t464 t465 t466 t470) = some r := by rw [if_neg (show ¬ (false = true) by decide)] at H; exact H
      clear H;have H := H1;clear H1
      have H' := A_ H
      clear H
      go_wp2
      go_meet
      case rel => exact ⟨_, (false), sm_, H', ⟨by first | omega | exact Nat.le_refl _⟩, ⟨by (with_reducible repeat (first | apply Kd.R_alloc | apply Kd.R_drewN | apply Kd.R_drew)); exact Kd.R_mono (Kd.R_far (p := ⟨gb475, 0, none⟩) (Kd.R_types HO472.out BK475.out (by decide)) (fun _ hk => hk.2) (.slice Ao18 t470.length co18)) (fun _ hk => trivial)⟩, ⟨bf1_ BK467.out NB467_475.out⟩, ⟨by (with_reducible repeat (first | refine blk_drewN ?_ _ | refine blk_drew ?_ | refine blk_alloc ?_ _)); refine blk_put (cs := #[.slice none 0 0]) ?_ 0 _ rfl; (with_reducible repeat (first | refine blk_drewN ?_ _ | refine blk_drew ?_ | refine blk_alloc ?_ _)); exact BK475.out⟩, ⟨hb2_ HB.out GE467.out GE475.out⟩⟩
    ·rw [if_neg c21] at H
     have c21b0 : (a2 == 1) = false := beq_eq_false_iff_ne.mpr c21
     have c21b1 : (a2 != 1) = true := bne_iff_ne.mpr c21
     (first | rw [c21b0] | (simp only [i64_w, i32_w]; rw [c21b0]) | skip)
     by_cases c25 : a2 = 2
     ·rw [if_pos c25] at H
      have c25b0 : (a2 == 2) = true := beq_iff_eq.mpr c25
      have c25b1 : (a2 != 2) = false := bne_eq_false_iff_eq.mpr c25
      clear c25
      by_cases c26 : t474 = true
      ·subst c26
       have H1 : (r9_Make.j0 k a0 t463 t463 t464 t465 t466 t470) = some r := by rw [if_pos rfl] at H; exact H
       clear H;have H := H1;clear H1
       have H' := A_ H
       clear H
       have hnb27 := NB467_475.out
       have hnc27 := NB475_467.out
       have hcz28_0 := bv_ BK467.out 0
       have hcz28_1 := bv_ BK467.out 1
       have hcz28_2 := bv_ BK467.out 2
       have hcz28_3 := bv_ BK467.out 3
       have hfz28_0 := blk_frozen BK467.out 0
       have hfz28_1 := blk_frozen BK467.out 1
       have hfz28_2 := blk_frozen BK467.out 2
       have hfz28_3 := blk_frozen BK467.out 3
       go_wp2
       go_meet
       case rel => exact ⟨_, (t463), sm_, H', ⟨by first | omega | exact Nat.le_refl _⟩, ⟨by (with_reducible repeat (first | apply Kd.R_alloc | apply Kd.R_drewN | apply Kd.R_drew)); exact Kd.R_mono (Kd.R_far (p := ⟨gb475, 0, none⟩) (Kd.R_types HO472.out BK475.out (by decide)) (fun _ hk => hk.2) (.slice Ao18 t470.length co18)) (fun _ hk => trivial)⟩, ⟨bf1_ BK467.out NB467_475.out⟩, ⟨by (with_reducible repeat (first | refine blk_drewN ?_ _ | refine blk_drew ?_ | refine blk_alloc ?_ _)); refine blk_put (cs := #[.slice none 0 0]) ?_ 0 _ rfl; (with_reducible repeat (first | refine blk_drewN ?_ _ | refine blk_drew ?_ | refine blk_alloc ?_ _)); exact BK475.out⟩, ⟨hb2_ HB.out GE467.out GE475.out⟩⟩
      ·replace c26 := Bool.eq_false_iff.mpr c26
       subst c26
       have H1 : (r9_Make.j0 k a0 false t463 t464 t465 t466 t470) = some r := by rw [if_neg (show ¬ (false = true) by decide)] at H; exact H
       clear H;have H := H1;clear H1
       have H' := A_ H
       clear H
       go_wp2
       go_meet
       case rel => exact ⟨_, (false), sm_, H', ⟨by first | omega | exact Nat.le_refl _⟩, ⟨by (with_reducible repeat (first | apply Kd.R_alloc | apply Kd.R_drewN | apply Kd.R_drew)); exact Kd.R_mono (Kd.R_far (p := ⟨gb475, 0, none⟩) (Kd.R_types HO472.out BK475.out (by decide)) (fun _ hk => hk.2) (.slice Ao18 t470.length co18)) (fun _ hk => trivial)⟩, ⟨bf1_ BK467.out NB467_475.out⟩, ⟨by (with_reducible repeat (first | refine blk_drewN ?_ _ | refine blk_drew ?_ | refine blk_alloc ?_ _)); refine blk_put (cs := #[.slice none 0 0]) ?_ 0 _ rfl; (with_reducible repeat (first | refine blk_drewN ?_ _ | refine blk_drew ?_ | refine blk_alloc ?_ _)); exact BK475.out⟩, ⟨hb2_ HB.out GE467.out GE475.out⟩⟩
     ·rw [if_neg c25] at H
      have c25b0 : (a2 == 2) = false := beq_eq_false_iff_ne.mpr c25
      have c25b1 : (a2 != 2) = true := bne_iff_ne.mpr c25
      by_cases c29 : a2 = 4
      ·rw [if_pos c29] at H
       have c29b0 : (a2 == 4) = true := beq_iff_eq.mpr c29
       have c29b1 : (a2 != 4) = false := bne_eq_false_iff_eq.mpr c29
       clear c29
       by_cases c30 : t473 > 0
       ·rw [if_pos c30] at H
        have c30b0 : decide (0 < t473) = true := decide_eq_true c30
        clear c30
        have H' := A_ H
        clear H
        go_wp2
        go_meet
        case rel => exact ⟨_, (true), sm_, H', ⟨by first | omega | exact Nat.le_refl _⟩, ⟨by (with_reducible repeat (first | apply Kd.R_alloc | apply Kd.R_drewN | apply Kd.R_drew)); exact Kd.R_mono (Kd.R_far (p := ⟨gb475, 0, none⟩) (Kd.R_types HO472.out BK475.out (by decide)) (fun _ hk => hk.2) (.slice Ao18 t470.length co18)) (fun _ hk => trivial)⟩, ⟨bf1_ BK467.out NB467_475.out⟩, ⟨by (with_reducible repeat (first | refine blk_drewN ?_ _ | refine blk_drew ?_ | refine blk_alloc ?_ _)); refine blk_put (cs := #[.slice none 0 0]) ?_ 0 _ rfl; (with_reducible repeat (first | refine blk_drewN ?_ _ | refine blk_drew ?_ | refine blk_alloc ?_ _)); exact BK475.out⟩, ⟨hb2_ HB.out GE467.out GE475.out⟩⟩
       ·rw [if_neg c30] at H
        have c30b0 : decide (0 < t473) = false := decide_eq_false c30
        clear c30
        by_cases c31 : t473 = 0
        ·rw [if_pos c31] at H
         have c31b0 : (t473 == 0) = true := beq_iff_eq.mpr c31
         have c31b1 : (t473 != 0) = false := bne_eq_false_iff_eq.mpr c31
         clear c31
         replace H := ob_ H
         obtain ⟨t476, A320, H⟩ := H
         replace H : (r9_Make.j0 k a0 ((Int.tmod t476 2) == 1) t463 t464 t465 t466 t470) = some r := H
         have A32 := A_ A320;clear A320
         have H' := A_ H
         clear H
         have hnb33 := NB475_467.out
         have hnc33 := NB467_475.out
         have hcz34_0 := bv_ BK475.out 0
         have hfz34_0 := blk_frozen BK475.out 0
         go_wp2_with (first | (go_at_call 32; (with_reducible refine (r1_Uint.calls _ _ t470 t476 _ ?side1 ?side2 A32.out).mono ?_); (case side1 => refine (Kd.R_reads' (e := 22) (base := w.heap.size) (ok := fun k_ => True) (n := t470.length) (c := co18) ?_).2.2; exact (by (with_reducible repeat (first | apply Kd.R_alloc | apply Kd.R_drewN | apply Kd.R_drew)); exact (Kd.R_mono (Kd.R_far (p := ⟨gb475, 0, none⟩) (Kd.R_types HO472.out BK475.out (by decide)) (fun _ hk => hk.2) (.slice Ao18 t470.length co18)) (fun _ h_ => h_.1)))); (case side2 => exact (Kd.R_reads' HO472.out).2.1); rintro e w35 ⟨rfl, hb⟩; replace HO472 := A_ (Kd.R_below (by (with_reducible repeat (first | apply Kd.R_alloc | apply Kd.R_drewN | apply Kd.R_drew)); exact (Kd.R_mono (Kd.R_far (p := ⟨gb475, 0, none⟩) (Kd.R_types HO472.out BK475.out (by decide)) (fun _ hk => hk.2) (.slice Ao18 t470.length co18)) (fun _ h_ => h_.1))) hb); replace BK467 := A_ (blk_below (g := gb467) (o := .cells #[.bool t463, .int .i64 t464, .int .i64 t465, .int .u64 t466] 30 (0, 0)) (bf1_ BK467.out NB467_475.out) hb); replace BK475 := A_ (blk_below (g := gb475) (o := .cells #[.slice Ao18 t470.length co18] 33 (0, 0)) (by (with_reducible repeat (first | refine blk_drewN ?_ _ | refine blk_drew ?_ | refine blk_alloc ?_ _)); refine blk_put (cs := #[.slice none 0 0]) ?_ 0 _ rfl; (with_reducible repeat (first | refine blk_drewN ?_ _ | refine blk_drew ?_ | refine blk_alloc ?_ _)); exact BK475.out) hb); replace HB := A_ (below_step (hb2_ HB.out GE467.out GE475.out) hb); (try clear hb); (try clear hb2); (try clear hk); (try clear hi)))
         go_meet
         case rel => exact ⟨_, (((Int.tmod t476 2) == 1)), sm_, H', ⟨by first | omega | exact Nat.le_refl _⟩, ⟨by (with_reducible repeat (first | apply Kd.R_alloc | apply Kd.R_drewN | apply Kd.R_drew)); exact HO472.out⟩, ⟨bk_ BK467.out⟩, ⟨bk_ BK475.out⟩, ⟨hb2_ HB.out GE467.out GE475.out⟩⟩
        ·rw [if_neg c31] at H
         have c31b0 : (t473 == 0) = false := beq_eq_false_iff_ne.mpr c31
         have c31b1 : (t473 != 0) = true := bne_iff_ne.mpr c31
         have H' := A_ H
         clear H
         go_wp2
         go_meet
         case rel => exact ⟨_, (false), sm_, H', ⟨by first | omega | exact Nat.le_refl _⟩, ⟨by (with_reducible repeat (first | apply Kd.R_alloc | apply Kd.R_drewN | apply Kd.R_drew)); exact Kd.R_mono (Kd.R_far (p := ⟨gb475, 0, none⟩) (Kd.R_types HO472.out BK475.out (by decide)) (fun _ hk => hk.2) (.slice Ao18 t470.length co18)) (fun _ hk => trivial)⟩, ⟨bf1_ BK467.out NB467_475.out⟩, ⟨by (with_reducible repeat (first | refine blk_drewN ?_ _ | refine blk_drew ?_ | refine blk_alloc ?_ _)); refine blk_put (cs := #[.slice none 0 0]) ?_ 0 _ rfl; (with_reducible repeat (first | refine blk_drewN ?_ _ | refine blk_drew ?_ | refine blk_alloc ?_ _)); exact BK475.out⟩, ⟨hb2_ HB.out GE467.out GE475.out⟩⟩
      ·rw [if_neg c29] at H
       have c29b0 : (a2 == 4) = false := beq_eq_false_iff_ne.mpr c29
       have c29b1 : (a2 != 4) = true := bne_iff_ne.mpr c29
       have H' := A_ H
       clear H
       go_wp2
       go_meet
       case rel => exact ⟨_, (false), sm_, H', ⟨by first | omega | exact Nat.le_refl _⟩, ⟨by (with_reducible repeat (first | apply Kd.R_alloc | apply Kd.R_drewN | apply Kd.R_drew)); exact Kd.R_mono (Kd.R_far (p := ⟨gb475, 0, none⟩) (Kd.R_types HO472.out BK475.out (by decide)) (fun _ hk => hk.2) (.slice Ao18 t470.length co18)) (fun _ hk => trivial)⟩, ⟨bf1_ BK467.out NB467_475.out⟩, ⟨by (with_reducible repeat (first | refine blk_drewN ?_ _ | refine blk_drew ?_ | refine blk_alloc ?_ _)); refine blk_put (cs := #[.slice none 0 0]) ?_ 0 _ rfl; (with_reducible repeat (first | refine blk_drewN ?_ _ | refine blk_drew ?_ | refine blk_alloc ?_ _)); exact BK475.out⟩, ⟨hb2_ HB.out GE467.out GE475.out⟩⟩
   case rest =>
    clear HC12
    try clear c1
    try clear c2
    try clear p2
    try clear c3
    try clear c5
    try clear c5b0
    try clear c5b1
    try clear c10
    try clear c10b0
    try clear c10b1
    try clear c12
    try clear c14
    try clear c15
    try clear c19
    try clear c21
    try clear c21b0
    try clear c21b1
    try clear c22
    try clear c23
    try clear c25
    try clear c25b0
    try clear c25b1
    try clear c26
    try clear c27
    try clear c29
    try clear c29b0
    try clear c29b1
    try clear c30
    try clear c30b0
    try clear c31
    try clear c31b0
    try clear c31b1
    try clear c33
    try clear hcz15_0
    try clear hcz15_1
    try clear hcz15_2
    try clear hcz15_3
    try clear hcz20_0
    try clear hcz24_0
    try clear hcz24_1
    try clear hcz24_2
    try clear hcz24_3
    try clear hcz28_0
    try clear hcz28_1
    try clear hcz28_2
    try clear hcz28_3
    try clear hcz34_0
    try clear hcz9_0
    try clear hcz9_1
    try clear hcz9_2
    try clear hcz9_3
    try clear hfz15_0
    try clear hfz15_1
    try clear hfz15_2
    try clear hfz15_3
    try clear hfz20_0
    try clear hfz24_0
    try clear hfz24_1
    try clear hfz24_2
    try clear hfz24_3
    try clear hfz28_0
    try clear hfz28_1
    try clear hfz28_2
    try clear hfz28_3
    try clear hfz34_0
    try clear hfz9_0
    try clear hfz9_1
    try clear hfz9_2
    try clear hfz9_3
    obtain ⟨kq, x11_11, rfl, HA, HJ11, HO_476000, BK467, BK475, HB⟩ := hcut
    cases kq with
    | zero => exact absurd HA.out (by simp [r9_Make.j0])
    | succ kj11 =>
     have H := HA.out
     clear HA
     simp only [r9_Make.j0] at H
     by_cases c36 : x11_11 = true
     ·subst c36
      have H1 : ((r1_Of.f kj11 1).bind fun t477 => ((r1_Add.f kj11 t470 t477).bind fun t480 => ((r3_Exact.f kj11 a0 t463 t480 0).bind fun t483 => (some t483)))) = some r := by rw [if_pos rfl] at H; exact H
      clear H;have H := H1;clear H1
      replace H := ob_ H
      obtain ⟨t477, A370, H⟩ := H
      replace H : ((r1_Add.f kj11 t470 t477).bind fun t480 => ((r3_Exact.f kj11 a0 t463 t480 0).bind fun t483 => (some t483))) = some r := H
      have A37 := A_ A370;clear A370
      replace H := ob_ H
      obtain ⟨t480, A380, H⟩ := H
      replace H : ((r3_Exact.f kj11 a0 t463 t480 0).bind fun t483 => (some t483)) = some r := H
      have A38 := A_ A380;clear A380
      replace H := ob_ H
      obtain ⟨t483, A390, H⟩ := H
      replace H : (some t483) = some r := H
      have A39 := A_ A390;clear A390
      obtain rfl := Option.some.inj H
      try go_wp2
      replace HO_476000 := A_ (Kd.R_drew HO_476000.out)
      replace BK467 := A_ (blk_drew BK467.out)
      replace BK475 := A_ (blk_drew BK475.out)
      replace HB := A_ (below_drew1 HB.out)
      refine start_ (n := 4) (S := fun w' => w'.cell? ⟨gb475, 0, none⟩ = some (.slice Ao18 t470.length co18)) (ds := [3]) #[false, false, false, false] (by kernel_rfl) rfl rfl (bc_ BK475.out 0) (fun hHeld => ?_)
      generalize wc.drew = w40 at HO_476000 BK467 BK475 HB hHeld ⊢
      refine tk1_ 0 (some 63) #[true, false, false, false] rfl rfl (by kernel_rfl) hHeld ?_
      refine one_ (i := 1) (N := some 64) #[true, true, false, false] rfl rfl (by kernel_rfl) (by decide) (fun K hK => ?_)
      refine goes_ Try.func34 (by kernel_rfl) rfl #[.int .u64 1] (by rfl) rfl rfl mp_ ?_
      with_reducible refine (r1_Of.calls kj11 1 t477 _ A37.out).mono ?_
      rintro e w41 ⟨v478, rfl, ho0, hb⟩
      refine ⟨_, rfl, ?_⟩
      have HO479 := A_ (Kd.R_lower (Kd.R_new' ho0 (Kd.R_lt (kr_ HO_476000.out))) (below_size (hb2_ HB.out GE467.out GE475.out)))
      replace HO_476000 := A_ (Kd.R_elder' (kr_ HO_476000.out) (Kd.R_base ho0) hb)
      replace BK467 := A_ (bb_ BK467.out hb)
      replace BK475 := A_ (bb_ BK475.out hb)
      replace HB := A_ (below_step (hb2_ HB.out GE467.out GE475.out) hb);(try clear hb);(try clear hb2);(try clear hk);(try clear hi);(try clear ho0)
      obtain ⟨Ao42, co42, eo42⟩ := Kd.R_slice HO479.out
      (first | subst eo42 | (injection eo42 with f1_ f2_ f3_; have f4_ := f1_.symm; have f5_ := f3_.symm; clear f1_ f2_ f3_; subst f4_; subst f5_))
      refine hK.out _ _ (bc_ BK475.out 0) (fun hHeld => ?_)
      clear hK K
      refine norm_ (a' := ?_) ?_ ?_
      rotate_left
      ·show Act.put _ (some 64) _ = _
       simp only [Act.put, lI_, l0_, lS_, i64_w, i32_w]
       rfl
      refine one_ (i := 2) (N := some 65) #[true, true, true, false] rfl rfl (by kernel_rfl) (by decide) (fun K hK => ?_)
      refine goes_ Try.func33 (by kernel_rfl) rfl #[.agg #[.slice Ao18 t470.length co18], .agg #[.slice Ao42 t477.length co42]] (by rfl) rfl rfl mp_ ?_
      with_reducible refine (r1_Add.calls kj11 _ _ t470 _ _ t477 t480 _ ?side1 ?side2 ?side3 ?side4 A38.out).mono ?_
      (case side1 => exact cs_ ((Kd.R_reads' HO_476000.out).2.2))
      (case side2 => exact (Kd.R_reads' HO_476000.out).2.1)
      (case side3 => exact cs_ ((Kd.R_reads' HO479.out).2.2))
      (case side4 => exact (Kd.R_reads' HO479.out).2.1)
      rintro e w43 ⟨v481, rfl, ho0, hb⟩
      refine ⟨_, rfl, ?_⟩
      have HO482 := A_ (Kd.R_lower (Kd.R_new' (Kd.R_new' ho0 (Kd.R_lt (kr_ HO_476000.out))) (Kd.R_lt (kr_ HO479.out))) (below_size (hb2_ HB.out GE467.out GE475.out)))
      replace HO_476000 := A_ (Kd.R_elder' (kr_ HO_476000.out) (Kd.R_base ho0) hb)
      replace HO479 := A_ (Kd.R_elder' (kr_ HO479.out) (Kd.R_base ho0) hb)
      replace BK467 := A_ (bb_ BK467.out hb)
      replace BK475 := A_ (bb_ BK475.out hb)
      replace HB := A_ (below_step (hb2_ HB.out GE467.out GE475.out) hb);(try clear hb);(try clear hb2);(try clear hk);(try clear hi);(try clear ho0)
      obtain ⟨Ao44, co44, eo44⟩ := Kd.R_slice HO482.out
      (first | subst eo44 | (injection eo44 with f1_ f2_ f3_; have f4_ := f1_.symm; have f5_ := f3_.symm; clear f1_ f2_ f3_; subst f4_; subst f5_))
      refine hK.out _ _ (bc_ BK475.out 0) (fun hHeld => ?_)
      clear hK K
      refine norm_ (a' := ?_) ?_ ?_
      rotate_left
      ·show Act.put _ (some 65) _ = _
       simp only [Act.put, lI_, l0_, lS_, i64_w, i32_w]
       rfl
      refine last_ (i := 3) (N := none) #[true, true, true, true] rfl rfl (by kernel_rfl) (by decide) (fun K hK => ?_)
      have hs45 : w43.cell? ⟨gb475, 0, none⟩ = some (.slice Ao18 t470.length co18) := bc_ BK475.out 0
      have hfs45 := blk_frozen BK475.out 0
      have hns45_0 := NB467_475.out
      have hms45_0 := NB475_467.out
      refine skip_ (w1 := ?_) (by rfl) rfl ?_ ?_
      rotate_left
      ·go_simp
       rfl
      refine hK.out _ _ ?_
      clear hK K
      refine done_ (by kernel_rfl) ?_
      have hnb46 := NB467_475.out
      have hnc46 := NB475_467.out
      have hcz47_0 := bv_ BK467.out 0
      have hcz47_1 := bv_ BK467.out 1
      have hcz47_2 := bv_ BK467.out 2
      have hcz47_3 := bv_ BK467.out 3
      have hfz47_0 := blk_frozen BK467.out 0
      have hfz47_1 := blk_frozen BK467.out 1
      have hfz47_2 := blk_frozen BK467.out 2
      have hfz47_3 := blk_frozen BK467.out 3
      have hcz48_0 := bv_ BK475.out 0
      have hfz48_0 := blk_frozen BK475.out 0
      try go_wp2_with (first | ((with_reducible refine gate_callee (f := 35) rfl ?_); refine gl_ (some 70) Try.func35 #[.int .i64 a0, .bool t463, .agg #[.slice Ao44 t480.length co44], .int .i64 0] ?_; (with_reducible refine (r3_Exact.calls kj11 a0 t463 _ _ t480 0 t483 _ ?side1 ?side2 A39.out).mono ?_); (case side1 => refine (Kd.R_reads' (e := 22) (base := w.heap.size) (ok := fun k_ => ((True ∧ some k_ ≠ (.slice Ao18 t470.length co18 : Value).ownBlock) ∧ some k_ ≠ (.slice Ao42 t477.length co42 : Value).ownBlock)) (n := t480.length) (c := co44) ?_).2.2; exact (by (with_reducible repeat (first | apply Kd.R_alloc | apply Kd.R_drewN | apply Kd.R_drew)); exact (Kd.R_mono (Kd.R_far (p := ⟨gb475, 0, none⟩) (Kd.R_types HO482.out BK475.out (by decide)) (fun _ hk => hk.2) (.slice Ao44 t480.length co44)) (fun _ h_ => h_.1)))); (case side2 => exact (Kd.R_reads' HO482.out).2.1); rintro e w49 ⟨rfl, hb⟩; refine ⟨_, rfl, ?_⟩; replace HO_476000 := A_ (Kd.R_below (by (with_reducible repeat (first | apply Kd.R_alloc | apply Kd.R_drewN | apply Kd.R_drew)); exact (Kd.R_mono (Kd.R_far (p := ⟨gb475, 0, none⟩) (Kd.R_types HO_476000.out BK475.out (by decide)) (fun _ hk => hk.2) (.slice Ao44 t480.length co44)) (fun _ h_ => h_.1))) hb); replace HO479 := A_ (Kd.R_below (by (with_reducible repeat (first | apply Kd.R_alloc | apply Kd.R_drewN | apply Kd.R_drew)); exact (Kd.R_mono (Kd.R_far (p := ⟨gb475, 0, none⟩) (Kd.R_types HO479.out BK475.out (by decide)) (fun _ hk => hk.2) (.slice Ao44 t480.length co44)) (fun _ h_ => h_.1))) hb); replace HO482 := A_ (Kd.R_below (by (with_reducible repeat (first | apply Kd.R_alloc | apply Kd.R_drewN | apply Kd.R_drew)); exact (Kd.R_mono (Kd.R_far (p := ⟨gb475, 0, none⟩) (Kd.R_types HO482.out BK475.out (by decide)) (fun _ hk => hk.2) (.slice Ao44 t480.length co44)) (fun _ h_ => h_.1))) hb); replace BK467 := A_ (blk_below (g := gb467) (o := .cells #[.bool t463, .int .i64 t464, .int .i64 t465, .int .u64 t466] 30 (0, 0)) (bf1_ BK467.out NB467_475.out) hb); replace BK475 := A_ (blk_below (g := gb475) (o := .cells #[.slice Ao44 t480.length co44] 33 (0, 0)) (by (with_reducible repeat (first | refine blk_drewN ?_ _ | refine blk_drew ?_ | refine blk_alloc ?_ _)); refine blk_put (cs := #[.slice Ao18 t470.length co18]) ?_ 0 _ rfl; (with_reducible repeat (first | refine blk_drewN ?_ _ | refine blk_drew ?_ | refine blk_alloc ?_ _)); exact BK475.out) hb); replace HB := A_ (below_step (hb2_ HB.out GE467.out GE475.out) hb); (try clear hb); (try clear hb2); (try clear hk); (try clear hi)))
      go_ret
      exact ⟨er_, hb2_ HB.out GE467.out GE475.out⟩
     ·replace c36 := Bool.eq_false_iff.mpr c36
      subst c36
      have H1 : ((r3_Exact.f kj11 a0 t463 t470 0).bind fun t484 => (some t484)) = some r := by rw [if_neg (show ¬ (false = true) by decide)] at H; exact H
      clear H;have H := H1;clear H1
      replace H := ob_ H
      obtain ⟨t484, A500, H⟩ := H
      replace H : (some t484) = some r := H
      have A50 := A_ A500;clear A500
      obtain rfl := Option.some.inj H
      have hnb51 := NB467_475.out
      have hnc51 := NB475_467.out
      have hcz52_0 := bv_ BK467.out 0
      have hcz52_1 := bv_ BK467.out 1
      have hcz52_2 := bv_ BK467.out 2
      have hcz52_3 := bv_ BK467.out 3
      have hfz52_0 := blk_frozen BK467.out 0
      have hfz52_1 := blk_frozen BK467.out 1
      have hfz52_2 := blk_frozen BK467.out 2
      have hfz52_3 := blk_frozen BK467.out 3
      have hcz53_0 := bv_ BK475.out 0
      have hfz53_0 := blk_frozen BK475.out 0
      go_wp2_with (first | ((with_reducible refine gate_callee (f := 35) rfl ?_); refine gl_ (some 70) Try.func35 #[.int .i64 a0, .bool t463, .agg #[.slice Ao18 t470.length co18], .int .i64 0] ?_; (with_reducible refine (r3_Exact.calls kj11 a0 t463 _ _ t470 0 t484 _ ?side1 ?side2 A50.out).mono ?_); (case side1 => exact cs_ ((Kd.R_reads' HO_476000.out).2.2)); (case side2 => exact (Kd.R_reads' HO_476000.out).2.1); rintro e w54 ⟨rfl, hb⟩; refine ⟨_, rfl, ?_⟩; replace HO_476000 := A_ (Kd.R_below (kr_ HO_476000.out) hb); replace BK467 := A_ (bb_ BK467.out hb); replace BK475 := A_ (bb_ BK475.out hb); replace HB := A_ (below_step (hb2_ HB.out GE467.out GE475.out) hb); (try clear hb); (try clear hb2); (try clear hk); (try clear hi)))
      go_ret
      exact ⟨er_, hb2_ HB.out GE467.out GE475.out⟩
  ·rw [if_neg c10] at H
   have c10b0 : (t464 == 1) = false := beq_eq_false_iff_ne.mpr c10
   have c10b1 : (t464 != 1) = true := bne_iff_ne.mpr c10
   replace H := ob_ H
   obtain ⟨t469, A550, H⟩ := H
   replace H : (some t469) = some r := H
   have A55 := A_ A550;clear A550
   obtain rfl := Option.some.inj H
   go_enter Try.func12, Try.ntmps12
   go_wp2_with (first | ((with_reducible refine gate_callee (f := 14) rfl ?_); refine gl_ (some 14) Try.func14 #[.int .i64 a0, .int .u64 a1] ?_; (with_reducible refine (r2_Open.calls k a0 a1 t463 t464 t465 t466 _ A4.out).mono ?_); rintro e w56 ⟨rfl, hb⟩; refine ⟨_, rfl, ?_⟩; replace HB := A_ (below_step (hb_ HB.out) hb); (try clear hb); (try clear hb2); (try clear hk); (try clear hi)) | ((with_reducible refine gate_dst (N := 7) rfl ?_); refine be_ 7 #[.bool false, .int .i64 0, .int .i64 0, .int .u64 0] 30 ?_; intro gb467 hg w57 hbox hb; have BK467 := A_ (hbox); have GW467 := A_ (sz_ hg (hb_ HB.out)); have GE467 := A_ (sz_ hg (hb_ HB.out)); replace HB := A_ (below_step (hb_ HB.out) hb); clear hb hbox hg; have hcz58_0 := bv_ BK467.out 0; have hcz58_1 := bv_ BK467.out 1; have hcz58_2 := bv_ BK467.out 2; have hcz58_3 := bv_ BK467.out 3; have hfz58_0 := blk_frozen BK467.out 0; have hfz58_1 := blk_frozen BK467.out 1; have hfz58_2 := blk_frozen BK467.out 2; have hfz58_3 := blk_frozen BK467.out 3) | ((with_reducible refine gate_callee (f := 31) rfl ?_); refine gl_ (some 25) Try.func31 #[.int .i64 a0, .int .u64 a1] ?_; (with_reducible refine (r2_Cut.calls a0 a1 t469 _ A55.out).mono ?_); rintro e w' ⟨rfl, ⟨nd, rfl⟩⟩; refine ⟨_, rfl, ?_⟩))
   go_ret
   exact ⟨er_, hb1_ HB.out GE467.out⟩
-- IMPORT Derived.Test.YthdeeoallfbjmaaHMade
def whole_Floor.aw : Bool → Int → Bool → Bool → Bool := fun s _ _ _ => s
def whole_Floor.f (k : Nat) (a0 : Int) (a1 : Int) : Option (Int) := whole_madeF k whole_Floor.aw a0 a1
theorem whole_Floor.mono : ∀ a0 a1 k, LeO (whole_Floor.f k a0 a1) (whole_Floor.f (k + 1) a0 a1) := fun a0 a1 k => whole_madeMono _ a0 a1 k
theorem whole_Floor.away (s : Bool) (n : Int) (h l : Bool) (w : World) : Calls Try.prog 27 #[.agg #[.bool s, .int .u64 n, .bool h, .bool l]] w fun e w' => e = .returned (.bool (whole_Floor.aw s n h l)) ∧ Below w.heap.size w w' := by
 have hu2 := Try.underlying47
 go_enter Try.func27, Try.ntmps27
 go_wp2
 all_goals (go_ret; first | exact ⟨rfl, Below.refl _ _⟩ | exact ⟨rfl, below_alloc (Below.refl _ _) _⟩ | (refine ⟨by simp [whole_Floor.aw, *], ?_⟩; first | exact Below.refl _ _ | exact below_alloc (Below.refl _ _) _))
theorem whole_Floor.calls (k : Nat) (a0 : Int) (a1 : Int) (r : Int) (w : World) (h : whole_Floor.f k a0 a1 = some r) :
  Calls Try.prog 8 #[.int .i64 a0, .int .u64 a1] w fun e w' => e = .returned (.int .u64 r) ∧ Below w.heap.size w w' := by
 have H := whole_madeCalls k 27 whole_Floor.aw (fun args w => enters_of Try.func27 (by kernel_rfl) rfl args w) whole_Floor.away a0 a1 r w h
 go_enter Try.func8, Try.ntmps8
 go_wp2_with (go_at_call 25; refine H.mono ?_; rintro e w1 ⟨rfl, hb⟩)
 go_ret
 exact ⟨rfl, hb⟩
end Go.Proofs.Ythdeeoallfbjmaa.PA
