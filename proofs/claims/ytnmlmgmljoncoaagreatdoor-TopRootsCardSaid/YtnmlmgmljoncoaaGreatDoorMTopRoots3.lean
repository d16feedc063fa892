/- What the Go functions that the statement TopRoots reaches compute, and the mathematics on it, in the order in which one leans on the other; for every input. -/
import Derived.Test.YtnmlmgmljoncoaaGreatDoorVTopRoots1
import Derived.Test.YtnmlmgmljoncoaaGreatDoorMTopRoots0
import Derived.Test.YtnmlmgmljoncoaaGreatDoorMTopRoots2
import Derived.Deep.RegionHeld3
import Derived.Deep.DeepCutAuto
import Derived.BigRegion
import Derived.StillTail
import Derived.OrdersHeld
import Derived.RegionTactic
namespace Go.Proofs.YtnmlmgmljoncoaaGreatDoor.PA
open Go.RowKit Go.Proofs.YtnmlmgmljoncoaaGreatDoorW.PrintWords Go.Proofs.YtnmlmgmljoncoaaGreatDoorW.PrintLast Go.Proofs.YtnmlmgmljoncoaaGreatDoorW.PrintMore
attribute [local go_sem] max2_int min2_int max_two min_two max_three min_three max_four min_four   -- for this text's walks alone
set_option linter.unusedVariables false
set_option linter.unusedSimpArgs false
set_option maxHeartbeats 8000000
set_option maxRecDepth 100000
def shape_format_finite.j0 : Nat → Int → Bool → Int → Int → Bool → Int → Int → Int → Option (Int × Bool)
 | 0, _, _, _, _, _, _, _, _ => none
 | k + 1, x6, x9, x305000, x305001, x306000, x306001, x306002, x306003 => if x9 = true then (some (0, false)) else (if 0 ≤ x305001 then (if x306003 < (shl .u64 1 x305001) then ((shape_format_join.f x305000 x305001 x306000 0 x306003).bind fun t307 => (some (t307, (x306002 == x6)))) else ((shape_format_ones.f x305000 x305001).bind fun t308 => (if (wrap64 (x306002 - x6)) > (wrap64 ((wrap64 (t308)) - 2)) then (some (0, false)) else ((shape_format_join.f x305000 x305001 x306000 (IntKind.u64.wrap ((IntKind.u64.wrap (wrap64 (x306002 - x6))) + 1)) (Go.bits .and .u64 x306003 (IntKind.u64.wrap ((shl .u64 1 x305001) - 1)))).bind fun t309 => (some (t309, true)))))) else (none))
def shape_format_finite.f (k : Nat) (a0_0 : Int) (a0_1 : Int) (a1_0 : Bool) (a1_1 : Int) (a1_2 : Int) (a1_3 : Int) : Option (Int × Bool) := (shape_format_low.f a0_0 a0_1).bind fun t306 => (if a1_3 = 0 then (shape_format_finite.j0 k t306 true a0_0 a0_1 a1_0 a1_1 a1_2 a1_3) else (if 0 ≤ a0_1 then (if a1_3 ≥ (shl .u64 2 a0_1) then (shape_format_finite.j0 k t306 true a0_0 a0_1 a1_0 a1_1 a1_2 a1_3) else (shape_format_finite.j0 k t306 (decide (a1_2 < t306)) a0_0 a0_1 a1_0 a1_1 a1_2 a1_3)) else (none)))
theorem shape_format_finite.mono_l : ∀ k, (∀ y0 y1 y2 y3 y4 y5 y6 y7, LeO (shape_format_finite.j0 k y0 y1 y2 y3 y4 y5 y6 y7) (shape_format_finite.j0 (k + 1) y0 y1 y2 y3 y4 y5 y6 y7))
 | 0 => fun _ _ _ _ _ _ _ _ r h => by simp [shape_format_finite.j0] at h
 | k + 1 => by
  have ih0 := shape_format_finite.mono_l k
  ·intro y0 y1 y2 y3 y4 y5 y6 y7
   unfold shape_format_finite.j0
   repeat' first
   | (with_reducible exact ih0 _ _ _ _ _ _ _ _)
   | (with_reducible exact LeO.refl _)
   | (with_reducible exact LeO.none _)
   | (with_reducible refine LeO.ite ?_ ?_)
   | (with_reducible refine LeO.bind ?_ (fun _ => ?_))
   | exact ih0 _ _ _ _ _ _ _ _
   | exact LeO.none _
   | refine LeO.ite ?_ ?_
   | refine LeO.bind ?_ (fun _ => ?_)
theorem shape_format_finite.mono : ∀ a0 a1 a2 a3 a4 a5 k, LeO (shape_format_finite.f k a0 a1 a2 a3 a4 a5) (shape_format_finite.f (k + 1) a0 a1 a2 a3 a4 a5) := by
 intro a0 a1 a2 a3 a4 a5 k
 have ih0 := shape_format_finite.mono_l k
 unfold shape_format_finite.f
 repeat' first
   | (with_reducible exact ih0 _ _ _ _ _ _ _ _)
   | (with_reducible exact LeO.refl _)
   | (with_reducible exact LeO.none _)
   | (with_reducible refine LeO.ite ?_ ?_)
   | (with_reducible refine LeO.bind ?_ (fun _ => ?_))
   | exact ih0 _ _ _ _ _ _ _ _
   | exact LeO.none _
   | refine LeO.ite ?_ ?_
   | refine LeO.bind ?_ (fun _ => ?_)
def shape_format_finite.T2 : Bool × List (List Nat × List Nat) := (true, [([], []), ([0], [0]), ([1], [1]), ([2], [2]), ([3], [3]), ([4, 3], [3, 4]), ([3], [3]), ([6, 3], [3, 6]), ([7, 3], [3, 7]), ([5, 8, 3], [3, 5, 8]), ([3, 9], [3, 9]), ([10, 3], [10]), ([11], [11]), ([12, 11], [11, 12]), ([11], [11]), ([13, 14, 11], [11, 13, 14]), ([11, 15], [11, 15]), ([16, 11], [16])])
def shape_format_finite.B2 : List Nat := [0, 1, 3, 7, 15, 31, 15, 79, 207, 511, 1023, 2047, 4095, 8191, 4095, 32767, 65535, 131071]
theorem shape_format_finite.tab2 : rtab .any (opsOf Tryz.f266 2) = shape_format_finite.T2 := by kernel_rfl
theorem shape_format_finite.bits2 : waitsOk shape_format_finite.T2.2 shape_format_finite.B2 = true := by kernel_rfl
def shape_format_finite.T5 : Bool × List (List Nat × List Nat) := (true, [([], []), ([], []), ([1], [1]), ([], []), ([3], [3]), ([0, 2, 4], [0, 2, 4]), ([], []), ([6], [6]), ([], []), ([7, 8], [7, 8]), ([5, 5, 0, 1, 2, 3, 4, 5], [5]), ([9, 10, 0, 1, 2, 3, 4, 5, 6, 7, 8, 9, 10], [9])])
def shape_format_finite.B5 : List Nat := [0, 0, 2, 0, 8, 31, 0, 64, 0, 448, 63, 2047]
theorem shape_format_finite.tab5 : rtab .any (opsOf Tryz.f266 5) = shape_format_finite.T5 := by kernel_rfl
theorem shape_format_finite.bits5 : waitsOk shape_format_finite.T5.2 shape_format_finite.B5 = true := by kernel_rfl
def shape_format_finite.T6 : Bool × List (List Nat × List Nat) := (true, [([], []), ([0], [0]), ([], []), ([1, 2], [1, 2]), ([], []), ([4], [4]), ([5], [5]), ([6], [6]), ([3, 7], [3, 7]), ([8, 5], [8])])
def shape_format_finite.B6 : List Nat := [0, 1, 0, 7, 0, 16, 48, 112, 255, 511]
theorem shape_format_finite.tab6 : rtab .any (opsOf Tryz.f266 6) = shape_format_finite.T6 := by kernel_rfl
theorem shape_format_finite.bits6 : waitsOk shape_format_finite.T6.2 shape_format_finite.B6 = true := by kernel_rfl
def shape_format_finite.T8 : Bool × List (List Nat × List Nat) := (true, [([], []), ([], []), ([1], [1]), ([], []), ([3], [3]), ([], []), ([4, 5], [4, 5]), ([6], [6]), ([7], [7]), ([], []), ([9], [9]), ([], []), ([11], [11]), ([12], [12]), ([13], [13]), ([10, 14], [10, 14]), ([0, 2, 8, 15], [0, 2, 8, 15]), ([16, 16, 0, 1, 2, 3, 4, 5, 6, 7, 8, 9, 10, 11, 12, 13, 14, 15, 16], [16]), ([17, 0, 1, 2, 3, 4, 5, 6, 7, 8, 9, 10, 11, 12, 13, 14, 15, 16, 17], [])])
def shape_format_finite.B8 : List Nat := [0, 0, 2, 0, 8, 0, 56, 120, 248, 0, 512, 0, 2048, 6144, 14336, 32256, 65535, 131071, 262143]
theorem shape_format_finite.tab8 : rtab .any (opsOf Tryz.f266 8) = shape_format_finite.T8 := by kernel_rfl
theorem shape_format_finite.bits8 : waitsOk shape_format_finite.T8.2 shape_format_finite.B8 = true := by kernel_rfl
theorem shape_format_finite.calls (k : Nat) (a0_0 : Int) (a0_1 : Int) (a1_0 : Bool) (a1_1 : Int) (a1_2 : Int) (a1_3 : Int) (r1 : Int) (r2 : Bool) (w : World) (h : shape_format_finite.f k a0_0 a0_1 a1_0 a1_1 a1_2 a1_3 = some (r1, r2)) :
  Calls Tryz.prog 266 #[.agg #[.int .i64 a0_0, .int .i64 a0_1], .agg #[.bool a1_0, .int .i64 a1_1, .int .i64 a1_2, .int .u64 a1_3]] w fun e w' => e = .returned (.tuple #[.int .u64 r1, .bool r2]) ∧ Below w.heap.size w w' := by
 have hu65 := Tryz.underlying65
 have hu27 := Tryz.underlying27
 have HB := A_ (Below.refl w.heap.size w)
 have H : ((shape_format_low.f a0_0 a0_1).bind fun t306 => (if a1_3 = 0 then (shape_format_finite.j0 k t306 true a0_0 a0_1 a1_0 a1_1 a1_2 a1_3) else (if 0 ≤ a0_1 then (if a1_3 ≥ (shl .u64 2 a0_1) then (shape_format_finite.j0 k t306 true a0_0 a0_1 a1_0 a1_1 a1_2 a1_3) else (shape_format_finite.j0 k t306 (decide (a1_2 < t306)) a0_0 a0_1 a1_0 a1_1 a1_2 a1_3)) else (none)))) = some (r1, r2) := h
 clear h
 replace H := ob_ H
 obtain ⟨t306, A30, H⟩ := H
 replace H : (if a1_3 = 0 then (shape_format_finite.j0 k t306 true a0_0 a0_1 a1_0 a1_1 a1_2 a1_3) else (if 0 ≤ a0_1 then (if a1_3 ≥ (shl .u64 2 a0_1) then (shape_format_finite.j0 k t306 true a0_0 a0_1 a1_0 a1_1 a1_2 a1_3) else (shape_format_finite.j0 k t306 (decide (a1_2 < t306)) a0_0 a0_1 a1_0 a1_1 a1_2 a1_3)) else (none))) = some (r1, r2) := H
 have A3 := A_ A30;clear A30;have HC4 := A_ H;clear H
 go_enter Tryz.func266, Tryz.ntmps266
 go_upto_region 2 with (first | ((with_reducible refine gate_dst (N := 2) rfl ?_); refine be_ 2 #[.int .i64 a0_0, .int .i64 a0_1] 65 ?_; intro gb304 hg w5 hbox hb; have BK304 := A_ (hbox); have GW304 := A_ (sz_ hg (hb_ HB.out)); have GE304 := A_ (sz_ hg (hb_ HB.out)); replace HB := A_ (below_step (hb_ HB.out) hb); clear hb hbox hg) | ((with_reducible refine gate_dst (N := 3) rfl ?_); refine be_ 3 #[.bool a1_0, .int .i64 a1_1, .int .i64 a1_2, .int .u64 a1_3] 27 ?_; intro gb305 hg w6 hbox hb; have BK305 := A_ (hbox); have GW305 := A_ (sz_ hg (hb1_ HB.out GE304.out)); have GE305 := A_ (sz_ hg (hb1_ HB.out GE304.out)); have NB304_305 := A_ (nl_ hg BK304.out); have NB305_304 := A_ (ng_ hg BK304.out); replace BK304 := A_ (bb_ BK304.out hb); replace HB := A_ (below_step (hb1_ HB.out GE304.out) hb); clear hb hbox hg; have hnb7 := NB304_305.out; have hnc7 := NB305_304.out; have hcz8_0 := bv_ BK304.out 0; have hcz8_1 := bv_ BK304.out 1; have hfz8_0 := blk_frozen BK304.out 0; have hfz8_1 := blk_frozen BK304.out 1) | ((with_reducible refine gate_callee (f := 38) rfl ?_); refine goesL_ (some 8) rfl rfl Tryz.func38 (by kernel_rfl) rfl #[.agg #[.int .i64 a0_0, .int .i64 a0_1]] rfl mp_ ?_; (with_reducible refine (shape_format_low.calls a0_0 a0_1 t306 _ A3.out).mono ?_); rintro e w9 ⟨rfl, hb⟩; refine ⟨_, rfl, ?_⟩; replace BK304 := A_ (bb_ BK304.out hb); replace BK305 := A_ (bb_ BK305.out hb); replace HB := A_ (below_step (hb2_ HB.out GE304.out GE305.out) hb); (try clear hb); (try clear hb2); (try clear hk); (try clear hi)))
 (try simp only [Act.put, lI_, l0_, lS_])
 go_cut [9] (fun v9 wc => ∃ (kq : Nat) (x9_3 : Bool), v9 = .bool x9_3 ∧ Aside0 (shape_format_finite.j0 kq t306 x9_3 a0_0 a0_1 a1_0 a1_1 a1_2 a1_3 = some (r1, r2)) ∧ Aside0 (kq ≤ k) ∧ Aside0 (wc.heap[gb304]? = some (.cells #[.int .i64 a0_0, .int .i64 a0_1] 65 (0, 0))) ∧ Aside0 (wc.heap[gb305]? = some (.cells #[.bool a1_0, .int .i64 a1_1, .int .i64 a1_2, .int .u64 a1_3] 27 (0, 0))) ∧ Aside0 (Below w.heap.size w wc))
 case first =>
  have H := HC4.out
  clear HC4
  by_cases c10 : a1_3 = 0
  ·rw [if_pos c10] at H
   have c10b0 : (a1_3 == 0) = true := beq_iff_eq.mpr c10
   have c10b1 : (a1_3 != 0) = false := bne_eq_false_iff_eq.mpr c10
   clear c10
   (first | rw [c10b0] | (simp only [i64_w, i32_w]; rw [c10b0]) | skip)
   have H' := A_ H
   clear H
   try go_wp2
   replace BK304 := A_ (blk_drew BK304.out)
   replace BK305 := A_ (blk_drew BK305.out)
   replace HB := A_ (below_drew1 HB.out)
   refine start_ (n := 18) (S := fun w' => w'.cell? ⟨gb305, 0, none⟩ = some (.bool a1_0) ∧ w'.cell? ⟨gb305, 1, none⟩ = some (.int .i64 a1_1) ∧ w'.cell? ⟨gb305, 2, none⟩ = some (.int .i64 a1_2) ∧ w'.cell? ⟨gb305, 3, none⟩ = some (.int .u64 a1_3)) (ds := []) #[false, false, false, false, false, false, false, false, false, false, false, false, false, false, false, false, false, false] (by kernel_rfl) rfl rfl ⟨bc_ BK305.out 0, bc_ BK305.out 1, bc_ BK305.out 2, bc_ BK305.out 3⟩ (fun hHeld => ?_); refine with_tabW shape_format_finite.tab2 shape_format_finite.bits2 (fun HT_ HW_ => ?_)
   generalize w9.drew = w11 at BK304 BK305 HB hHeld ⊢
   refine pu_ 0 (some 10) #[true, false, false, false, false, false, false, false, false, false, false, false, false, false, false, false, false, false] rfl rfl (any_of HT_.out (by kernel_rfl)) ?_
   refine tk4_ 1 (some 11) #[true, true, false, false, false, false, false, false, false, false, false, false, false, false, false, false, false, false] rfl rfl (take_ofW HT_.out HW_.out (by kernel_rfl)) hHeld ?_
   refine pu_ 2 (some 12) #[true, true, true, false, false, false, false, false, false, false, false, false, false, false, false, false, false, false] rfl rfl (any_of HT_.out (by kernel_rfl)) ?_
   refine pu_ 3 (some 13) #[true, true, true, true, false, false, false, false, false, false, false, false, false, false, false, false, false, false] rfl rfl (any_of HT_.out (by kernel_rfl)) ?_
   refine pure_ (i := 4) (N := some 14) (v := undef) (a' := ?_) #[true, true, true, true, true, false, false, false, false, false, false, false, false, false, false, false, false, false] rfl rfl (any_of HT_.out (by kernel_rfl)) (fun _ _ _ h => h) (Or.inr ⟨by rfl, rfl⟩) ?_ ?_
   rotate_left
   ·simp only [Act.put, lI_, l0_, lS_, i64_w, i32_w]
    rfl
   refine pure_ (i := 5) (N := some 15) (v := undef) (a' := ?_) #[true, true, true, true, true, true, false, false, false, false, false, false, false, false, false, false, false, false] rfl rfl (any_of HT_.out (by kernel_rfl)) (fun _ _ _ h => h) (Or.inr ⟨by rfl, rfl⟩) ?_ ?_
   rotate_left
   ·simp only [Act.put, lI_, l0_, lS_, i64_w, i32_w]
    rfl
   refine pure_ (i := 6) (N := some 16) (v := undef) (a' := ?_) #[true, true, true, true, true, true, true, false, false, false, false, false, false, false, false, false, false, false] rfl rfl (any_of HT_.out (by kernel_rfl)) (fun _ _ _ h => h) (Or.inr ⟨by rfl, rfl⟩) ?_ ?_
   rotate_left
   ·simp only [Act.put, lI_, l0_, lS_, i64_w, i32_w]
    rfl
   refine pure_ (i := 7) (N := some 17) (v := undef) (a' := ?_) #[true, true, true, true, true, true, true, true, false, false, false, false, false, false, false, false, false, false] rfl rfl (any_of HT_.out (by kernel_rfl)) (fun _ _ _ h => h) (Or.inr ⟨by rfl, rfl⟩) ?_ ?_
   rotate_left
   ·simp only [Act.put, lI_, l0_, lS_, i64_w, i32_w]
    rfl
   refine pure_ (i := 8) (N := some 18) (v := undef) (a' := ?_) #[true, true, true, true, true, true, true, true, true, false, false, false, false, false, false, false, false, false] rfl rfl (any_of HT_.out (by kernel_rfl)) (fun _ _ _ h => h) (Or.inr ⟨by rfl, rfl⟩) ?_ ?_
   rotate_left
   ·simp only [Act.put, lI_, l0_, lS_, i64_w, i32_w]
    rfl
   refine pure_ (i := 9) (N := some 19) (v := undef) (a' := ?_) #[true, true, true, true, true, true, true, true, true, true, false, false, false, false, false, false, false, false] rfl rfl (any_of HT_.out (by kernel_rfl)) (fun _ _ _ h => h) (Or.inr ⟨by rfl, rfl⟩) ?_ ?_
   rotate_left
   ·simp only [Act.put, lI_, l0_, lS_, i64_w, i32_w]
    rfl
   refine pu_ 10 (some 20) #[true, true, true, true, true, true, true, true, true, true, true, false, false, false, false, false, false, false] rfl rfl (any_of HT_.out (by kernel_rfl)) ?_
   refine pu_ 11 (some 21) #[true, true, true, true, true, true, true, true, true, true, true, true, false, false, false, false, false, false] rfl rfl (any_of HT_.out (by kernel_rfl)) ?_
   refine pure_ (i := 12) (N := some 22) (v := undef) (a' := ?_) #[true, true, true, true, true, true, true, true, true, true, true, true, true, false, false, false, false, false] rfl rfl (any_of HT_.out (by kernel_rfl)) (fun _ _ _ h => h) (Or.inr ⟨by rfl, rfl⟩) ?_ ?_
   rotate_left
   ·simp only [Act.put, lI_, l0_, lS_, i64_w, i32_w]
    rfl
   refine pure_ (i := 13) (N := some 23) (v := undef) (a' := ?_) #[true, true, true, true, true, true, true, true, true, true, true, true, true, true, false, false, false, false] rfl rfl (any_of HT_.out (by kernel_rfl)) (fun _ _ _ h => h) (Or.inr ⟨by rfl, rfl⟩) ?_ ?_
   rotate_left
   ·simp only [Act.put, lI_, l0_, lS_, i64_w, i32_w]
    rfl
   refine pure_ (i := 14) (N := some 24) (v := undef) (a' := ?_) #[true, true, true, true, true, true, true, true, true, true, true, true, true, true, true, false, false, false] rfl rfl (any_of HT_.out (by kernel_rfl)) (fun _ _ _ h => h) (Or.inr ⟨by rfl, rfl⟩) ?_ ?_
   rotate_left
   ·simp only [Act.put, lI_, l0_, lS_, i64_w, i32_w]
    rfl
   refine pure_ (i := 15) (N := some 25) (v := undef) (a' := ?_) #[true, true, true, true, true, true, true, true, true, true, true, true, true, true, true, true, false, false] rfl rfl (any_of HT_.out (by kernel_rfl)) (fun _ _ _ h => h) (Or.inr ⟨by rfl, rfl⟩) ?_ ?_
   rotate_left
   ·simp only [Act.put, lI_, l0_, lS_, i64_w, i32_w]
    rfl
   refine pu_ 16 (some 26) #[true, true, true, true, true, true, true, true, true, true, true, true, true, true, true, true, true, false] rfl rfl (any_of HT_.out (by kernel_rfl)) ?_
   refine pu_ 17 (some 9) #[true, true, true, true, true, true, true, true, true, true, true, true, true, true, true, true, true, true] rfl rfl (any_of HT_.out (by kernel_rfl)) ?_
   refine done_ (done_of HT_.out (by kernel_rfl)) ?_
   try go_wp2
   go_meet
   case rel => exact ⟨_, (true), sm_, H', ⟨by first | omega | exact Nat.le_refl _⟩, ⟨bk_ BK304.out⟩, ⟨bk_ BK305.out⟩, ⟨hb2_ HB.out GE304.out GE305.out⟩⟩
  ·rw [if_neg c10] at H
   have c10b0 : (a1_3 == 0) = false := beq_eq_false_iff_ne.mpr c10
   have c10b1 : (a1_3 != 0) = true := bne_iff_ne.mpr c10
   (first | rw [c10b0] | (simp only [i64_w, i32_w]; rw [c10b0]) | skip)
   by_cases c12 : 0 ≤ a0_1
   ·rw [if_pos c12] at H
    have c12b0 := eq_true c12
    have c12b1 : decide (0 ≤ a0_1) = true := decide_eq_true c12
    clear c12
    obtain ⟨ji13, hji13⟩ : ∃ j_ : Int, (shl .u64 2 a0_1) = j_ := ⟨_, rfl⟩
    replace H : (if a1_3 ≥ (ji13) then (shape_format_finite.j0 k t306 true a0_0 a0_1 a1_0 a1_1 a1_2 a1_3) else (shape_format_finite.j0 k t306 (decide (a1_2 < t306)) a0_0 a0_1 a1_0 a1_1 a1_2 a1_3)) = some (r1, r2) := by first | (rw [hji13] at H; exact H) | (simp only [hji13] at H ⊢; exact H)
    have hji13_ : (IntKind.u64.wrap (2 * 2 ^ min a0_1.toNat 64)) = ji13 := hji13
    have hji13z : a0_1 ≤ 64 → (IntKind.u64.wrap (2 * 2 ^ a0_1.toNat)) = ji13 := shl_small hji13
    by_cases c14 : a1_3 ≥ (ji13)
    ·rw [if_pos c14] at H
     have c14b0 : decide ((ji13) ≤ a1_3) = true := decide_eq_true c14
     clear c14
     have H' := A_ H
     clear H
     try go_wp2
     replace BK304 := A_ (blk_drew BK304.out)
     replace BK305 := A_ (blk_drew BK305.out)
     replace HB := A_ (below_drew1 HB.out)
     refine start_ (n := 18) (S := fun w' => w'.cell? ⟨gb305, 0, none⟩ = some (.bool a1_0) ∧ w'.cell? ⟨gb305, 1, none⟩ = some (.int .i64 a1_1) ∧ w'.cell? ⟨gb305, 2, none⟩ = some (.int .i64 a1_2) ∧ w'.cell? ⟨gb305, 3, none⟩ = some (.int .u64 a1_3) ∧ w'.cell? ⟨gb304, 0, none⟩ = some (.int .i64 a0_0) ∧ w'.cell? ⟨gb304, 1, none⟩ = some (.int .i64 a0_1)) (ds := []) #[false, false, false, false, false, false, false, false, false, false, false, false, false, false, false, false, false, false] (by kernel_rfl) rfl rfl ⟨bc_ BK305.out 0, bc_ BK305.out 1, bc_ BK305.out 2, bc_ BK305.out 3, bc_ BK304.out 0, bc_ BK304.out 1⟩ (fun hHeld => ?_); refine with_tabW shape_format_finite.tab2 shape_format_finite.bits2 (fun HT_ HW_ => ?_)
     generalize w9.drew = w15 at BK304 BK305 HB hHeld ⊢
     refine pu_ 0 (some 10) #[true, false, false, false, false, false, false, false, false, false, false, false, false, false, false, false, false, false] rfl rfl (any_of HT_.out (by kernel_rfl)) ?_
     refine tk6_ 1 (some 11) #[true, true, false, false, false, false, false, false, false, false, false, false, false, false, false, false, false, false] rfl rfl (take_ofW HT_.out HW_.out (by kernel_rfl)) hHeld ?_
     refine pu_ 2 (some 12) #[true, true, true, false, false, false, false, false, false, false, false, false, false, false, false, false, false, false] rfl rfl (any_of HT_.out (by kernel_rfl)) ?_
     refine pu_ 3 (some 13) #[true, true, true, true, false, false, false, false, false, false, false, false, false, false, false, false, false, false] rfl rfl (any_of HT_.out (by kernel_rfl)) ?_
     refine pu_ 4 (some 14) #[true, true, true, true, true, false, false, false, false, false, false, false, false, false, false, false, false, false] rfl rfl (any_of HT_.out (by kernel_rfl)) ?_
     refine pu_ 6 (some 16) #[true, true, true, true, true, false, true, false, false, false, false, false, false, false, false, false, false, false] rfl rfl (any_of HT_.out (by kernel_rfl)) ?_
     refine tk6_ 5 (some 15) #[true, true, true, true, true, true, true, false, false, false, false, false, false, false, false, false, false, false] rfl rfl (take_ofW HT_.out HW_.out (by kernel_rfl)) hHeld ?_
     refine tk6_ 7 (some 17) #[true, true, true, true, true, true, true, true, false, false, false, false, false, false, false, false, false, false] rfl rfl (take_ofW HT_.out HW_.out (by kernel_rfl)) hHeld ?_
     refine pu_ 8 (some 18) #[true, true, true, true, true, true, true, true, true, false, false, false, false, false, false, false, false, false] rfl rfl (any_of HT_.out (by kernel_rfl)) ?_
     refine pu_ 9 (some 19) #[true, true, true, true, true, true, true, true, true, true, false, false, false, false, false, false, false, false] rfl rfl (any_of HT_.out (by kernel_rfl)) ?_
     refine pu_ 10 (some 20) #[true, true, true, true, true, true, true, true, true, true, true, false, false, false, false, false, false, false] rfl rfl (any_of HT_.out (by kernel_rfl)) ?_
     refine pu_ 11 (some 21) #[true, true, true, true, true, true, true, true, true, true, true, true, false, false, false, false, false, false] rfl rfl (any_of HT_.out (by kernel_rfl)) ?_
     refine pure_ (i := 12) (N := some 22) (v := undef) (a' := ?_) #[true, true, true, true, true, true, true, true, true, true, true, true, true, false, false, false, false, false] rfl rfl (any_of HT_.out (by kernel_rfl)) (fun _ _ _ h => h) (Or.inr ⟨by rfl, rfl⟩) ?_ ?_
     rotate_left
     ·simp only [Act.put, lI_, l0_, lS_, i64_w, i32_w]
      rfl
     refine pure_ (i := 13) (N := some 23) (v := undef) (a' := ?_) #[true, true, true, true, true, true, true, true, true, true, true, true, true, true, false, false, false, false] rfl rfl (any_of HT_.out (by kernel_rfl)) (fun _ _ _ h => h) (Or.inr ⟨by rfl, rfl⟩) ?_ ?_
     rotate_left
     ·simp only [Act.put, lI_, l0_, lS_, i64_w, i32_w]
      rfl
     refine pure_ (i := 14) (N := some 24) (v := undef) (a' := ?_) #[true, true, true, true, true, true, true, true, true, true, true, true, true, true, true, false, false, false] rfl rfl (any_of HT_.out (by kernel_rfl)) (fun _ _ _ h => h) (Or.inr ⟨by rfl, rfl⟩) ?_ ?_
     rotate_left
     ·simp only [Act.put, lI_, l0_, lS_, i64_w, i32_w]
      rfl
     refine pure_ (i := 15) (N := some 25) (v := undef) (a' := ?_) #[true, true, true, true, true, true, true, true, true, true, true, true, true, true, true, true, false, false] rfl rfl (any_of HT_.out (by kernel_rfl)) (fun _ _ _ h => h) (Or.inr ⟨by rfl, rfl⟩) ?_ ?_
     rotate_left
     ·simp only [Act.put, lI_, l0_, lS_, i64_w, i32_w]
      rfl
     refine pu_ 16 (some 26) #[true, true, true, true, true, true, true, true, true, true, true, true, true, true, true, true, true, false] rfl rfl (any_of HT_.out (by kernel_rfl)) ?_
     refine pu_ 17 (some 9) #[true, true, true, true, true, true, true, true, true, true, true, true, true, true, true, true, true, true] rfl rfl (any_of HT_.out (by kernel_rfl)) ?_
     refine done_ (done_of HT_.out (by kernel_rfl)) ?_
     try go_wp2
     go_meet
     case rel => exact ⟨_, (true), sm_, H', ⟨by first | omega | exact Nat.le_refl _⟩, ⟨bk_ BK304.out⟩, ⟨bk_ BK305.out⟩, ⟨hb2_ HB.out GE304.out GE305.out⟩⟩
    ·rw [if_neg c14] at H
     have c14b0 : decide ((ji13) ≤ a1_3) = false := decide_eq_false c14
     clear c14
     have H' := A_ H
     clear H
     try go_wp2
     replace BK304 := A_ (blk_drew BK304.out)
     replace BK305 := A_ (blk_drew BK305.out)
     replace HB := A_ (below_drew1 HB.out)
     refine start_ (n := 18) (S := fun w' => w'.cell? ⟨gb305, 0, none⟩ = some (.bool a1_0) ∧ w'.cell? ⟨gb305, 1, none⟩ = some (.int .i64 a1_1) ∧ w'.cell? ⟨gb305, 2, none⟩ = some (.int .i64 a1_2) ∧ w'.cell? ⟨gb305, 3, none⟩ = some (.int .u64 a1_3) ∧ w'.cell? ⟨gb304, 0, none⟩ = some (.int .i64 a0_0) ∧ w'.cell? ⟨gb304, 1, none⟩ = some (.int .i64 a0_1)) (ds := []) #[false, false, false, false, false, false, false, false, false, false, false, false, false, false, false, false, false, false] (by kernel_rfl) rfl rfl ⟨bc_ BK305.out 0, bc_ BK305.out 1, bc_ BK305.out 2, bc_ BK305.out 3, bc_ BK304.out 0, bc_ BK304.out 1⟩ (fun hHeld => ?_); refine with_tabW shape_format_finite.tab2 shape_format_finite.bits2 (fun HT_ HW_ => ?_)
     generalize w9.drew = w16 at BK304 BK305 HB hHeld ⊢
     refine pu_ 0 (some 10) #[true, false, false, false, false, false, false, false, false, false, false, false, false, false, false, false, false, false] rfl rfl (any_of HT_.out (by kernel_rfl)) ?_
     refine tk6_ 1 (some 11) #[true, true, false, false, false, false, false, false, false, false, false, false, false, false, false, false, false, false] rfl rfl (take_ofW HT_.out HW_.out (by kernel_rfl)) hHeld ?_
     refine pu_ 2 (some 12) #[true, true, true, false, false, false, false, false, false, false, false, false, false, false, false, false, false, false] rfl rfl (any_of HT_.out (by kernel_rfl)) ?_
     refine pu_ 3 (some 13) #[true, true, true, true, false, false, false, false, false, false, false, false, false, false, false, false, false, false] rfl rfl (any_of HT_.out (by kernel_rfl)) ?_
     refine pu_ 4 (some 14) #[true, true, true, true, true, false, false, false, false, false, false, false, false, false, false, false, false, false] rfl rfl (any_of HT_.out (by kernel_rfl)) ?_
     refine pu_ 6 (some 16) #[true, true, true, true, true, false, true, false, false, false, false, false, false, false, false, false, false, false] rfl rfl (any_of HT_.out (by kernel_rfl)) ?_
     refine tk6_ 5 (some 15) #[true, true, true, true, true, true, true, false, false, false, false, false, false, false, false, false, false, false] rfl rfl (take_ofW HT_.out HW_.out (by kernel_rfl)) hHeld ?_
     refine tk6_ 7 (some 17) #[true, true, true, true, true, true, true, true, false, false, false, false, false, false, false, false, false, false] rfl rfl (take_ofW HT_.out HW_.out (by kernel_rfl)) hHeld ?_
     refine pu_ 8 (some 18) #[true, true, true, true, true, true, true, true, true, false, false, false, false, false, false, false, false, false] rfl rfl (any_of HT_.out (by kernel_rfl)) ?_
     refine pu_ 9 (some 19) #[true, true, true, true, true, true, true, true, true, true, false, false, false, false, false, false, false, false] rfl rfl (any_of HT_.out (by kernel_rfl)) ?_
     refine pu_ 10 (some 20) #[true, true, true, true, true, true, true, true, true, true, true, false, false, false, false, false, false, false] rfl rfl (any_of HT_.out (by kernel_rfl)) ?_
     refine pu_ 11 (some 21) #[true, true, true, true, true, true, true, true, true, true, true, true, false, false, false, false, false, false] rfl rfl (any_of HT_.out (by kernel_rfl)) ?_
     refine pu_ 12 (some 22) #[true, true, true, true, true, true, true, true, true, true, true, true, true, false, false, false, false, false] rfl rfl (any_of HT_.out (by kernel_rfl)) ?_
     refine pu_ 14 (some 24) #[true, true, true, true, true, true, true, true, true, true, true, true, true, false, true, false, false, false] rfl rfl (any_of HT_.out (by kernel_rfl)) ?_
     refine tk6_ 13 (some 23) #[true, true, true, true, true, true, true, true, true, true, true, true, true, true, true, false, false, false] rfl rfl (take_ofW HT_.out HW_.out (by kernel_rfl)) hHeld ?_
     refine pu_ 15 (some 25) #[true, true, true, true, true, true, true, true, true, true, true, true, true, true, true, true, false, false] rfl rfl (any_of HT_.out (by kernel_rfl)) ?_
     refine pu_ 16 (some 26) #[true, true, true, true, true, true, true, true, true, true, true, true, true, true, true, true, true, false] rfl rfl (any_of HT_.out (by kernel_rfl)) ?_
     refine pu_ 17 (some 9) #[true, true, true, true, true, true, true, true, true, true, true, true, true, true, true, true, true, true] rfl rfl (any_of HT_.out (by kernel_rfl)) ?_
     refine done_ (done_of HT_.out (by kernel_rfl)) ?_
     try go_wp2
     go_meet
     case rel => exact ⟨_, (decide (a1_2 < t306)), sm_, H', ⟨by first | omega | exact Nat.le_refl _⟩, ⟨bk_ BK304.out⟩, ⟨bk_ BK305.out⟩, ⟨hb2_ HB.out GE304.out GE305.out⟩⟩
   ·rw [if_neg c12] at H
    exact absurd H (by simp)
 case rest =>
  clear HC4
  try clear c1
  try clear c2
  try clear p2
  try clear c3
  try clear c7
  try clear c10
  try clear c10b0
  try clear c10b1
  try clear c12
  try clear c12b0
  try clear c12b1
  try clear c14
  try clear c14b0
  try clear hcz8_0
  try clear hcz8_1
  try clear hfz8_0
  try clear hfz8_1
  obtain ⟨kq, x9_3, rfl, HA, HJ3, BK304, BK305, HB⟩ := hcut
  cases kq with
  | zero => exact absurd HA.out (by simp [shape_format_finite.j0])
  | succ kj3 =>
   have H := HA.out
   clear HA
   simp only [shape_format_finite.j0] at H
   by_cases c17 : x9_3 = true
   ·subst c17
    have H1 : (some (0, false)) = some (r1, r2) := by rw [if_pos rfl] at H; exact H
    clear H;have H := H1;clear H1
    simp only [Option.some.injEq, Prod.mk.injEq] at H
    obtain ⟨rfl, rfl⟩ := H
    go_wp2
    go_ret2
    exact ⟨er_, hb2_ HB.out GE304.out GE305.out⟩
   ·replace c17 := Bool.eq_false_iff.mpr c17
    subst c17
    have H1 : (if 0 ≤ a0_1 then (if a1_3 < (shl .u64 1 a0_1) then ((shape_format_join.f a0_0 a0_1 a1_0 0 a1_3).bind fun t307 => (some (t307, (a1_2 == t306)))) else ((shape_format_ones.f a0_0 a0_1).bind fun t308 => (if (wrap64 (a1_2 - t306)) > (wrap64 ((wrap64 (t308)) - 2)) then (some (0, false)) else ((shape_format_join.f a0_0 a0_1 a1_0 (IntKind.u64.wrap ((IntKind.u64.wrap (wrap64 (a1_2 - t306))) + 1)) (Go.bits .and .u64 a1_3 (IntKind.u64.wrap ((shl .u64 1 a0_1) - 1)))).bind fun t309 => (some (t309, true)))))) else (none)) = some (r1, r2) := by rw [if_neg (show ¬ (false = true) by decide)] at H; exact H
    clear H;have H := H1;clear H1
    by_cases c18 : 0 ≤ a0_1
    ·rw [if_pos c18] at H
     have c18b0 := eq_true c18
     have c18b1 : decide (0 ≤ a0_1) = true := decide_eq_true c18
     clear c18
     obtain ⟨ji19, hji19⟩ : ∃ j_ : Int, (shl .u64 1 a0_1) = j_ := ⟨_, rfl⟩
     replace H : (if a1_3 < (ji19) then ((shape_format_join.f a0_0 a0_1 a1_0 0 a1_3).bind fun t307 => (some (t307, (a1_2 == t306)))) else ((shape_format_ones.f a0_0 a0_1).bind fun t308 => (if (wrap64 (a1_2 - t306)) > (wrap64 ((wrap64 (t308)) - 2)) then (some (0, false)) else ((shape_format_join.f a0_0 a0_1 a1_0 (IntKind.u64.wrap ((IntKind.u64.wrap (wrap64 (a1_2 - t306))) + 1)) (Go.bits .and .u64 a1_3 (IntKind.u64.wrap ((ji19) - 1)))).bind fun t309 => (some (t309, true)))))) = some (r1, r2) := by first | (rw [hji19] at H; exact H) | (simp only [hji19] at H ⊢; exact H)
     have hji19_ : (IntKind.u64.wrap (1 * 2 ^ min a0_1.toNat 64)) = ji19 := hji19
     have hji19z : a0_1 ≤ 64 → (IntKind.u64.wrap (1 * 2 ^ a0_1.toNat)) = ji19 := shl_small hji19
     have hji19u : (IntKind.u64.wrap (2 ^ min a0_1.toNat 64)) = ji19 := by have h_ := hji19_; rw [Int.one_mul] at h_; exact h_
     have hji19v : a0_1 ≤ 64 → (IntKind.u64.wrap (2 ^ a0_1.toNat)) = ji19 := fun hle_ => by have h_ := hji19z hle_; rw [Int.one_mul] at h_; exact h_
     by_cases c20 : a1_3 < (ji19)
     ·rw [if_pos c20] at H
      have c20b0 : decide (a1_3 < (ji19)) = true := decide_eq_true c20
      clear c20
      replace H := ob_ H
      obtain ⟨t307, A210, H⟩ := H
      replace H : (some (t307, (a1_2 == t306))) = some (r1, r2) := H
      have A21 := A_ A210;clear A210
      simp only [Option.some.injEq, Prod.mk.injEq] at H
      obtain ⟨rfl, rfl⟩ := H
      try go_wp2
      replace BK304 := A_ (blk_drew BK304.out)
      replace BK305 := A_ (blk_drew BK305.out)
      replace HB := A_ (below_drew1 HB.out)
      refine start_ (n := 7) (S := fun w' => w'.cell? ⟨gb305, 0, none⟩ = some (.bool a1_0) ∧ w'.cell? ⟨gb305, 1, none⟩ = some (.int .i64 a1_1) ∧ w'.cell? ⟨gb305, 2, none⟩ = some (.int .i64 a1_2) ∧ w'.cell? ⟨gb305, 3, none⟩ = some (.int .u64 a1_3) ∧ w'.cell? ⟨gb304, 0, none⟩ = some (.int .i64 a0_0) ∧ w'.cell? ⟨gb304, 1, none⟩ = some (.int .i64 a0_1)) (ds := []) #[false, false, false, false, false, false, false] (by kernel_rfl) rfl rfl ⟨bc_ BK305.out 0, bc_ BK305.out 1, bc_ BK305.out 2, bc_ BK305.out 3, bc_ BK304.out 0, bc_ BK304.out 1⟩ (fun hHeld => ?_)
      generalize wc.drew = w22 at BK304 BK305 HB hHeld ⊢
      refine pu_ 0 (some 28) #[true, false, false, false, false, false, false] rfl rfl (by kernel_rfl) ?_
      refine pu_ 2 (some 30) #[true, false, true, false, false, false, false] rfl rfl (by kernel_rfl) ?_
      refine tk6_ 1 (some 29) #[true, true, true, false, false, false, false] rfl rfl (by kernel_rfl) hHeld ?_
      refine tk6_ 3 (some 31) #[true, true, true, true, false, false, false] rfl rfl (by kernel_rfl) hHeld ?_
      refine pu_ 4 (some 32) #[true, true, true, true, true, false, false] rfl rfl (by kernel_rfl) ?_
      refine pu_ 5 (some 33) #[true, true, true, true, true, true, false] rfl rfl (by kernel_rfl) ?_
      refine pu_ 6 (some 27) #[true, true, true, true, true, true, true] rfl rfl (by kernel_rfl) ?_
      refine done_ (by kernel_rfl) ?_
      try go_wp2
      replace BK304 := A_ (blk_drew BK304.out)
      replace BK305 := A_ (blk_drew BK305.out)
      replace HB := A_ (below_drew1 HB.out)
      refine start_ (n := 12) (S := fun w' => w'.cell? ⟨gb304, 0, none⟩ = some (.int .i64 a0_0) ∧ w'.cell? ⟨gb304, 1, none⟩ = some (.int .i64 a0_1) ∧ w'.cell? ⟨gb305, 0, none⟩ = some (.bool a1_0) ∧ w'.cell? ⟨gb305, 1, none⟩ = some (.int .i64 a1_1) ∧ w'.cell? ⟨gb305, 2, none⟩ = some (.int .i64 a1_2) ∧ w'.cell? ⟨gb305, 3, none⟩ = some (.int .u64 a1_3)) (ds := []) #[false, false, false, false, false, false, false, false, false, false, false, false] (by kernel_rfl) rfl rfl ⟨bc_ BK304.out 0, bc_ BK304.out 1, bc_ BK305.out 0, bc_ BK305.out 1, bc_ BK305.out 2, bc_ BK305.out 3⟩ (fun hHeld => ?_); refine with_tabW shape_format_finite.tab5 shape_format_finite.bits5 (fun HT_ HW_ => ?_)
      generalize w22.drew = w23 at BK304 BK305 HB hHeld ⊢
      refine pu_ 1 (some 35) #[false, true, false, false, false, false, false, false, false, false, false, false] rfl rfl (any_of HT_.out (by kernel_rfl)) ?_
      refine pu_ 3 (some 37) #[false, true, false, true, false, false, false, false, false, false, false, false] rfl rfl (any_of HT_.out (by kernel_rfl)) ?_
      refine pu_ 6 (some 40) #[false, true, false, true, false, false, true, false, false, false, false, false] rfl rfl (any_of HT_.out (by kernel_rfl)) ?_
      refine pu_ 8 (some 42) #[false, true, false, true, false, false, true, false, true, false, false, false] rfl rfl (any_of HT_.out (by kernel_rfl)) ?_
      refine tk6_ 0 (some 34) #[true, true, false, true, false, false, true, false, true, false, false, false] rfl rfl (take_ofW HT_.out HW_.out (by kernel_rfl)) hHeld ?_
      refine tk6_ 2 (some 36) #[true, true, true, true, false, false, true, false, true, false, false, false] rfl rfl (take_ofW HT_.out HW_.out (by kernel_rfl)) hHeld ?_
      refine tk6_ 4 (some 38) #[true, true, true, true, true, false, true, false, true, false, false, false] rfl rfl (take_ofW HT_.out HW_.out (by kernel_rfl)) hHeld ?_
      refine tk6_ 7 (some 41) #[true, true, true, true, true, false, true, true, true, false, false, false] rfl rfl (take_ofW HT_.out HW_.out (by kernel_rfl)) hHeld ?_
      refine pu_ 9 (some 43) #[true, true, true, true, true, false, true, true, true, true, false, false] rfl rfl (any_of HT_.out (by kernel_rfl)) ?_
      refine one_ (i := 5) (N := some 39) #[true, true, true, true, true, true, true, true, true, true, false, false] rfl rfl (one_of HT_.out (by kernel_rfl)) (by decide) (fun K hK => ?_)
      refine goes_ Tryz.func99 (by kernel_rfl) rfl #[.agg #[.int .i64 a0_0, .int .i64 a0_1], .bool a1_0, .int .u64 0, .int .u64 a1_3] (by rfl) rfl rfl mp_ ?_
      with_reducible refine (shape_format_join.calls a0_0 a0_1 a1_0 0 a1_3 t307 _ A21.out).mono ?_
      rintro e w24 ⟨rfl, hb⟩
      refine ⟨_, rfl, ?_⟩
      replace BK304 := A_ (bb_ BK304.out hb)
      replace BK305 := A_ (bb_ BK305.out hb)
      replace HB := A_ (below_step (hb2_ HB.out GE304.out GE305.out) hb);(try clear hb);(try clear hb2);(try clear hk);(try clear hi)
      refine hK.out _ _ ⟨bc_ BK304.out 0, bc_ BK304.out 1, bc_ BK305.out 0, bc_ BK305.out 1, bc_ BK305.out 2, bc_ BK305.out 3⟩ (fun hHeld => ?_)
      clear hK K
      refine norm_ (a' := ?_) ?_ ?_
      rotate_left
      ·show Act.put _ (some 39) _ = _
       simp only [Act.put, lI_, l0_, lS_, i64_w, i32_w]
       rfl
      refine pu_ 10 (some 4) #[true, true, true, true, true, true, true, true, true, true, true, false] rfl rfl (any_of HT_.out (by kernel_rfl)) ?_
      refine pu_ 11 (some 5) #[true, true, true, true, true, true, true, true, true, true, true, true] rfl rfl (any_of HT_.out (by kernel_rfl)) ?_
      refine done_ (done_of HT_.out (by kernel_rfl)) ?_
      try go_wp2
      go_ret2
      exact ⟨by first | rfl | (simp [errW_none, errW_some] <;> rfl) | (simp only [← hji19]; first | rfl | (simp [errW_none, errW_some] <;> rfl)) | (simp [*, errW_none, errW_some] <;> rfl), hb2_ HB.out GE304.out GE305.out⟩
     ·rw [if_neg c20] at H
      have c20b0 : decide (a1_3 < (ji19)) = false := decide_eq_false c20
      clear c20
      replace H := ob_ H
      obtain ⟨t308, A250, H⟩ := H
      replace H : (if (wrap64 (a1_2 - t306)) > (wrap64 ((wrap64 (t308)) - 2)) then (some (0, false)) else ((shape_format_join.f a0_0 a0_1 a1_0 (IntKind.u64.wrap ((IntKind.u64.wrap (wrap64 (a1_2 - t306))) + 1)) (Go.bits .and .u64 a1_3 (IntKind.u64.wrap ((ji19) - 1)))).bind fun t309 => (some (t309, true)))) = some (r1, r2) := H
      have A25 := A_ A250;clear A250
      by_cases c26 : (wrap64 (a1_2 - t306)) > (wrap64 ((wrap64 (t308)) - 2))
      ·rw [if_pos c26] at H
       have c26b0 : decide ((wrap64 ((wrap64 (t308)) - 2)) < (wrap64 (a1_2 - t306))) = true := decide_eq_true c26
       clear c26
       simp only [Option.some.injEq, Prod.mk.injEq] at H
       obtain ⟨rfl, rfl⟩ := H
       try go_wp2
       replace BK304 := A_ (blk_drew BK304.out)
       replace BK305 := A_ (blk_drew BK305.out)
       replace HB := A_ (below_drew1 HB.out)
       refine start_ (n := 7) (S := fun w' => w'.cell? ⟨gb305, 0, none⟩ = some (.bool a1_0) ∧ w'.cell? ⟨gb305, 1, none⟩ = some (.int .i64 a1_1) ∧ w'.cell? ⟨gb305, 2, none⟩ = some (.int .i64 a1_2) ∧ w'.cell? ⟨gb305, 3, none⟩ = some (.int .u64 a1_3) ∧ w'.cell? ⟨gb304, 0, none⟩ = some (.int .i64 a0_0) ∧ w'.cell? ⟨gb304, 1, none⟩ = some (.int .i64 a0_1)) (ds := []) #[false, false, false, false, false, false, false] (by kernel_rfl) rfl rfl ⟨bc_ BK305.out 0, bc_ BK305.out 1, bc_ BK305.out 2, bc_ BK305.out 3, bc_ BK304.out 0, bc_ BK304.out 1⟩ (fun hHeld => ?_)
       generalize wc.drew = w27 at BK304 BK305 HB hHeld ⊢
       refine pu_ 0 (some 28) #[true, false, false, false, false, false, false] rfl rfl (by kernel_rfl) ?_
       refine pu_ 2 (some 30) #[true, false, true, false, false, false, false] rfl rfl (by kernel_rfl) ?_
       refine tk6_ 1 (some 29) #[true, true, true, false, false, false, false] rfl rfl (by kernel_rfl) hHeld ?_
       refine tk6_ 3 (some 31) #[true, true, true, true, false, false, false] rfl rfl (by kernel_rfl) hHeld ?_
       refine pu_ 4 (some 32) #[true, true, true, true, true, false, false] rfl rfl (by kernel_rfl) ?_
       refine pu_ 5 (some 33) #[true, true, true, true, true, true, false] rfl rfl (by kernel_rfl) ?_
       refine pu_ 6 (some 27) #[true, true, true, true, true, true, true] rfl rfl (by kernel_rfl) ?_
       refine done_ (by kernel_rfl) ?_
       try go_wp2
       replace BK304 := A_ (blk_drew BK304.out)
       replace BK305 := A_ (blk_drew BK305.out)
       replace HB := A_ (below_drew1 HB.out)
       refine start_ (n := 10) (S := fun w' => w'.cell? ⟨gb305, 0, none⟩ = some (.bool a1_0) ∧ w'.cell? ⟨gb305, 1, none⟩ = some (.int .i64 a1_1) ∧ w'.cell? ⟨gb305, 2, none⟩ = some (.int .i64 a1_2) ∧ w'.cell? ⟨gb305, 3, none⟩ = some (.int .u64 a1_3) ∧ w'.cell? ⟨gb304, 0, none⟩ = some (.int .i64 a0_0) ∧ w'.cell? ⟨gb304, 1, none⟩ = some (.int .i64 a0_1)) (ds := []) #[false, false, false, false, false, false, false, false, false, false] (by kernel_rfl) rfl rfl ⟨bc_ BK305.out 0, bc_ BK305.out 1, bc_ BK305.out 2, bc_ BK305.out 3, bc_ BK304.out 0, bc_ BK304.out 1⟩ (fun hHeld => ?_); refine with_tabW shape_format_finite.tab6 shape_format_finite.bits6 (fun HT_ HW_ => ?_)
       generalize w27.drew = w28 at BK304 BK305 HB hHeld ⊢
       refine pu_ 0 (some 45) #[true, false, false, false, false, false, false, false, false, false] rfl rfl (any_of HT_.out (by kernel_rfl)) ?_
       refine pu_ 2 (some 47) #[true, false, true, false, false, false, false, false, false, false] rfl rfl (any_of HT_.out (by kernel_rfl)) ?_
       refine tk6_ 1 (some 46) #[true, true, true, false, false, false, false, false, false, false] rfl rfl (take_ofW HT_.out HW_.out (by kernel_rfl)) hHeld ?_
       refine pu_ 3 (some 48) #[true, true, true, true, false, false, false, false, false, false] rfl rfl (any_of HT_.out (by kernel_rfl)) ?_
       refine tk6_ 4 (some 49) #[true, true, true, true, true, false, false, false, false, false] rfl rfl (take_ofW HT_.out HW_.out (by kernel_rfl)) hHeld ?_
       refine one_ (i := 5) (N := some 50) #[true, true, true, true, true, true, false, false, false, false] rfl rfl (one_of HT_.out (by kernel_rfl)) (by decide) (fun K hK => ?_)
       refine goes_ Tryz.func37 (by kernel_rfl) rfl #[.agg #[.int .i64 a0_0, .int .i64 a0_1]] (by rfl) rfl rfl mp_ ?_
       with_reducible refine (shape_format_ones.calls a0_0 a0_1 t308 _ A25.out).mono ?_
       rintro e w29 ⟨rfl, hb⟩
       refine ⟨_, rfl, ?_⟩
       replace BK304 := A_ (bb_ BK304.out hb)
       replace BK305 := A_ (bb_ BK305.out hb)
       replace HB := A_ (below_step (hb2_ HB.out GE304.out GE305.out) hb);(try clear hb);(try clear hb2);(try clear hk);(try clear hi)
       refine hK.out _ _ ⟨bc_ BK305.out 0, bc_ BK305.out 1, bc_ BK305.out 2, bc_ BK305.out 3, bc_ BK304.out 0, bc_ BK304.out 1⟩ (fun hHeld => ?_)
       clear hK K
       refine norm_ (a' := ?_) ?_ ?_
       rotate_left
       ·show Act.put _ (some 50) _ = _
        simp only [Act.put, lI_, l0_, lS_, i64_w, i32_w]
        rfl
       refine pu_ 6 (some 51) #[true, true, true, true, true, true, true, false, false, false] rfl rfl (any_of HT_.out (by kernel_rfl)) ?_
       refine pu_ 7 (some 52) #[true, true, true, true, true, true, true, true, false, false] rfl rfl (any_of HT_.out (by kernel_rfl)) ?_
       refine pu_ 8 (some 53) #[true, true, true, true, true, true, true, true, true, false] rfl rfl (any_of HT_.out (by kernel_rfl)) ?_
       refine pu_ 9 (some 44) #[true, true, true, true, true, true, true, true, true, true] rfl rfl (any_of HT_.out (by kernel_rfl)) ?_
       refine done_ (done_of HT_.out (by kernel_rfl)) ?_
       try go_wp2
       go_ret2
       exact ⟨by first | rfl | (simp [errW_none, errW_some] <;> rfl) | (simp only [← hji19]; first | rfl | (simp [errW_none, errW_some] <;> rfl)) | (simp [*, errW_none, errW_some] <;> rfl), hb2_ HB.out GE304.out GE305.out⟩
      ·rw [if_neg c26] at H
       have c26b0 : decide ((wrap64 ((wrap64 (t308)) - 2)) < (wrap64 (a1_2 - t306))) = false := decide_eq_false c26
       clear c26
       have c30b0 := eq_true (of_decide_eq_true (by first | (with_reducible assumption) | assumption) : 0 ≤ a0_1)
       replace H := ob_ H
       obtain ⟨t309, A310, H⟩ := H
       replace H : (some (t309, true)) = some (r1, r2) := H
       have A31 := A_ A310;clear A310
       simp only [Option.some.injEq, Prod.mk.injEq] at H
       obtain ⟨rfl, rfl⟩ := H
       try go_wp2
       replace BK304 := A_ (blk_drew BK304.out)
       replace BK305 := A_ (blk_drew BK305.out)
       replace HB := A_ (below_drew1 HB.out)
       refine start_ (n := 7) (S := fun w' => w'.cell? ⟨gb305, 0, none⟩ = some (.bool a1_0) ∧ w'.cell? ⟨gb305, 1, none⟩ = some (.int .i64 a1_1) ∧ w'.cell? ⟨gb305, 2, none⟩ = some (.int .i64 a1_2) ∧ w'.cell? ⟨gb305, 3, none⟩ = some (.int .u64 a1_3) ∧ w'.cell? ⟨gb304, 0, none⟩ = some (.int .i64 a0_0) ∧ w'.cell? ⟨gb304, 1, none⟩ = some (.int .i64 a0_1)) (ds := []) #[false, false, false, false, false, false, false] (by kernel_rfl) rfl rfl ⟨bc_ BK305.out 0, bc_ BK305.out 1, bc_ BK305.out 2, bc_ BK305.out 3, bc_ BK304.out 0, bc_ BK304.out 1⟩ (fun hHeld => ?_)
       generalize wc.drew = w32 at BK304 BK305 HB hHeld ⊢
       refine pu_ 0 (some 28) #[true, false, false, false, false, false, false] rfl rfl (by kernel_rfl) ?_
       refine pu_ 2 (some 30) #[true, false, true, false, false, false, false] rfl rfl (by kernel_rfl) ?_
       refine tk6_ 1 (some 29) #[true, true, true, false, false, false, false] rfl rfl (by kernel_rfl) hHeld ?_
       refine tk6_ 3 (some 31) #[true, true, true, true, false, false, false] rfl rfl (by kernel_rfl) hHeld ?_
       refine pu_ 4 (some 32) #[true, true, true, true, true, false, false] rfl rfl (by kernel_rfl) ?_
       refine pu_ 5 (some 33) #[true, true, true, true, true, true, false] rfl rfl (by kernel_rfl) ?_
       refine pu_ 6 (some 27) #[true, true, true, true, true, true, true] rfl rfl (by kernel_rfl) ?_
       refine done_ (by kernel_rfl) ?_
       try go_wp2
       replace BK304 := A_ (blk_drew BK304.out)
       replace BK305 := A_ (blk_drew BK305.out)
       replace HB := A_ (below_drew1 HB.out)
       refine start_ (n := 10) (S := fun w' => w'.cell? ⟨gb305, 0, none⟩ = some (.bool a1_0) ∧ w'.cell? ⟨gb305, 1, none⟩ = some (.int .i64 a1_1) ∧ w'.cell? ⟨gb305, 2, none⟩ = some (.int .i64 a1_2) ∧ w'.cell? ⟨gb305, 3, none⟩ = some (.int .u64 a1_3) ∧ w'.cell? ⟨gb304, 0, none⟩ = some (.int .i64 a0_0) ∧ w'.cell? ⟨gb304, 1, none⟩ = some (.int .i64 a0_1)) (ds := []) #[false, false, false, false, false, false, false, false, false, false] (by kernel_rfl) rfl rfl ⟨bc_ BK305.out 0, bc_ BK305.out 1, bc_ BK305.out 2, bc_ BK305.out 3, bc_ BK304.out 0, bc_ BK304.out 1⟩ (fun hHeld => ?_); refine with_tabW shape_format_finite.tab6 shape_format_finite.bits6 (fun HT_ HW_ => ?_)
       generalize w32.drew = w33 at BK304 BK305 HB hHeld ⊢
       refine pu_ 0 (some 45) #[true, false, false, false, false, false, false, false, false, false] rfl rfl (any_of HT_.out (by kernel_rfl)) ?_
       refine pu_ 2 (some 47) #[true, false, true, false, false, false, false, false, false, false] rfl rfl (any_of HT_.out (by kernel_rfl)) ?_
       refine tk6_ 1 (some 46) #[true, true, true, false, false, false, false, false, false, false] rfl rfl (take_ofW HT_.out HW_.out (by kernel_rfl)) hHeld ?_
       refine pu_ 3 (some 48) #[true, true, true, true, false, false, false, false, false, false] rfl rfl (any_of HT_.out (by kernel_rfl)) ?_
       refine tk6_ 4 (some 49) #[true, true, true, true, true, false, false, false, false, false] rfl rfl (take_ofW HT_.out HW_.out (by kernel_rfl)) hHeld ?_
       refine one_ (i := 5) (N := some 50) #[true, true, true, true, true, true, false, false, false, false] rfl rfl (one_of HT_.out (by kernel_rfl)) (by decide) (fun K hK => ?_)
       refine goes_ Tryz.func37 (by kernel_rfl) rfl #[.agg #[.int .i64 a0_0, .int .i64 a0_1]] (by rfl) rfl rfl mp_ ?_
       with_reducible refine (shape_format_ones.calls a0_0 a0_1 t308 _ A25.out).mono ?_
       rintro e w34 ⟨rfl, hb⟩
       refine ⟨_, rfl, ?_⟩
       replace BK304 := A_ (bb_ BK304.out hb)
       replace BK305 := A_ (bb_ BK305.out hb)
       replace HB := A_ (below_step (hb2_ HB.out GE304.out GE305.out) hb);(try clear hb);(try clear hb2);(try clear hk);(try clear hi)
       refine hK.out _ _ ⟨bc_ BK305.out 0, bc_ BK305.out 1, bc_ BK305.out 2, bc_ BK305.out 3, bc_ BK304.out 0, bc_ BK304.out 1⟩ (fun hHeld => ?_)
       clear hK K
       refine norm_ (a' := ?_) ?_ ?_
       rotate_left
       ·show Act.put _ (some 50) _ = _
        simp only [Act.put, lI_, l0_, lS_, i64_w, i32_w]
        rfl
       refine pu_ 6 (some 51) #[true, true, true, true, true, true, true, false, false, false] rfl rfl (any_of HT_.out (by kernel_rfl)) ?_
       refine pu_ 7 (some 52) #[true, true, true, true, true, true, true, true, false, false] rfl rfl (any_of HT_.out (by kernel_rfl)) ?_
       refine pu_ 8 (some 53) #[true, true, true, true, true, true, true, true, true, false] rfl rfl (any_of HT_.out (by kernel_rfl)) ?_
       refine pu_ 9 (some 44) #[true, true, true, true, true, true, true, true, true, true] rfl rfl (any_of HT_.out (by kernel_rfl)) ?_
       refine done_ (done_of HT_.out (by kernel_rfl)) ?_
       try go_wp2
       replace BK304 := A_ (blk_drew BK304.out)
       replace BK305 := A_ (blk_drew BK305.out)
       replace HB := A_ (below_drew1 HB.out)
       refine start_ (n := 19) (S := fun w' => w'.cell? ⟨gb304, 0, none⟩ = some (.int .i64 a0_0) ∧ w'.cell? ⟨gb304, 1, none⟩ = some (.int .i64 a0_1) ∧ w'.cell? ⟨gb305, 0, none⟩ = some (.bool a1_0) ∧ w'.cell? ⟨gb305, 1, none⟩ = some (.int .i64 a1_1) ∧ w'.cell? ⟨gb305, 2, none⟩ = some (.int .i64 a1_2) ∧ w'.cell? ⟨gb305, 3, none⟩ = some (.int .u64 a1_3)) (ds := []) #[false, false, false, false, false, false, false, false, false, false, false, false, false, false, false, false, false, false, false] (by kernel_rfl) rfl rfl ⟨bc_ BK304.out 0, bc_ BK304.out 1, bc_ BK305.out 0, bc_ BK305.out 1, bc_ BK305.out 2, bc_ BK305.out 3⟩ (fun hHeld => ?_); refine with_tabW shape_format_finite.tab8 shape_format_finite.bits8 (fun HT_ HW_ => ?_)
       generalize w34.drew = w35 at BK304 BK305 HB hHeld ⊢
       refine pu_ 1 (some 55) #[false, true, false, false, false, false, false, false, false, false, false, false, false, false, false, false, false, false, false] rfl rfl (any_of HT_.out (by kernel_rfl)) ?_
       refine pu_ 3 (some 57) #[false, true, false, true, false, false, false, false, false, false, false, false, false, false, false, false, false, false, false] rfl rfl (any_of HT_.out (by kernel_rfl)) ?_
       refine pu_ 5 (some 59) #[false, true, false, true, false, true, false, false, false, false, false, false, false, false, false, false, false, false, false] rfl rfl (any_of HT_.out (by kernel_rfl)) ?_
       refine pu_ 9 (some 63) #[false, true, false, true, false, true, false, false, false, true, false, false, false, false, false, false, false, false, false] rfl rfl (any_of HT_.out (by kernel_rfl)) ?_
       refine pu_ 11 (some 65) #[false, true, false, true, false, true, false, false, false, true, false, true, false, false, false, false, false, false, false] rfl rfl (any_of HT_.out (by kernel_rfl)) ?_
       refine tk6_ 0 (some 54) #[true, true, false, true, false, true, false, false, false, true, false, true, false, false, false, false, false, false, false] rfl rfl (take_ofW HT_.out HW_.out (by kernel_rfl)) hHeld ?_
       refine tk6_ 2 (some 56) #[true, true, true, true, false, true, false, false, false, true, false, true, false, false, false, false, false, false, false] rfl rfl (take_ofW HT_.out HW_.out (by kernel_rfl)) hHeld ?_
       refine tk6_ 4 (some 58) #[true, true, true, true, true, true, false, false, false, true, false, true, false, false, false, false, false, false, false] rfl rfl (take_ofW HT_.out HW_.out (by kernel_rfl)) hHeld ?_
       refine pu_ 6 (some 60) #[true, true, true, true, true, true, true, false, false, true, false, true, false, false, false, false, false, false, false] rfl rfl (any_of HT_.out (by kernel_rfl)) ?_
       refine pu_ 7 (some 61) #[true, true, true, true, true, true, true, true, false, true, false, true, false, false, false, false, false, false, false] rfl rfl (any_of HT_.out (by kernel_rfl)) ?_
       refine pu_ 8 (some 62) #[true, true, true, true, true, true, true, true, true, true, false, true, false, false, false, false, false, false, false] rfl rfl (any_of HT_.out (by kernel_rfl)) ?_
       refine tk6_ 10 (some 64) #[true, true, true, true, true, true, true, true, true, true, true, true, false, false, false, false, false, false, false] rfl rfl (take_ofW HT_.out HW_.out (by kernel_rfl)) hHeld ?_
       refine tk6_ 12 (some 66) #[true, true, true, true, true, true, true, true, true, true, true, true, true, false, false, false, false, false, false] rfl rfl (take_ofW HT_.out HW_.out (by kernel_rfl)) hHeld ?_
       refine pu_ 13 (some 67) #[true, true, true, true, true, true, true, true, true, true, true, true, true, true, false, false, false, false, false] rfl rfl (any_of HT_.out (by kernel_rfl)) ?_
       refine pu_ 14 (some 68) #[true, true, true, true, true, true, true, true, true, true, true, true, true, true, true, false, false, false, false] rfl rfl (any_of HT_.out (by kernel_rfl)) ?_
       refine pu_ 15 (some 69) #[true, true, true, true, true, true, true, true, true, true, true, true, true, true, true, true, false, false, false] rfl rfl (any_of HT_.out (by kernel_rfl)) ?_
       refine one_ (i := 16) (N := some 70) #[true, true, true, true, true, true, true, true, true, true, true, true, true, true, true, true, true, false, false] rfl rfl (one_of HT_.out (by kernel_rfl)) (by decide) (fun K hK => ?_)
       refine goes_ Tryz.func99 (by kernel_rfl) rfl #[.agg #[.int .i64 a0_0, .int .i64 a0_1], .bool a1_0, .int .u64 (IntKind.u64.wrap ((IntKind.u64.wrap (wrap64 (a1_2 - t306))) + 1)), .int .u64 (Go.bits .and .u64 a1_3 (IntKind.u64.wrap ((ji19) - 1)))] (by rfl) rfl rfl (by (try simp only [List.map_toArray, List.map_cons, List.map_nil]); first | done | (simp only [hji19]; rfl) | rfl | (simp only [List.length_drop, List.length_take]; rfl)) ?_
       with_reducible refine (shape_format_join.calls a0_0 a0_1 a1_0 (IntKind.u64.wrap ((IntKind.u64.wrap (wrap64 (a1_2 - t306))) + 1)) (Go.bits .and .u64 a1_3 (IntKind.u64.wrap ((ji19) - 1))) t309 _ A31.out).mono ?_
       rintro e w36 ⟨rfl, hb⟩
       refine ⟨_, rfl, ?_⟩
       replace BK304 := A_ (bb_ BK304.out hb)
       replace BK305 := A_ (bb_ BK305.out hb)
       replace HB := A_ (below_step (hb2_ HB.out GE304.out GE305.out) hb);(try clear hb);(try clear hb2);(try clear hk);(try clear hi)
       refine hK.out _ _ ⟨bc_ BK304.out 0, bc_ BK304.out 1, bc_ BK305.out 0, bc_ BK305.out 1, bc_ BK305.out 2, bc_ BK305.out 3⟩ (fun hHeld => ?_)
       clear hK K
       refine norm_ (a' := ?_) ?_ ?_
       rotate_left
       ·show Act.put _ (some 70) _ = _
        simp only [Act.put, lI_, l0_, lS_, i64_w, i32_w]
        rfl
       refine pu_ 17 (some 4) #[true, true, true, true, true, true, true, true, true, true, true, true, true, true, true, true, true, true, false] rfl rfl (any_of HT_.out (by kernel_rfl)) ?_
       refine pu_ 18 (some 5) #[true, true, true, true, true, true, true, true, true, true, true, true, true, true, true, true, true, true, true] rfl rfl (any_of HT_.out (by kernel_rfl)) ?_
       refine done_ (done_of HT_.out (by kernel_rfl)) ?_
       try go_wp2
       go_ret2
       exact ⟨by first | rfl | (simp [errW_none, errW_some] <;> rfl) | (simp only [← hji19]; first | rfl | (simp [errW_none, errW_some] <;> rfl)) | (simp [*, errW_none, errW_some] <;> rfl), hb2_ HB.out GE304.out GE305.out⟩
    ·rw [if_neg c18] at H
     exact absurd H (by simp)
def shape_Close.j0 : Nat → Int → Bool → Bool → Int → Int → Int → Option (Int × Int)
 | 0, _, _, _, _, _, _ => none
 | k + 1, x0, x36, x311000, x311001, x311002, x311003 => if x36 = true then (some (0, 2)) else (if x311001 = 0 then ((shape_Zero.f x0 x311000).bind fun t317 => (some (t317, 0))) else (if x311001 = 2 then ((shape_Inf.f x0 x311000).bind fun t318 => (some (t318, 0))) else (if x311001 = 3 then ((shape_Nan.f x0).bind fun t319 => (some (t319, 0))) else (some (0, 2)))))
def shape_Close.f (k : Nat) (a0 : Int) (a1_0 : Bool) (a1_1 : Int) (a1_2 : Int) (a1_3 : Int) : Option (Int × Int) := (shape_of.f a0).bind fun bt311 => (if bt311.2.2 = true then (if a1_1 = 1 then ((shape_format_finite.f k bt311.1 bt311.2.1 a1_0 a1_1 a1_2 a1_3).bind fun bt315 => (if bt315.2 = true then (some (bt315.1, 0)) else (some (0, 2)))) else (if a1_3 = 0 then (shape_Close.j0 k a0 (a1_2 != 0) a1_0 a1_1 a1_2 a1_3) else (shape_Close.j0 k a0 true a1_0 a1_1 a1_2 a1_3))) else (some (0, 2)))
theorem shape_Close.mono_l : ∀ k, (∀ y0 y1 y2 y3 y4 y5, LeO (shape_Close.j0 k y0 y1 y2 y3 y4 y5) (shape_Close.j0 (k + 1) y0 y1 y2 y3 y4 y5))
 | 0 => fun _ _ _ _ _ _ r h => by simp [shape_Close.j0] at h
 | k + 1 => by
  have ih0 := shape_Close.mono_l k
  ·intro y0 y1 y2 y3 y4 y5
   unfold shape_Close.j0
   repeat' first
   | (with_reducible exact ih0 _ _ _ _ _ _)
   | (with_reducible exact shape_format_finite.mono _ _ _ _ _ _ _)
   | (with_reducible exact LeO.refl _)
   | (with_reducible exact LeO.none _)
   | (with_reducible refine LeO.ite ?_ ?_)
   | (with_reducible refine LeO.bind ?_ (fun _ => ?_))
   | exact ih0 _ _ _ _ _ _
   | exact shape_format_finite.mono _ _ _ _ _ _ _
   | exact LeO.none _
   | refine LeO.ite ?_ ?_
   | refine LeO.bind ?_ (fun _ => ?_)
theorem shape_Close.mono : ∀ a0 a1 a2 a3 a4 k, LeO (shape_Close.f k a0 a1 a2 a3 a4) (shape_Close.f (k + 1) a0 a1 a2 a3 a4) := by
 intro a0 a1 a2 a3 a4 k
 have ih0 := shape_Close.mono_l k
 unfold shape_Close.f
 repeat' first
   | (with_reducible exact ih0 _ _ _ _ _ _)
   | (with_reducible exact shape_format_finite.mono _ _ _ _ _ _ _)
   | (with_reducible exact LeO.refl _)
   | (with_reducible exact LeO.none _)
   | (with_reducible refine LeO.ite ?_ ?_)
   | (with_reducible refine LeO.bind ?_ (fun _ => ?_))
   | exact ih0 _ _ _ _ _ _
   | exact shape_format_finite.mono _ _ _ _ _ _ _
   | exact LeO.none _
   | refine LeO.ite ?_ ?_
   | refine LeO.bind ?_ (fun _ => ?_)
theorem shape_Close.calls (k : Nat) (a0 : Int) (a1_0 : Bool) (a1_1 : Int) (a1_2 : Int) (a1_3 : Int) (r1 : Int) (r2 : Int) (w : World) (h : shape_Close.f k a0 a1_0 a1_1 a1_2 a1_3 = some (r1, r2)) :
  Calls Tryz.prog 259 #[.int .i64 a0, .agg #[.bool a1_0, .int .i64 a1_1, .int .i64 a1_2, .int .u64 a1_3]] w fun e w' => e = .returned (.tuple #[.int .u64 r1, .int .i64 r2]) ∧ Below w.heap.size w w' := by
 have hu27 := Tryz.underlying27
 have hu65 := Tryz.underlying65
 have HB := A_ (Below.refl w.heap.size w)
 have H : ((shape_of.f a0).bind fun bt311 => (if bt311.2.2 = true then (if a1_1 = 1 then ((shape_format_finite.f k bt311.1 bt311.2.1 a1_0 a1_1 a1_2 a1_3).bind fun bt315 => (if bt315.2 = true then (some (bt315.1, 0)) else (some (0, 2)))) else (if a1_3 = 0 then (shape_Close.j0 k a0 (a1_2 != 0) a1_0 a1_1 a1_2 a1_3) else (shape_Close.j0 k a0 true a1_0 a1_1 a1_2 a1_3))) else (some (0, 2)))) = some (r1, r2) := h
 clear h
 replace H := ob_ H
 obtain ⟨⟨t311, t312, t313⟩, A30, H⟩ := H
 replace H : (if t313 = true then (if a1_1 = 1 then ((shape_format_finite.f k t311 t312 a1_0 a1_1 a1_2 a1_3).bind fun bt315 => (if bt315.2 = true then (some (bt315.1, 0)) else (some (0, 2)))) else (if a1_3 = 0 then (shape_Close.j0 k a0 (a1_2 != 0) a1_0 a1_1 a1_2 a1_3) else (shape_Close.j0 k a0 true a1_0 a1_1 a1_2 a1_3))) else (some (0, 2))) = some (r1, r2) := H
 have A3 := A_ A30;clear A30
 by_cases c4 : t313 = true
 ·subst c4
  have H1 : (if a1_1 = 1 then ((shape_format_finite.f k t311 t312 a1_0 a1_1 a1_2 a1_3).bind fun bt315 => (if bt315.2 = true then (some (bt315.1, 0)) else (some (0, 2)))) else (if a1_3 = 0 then (shape_Close.j0 k a0 (a1_2 != 0) a1_0 a1_1 a1_2 a1_3) else (shape_Close.j0 k a0 true a1_0 a1_1 a1_2 a1_3))) = some (r1, r2) := by rw [if_pos rfl] at H; exact H
  clear H;have H := H1;clear H1
  by_cases c5 : a1_1 = 1
  ·rw [if_pos c5] at H
   have c5b0 : (a1_1 == 1) = true := beq_iff_eq.mpr c5
   have c5b1 : (a1_1 != 1) = false := bne_eq_false_iff_eq.mpr c5
   clear c5
   replace H := ob_ H
   obtain ⟨⟨t315, t316⟩, A60, H⟩ := H
   replace H : (if t316 = true then (some (t315, 0)) else (some (0, 2))) = some (r1, r2) := H
   have A6 := A_ A60;clear A60
   by_cases c7 : t316 = true
   ·subst c7
    have H1 : (some (t315, 0)) = some (r1, r2) := by rw [if_pos rfl] at H; exact H
    clear H;have H := H1;clear H1
    simp only [Option.some.injEq, Prod.mk.injEq] at H
    obtain ⟨rfl, rfl⟩ := H
    go_enter Tryz.func259, Tryz.ntmps259
    go_wp2_with (first | ((with_reducible refine gate_dst (N := 3) rfl ?_); refine be_ 3 #[.bool a1_0, .int .i64 a1_1, .int .i64 a1_2, .int .u64 a1_3] 27 ?_; intro gb310 hg w8 hbox hb; have BK310 := A_ (hbox); have GW310 := A_ (sz_ hg (hb_ HB.out)); have GE310 := A_ (sz_ hg (hb_ HB.out)); replace HB := A_ (below_step (hb_ HB.out) hb); clear hb hbox hg) | ((with_reducible refine gate_callee (f := 35) rfl ?_); refine goesL_ (some 12) rfl rfl Tryz.func35 (by kernel_rfl) rfl #[.int .i64 a0] rfl mp_ ?_; (with_reducible refine (shape_of.calls a0 t311 t312 true _ A3.out).mono ?_); rintro e w9 ⟨rfl, hb⟩; refine ⟨_, rfl, ?_⟩; replace BK310 := A_ (bb_ BK310.out hb); replace HB := A_ (below_step (hb1_ HB.out GE310.out) hb); (try clear hb); (try clear hb2); (try clear hk); (try clear hi)) | ((with_reducible refine gate_dst (N := 6) rfl ?_); refine be_ 6 #[.int .i64 0, .int .i64 0] 65 ?_; intro gb314 hg w10 hbox hb; have BK314 := A_ (hbox); have GW314 := A_ (sz_ hg (hb1_ HB.out GE310.out)); have GE314 := A_ (sz_ hg (hb1_ HB.out GE310.out)); have NB310_314 := A_ (nl_ hg BK310.out); have NB314_310 := A_ (ng_ hg BK310.out); replace BK310 := A_ (bb_ BK310.out hb); replace HB := A_ (below_step (hb1_ HB.out GE310.out) hb); clear hb hbox hg; have hnb11 := NB314_310.out; have hnc11 := NB310_314.out; have hcz12_0 := bv_ BK314.out 0; have hcz12_1 := bv_ BK314.out 1; have hfz12_0 := blk_frozen BK314.out 0; have hfz12_1 := blk_frozen BK314.out 1; have hcz13_0 := bv_ BK310.out 0; have hcz13_1 := bv_ BK310.out 1; have hcz13_2 := bv_ BK310.out 2; have hcz13_3 := bv_ BK310.out 3; have hfz13_0 := blk_frozen BK310.out 0; have hfz13_1 := blk_frozen BK310.out 1; have hfz13_2 := blk_frozen BK310.out 2; have hfz13_3 := blk_frozen BK310.out 3) | ((with_reducible refine gate_callee (f := 266) rfl ?_); refine goesL_ (some 23) rfl rfl Tryz.func266 (by kernel_rfl) rfl #[.agg #[.int .i64 t311, .int .i64 t312], .agg #[.bool a1_0, .int .i64 a1_1, .int .i64 a1_2, .int .u64 a1_3]] rfl mp_ ?_; (with_reducible refine (shape_format_finite.calls k t311 t312 a1_0 a1_1 a1_2 a1_3 t315 true _ A6.out).mono ?_); rintro e w14 ⟨rfl, hb⟩; refine ⟨_, rfl, ?_⟩; replace BK310 := A_ (blk_below (g := gb310) (o := .cells #[.bool a1_0, .int .i64 a1_1, .int .i64 a1_2, .int .u64 a1_3] 27 (0, 0)) (bf2_ BK310.out NB310_314.out NB310_314.out) hb); replace BK314 := A_ (blk_below (g := gb314) (o := .cells #[.int .i64 t311, .int .i64 t312] 65 (0, 0)) (by (with_reducible repeat (first | refine blk_drewN ?_ _ | refine blk_drew ?_ | refine blk_alloc ?_ _)); refine blk_put (cs := #[.int .i64 t311, .int .i64 0]) ?_ 1 _ rfl; (with_reducible repeat (first | refine blk_drewN ?_ _ | refine blk_drew ?_ | refine blk_alloc ?_ _)); refine blk_put (cs := #[.int .i64 0, .int .i64 0]) ?_ 0 _ rfl; (with_reducible repeat (first | refine blk_drewN ?_ _ | refine blk_drew ?_ | refine blk_alloc ?_ _)); exact BK314.out) hb); replace HB := A_ (below_step (hb2_ HB.out GE310.out GE314.out) hb); (try clear hb); (try clear hb2); (try clear hk); (try clear hi)))
    go_ret2
    exact ⟨er_, hb2_ HB.out GE310.out GE314.out⟩
   ·replace c7 := Bool.eq_false_iff.mpr c7
    subst c7
    have H1 : (some (0, 2)) = some (r1, r2) := by rw [if_neg (show ¬ (false = true) by decide)] at H; exact H
    clear H;have H := H1;clear H1
    simp only [Option.some.injEq, Prod.mk.injEq] at H
    obtain ⟨rfl, rfl⟩ := H
    go_enter Tryz.func259, Tryz.ntmps259
    go_wp2_with (first | ((with_reducible refine gate_dst (N := 3) rfl ?_); refine be_ 3 #[.bool a1_0, .int .i64 a1_1, .int .i64 a1_2, .int .u64 a1_3] 27 ?_; intro gb310 hg w15 hbox hb; have BK310 := A_ (hbox); have GW310 := A_ (sz_ hg (hb_ HB.out)); have GE310 := A_ (sz_ hg (hb_ HB.out)); replace HB := A_ (below_step (hb_ HB.out) hb); clear hb hbox hg) | ((with_reducible refine gate_callee (f := 35) rfl ?_); refine goesL_ (some 12) rfl rfl Tryz.func35 (by kernel_rfl) rfl #[.int .i64 a0] rfl mp_ ?_; (with_reducible refine (shape_of.calls a0 t311 t312 true _ A3.out).mono ?_); rintro e w16 ⟨rfl, hb⟩; refine ⟨_, rfl, ?_⟩; replace BK310 := A_ (bb_ BK310.out hb); replace HB := A_ (below_step (hb1_ HB.out GE310.out) hb); (try clear hb); (try clear hb2); (try clear hk); (try clear hi)) | ((with_reducible refine gate_dst (N := 6) rfl ?_); refine be_ 6 #[.int .i64 0, .int .i64 0] 65 ?_; intro gb314 hg w17 hbox hb; have BK314 := A_ (hbox); have GW314 := A_ (sz_ hg (hb1_ HB.out GE310.out)); have GE314 := A_ (sz_ hg (hb1_ HB.out GE310.out)); have NB310_314 := A_ (nl_ hg BK310.out); have NB314_310 := A_ (ng_ hg BK310.out); replace BK310 := A_ (bb_ BK310.out hb); replace HB := A_ (below_step (hb1_ HB.out GE310.out) hb); clear hb hbox hg; have hnb18 := NB314_310.out; have hnc18 := NB310_314.out; have hcz19_0 := bv_ BK314.out 0; have hcz19_1 := bv_ BK314.out 1; have hfz19_0 := blk_frozen BK314.out 0; have hfz19_1 := blk_frozen BK314.out 1; have hcz20_0 := bv_ BK310.out 0; have hcz20_1 := bv_ BK310.out 1; have hcz20_2 := bv_ BK310.out 2; have hcz20_3 := bv_ BK310.out 3; have hfz20_0 := blk_frozen BK310.out 0; have hfz20_1 := blk_frozen BK310.out 1; have hfz20_2 := blk_frozen BK310.out 2; have hfz20_3 := blk_frozen BK310.out 3) | ((with_reducible refine gate_callee (f := 266) rfl ?_); refine goesL_ (some 23) rfl rfl Tryz.func266 (by kernel_rfl) rfl #[.agg #[.int .i64 t311, .int .i64 t312], .agg #[.bool a1_0, .int .i64 a1_1, .int .i64 a1_2, .int .u64 a1_3]] rfl mp_ ?_; (with_reducible refine (shape_format_finite.calls k t311 t312 a1_0 a1_1 a1_2 a1_3 t315 false _ A6.out).mono ?_); rintro e w21 ⟨rfl, hb⟩; refine ⟨_, rfl, ?_⟩; replace BK310 := A_ (blk_below (g := gb310) (o := .cells #[.bool a1_0, .int .i64 a1_1, .int .i64 a1_2, .int .u64 a1_3] 27 (0, 0)) (bf2_ BK310.out NB310_314.out NB310_314.out) hb); replace BK314 := A_ (blk_below (g := gb314) (o := .cells #[.int .i64 t311, .int .i64 t312] 65 (0, 0)) (by (with_reducible repeat (first | refine blk_drewN ?_ _ | refine blk_drew ?_ | refine blk_alloc ?_ _)); refine blk_put (cs := #[.int .i64 t311, .int .i64 0]) ?_ 1 _ rfl; (with_reducible repeat (first | refine blk_drewN ?_ _ | refine blk_drew ?_ | refine blk_alloc ?_ _)); refine blk_put (cs := #[.int .i64 0, .int .i64 0]) ?_ 0 _ rfl; (with_reducible repeat (first | refine blk_drewN ?_ _ | refine blk_drew ?_ | refine blk_alloc ?_ _)); exact BK314.out) hb); replace HB := A_ (below_step (hb2_ HB.out GE310.out GE314.out) hb); (try clear hb); (try clear hb2); (try clear hk); (try clear hi)))
    go_ret2
    exact ⟨er_, hb2_ HB.out GE310.out GE314.out⟩
  ·rw [if_neg c5] at H
   have c5b0 : (a1_1 == 1) = false := beq_eq_false_iff_ne.mpr c5
   have c5b1 : (a1_1 != 1) = true := bne_iff_ne.mpr c5
   have HC22 := A_ H;clear H
   go_enter Tryz.func259, Tryz.ntmps259
   go_upto_region 9 with (first | ((with_reducible refine gate_dst (N := 3) rfl ?_); refine be_ 3 #[.bool a1_0, .int .i64 a1_1, .int .i64 a1_2, .int .u64 a1_3] 27 ?_; intro gb310 hg w23 hbox hb; have BK310 := A_ (hbox); have GW310 := A_ (sz_ hg (hb_ HB.out)); have GE310 := A_ (sz_ hg (hb_ HB.out)); replace HB := A_ (below_step (hb_ HB.out) hb); clear hb hbox hg) | ((with_reducible refine gate_callee (f := 35) rfl ?_); refine goesL_ (some 12) rfl rfl Tryz.func35 (by kernel_rfl) rfl #[.int .i64 a0] rfl mp_ ?_; (with_reducible refine (shape_of.calls a0 t311 t312 true _ A3.out).mono ?_); rintro e w24 ⟨rfl, hb⟩; refine ⟨_, rfl, ?_⟩; replace BK310 := A_ (bb_ BK310.out hb); replace HB := A_ (below_step (hb1_ HB.out GE310.out) hb); (try clear hb); (try clear hb2); (try clear hk); (try clear hi)) | ((with_reducible refine gate_dst (N := 6) rfl ?_); refine be_ 6 #[.int .i64 0, .int .i64 0] 65 ?_; intro gb314 hg w25 hbox hb; have BK314 := A_ (hbox); have GW314 := A_ (sz_ hg (hb1_ HB.out GE310.out)); have GE314 := A_ (sz_ hg (hb1_ HB.out GE310.out)); have NB310_314 := A_ (nl_ hg BK310.out); have NB314_310 := A_ (ng_ hg BK310.out); replace BK310 := A_ (bb_ BK310.out hb); replace HB := A_ (below_step (hb1_ HB.out GE310.out) hb); clear hb hbox hg; have hnb26 := NB314_310.out; have hnc26 := NB310_314.out; have hcz27_0 := bv_ BK314.out 0; have hcz27_1 := bv_ BK314.out 1; have hfz27_0 := blk_frozen BK314.out 0; have hfz27_1 := blk_frozen BK314.out 1; have hcz28_0 := bv_ BK310.out 0; have hcz28_1 := bv_ BK310.out 1; have hcz28_2 := bv_ BK310.out 2; have hcz28_3 := bv_ BK310.out 3; have hfz28_0 := blk_frozen BK310.out 0; have hfz28_1 := blk_frozen BK310.out 1; have hfz28_2 := blk_frozen BK310.out 2; have hfz28_3 := blk_frozen BK310.out 3))
   (try simp only [Act.put, lI_, l0_, lS_])
   go_cut [36] (fun v36 wc => ∃ (kq : Nat) (x36_21 : Bool), v36 = .bool x36_21 ∧ Aside0 (shape_Close.j0 kq a0 x36_21 a1_0 a1_1 a1_2 a1_3 = some (r1, r2)) ∧ Aside0 (kq ≤ k) ∧ Aside0 (wc.heap[gb310]? = some (.cells #[.bool a1_0, .int .i64 a1_1, .int .i64 a1_2, .int .u64 a1_3] 27 (0, 0))) ∧ Aside0 (wc.heap[gb314]? = some (.cells #[.int .i64 t311, .int .i64 t312] 65 (0, 0))) ∧ Aside0 (Below w.heap.size w wc))
   case first =>
    have H := HC22.out
    clear HC22
    by_cases c29 : a1_3 = 0
    ·rw [if_pos c29] at H
     have c29b0 : (a1_3 == 0) = true := beq_iff_eq.mpr c29
     have c29b1 : (a1_3 != 0) = false := bne_eq_false_iff_eq.mpr c29
     clear c29
     (first | rw [c29b0] | (simp only [i64_w, i32_w]; rw [c29b0]) | skip)
     have H' := A_ H
     clear H
     have hnb30 := NB310_314.out
     have hnc30 := NB314_310.out
     have hcz31_0 := bv_ BK310.out 0
     have hcz31_1 := bv_ BK310.out 1
     have hcz31_2 := bv_ BK310.out 2
     have hcz31_3 := bv_ BK310.out 3
     have hfz31_0 := blk_frozen BK310.out 0
     have hfz31_1 := blk_frozen BK310.out 1
     have hfz31_2 := blk_frozen BK310.out 2
     have hfz31_3 := blk_frozen BK310.out 3
     go_wp2
     go_meet
     case rel => exact ⟨_, ((a1_2 != 0)), sm_, H', ⟨by first | omega | exact Nat.le_refl _⟩, ⟨bf2_ BK310.out NB310_314.out NB310_314.out⟩, ⟨by (with_reducible repeat (first | refine blk_drewN ?_ _ | refine blk_drew ?_ | refine blk_alloc ?_ _)); refine blk_put (cs := #[.int .i64 t311, .int .i64 0]) ?_ 1 _ rfl; (with_reducible repeat (first | refine blk_drewN ?_ _ | refine blk_drew ?_ | refine blk_alloc ?_ _)); refine blk_put (cs := #[.int .i64 0, .int .i64 0]) ?_ 0 _ rfl; (with_reducible repeat (first | refine blk_drewN ?_ _ | refine blk_drew ?_ | refine blk_alloc ?_ _)); exact BK314.out⟩, ⟨hb2_ HB.out GE310.out GE314.out⟩⟩
    ·rw [if_neg c29] at H
     have c29b0 : (a1_3 == 0) = false := beq_eq_false_iff_ne.mpr c29
     have c29b1 : (a1_3 != 0) = true := bne_iff_ne.mpr c29
     (first | rw [c29b0] | (simp only [i64_w, i32_w]; rw [c29b0]) | skip)
     have H' := A_ H
     clear H
     have hnb32 := NB310_314.out
     have hnc32 := NB314_310.out
     have hcz33_0 := bv_ BK310.out 0
     have hcz33_1 := bv_ BK310.out 1
     have hcz33_2 := bv_ BK310.out 2
     have hcz33_3 := bv_ BK310.out 3
     have hfz33_0 := blk_frozen BK310.out 0
     have hfz33_1 := blk_frozen BK310.out 1
     have hfz33_2 := blk_frozen BK310.out 2
     have hfz33_3 := blk_frozen BK310.out 3
     go_wp2
     go_meet
     case rel => exact ⟨_, (true), sm_, H', ⟨by first | omega | exact Nat.le_refl _⟩, ⟨bf2_ BK310.out NB310_314.out NB310_314.out⟩, ⟨by (with_reducible repeat (first | refine blk_drewN ?_ _ | refine blk_drew ?_ | refine blk_alloc ?_ _)); refine blk_put (cs := #[.int .i64 t311, .int .i64 0]) ?_ 1 _ rfl; (with_reducible repeat (first | refine blk_drewN ?_ _ | refine blk_drew ?_ | refine blk_alloc ?_ _)); refine blk_put (cs := #[.int .i64 0, .int .i64 0]) ?_ 0 _ rfl; (with_reducible repeat (first | refine blk_drewN ?_ _ | refine blk_drew ?_ | refine blk_alloc ?_ _)); exact BK314.out⟩, ⟨hb2_ HB.out GE310.out GE314.out⟩⟩
   case rest =>
    clear HC22
    try clear c1
    try clear c2
    try clear p2
    try clear c3
    try clear c4
    try clear c5
    try clear c5b0
    try clear c5b1
    try clear c7
    try clear c11
    try clear c18
    try clear c25
    try clear c26
    try clear c29
    try clear c29b0
    try clear c29b1
    try clear c30
    try clear c32
    try clear hcz12_0
    try clear hcz12_1
    try clear hcz13_0
    try clear hcz13_1
    try clear hcz13_2
    try clear hcz13_3
    try clear hcz19_0
    try clear hcz19_1
    try clear hcz20_0
    try clear hcz20_1
    try clear hcz20_2
    try clear hcz20_3
    try clear hcz27_0
    try clear hcz27_1
    try clear hcz28_0
    try clear hcz28_1
    try clear hcz28_2
    try clear hcz28_3
    try clear hcz31_0
    try clear hcz31_1
    try clear hcz31_2
    try clear hcz31_3
    try clear hcz33_0
    try clear hcz33_1
    try clear hcz33_2
    try clear hcz33_3
    try clear hfz12_0
    try clear hfz12_1
    try clear hfz13_0
    try clear hfz13_1
    try clear hfz13_2
    try clear hfz13_3
    try clear hfz19_0
    try clear hfz19_1
    try clear hfz20_0
    try clear hfz20_1
    try clear hfz20_2
    try clear hfz20_3
    try clear hfz27_0
    try clear hfz27_1
    try clear hfz28_0
    try clear hfz28_1
    try clear hfz28_2
    try clear hfz28_3
    try clear hfz31_0
    try clear hfz31_1
    try clear hfz31_2
    try clear hfz31_3
    try clear hfz33_0
    try clear hfz33_1
    try clear hfz33_2
    try clear hfz33_3
    obtain ⟨kq, x36_21, rfl, HA, HJ21, BK310, BK314, HB⟩ := hcut
    cases kq with
    | zero => exact absurd HA.out (by simp [shape_Close.j0])
    | succ kj21 =>
     have H := HA.out
     clear HA
     simp only [shape_Close.j0] at H
     by_cases c34 : x36_21 = true
     ·subst c34
      have H1 : (some (0, 2)) = some (r1, r2) := by rw [if_pos rfl] at H; exact H
      clear H;have H := H1;clear H1
      simp only [Option.some.injEq, Prod.mk.injEq] at H
      obtain ⟨rfl, rfl⟩ := H
      go_wp2
      go_ret2
      exact ⟨er_, hb2_ HB.out GE310.out GE314.out⟩
     ·replace c34 := Bool.eq_false_iff.mpr c34
      subst c34
      have H1 : (if a1_1 = 0 then ((shape_Zero.f a0 a1_0).bind fun t317 => (some (t317, 0))) else (if a1_1 = 2 then ((shape_Inf.f a0 a1_0).bind fun t318 => (some (t318, 0))) else (if a1_1 = 3 then ((shape_Nan.f a0).bind fun t319 => (some (t319, 0))) else (some (0, 2))))) = some (r1, r2) := by rw [if_neg (show ¬ (false = true) by decide)] at H; exact H
      clear H;have H := H1;clear H1
      by_cases c35 : a1_1 = 0
      ·rw [if_pos c35] at H
       have c35b0 : (a1_1 == 0) = true := beq_iff_eq.mpr c35
       have c35b1 : (a1_1 != 0) = false := bne_eq_false_iff_eq.mpr c35
       clear c35
       replace H := ob_ H
       obtain ⟨t317, A360, H⟩ := H
       replace H : (some (t317, 0)) = some (r1, r2) := H
       have A36 := A_ A360;clear A360
       simp only [Option.some.injEq, Prod.mk.injEq] at H
       obtain ⟨rfl, rfl⟩ := H
       have hnb37 := NB310_314.out
       have hnc37 := NB314_310.out
       have hcz38_0 := bv_ BK310.out 0
       have hcz38_1 := bv_ BK310.out 1
       have hcz38_2 := bv_ BK310.out 2
       have hcz38_3 := bv_ BK310.out 3
       have hfz38_0 := blk_frozen BK310.out 0
       have hfz38_1 := blk_frozen BK310.out 1
       have hfz38_2 := blk_frozen BK310.out 2
       have hfz38_3 := blk_frozen BK310.out 3
       go_wp2_with (first | ((with_reducible refine gate_callee (f := 145) rfl ?_); refine goesL_ (some 44) rfl rfl Tryz.func145 (by kernel_rfl) rfl #[.int .i64 a0, .bool a1_0] rfl mp_ ?_; (with_reducible refine (shape_Zero.calls a0 a1_0 t317 _ A36.out).mono ?_); rintro e w39 ⟨rfl, hb⟩; refine ⟨_, rfl, ?_⟩; replace BK310 := A_ (bb_ BK310.out hb); replace BK314 := A_ (bb_ BK314.out hb); replace HB := A_ (below_step (hb2_ HB.out GE310.out GE314.out) hb); (try clear hb); (try clear hb2); (try clear hk); (try clear hi)))
       go_ret2
       exact ⟨er_, hb2_ HB.out GE310.out GE314.out⟩
      ·rw [if_neg c35] at H
       have c35b0 : (a1_1 == 0) = false := beq_eq_false_iff_ne.mpr c35
       have c35b1 : (a1_1 != 0) = true := bne_iff_ne.mpr c35
       by_cases c40 : a1_1 = 2
       ·rw [if_pos c40] at H
        have c40b0 : (a1_1 == 2) = true := beq_iff_eq.mpr c40
        have c40b1 : (a1_1 != 2) = false := bne_eq_false_iff_eq.mpr c40
        clear c40
        replace H := ob_ H
        obtain ⟨t318, A410, H⟩ := H
        replace H : (some (t318, 0)) = some (r1, r2) := H
        have A41 := A_ A410;clear A410
        simp only [Option.some.injEq, Prod.mk.injEq] at H
        obtain ⟨rfl, rfl⟩ := H
        have hnb42 := NB310_314.out
        have hnc42 := NB314_310.out
        have hcz43_0 := bv_ BK310.out 0
        have hcz43_1 := bv_ BK310.out 1
        have hcz43_2 := bv_ BK310.out 2
        have hcz43_3 := bv_ BK310.out 3
        have hfz43_0 := blk_frozen BK310.out 0
        have hfz43_1 := blk_frozen BK310.out 1
        have hfz43_2 := blk_frozen BK310.out 2
        have hfz43_3 := blk_frozen BK310.out 3
        go_wp2_with (first | ((with_reducible refine gate_callee (f := 147) rfl ?_); refine goesL_ (some 50) rfl rfl Tryz.func147 (by kernel_rfl) rfl #[.int .i64 a0, .bool a1_0] rfl mp_ ?_; (with_reducible refine (shape_Inf.calls a0 a1_0 t318 _ A41.out).mono ?_); rintro e w44 ⟨rfl, hb⟩; refine ⟨_, rfl, ?_⟩; replace BK310 := A_ (bb_ BK310.out hb); replace BK314 := A_ (bb_ BK314.out hb); replace HB := A_ (below_step (hb2_ HB.out GE310.out GE314.out) hb); (try clear hb); (try clear hb2); (try clear hk); (try clear hi)))
        go_ret2
        exact ⟨er_, hb2_ HB.out GE310.out GE314.out⟩
       ·rw [if_neg c40] at H
        have c40b0 : (a1_1 == 2) = false := beq_eq_false_iff_ne.mpr c40
        have c40b1 : (a1_1 != 2) = true := bne_iff_ne.mpr c40
        by_cases c45 : a1_1 = 3
        ·rw [if_pos c45] at H
         have c45b0 : (a1_1 == 3) = true := beq_iff_eq.mpr c45
         have c45b1 : (a1_1 != 3) = false := bne_eq_false_iff_eq.mpr c45
         clear c45
         replace H := ob_ H
         obtain ⟨t319, A460, H⟩ := H
         replace H : (some (t319, 0)) = some (r1, r2) := H
         have A46 := A_ A460;clear A460
         simp only [Option.some.injEq, Prod.mk.injEq] at H
         obtain ⟨rfl, rfl⟩ := H
         have hnb47 := NB310_314.out
         have hnc47 := NB314_310.out
         have hcz48_0 := bv_ BK310.out 0
         have hcz48_1 := bv_ BK310.out 1
         have hcz48_2 := bv_ BK310.out 2
         have hcz48_3 := bv_ BK310.out 3
         have hfz48_0 := blk_frozen BK310.out 0
         have hfz48_1 := blk_frozen BK310.out 1
         have hfz48_2 := blk_frozen BK310.out 2
         have hfz48_3 := blk_frozen BK310.out 3
         go_wp2_with (first | ((with_reducible refine gate_callee (f := 146) rfl ?_); refine goesL_ (some 54) rfl rfl Tryz.func146 (by kernel_rfl) rfl #[.int .i64 a0] rfl mp_ ?_; (with_reducible refine (shape_Nan.calls a0 t319 _ A46.out).mono ?_); rintro e w49 ⟨rfl, hb⟩; refine ⟨_, rfl, ?_⟩; replace BK310 := A_ (bb_ BK310.out hb); replace BK314 := A_ (bb_ BK314.out hb); replace HB := A_ (below_step (hb2_ HB.out GE310.out GE314.out) hb); (try clear hb); (try clear hb2); (try clear hk); (try clear hi)))
         go_ret2
         exact ⟨er_, hb2_ HB.out GE310.out GE314.out⟩
        ·rw [if_neg c45] at H
         have c45b0 : (a1_1 == 3) = false := beq_eq_false_iff_ne.mpr c45
         have c45b1 : (a1_1 != 3) = true := bne_iff_ne.mpr c45
         simp only [Option.some.injEq, Prod.mk.injEq] at H
         obtain ⟨rfl, rfl⟩ := H
         have hnb50 := NB310_314.out
         have hnc50 := NB314_310.out
         have hcz51_0 := bv_ BK310.out 0
         have hcz51_1 := bv_ BK310.out 1
         have hcz51_2 := bv_ BK310.out 2
         have hcz51_3 := bv_ BK310.out 3
         have hfz51_0 := blk_frozen BK310.out 0
         have hfz51_1 := blk_frozen BK310.out 1
         have hfz51_2 := blk_frozen BK310.out 2
         have hfz51_3 := blk_frozen BK310.out 3
         go_wp2
         go_ret2
         exact ⟨er_, hb2_ HB.out GE310.out GE314.out⟩
 ·replace c4 := Bool.eq_false_iff.mpr c4
  subst c4
  have H1 : (some (0, 2)) = some (r1, r2) := by rw [if_neg (show ¬ (false = true) by decide)] at H; exact H
  clear H;have H := H1;clear H1
  simp only [Option.some.injEq, Prod.mk.injEq] at H
  obtain ⟨rfl, rfl⟩ := H
  go_enter Tryz.func259, Tryz.ntmps259
  go_wp2_with (first | ((with_reducible refine gate_dst (N := 3) rfl ?_); refine be_ 3 #[.bool a1_0, .int .i64 a1_1, .int .i64 a1_2, .int .u64 a1_3] 27 ?_; intro gb310 hg w52 hbox hb; have BK310 := A_ (hbox); have GW310 := A_ (sz_ hg (hb_ HB.out)); have GE310 := A_ (sz_ hg (hb_ HB.out)); replace HB := A_ (below_step (hb_ HB.out) hb); clear hb hbox hg) | ((with_reducible refine gate_callee (f := 35) rfl ?_); refine goesL_ (some 12) rfl rfl Tryz.func35 (by kernel_rfl) rfl #[.int .i64 a0] rfl mp_ ?_; (with_reducible refine (shape_of.calls a0 t311 t312 false _ A3.out).mono ?_); rintro e w53 ⟨rfl, hb⟩; refine ⟨_, rfl, ?_⟩; replace BK310 := A_ (bb_ BK310.out hb); replace HB := A_ (below_step (hb1_ HB.out GE310.out) hb); (try clear hb); (try clear hb2); (try clear hk); (try clear hi)) | ((with_reducible refine gate_dst (N := 6) rfl ?_); refine be_ 6 #[.int .i64 0, .int .i64 0] 65 ?_; intro gb314 hg w54 hbox hb; have BK314 := A_ (hbox); have GW314 := A_ (sz_ hg (hb1_ HB.out GE310.out)); have GE314 := A_ (sz_ hg (hb1_ HB.out GE310.out)); have NB310_314 := A_ (nl_ hg BK310.out); have NB314_310 := A_ (ng_ hg BK310.out); replace BK310 := A_ (bb_ BK310.out hb); replace HB := A_ (below_step (hb1_ HB.out GE310.out) hb); clear hb hbox hg; have hnb55 := NB314_310.out; have hnc55 := NB310_314.out; have hcz56_0 := bv_ BK314.out 0; have hcz56_1 := bv_ BK314.out 1; have hfz56_0 := blk_frozen BK314.out 0; have hfz56_1 := blk_frozen BK314.out 1))
  go_ret2
  exact ⟨er_, hb2_ HB.out GE310.out GE314.out⟩
end Go.Proofs.YtnmlmgmljoncoaaGreatDoor.PA
/- What the Go method that makes a rounded number's float does, for every receiver in its bounds. -/
namespace Go.Proofs.YtnmlmgmljoncoaaGreatDoor.PA
open Go.RowKit Go.Proofs.YtnmlmgmljoncoaaGreatDoorW.PrintWords Go.Proofs.YtnmlmgmljoncoaaGreatDoorW.PrintLast Go.Proofs.YtnmlmgmljoncoaaGreatDoorW.PrintMore
attribute [local go_sem] max2_int min2_int max_two min_two max_three min_three max_four min_four   -- for this text's walks alone
set_option linter.unusedVariables false
set_option linter.unusedSimpArgs false
set_option maxHeartbeats 8000000 in
set_option maxRecDepth 100000 in
theorem rp_close (b : Nat) (W f t2 t1 hi l l2 e e2 r : Int) (m ng : Bool) (w : World) (hW : (W = 32 ∧ f = 23 ∧ t2 = 16777216 ∧ t1 = 8388608) ∨ (W = 64 ∧ f = 52 ∧ t2 = 9007199254740992 ∧ t1 = 4503599627370496))
    (c0 : w.cell? ⟨b, 0, none⟩ = some (.int .u64 0)) (c1 : w.cell? ⟨b, 1, none⟩ = some (.int .u64 l)) (c2 : w.cell? ⟨b, 2, none⟩ = some (.int .i64 e)) (c3 : w.cell? ⟨b, 3, none⟩ = some (.bool m))
    (c4 : w.cell? ⟨b, 4, none⟩ = some (.int .i64 W)) (c5 : w.cell? ⟨b, 5, none⟩ = some (.int .i64 f)) (c7 : w.cell? ⟨b, 7, none⟩ = some (.int .i64 hi)) (c8 : w.cell? ⟨b, 8, none⟩ = some (.bool ng))
    (f1 : w.frozen? ⟨b, 1, none⟩ = false) (f2 : w.frozen? ⟨b, 2, none⟩ = false)
    (e0 : -1099511627776 < e) (e1 : e < 1099511627776)
    (X : (l = t2 ∧ t1 = l2 ∧ e + 1 = e2) ∨ (l ≠ t2 ∧ l = l2 ∧ e = e2))
    (Y : (l2 = 0 ∧ shape_Zero.f W ng = some r) ∨ (l2 ≠ 0 ∧ hi < e2 ∧ shape_Inf.f W ng = some r) ∨ (l2 ≠ 0 ∧ e2 ≤ hi ∧ ∃ k z, shape_Close.f k W ng 1 e2 l2 = some (r, z))) :
    Calls Tryz.prog 245 #[.pointer (some ⟨b, 0, none⟩)] w fun en w' => en = .returned (.int .u64 r) ∧ Below b w w' := by
  have hu50 := Tryz.underlying27
  have P2 := Aside0.mk (rp_PK.start c0 c1 c2 c3)
  have F := Aside0.mk (show w.frozen? ⟨b, 1, none⟩ = false ∧ w.frozen? ⟨b, 2, none⟩ = false from ⟨f1, f2⟩)
  have C := Aside0.mk (show w.cell? ⟨b, 4, none⟩ = some (.int .i64 W) ∧ w.cell? ⟨b, 7, none⟩ = some (.int .i64 hi) ∧ w.cell? ⟨b, 8, none⟩ = some (.bool ng) from ⟨c4, c7, c8⟩)
  have W1 : IntKind.i64.wrap (e + 1) = e + 1 := by rw [i64_w]; unfold wrap64; omega
  have hd : ((l == t2) = true ∧ Aside0 (t1 = l2 ∧ e + 1 = e2)) ∨ ((l == t2) = false ∧ Aside0 (l = l2 ∧ e = e2)) := by
    rcases X with ⟨h1, h2⟩ | ⟨h1, h2⟩
    · exact .inl ⟨beq_iff_eq.2 h1, ⟨h2⟩⟩
    · exact .inr ⟨beq_eq_false_iff_ne.2 h1, ⟨h2⟩⟩
  have YD : ((l2 == 0) = true ∧ Aside0 (shape_Zero.f W ng = some r)) ∨ ((l2 == 0) = false ∧ decide (hi < e2) = true ∧ Aside0 (shape_Inf.f W ng = some r)) ∨ ((l2 == 0) = false ∧ decide (hi < e2) = false ∧ Aside0 (∃ k z, shape_Close.f k W ng 1 e2 l2 = some (r, z))) := by
    rcases Y with ⟨y0, y⟩ | ⟨y0, y1, y⟩ | ⟨y0, y1, y⟩
    · exact .inl ⟨beq_iff_eq.2 y0, ⟨y⟩⟩
    · exact .inr (.inl ⟨beq_eq_false_iff_ne.2 y0, decide_eq_true y1, ⟨y⟩⟩)
    · exact .inr (.inr ⟨beq_eq_false_iff_ne.2 y0, decide_eq_false (by omega), ⟨y⟩⟩)
  clear Y X e0 e1
  have key : ∀ (w5 : World), rp_PK b 0 l2 e2 m w w5 → w5.cell? ⟨b, 4, none⟩ = some (.int .i64 W) ∧ w5.cell? ⟨b, 7, none⟩ = some (.int .i64 hi) ∧ w5.cell? ⟨b, 8, none⟩ = some (.bool ng) := fun w5 P3 => ⟨(P3.cs 4 (by decide)).trans C.out.1, (P3.cs 7 (by decide)).trans C.out.2.1, (P3.cs 8 (by decide)).trans C.out.2.2⟩
  have KEY := Aside0.mk key
  clear key C F
  obtain ⟨W_, hW_⟩ : ∃ y, W = y := ⟨_, rfl⟩
  subst hW_
  replace hW : (f = 23 ∧ t2 = 16777216 ∧ t1 = 8388608) ∨ (f = 52 ∧ t2 = 9007199254740992 ∧ t1 = 4503599627370496) := by rcases hW with h | h; exact .inl h.2; exact .inr h.2
  rcases hW with ⟨rfl, rfl, rfl⟩ | ⟨rfl, rfl, rfl⟩
  all_goals
    rcases hd with ⟨hd, X2⟩ | ⟨hd, X2⟩
  all_goals
    go_enter Tryz.func245, Tryz.ntmps245
    go_wp2
    go_quiet (fail)
    go_upto_region 3 with fail
  all_goals first
    | (have P3 := P2.out.below (pw_below_drewN (Below.refl _ _) nq)
       rw [X2.out.1, X2.out.2] at P3
       generalize w.drewN nq = w5 at P3 ⊢)
    | (have P3 := ((P2.out.below (pw_below_drewN (Below.refl _ _) (nq + 1))).put1 8388608).put2 (e + 1)
       go_region
       generalize ((w.drewN (nq + 1)).setCell ⟨b, 1, none⟩ _).setCell ⟨b, 2, none⟩ _ = w5 at P3 ⊢
       rw [X2.out.1, X2.out.2] at P3
       go_upto_region 3 with fail)
    | (have P3 := ((P2.out.below (pw_below_drewN (Below.refl _ _) (nq + 1))).put1 4503599627370496).put2 (e + 1)
       go_region
       generalize ((w.drewN (nq + 1)).setCell ⟨b, 1, none⟩ _).setCell ⟨b, 2, none⟩ _ = w5 at P3 ⊢
       rw [X2.out.1, X2.out.2] at P3
       go_upto_region 3 with fail)
  all_goals
    have P := Aside0.mk P3
    have c1 := P3.c1; have c2 := P3.c2
    obtain ⟨c4, c7, c8⟩ := KEY.out _ P3
    clear P3 X2 P2 hd W1
    rcases YD with ⟨d0, Y⟩ | ⟨d0, d1, Y⟩ | ⟨d0, d1, Y⟩
    · have lt := P.out.lt
      have PP := P.out
      go_wp2_with fail
      go_region_held3 (fun w' => w'.cell? ⟨b, 1, none⟩ = some (.int .u64 l2) ∧ w'.cell? ⟨b, 2, none⟩ = some (.int .i64 e2) ∧ w'.cell? ⟨b, 4, none⟩ = some (.int .i64 W) ∧ w'.cell? ⟨b, 8, none⟩ = some (.bool ng) ∧ b < w'.heap.size ∧ rp_PK b 0 l2 e2 m w w')
        (((try go_split_ands); (try dsimp only); (repeat' apply And.intro) <;> first | assumption | (rw [hc _ _ (by assumption)]; assumption) | (exact Nat.lt_of_lt_of_le (by assumption) hb.size) | (exact rp_PK.below (by assumption) hb) | (apply rp_PK.drew; assumption)))
        ((go_at_call 145; (with_reducible refine (shape_Zero.calls _ ng r _ Y.out).mono ?_); rintro en w6 ⟨rfl, hb⟩; obtain ⟨hc, hf⟩ := Nr.bcell hb))
      rename_i hH
      go_wp2; go_ret; exact ⟨rfl, hH.2.2.2.2.2.bl⟩
    · go_wp2_with fail
      go_quiet (fail)
      have P5 := P.out.below (pw_below_drewN (Below.refl _ _) nq)
      clear P c1 c2 c4 c7 c8
      generalize w5.drewN nq = w7 at P5 ⊢
      have lt := P5.lt
      have c1 := P5.c1; have c2 := P5.c2
      obtain ⟨c4, c7, c8⟩ := KEY.out _ P5
      go_wp2_with fail
      go_region_held3 (fun w' => w'.cell? ⟨b, 1, none⟩ = some (.int .u64 l2) ∧ w'.cell? ⟨b, 2, none⟩ = some (.int .i64 e2) ∧ w'.cell? ⟨b, 4, none⟩ = some (.int .i64 W) ∧ w'.cell? ⟨b, 8, none⟩ = some (.bool ng) ∧ b < w'.heap.size ∧ rp_PK b 0 l2 e2 m w w')
        (((try go_split_ands); (try dsimp only); (repeat' apply And.intro) <;> first | assumption | (rw [hc _ _ (by assumption)]; assumption) | (exact Nat.lt_of_lt_of_le (by assumption) hb.size) | (exact rp_PK.below (by assumption) hb) | (apply rp_PK.drew; assumption)))
        ((go_at_call 147; (with_reducible refine (shape_Inf.calls _ ng r _ Y.out).mono ?_); rintro en w6 ⟨rfl, hb⟩; obtain ⟨hc, hf⟩ := Nr.bcell hb))
      rename_i hH
      go_wp2; go_ret; exact ⟨rfl, hH.2.2.2.2.2.bl⟩
    · go_wp2_with fail
      go_quiet (fail)
      have P5 := P.out.below (pw_below_drewN (Below.refl _ _) nq)
      clear P c1 c2 c4 c7 c8
      generalize w5.drewN nq = w7 at P5 ⊢
      have lt := P5.lt
      have c1 := P5.c1; have c2 := P5.c2
      obtain ⟨c4, c7, c8⟩ := KEY.out _ P5
      obtain ⟨k, z, y⟩ := Y.out
      have B := Aside0.mk y
      clear y Y
      go_wp2_with fail
      go_region_held3 (fun w' => w'.cell? ⟨b, 1, none⟩ = some (.int .u64 l2) ∧ w'.cell? ⟨b, 2, none⟩ = some (.int .i64 e2) ∧ w'.cell? ⟨b, 4, none⟩ = some (.int .i64 W) ∧ w'.cell? ⟨b, 8, none⟩ = some (.bool ng) ∧ b < w'.heap.size ∧ rp_PK b 0 l2 e2 m w w')
        (((try go_split_ands); (try dsimp only); (repeat' apply And.intro) <;> first | assumption | (rw [hc _ _ (by assumption)]; assumption) | (exact Nat.lt_of_lt_of_le (by assumption) hb.size) | (exact rp_PK.below (by assumption) hb) | (apply rp_PK.drew; assumption)))
        ((go_at_call 259; (with_reducible refine (shape_Close.calls k _ ng 1 e2 l2 r z _ B.out).mono ?_); rintro en w6 ⟨rfl, hb⟩; obtain ⟨hc, hf⟩ := Nr.bcell hb))
      rename_i hH
      go_wp2; go_ret; exact ⟨rfl, hH.2.2.2.2.2.bl⟩
end Go.Proofs.YtnmlmgmljoncoaaGreatDoor.PA
set_option linter.unusedVariables false
namespace Go.Proofs.YtnmlmgmljoncoaaGreatDoor.Reg
open Go
section
variable {P : Program} {ops : Array Oper} {Q : Exit → Act → World → Prop} {S : World → Prop} {n : Nat}
def T (P : Program) (ops : Array Oper) (Q : Exit → Act → World → Prop) (S : World → Prop) (n : Nat) : Nat → Array Bool → Act → World → Prop
  | 0, l, a, w => Region.ready .any ops l = [] ∧ Q .normal a w
  | f + 1, l, a, w => (Region.ready .any ops l = [] → Q .normal a w) ∧ ∀ i ∈ Region.ready .any ops l, wpOp P ops Q i (fun a' w' => (i < n → S w') ∧ T P ops Q S n f (l.setIfInBounds i true) a' w') a w
theorem T.any : ∀ (f : Nat) (l : Array Bool) (a : Act) (w : World), T P ops Q S n f l a w → wpAny P .any ops Q f l a w
  | 0, _, _, _, h => h
  | f + 1, l, _, _, h => ⟨h.1, fun i hi => wpOp_mono (fun a' w' k => T.any f _ a' w' k.2) (h.2 i hi)⟩
def G (P : Program) (ops : Array Oper) (Q : Exit → Act → World → Prop) (S : World → Prop) (n f : Nat) (l : Array Bool) (a : Act) (w : World) : Prop := HeadInv .any ops n l → S w → T P ops Q S n f l a w
theorem inv0 (h : n < ops.size) : HeadInv .any ops n (Array.replicate ops.size false) :=
  ⟨by simp, fun j oj _ hl => (by rw [getD_replicate_false] at hl; cases hl), fun t ht ht' => getD_in (by simpa using ht') (getD_replicate_false _ _)⟩
theorem start {id : Nat} {a : Act} {w : World} (S : World → Prop) (n : Nat) (hm : P.follows .mixedOrders = true) (hn : n < ops.size) (hS : S w.drew) (h : G P ops Q S n ops.size (Array.replicate ops.size false) a w.drew) : (Code.region id ops true).wp P Q a w :=
  wp_region_any hm (T.any _ _ _ _ (h (inv0 hn) hS))
theorem T.first {i : Nat} {oi : Oper} {v : Value} (hi : ops[i]? = some oi) (hsel : ∀ (j : Nat) (o : Oper) cs b, ops[j]? = some o → o.op ≠ .select cs b)
    (hQ : ∀ c a w, Q (.panic c) (a.put oi.dst v) w → Q (.panic c) a w) (hs : Region.sinkB .any ops n = true) (hc : Region.chainB .any ops n = true) (hn : n < ops.size) (hin : i < n) :
    ∀ (f : Nat) (l : Array Bool) (a : Act) (w : World), HeadInv .any ops n l →
      (∀ j oj, ops[j]? = some oj → j ≠ i → l.getD j true = false → (∀ e ∈ oj.after, Region.binds .any e = true → e.on ≠ i) → oi.apart ops oj = true) →
      i ∈ Region.ready .any ops l → YieldsIf P ops S oi v a → S w → T P ops Q S n f (l.setIfInBounds i true) (a.put oi.dst v) w → T P ops Q S n (f + 1) l a w := by
  intro f
  induction f with
  | zero =>
    intro l a w _ _ hr hy hS H
    refine ⟨fun h => absurd hr (by rw [h]; simp), fun j hj => ?_⟩
    rcases Nat.decEq j i with hji | rfl
    · exact absurd (ready_mono hj hji) (by rw [H.1]; simp)
    · exact hy.wpOp hi hS ⟨fun _ => hS, H⟩
  | succ f ih =>
    intro l a w inv hfree hr hy hS H
    have hun := (mem_ready.1 hr).1
    refine ⟨fun h => absurd hr (by rw [h]; simp), fun j hj => ?_⟩
    rcases Nat.decEq j i with hji | rfl
    · have hjn : j < n := by
        rcases Nat.lt_or_ge j n with h | h
        · exact h
        · exact absurd hj (tail_waits hs hc hn inv _ i rfl hin hun j h)
      obtain ⟨hjun, oj, hoj, hall⟩ := mem_ready.1 hj
      have hno : ∀ e ∈ oj.after, Region.binds .any e = true → e.on ≠ i := fun e he hb k => by
        have := hall e he hb
        rw [k, getD_both hun] at this
        cases this
      have h2 := wpOp_putIf hoj (hfree j oj hoj hji hjun hno) (fun cs b => hsel i oi cs b hi) (fun cs b => hsel j oj cs b hoj) hQ hy (H.2 j (ready_mono hj hji))
      refine wpOp_mono (fun a' w' k => ⟨fun _ => k.2.1 hjn, ih (l.setIfInBounds j true) a' w' (inv.set hj hjn) (fun m om hm hmi hmun => hfree m om hm hmi ?_) (ready_mono hr (Ne.symm hji)) k.1 (k.2.1 hjn) ?_⟩) h2
      · rcases Nat.decEq j m with hjm | rfl
        · rwa [getD_set_ne true hjm] at hmun
        · exact hjun
      · rw [Array.setIfInBounds_comm _ _ hji]
        exact k.2.2
    · exact hy.wpOp hi hS ⟨fun _ => hS, H⟩
theorem take {i f : Nat} {oi : Oper} {v : Value} {l : Array Bool} {a : Act} {w : World} (hi : ops[i]? = some oi) (hb : (Region.noSelect ops && Region.free .any ops l i && (Region.ready .any ops l).contains i && Region.sinkB .any ops n && Region.chainB .any ops n && decide (n < ops.size) && decide (i < n)) = true)
    (hQ : ∀ c a w, Q (.panic c) (a.put oi.dst v) w → Q (.panic c) a w) (hy : YieldsIf P ops S oi v a)
    (h : G P ops Q S n f (l.setIfInBounds i true) (a.put oi.dst v) w) : G P ops Q S n (f + 1) l a w := by
  simp only [Bool.and_eq_true, decide_eq_true_eq] at hb
  obtain ⟨⟨⟨⟨⟨⟨h1, h2⟩, h3⟩, h4⟩, h5⟩, h6⟩, h7⟩ := hb
  have hr : i ∈ Region.ready .any ops l := by simpa using h3
  exact fun inv hS => T.first hi (Region.noSelect_spec h1) hQ h4 h5 h6 h7 f l a w inv (Region.free_spec hi h2) hr hy hS (h (inv.set hr h7) hS)
theorem one {i f : Nat} {oi : Oper} {l : Array Bool} {a : Act} {w : World} (hi : ops[i]? = some oi) (hb : (decide (Region.ready .any ops l = [i]) && decide (i < n)) = true)
    (h : ∀ K : Act → World → Prop, (∀ a' w', S w' → G P ops Q S n f (l.setIfInBounds i true) a' w' → K a' w') → if Region.wanted oi (yielded ops a.tmps) = true then Oper.wp P oi a w K Q else K (a.put oi.dst undef) w) : G P ops Q S n (f + 1) l a w := by
  simp only [Bool.and_eq_true, decide_eq_true_eq] at hb
  intro inv _
  refine ⟨fun k => (by rw [hb.1] at k; cases k), fun j hj => ?_⟩
  rw [hb.1] at hj
  obtain rfl := List.mem_singleton.1 hj
  exact wpOp_step hi fun K hK => h K fun a' w' s g => hK a' w' ⟨fun _ => s, g (inv.set (by rw [hb.1]; exact List.mem_singleton.2 rfl) hb.2) s⟩
theorem last {f : Nat} {oi : Oper} {l : Array Bool} {a : Act} {w : World} (hi : ops[n]? = some oi) (hb : (decide (Region.ready .any ops l = [n]) && decide (Region.ready .any ops (l.setIfInBounds n true) = [])) = true)
    (h : ∀ K : Act → World → Prop, (∀ a' w', Q .normal a' w' → K a' w') → if Region.wanted oi (yielded ops a.tmps) = true then Oper.wp P oi a w K Q else K (a.put oi.dst undef) w) : G P ops Q S n (f + 1) l a w := by
  simp only [Bool.and_eq_true, decide_eq_true_eq] at hb
  intro inv _
  refine ⟨fun k => (by rw [hb.1] at k; cases k), fun j hj => ?_⟩
  rw [hb.1] at hj
  obtain rfl := List.mem_singleton.1 hj
  refine wpOp_step hi fun K hK => h K fun a' w' q => hK a' w' ⟨fun k => absurd k (Nat.lt_irrefl _), ?_⟩
  cases f with
  | zero => exact ⟨hb.2, q⟩
  | succ f => exact ⟨fun _ => q, fun i hi => absurd hi (by rw [hb.2]; simp)⟩
end
end Go.Proofs.YtnmlmgmljoncoaaGreatDoor.Reg
namespace Go.Proofs.YtnmlmgmljoncoaaGreatDoor.PA
open Go.RowKit Go.Proofs.YtnmlmgmljoncoaaGreatDoorW.PrintWords Go.Proofs.YtnmlmgmljoncoaaGreatDoorW.PrintLast Go.Proofs.YtnmlmgmljoncoaaGreatDoorW.PrintMore
attribute [local go_sem] max2_int min2_int max_two min_two max_three min_three max_four min_four   -- for this text's walks alone
set_option linter.unusedVariables false
set_option linter.unusedSimpArgs false
set_option maxHeartbeats 8000000
set_option maxRecDepth 100000
def shape_Fields.f (a0 : Int) : Option (Int × Int) := (shape_of.f a0).bind fun bt269 => (some (bt269.1, bt269.2.1))
theorem shape_Fields.calls (a0 : Int) (r1 : Int) (r2 : Int) (w : World) (h : shape_Fields.f a0 = some (r1, r2)) :
  Calls Tryz.prog 15 #[.int .i64 a0] w fun e w' => e = .returned (.tuple #[.int .i64 r1, .int .i64 r2]) ∧ Below w.heap.size w w' := by
 have hu65 := Tryz.underlying65
 have HB := A_ (Below.refl w.heap.size w)
 have H : ((shape_of.f a0).bind fun bt269 => (some (bt269.1, bt269.2.1))) = some (r1, r2) := h
 clear h
 replace H := ob_ H
 obtain ⟨⟨t269, t270, t271⟩, A20, H⟩ := H
 replace H : (some (t269, t270)) = some (r1, r2) := H
 have A2 := A_ A20;clear A20
 simp only [Option.some.injEq, Prod.mk.injEq] at H
 obtain ⟨rfl, rfl⟩ := H
 go_enter Tryz.func15, Tryz.ntmps15
 go_wp2_with (first | (go_at_call 35; (with_reducible refine (shape_of.calls a0 t269 t270 t271 _ A2.out).mono ?_); rintro e w3 ⟨rfl, hb⟩; replace HB := A_ (below_step (hb_ HB.out) hb); (try clear hb); (try clear hb2); (try clear hk); (try clear hi)) | ((with_reducible refine gate_dst (N := 4) rfl ?_); refine be_ 4 #[.int .i64 0, .int .i64 0] 65 ?_; intro gb272 hg w4 hbox hb; have BK272 := A_ (hbox); have GW272 := A_ (sz_ hg (hb_ HB.out)); have GE272 := A_ (sz_ hg (hb_ HB.out)); replace HB := A_ (below_step (hb_ HB.out) hb); clear hb hbox hg; have hcz5_0 := bv_ BK272.out 0; have hcz5_1 := bv_ BK272.out 1; have hfz5_0 := blk_frozen BK272.out 0; have hfz5_1 := blk_frozen BK272.out 1))
 repeat (go_quiet (first | (go_at_call 35; (with_reducible refine (shape_of.calls a0 t269 t270 t271 _ A2.out).mono ?_); rintro e w3 ⟨rfl, hb⟩; replace HB := A_ (below_step (hb_ HB.out) hb); (try clear hb); (try clear hb2); (try clear hk); (try clear hi)) | ((with_reducible refine gate_dst (N := 4) rfl ?_); refine be_ 4 #[.int .i64 0, .int .i64 0] 65 ?_; intro gb272 hg w4 hbox hb; have BK272 := A_ (hbox); have GW272 := A_ (sz_ hg (hb_ HB.out)); have GE272 := A_ (sz_ hg (hb_ HB.out)); replace HB := A_ (below_step (hb_ HB.out) hb); clear hb hbox hg; have hcz5_0 := bv_ BK272.out 0; have hcz5_1 := bv_ BK272.out 1; have hfz5_0 := blk_frozen BK272.out 0; have hfz5_1 := blk_frozen BK272.out 1)); try go_wp2_with (first | (go_at_call 35; (with_reducible refine (shape_of.calls a0 t269 t270 t271 _ A2.out).mono ?_); rintro e w3 ⟨rfl, hb⟩; replace HB := A_ (below_step (hb_ HB.out) hb); (try clear hb); (try clear hb2); (try clear hk); (try clear hi)) | ((with_reducible refine gate_dst (N := 4) rfl ?_); refine be_ 4 #[.int .i64 0, .int .i64 0] 65 ?_; intro gb272 hg w4 hbox hb; have BK272 := A_ (hbox); have GW272 := A_ (sz_ hg (hb_ HB.out)); have GE272 := A_ (sz_ hg (hb_ HB.out)); replace HB := A_ (below_step (hb_ HB.out) hb); clear hb hbox hg; have hcz5_0 := bv_ BK272.out 0; have hcz5_1 := bv_ BK272.out 1; have hfz5_0 := blk_frozen BK272.out 0; have hfz5_1 := blk_frozen BK272.out 1)))
 go_ret2
 exact ⟨er_, hb1_ HB.out GE272.out⟩
end Go.Proofs.YtnmlmgmljoncoaaGreatDoor.PA
