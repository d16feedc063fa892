/- What the Go functions that the statement WideSums reaches compute, and the mathematics on it, in the order in which one leans on the other; for every input. -/
import Derived.Test.YtjjehbedpgdhgaaVWideSums0
import Derived.Test.YtjjehbedpgdhgaaMWideSums0
import Derived.Deep.RegionHeld3
namespace Go.Proofs.Ytjjehbedpgdhgaa.PA
open Go.RowKit Go.Proofs.YtjjehbedpgdhgaaW.PrintWords Go.Proofs.YtjjehbedpgdhgaaW.PrintLast Go.Proofs.YtjjehbedpgdhgaaW.PrintMore
attribute [local go_sem] max2_int min2_int max_two min_two max_three min_three max_four min_four   -- for this text's walks alone
set_option linter.unusedVariables false
set_option linter.unusedSimpArgs false
set_option maxHeartbeats 8000000
set_option maxRecDepth 100000
def wide_Left.f (a0_0 : Int) (a0_1 : Int) (a1 : Int) : Option (Int × Int) := if a1 ≤ 0 then (some (a0_0, a0_1)) else (if a1 ≥ 128 then (some (0, 0)) else (if a1 ≥ 64 then (if 0 ≤ (wrap64 (a1 - 64)) then (some (shl .u64 a0_1 (wrap64 (a1 - 64)), 0)) else (none)) else (if 0 ≤ a1 then (if 0 ≤ (wrap64 (64 - a1)) then (some (Go.bits .or .u64 (shl .u64 a0_0 a1) (shr .u64 a0_1 (wrap64 (64 - a1))), shl .u64 a0_1 a1)) else (none)) else (none))))
def wide_Left.T7 : Bool × List (List Nat × List Nat) := (true, [([], []), ([0], [0]), ([], []), ([1, 2], [1, 2]), ([], []), ([4], [4]), ([], []), ([6], [6]), ([5, 7], [5, 7]), ([3, 8], [3, 8]), ([], []), ([10], [10]), ([], []), ([11, 12], [11, 12]), ([9, 13], [9, 13]), ([14, 0, 1, 2, 3, 4, 5, 6, 7, 8, 9, 10, 11, 12, 13, 14], [14])])
def wide_Left.B7 : List Nat := [0, 1, 0, 7, 0, 16, 0, 64, 240, 511, 0, 1024, 0, 7168, 16383, 32767]
theorem wide_Left.tab7 : rtab .any (opsOf Try.f87 7) = wide_Left.T7 := by kernel_rfl
theorem wide_Left.bits7 : waitsOk wide_Left.T7.2 wide_Left.B7 = true := by kernel_rfl
theorem wide_Left.calls (a0_0 : Int) (a0_1 : Int) (a1 : Int) (r1 : Int) (r2 : Int) (w : World) (h : wide_Left.f a0_0 a0_1 a1 = some (r1, r2)) :
  Calls Try.prog 87 #[.agg #[.int .u64 a0_0, .int .u64 a0_1], .int .i64 a1] w fun e w' => e = .returned (.agg #[.int .u64 r1, .int .u64 r2]) ∧ Below w.heap.size w w' := by
 have hu50 := Try.underlying50
 have HB := A_ (Below.refl w.heap.size w)
 have H : (if a1 ≤ 0 then (some (a0_0, a0_1)) else (if a1 ≥ 128 then (some (0, 0)) else (if a1 ≥ 64 then (if 0 ≤ (wrap64 (a1 - 64)) then (some (shl .u64 a0_1 (wrap64 (a1 - 64)), 0)) else (none)) else (if 0 ≤ a1 then (if 0 ≤ (wrap64 (64 - a1)) then (some (Go.bits .or .u64 (shl .u64 a0_0 a1) (shr .u64 a0_1 (wrap64 (64 - a1))), shl .u64 a0_1 a1)) else (none)) else (none))))) = some (r1, r2) := h
 clear h
 by_cases c3 : a1 ≤ 0
 ·rw [if_pos c3] at H
  have c3b0 : decide (a1 ≤ 0) = true := decide_eq_true c3
  clear c3
  simp only [Option.some.injEq, Prod.mk.injEq] at H
  obtain ⟨rfl, rfl⟩ := H
  go_enter Try.func87, Try.ntmps87
  go_wp2_with (first | ((with_reducible refine gate_dst (N := 2) rfl ?_); refine be_ 2 #[.int .u64 a0_0, .int .u64 a0_1] 50 ?_; intro gb158 hg w4 hbox hb; have BK158 := A_ (hbox); have GW158 := A_ (sz_ hg (hb_ HB.out)); have GE158 := A_ (sz_ hg (hb_ HB.out)); replace HB := A_ (below_step (hb_ HB.out) hb); clear hb hbox hg) | ((with_reducible refine gate_dst (N := 4) rfl ?_); refine be_ 4 #[.int .u64 0, .int .u64 0] 50 ?_; intro gb159 hg w5 hbox hb; have BK159 := A_ (hbox); have GW159 := A_ (sz_ hg (hb1_ HB.out GE158.out)); have GE159 := A_ (sz_ hg (hb1_ HB.out GE158.out)); have NB158_159 := A_ (nl_ hg BK158.out); have NB159_158 := A_ (ng_ hg BK158.out); replace BK158 := A_ (bb_ BK158.out hb); replace HB := A_ (below_step (hb1_ HB.out GE158.out) hb); clear hb hbox hg; have hnb6 := NB158_159.out; have hnc6 := NB159_158.out; have hcz7_0 := bv_ BK158.out 0; have hcz7_1 := bv_ BK158.out 1; have hfz7_0 := blk_frozen BK158.out 0; have hfz7_1 := blk_frozen BK158.out 1; have hcz8_0 := bv_ BK159.out 0; have hcz8_1 := bv_ BK159.out 1; have hfz8_0 := blk_frozen BK159.out 0; have hfz8_1 := blk_frozen BK159.out 1))
  refine bodyPost_ret (results_cell_row rfl _ _ gb159 50 #[.int .u64 a0_0, .int .u64 a0_1] (0, 0) _ rfl (by (with_reducible repeat (first | refine blk_drewN ?_ _ | refine blk_drew ?_ | refine blk_alloc ?_ _)); refine blk_put (cs := #[.int .u64 a0_0, .int .u64 0]) ?_ 1 _ rfl; (with_reducible repeat (first | refine blk_drewN ?_ _ | refine blk_drew ?_ | refine blk_alloc ?_ _)); refine blk_put (cs := #[.int .u64 0, .int .u64 0]) ?_ 0 _ rfl; (with_reducible repeat (first | refine blk_drewN ?_ _ | refine blk_drew ?_ | refine blk_alloc ?_ _)); exact BK159.out) Try.underlying50 rfl (by kernel_rfl)) rfl ?_
  exact ⟨er_, hb2_ HB.out GE158.out GE159.out⟩
 ·rw [if_neg c3] at H
  have c3b0 : decide (a1 ≤ 0) = false := decide_eq_false c3
  clear c3
  by_cases c9 : a1 ≥ 128
  ·rw [if_pos c9] at H
   have c9b0 : decide (128 ≤ a1) = true := decide_eq_true c9
   clear c9
   simp only [Option.some.injEq, Prod.mk.injEq] at H
   obtain ⟨rfl, rfl⟩ := H
   go_enter Try.func87, Try.ntmps87
   go_wp2_with (first | ((with_reducible refine gate_dst (N := 2) rfl ?_); refine be_ 2 #[.int .u64 a0_0, .int .u64 a0_1] 50 ?_; intro gb158 hg w10 hbox hb; have BK158 := A_ (hbox); have GW158 := A_ (sz_ hg (hb_ HB.out)); have GE158 := A_ (sz_ hg (hb_ HB.out)); replace HB := A_ (below_step (hb_ HB.out) hb); clear hb hbox hg) | ((with_reducible refine gate_dst (N := 4) rfl ?_); refine be_ 4 #[.int .u64 0, .int .u64 0] 50 ?_; intro gb159 hg w11 hbox hb; have BK159 := A_ (hbox); have GW159 := A_ (sz_ hg (hb1_ HB.out GE158.out)); have GE159 := A_ (sz_ hg (hb1_ HB.out GE158.out)); have NB158_159 := A_ (nl_ hg BK158.out); have NB159_158 := A_ (ng_ hg BK158.out); replace BK158 := A_ (bb_ BK158.out hb); replace HB := A_ (below_step (hb1_ HB.out GE158.out) hb); clear hb hbox hg; have hnb12 := NB159_158.out; have hnc12 := NB158_159.out; have hcz13_0 := bv_ BK159.out 0; have hcz13_1 := bv_ BK159.out 1; have hfz13_0 := blk_frozen BK159.out 0; have hfz13_1 := blk_frozen BK159.out 1))
   refine bodyPost_ret (results_cell_row rfl _ _ gb159 50 #[.int .u64 0, .int .u64 0] (0, 0) _ rfl (by (with_reducible repeat (first | refine blk_drewN ?_ _ | refine blk_drew ?_ | refine blk_alloc ?_ _)); refine blk_put (cs := #[.int .u64 0, .int .u64 0]) ?_ 1 _ rfl; (with_reducible repeat (first | refine blk_drewN ?_ _ | refine blk_drew ?_ | refine blk_alloc ?_ _)); refine blk_put (cs := #[.int .u64 0, .int .u64 0]) ?_ 0 _ rfl; (with_reducible repeat (first | refine blk_drewN ?_ _ | refine blk_drew ?_ | refine blk_alloc ?_ _)); exact BK159.out) Try.underlying50 rfl (by kernel_rfl)) rfl ?_
   exact ⟨er_, hb2_ HB.out GE158.out GE159.out⟩
  ·rw [if_neg c9] at H
   have c9b0 : decide (128 ≤ a1) = false := decide_eq_false c9
   clear c9
   by_cases c14 : a1 ≥ 64
   ·rw [if_pos c14] at H
    have c14b0 : decide (64 ≤ a1) = true := decide_eq_true c14
    clear c14
    obtain ⟨ji15, hji15⟩ : ∃ j_ : Int, (wrap64 (a1 - 64)) = j_ := ⟨_, rfl⟩
    replace H : (if 0 ≤ (ji15) then (some (shl .u64 a0_1 (ji15), 0)) else (none)) = some (r1, r2) := by first | (rw [hji15] at H; exact H) | (simp only [hji15] at H ⊢; exact H)
    have hji15w : (IntKind.i64.wrap (a1 - 64)) = ji15 := (i64_w _).trans hji15
    by_cases c16 : 0 ≤ (ji15)
    ·rw [if_pos c16] at H
     have c16b0 := eq_true c16
     have c16b1 : decide (0 ≤ (ji15)) = true := decide_eq_true c16
     clear c16
     obtain ⟨ji17, hji17⟩ : ∃ j_ : Int, (shl .u64 a0_1 (ji15)) = j_ := ⟨_, rfl⟩
     replace H : (some (ji17, 0)) = some (r1, r2) := by first | (rw [hji17] at H; exact H) | (simp only [hji17] at H ⊢; exact H)
     have hji17_ : (IntKind.u64.wrap (a0_1 * 2 ^ min (ji15).toNat 64)) = ji17 := hji17
     have hji17z : (ji15) ≤ 64 → (IntKind.u64.wrap (a0_1 * 2 ^ (ji15).toNat)) = ji17 := shl_small hji17
     simp only [Option.some.injEq, Prod.mk.injEq] at H
     obtain ⟨rfl, rfl⟩ := H
     go_enter Try.func87, Try.ntmps87
     go_wp2_with (first | ((with_reducible refine gate_dst (N := 2) rfl ?_); refine be_ 2 #[.int .u64 a0_0, .int .u64 a0_1] 50 ?_; intro gb158 hg w18 hbox hb; have BK158 := A_ (hbox); have GW158 := A_ (sz_ hg (hb_ HB.out)); have GE158 := A_ (sz_ hg (hb_ HB.out)); replace HB := A_ (below_step (hb_ HB.out) hb); clear hb hbox hg) | ((with_reducible refine gate_dst (N := 4) rfl ?_); refine be_ 4 #[.int .u64 0, .int .u64 0] 50 ?_; intro gb159 hg w19 hbox hb; have BK159 := A_ (hbox); have GW159 := A_ (sz_ hg (hb1_ HB.out GE158.out)); have GE159 := A_ (sz_ hg (hb1_ HB.out GE158.out)); have NB158_159 := A_ (nl_ hg BK158.out); have NB159_158 := A_ (ng_ hg BK158.out); replace BK158 := A_ (bb_ BK158.out hb); replace HB := A_ (below_step (hb1_ HB.out GE158.out) hb); clear hb hbox hg; have hnb20 := NB158_159.out; have hnc20 := NB159_158.out; have hcz21_0 := bv_ BK158.out 0; have hcz21_1 := bv_ BK158.out 1; have hfz21_0 := blk_frozen BK158.out 0; have hfz21_1 := blk_frozen BK158.out 1; have hcz22_0 := bv_ BK159.out 0; have hcz22_1 := bv_ BK159.out 1; have hfz22_0 := blk_frozen BK159.out 0; have hfz22_1 := blk_frozen BK159.out 1))
     refine bodyPost_ret (results_cell_row rfl _ _ gb159 50 #[.int .u64 ji17, .int .u64 0] (0, 0) _ rfl (by (with_reducible repeat (first | refine blk_drewN ?_ _ | refine blk_drew ?_ | refine blk_alloc ?_ _)); refine blk_put (cs := #[.int .u64 ji17, .int .u64 0]) ?_ 1 _ rfl; (with_reducible repeat (first | refine blk_drewN ?_ _ | refine blk_drew ?_ | refine blk_alloc ?_ _)); refine blk_put (cs := #[.int .u64 0, .int .u64 0]) ?_ 0 _ rfl; (with_reducible repeat (first | refine blk_drewN ?_ _ | refine blk_drew ?_ | refine blk_alloc ?_ _)); exact BK159.out) Try.underlying50 rfl (by kernel_rfl)) rfl ?_
     exact ⟨by first | rfl | (simp [errW_none, errW_some] <;> rfl) | (simp only [← hji15, ← hji17]; first | rfl | (simp [errW_none, errW_some] <;> rfl)) | (simp [*, errW_none, errW_some] <;> rfl), hb2_ HB.out GE158.out GE159.out⟩
    ·rw [if_neg c16] at H
     exact absurd H (by simp)
   ·rw [if_neg c14] at H
    have c14b0 : decide (64 ≤ a1) = false := decide_eq_false c14
    clear c14
    by_cases c23 : 0 ≤ a1
    ·rw [if_pos c23] at H
     have c23b0 := eq_true c23
     have c23b1 : decide (0 ≤ a1) = true := decide_eq_true c23
     clear c23
     obtain ⟨ji24, hji24⟩ : ∃ j_ : Int, (shl .u64 a0_0 a1) = j_ := ⟨_, rfl⟩
     replace H : (if 0 ≤ (wrap64 (64 - a1)) then (some (Go.bits .or .u64 (ji24) (shr .u64 a0_1 (wrap64 (64 - a1))), shl .u64 a0_1 a1)) else (none)) = some (r1, r2) := by first | (rw [hji24] at H; exact H) | (simp only [hji24] at H ⊢; exact H)
     have hji24_ : (IntKind.u64.wrap (a0_0 * 2 ^ min a1.toNat 64)) = ji24 := hji24
     have hji24z : a1 ≤ 64 → (IntKind.u64.wrap (a0_0 * 2 ^ a1.toNat)) = ji24 := shl_small hji24
     obtain ⟨ji25, hji25⟩ : ∃ j_ : Int, (wrap64 (64 - a1)) = j_ := ⟨_, rfl⟩
     replace H : (if 0 ≤ (ji25) then (some (Go.bits .or .u64 (ji24) (shr .u64 a0_1 (ji25)), shl .u64 a0_1 a1)) else (none)) = some (r1, r2) := by first | (rw [hji25] at H; exact H) | (simp only [hji25] at H ⊢; exact H)
     have hji25w : (IntKind.i64.wrap (64 - a1)) = ji25 := (i64_w _).trans hji25
     by_cases c26 : 0 ≤ (ji25)
     ·rw [if_pos c26] at H
      have c26b0 := eq_true c26
      have c26b1 : decide (0 ≤ (ji25)) = true := decide_eq_true c26
      clear c26
      obtain ⟨ji27, hji27⟩ : ∃ j_ : Int, (shr .u64 a0_1 (ji25)) = j_ := ⟨_, rfl⟩
      replace H : (some (Go.bits .or .u64 (ji24) (ji27), shl .u64 a0_1 a1)) = some (r1, r2) := by first | (rw [hji27] at H; exact H) | (simp only [hji27] at H ⊢; exact H)
      have hji27_ : (a0_1 / 2 ^ min (ji25).toNat 64) = ji27 := hji27
      have hji27z : (ji25) ≤ 64 → (a0_1 / 2 ^ (ji25).toNat) = ji27 := shr_small hji27
      have c28b0 := eq_true (of_decide_eq_true (by first | (with_reducible assumption) | assumption) : 0 ≤ a1)
      obtain ⟨ji29, hji29⟩ : ∃ j_ : Int, (shl .u64 a0_1 a1) = j_ := ⟨_, rfl⟩
      replace H : (some (Go.bits .or .u64 (ji24) (ji27), ji29)) = some (r1, r2) := by first | (rw [hji29] at H; exact H) | (simp only [hji29] at H ⊢; exact H)
      have hji29_ : (IntKind.u64.wrap (a0_1 * 2 ^ min a1.toNat 64)) = ji29 := hji29
      have hji29z : a1 ≤ 64 → (IntKind.u64.wrap (a0_1 * 2 ^ a1.toNat)) = ji29 := shl_small hji29
      simp only [Option.some.injEq, Prod.mk.injEq] at H
      obtain ⟨rfl, rfl⟩ := H
      go_enter Try.func87, Try.ntmps87
      try go_wp2_with (first | ((with_reducible refine gate_dst (N := 2) rfl ?_); refine be_ 2 #[.int .u64 a0_0, .int .u64 a0_1] 50 ?_; intro gb158 hg w30 hbox hb; have BK158 := A_ (hbox); have GW158 := A_ (sz_ hg (hb_ HB.out)); have GE158 := A_ (sz_ hg (hb_ HB.out)); replace HB := A_ (below_step (hb_ HB.out) hb); clear hb hbox hg) | ((with_reducible refine gate_dst (N := 4) rfl ?_); refine be_ 4 #[.int .u64 0, .int .u64 0] 50 ?_; intro gb159 hg w31 hbox hb; have BK159 := A_ (hbox); have GW159 := A_ (sz_ hg (hb1_ HB.out GE158.out)); have GE159 := A_ (sz_ hg (hb1_ HB.out GE158.out)); have NB158_159 := A_ (nl_ hg BK158.out); have NB159_158 := A_ (ng_ hg BK158.out); replace BK158 := A_ (bb_ BK158.out hb); replace HB := A_ (below_step (hb1_ HB.out GE158.out) hb); clear hb hbox hg))
      replace BK158 := A_ (blk_drew BK158.out)
      replace BK159 := A_ (blk_drew BK159.out)
      replace HB := A_ (below_drew1 HB.out)
      refine start_ (n := 16) (S := fun w' => w'.cell? ⟨gb158, 0, none⟩ = some (.int .u64 a0_0) ∧ w'.cell? ⟨gb158, 1, none⟩ = some (.int .u64 a0_1)) (ds := []) #[false, false, false, false, false, false, false, false, false, false, false, false, false, false, false, false] (by kernel_rfl) rfl rfl ⟨bc_ BK158.out 0, bc_ BK158.out 1⟩ (fun hHeld => ?_); refine with_tabW wide_Left.tab7 wide_Left.bits7 (fun HT_ HW_ => ?_)
      generalize w31.drew = w32 at BK158 BK159 HB hHeld ⊢
      refine pu_ 0 (some 22) #[true, false, false, false, false, false, false, false, false, false, false, false, false, false, false, false] rfl rfl (any_of HT_.out (by kernel_rfl)) ?_
      refine pu_ 2 (some 24) #[true, false, true, false, false, false, false, false, false, false, false, false, false, false, false, false] rfl rfl (any_of HT_.out (by kernel_rfl)) ?_
      refine pu_ 4 (some 26) #[true, false, true, false, true, false, false, false, false, false, false, false, false, false, false, false] rfl rfl (any_of HT_.out (by kernel_rfl)) ?_
      refine pu_ 6 (some 28) #[true, false, true, false, true, false, true, false, false, false, false, false, false, false, false, false] rfl rfl (any_of HT_.out (by kernel_rfl)) ?_
      refine pu_ 7 (some 29) #[true, false, true, false, true, false, true, true, false, false, false, false, false, false, false, false] rfl rfl (any_of HT_.out (by kernel_rfl)) ?_
      refine pu_ 10 (some 32) #[true, false, true, false, true, false, true, true, false, false, true, false, false, false, false, false] rfl rfl (any_of HT_.out (by kernel_rfl)) ?_
      refine pu_ 12 (some 34) #[true, false, true, false, true, false, true, true, false, false, true, false, true, false, false, false] rfl rfl (any_of HT_.out (by kernel_rfl)) ?_
      refine tk2_ 1 (some 23) #[true, true, true, false, true, false, true, true, false, false, true, false, true, false, false, false] rfl rfl (take_ofW HT_.out HW_.out (by kernel_rfl)) hHeld ?_
      refine pu_ 3 (some 25) #[true, true, true, true, true, false, true, true, false, false, true, false, true, false, false, false] rfl rfl (any_of HT_.out (by kernel_rfl)) ?_
      refine tk2_ 5 (some 27) #[true, true, true, true, true, true, true, true, false, false, true, false, true, false, false, false] rfl rfl (take_ofW HT_.out HW_.out (by kernel_rfl)) hHeld ?_
      refine pu_ 8 (some 30) #[true, true, true, true, true, true, true, true, true, false, true, false, true, false, false, false] rfl rfl (any_of HT_.out (by kernel_rfl)) ?_
      refine pu_ 9 (some 31) #[true, true, true, true, true, true, true, true, true, true, true, false, true, false, false, false] rfl rfl (any_of HT_.out (by kernel_rfl)) ?_
      refine tk2_ 11 (some 33) #[true, true, true, true, true, true, true, true, true, true, true, true, true, false, false, false] rfl rfl (take_ofW HT_.out HW_.out (by kernel_rfl)) hHeld ?_
      refine pu_ 13 (some 35) #[true, true, true, true, true, true, true, true, true, true, true, true, true, true, false, false] rfl rfl (any_of HT_.out (by kernel_rfl)) ?_
      refine pu_ 14 (some 36) #[true, true, true, true, true, true, true, true, true, true, true, true, true, true, true, false] rfl rfl (any_of HT_.out (by kernel_rfl)) ?_
      refine one_ (i := 15) (N := none) #[true, true, true, true, true, true, true, true, true, true, true, true, true, true, true, true] rfl rfl (one_of HT_.out (by kernel_rfl)) (by decide) (fun K hK => ?_)
      have hs33 : w32.cell? ⟨gb159, 0, none⟩ = some (.int .u64 0) := bc_ BK159.out 0
      have hfs33 := blk_frozen BK159.out 0
      have hns33_0 := NB158_159.out
      have hms33_0 := NB159_158.out
      have hs34 : w32.cell? ⟨gb159, 1, none⟩ = some (.int .u64 0) := bc_ BK159.out 1
      have hfs34 := blk_frozen BK159.out 1
      have hns34_0 := NB158_159.out
      have hms34_0 := NB159_158.out
      refine skip_ (w1 := ?_) (by rfl) rfl ?_ ?_
      rotate_left
      ·go_simp
       rfl
      refine hK.out _ _ ⟨((cell_far (p := ⟨gb159, _, none⟩) NB158_159.out _).trans (((cell_far (p := ⟨gb159, _, none⟩) NB158_159.out _).trans (hHeld.1)))), ((cell_far (p := ⟨gb159, _, none⟩) NB158_159.out _).trans (((cell_far (p := ⟨gb159, _, none⟩) NB158_159.out _).trans (hHeld.2))))⟩ (fun hHeld => ?_)
      clear hK K
      refine done_ (done_of HT_.out (by kernel_rfl)) ?_
      try go_wp2
      refine bodyPost_ret (results_cell_row rfl _ _ gb159 50 #[.int .u64 (Go.bits .or .u64 (ji24) (ji27)), .int .u64 ji29] (0, 0) _ rfl (by (with_reducible repeat (first | refine blk_drewN ?_ _ | refine blk_drew ?_ | refine blk_alloc ?_ _)); refine blk_put (cs := #[.int .u64 (Go.bits .or .u64 (ji24) (ji27)), .int .u64 0]) ?_ 1 _ rfl; (with_reducible repeat (first | refine blk_drewN ?_ _ | refine blk_drew ?_ | refine blk_alloc ?_ _)); refine blk_put (cs := #[.int .u64 0, .int .u64 0]) ?_ 0 _ rfl; (with_reducible repeat (first | refine blk_drewN ?_ _ | refine blk_drew ?_ | refine blk_alloc ?_ _)); exact BK159.out) Try.underlying50 rfl (by kernel_rfl)) rfl ?_
      exact ⟨by first | rfl | (simp [errW_none, errW_some] <;> rfl) | (simp only [← hji24, ← hji25, ← hji27, ← hji29]; first | rfl | (simp [errW_none, errW_some] <;> rfl)) | (simp [*, errW_none, errW_some] <;> rfl), hb2_ HB.out GE158.out GE159.out⟩
     ·rw [if_neg c26] at H
      exact absurd H (by simp)
    ·rw [if_neg c23] at H
     exact absurd H (by simp)
-- IMPORT Derived.Deep.RegionHeld3
-- IMPORT Derived.Test.YtjjehbedpgdhgaaPAEq50
def wide_Right.f (a0_0 : Int) (a0_1 : Int) (a1 : Int) : Option (Int × Int × Bool) :=
 if a1 ≤ 0 then some (a0_0, a0_1, false) else if a1 ≥ 128 then some (0, 0, (!(a0_0 == 0) || !(a0_1 == 0))) else
 if a1 ≥ 64 then (wide_Left.f 0 (shr .u64 a0_0 (wrap64 (a1 - 64))) a1).bind fun b => some (0, shr .u64 a0_0 (wrap64 (a1 - 64)), (!(b.1 == a0_0) || !(b.2 == a0_1)))
 else (wide_Left.f (shr .u64 a0_0 a1) (Go.bits .or .u64 (shr .u64 a0_1 a1) (shl .u64 a0_0 (wrap64 (64 - a1)))) a1).bind fun b => some (shr .u64 a0_0 a1, Go.bits .or .u64 (shr .u64 a0_1 a1) (shl .u64 a0_0 (wrap64 (64 - a1))), (!(b.1 == a0_0) || !(b.2 == a0_1)))
attribute [local go_sem high] eqA50
theorem wide_Right.bcell {W w1 : World} (hb : Below W.heap.size W w1) : (∀ b o, b < W.heap.size → w1.cell? ⟨b, o, none⟩ = W.cell? ⟨b, o, none⟩) ∧ (∀ b o, b < W.heap.size → w1.frozen? ⟨b, o, none⟩ = W.frozen? ⟨b, o, none⟩) :=
 ⟨fun b o h => hb.cell (p := ⟨b, o, none⟩) h, fun b o h => hb.frozen (p := ⟨b, o, none⟩) h⟩
theorem wide_Right.calls0 (a0_0 : Int) (a0_1 : Int) (a1 : Int) (w : World) (h : a1 ≤ 0) :
  Calls Try.prog 67 #[.agg #[.int .u64 a0_0, .int .u64 a0_1], .int .i64 a1] w fun e w' => e = .returned (.tuple #[.agg #[.int .u64 a0_0, .int .u64 a0_1], .bool false]) ∧ Below w.heap.size w w' := by
 have hu40 := Try.underlying50
 have c0 : decide (a1 ≤ 0) = true := decide_eq_true h
 clear h
 go_enter Try.func67, Try.ntmps67
 go_wp2
 exact bodyPost_ret (v := .tuple #[.agg #[.int .u64 a0_0, .int .u64 a0_1], .bool false]) (by simp [results, Try.results67, go_sem]) rfl ⟨rfl, below_alloc (below_alloc (Below.refl _ _) _) _⟩
theorem wide_Right.calls128 (a0_0 : Int) (a0_1 : Int) (a1 : Int) (w : World) (h : ¬ a1 ≤ 0) (h2 : a1 ≥ 128) :
  Calls Try.prog 67 #[.agg #[.int .u64 a0_0, .int .u64 a0_1], .int .i64 a1] w fun e w' => e = .returned (.tuple #[.agg #[.int .u64 0, .int .u64 0], .bool (!(a0_0 == 0) || !(a0_1 == 0))]) ∧ Below w.heap.size w w' := by
 have hu40 := Try.underlying50
 have c0 : decide (a1 ≤ 0) = false := decide_eq_false h
 have c1 : decide (128 ≤ a1) = true := decide_eq_true h2
 clear h h2
 go_enter Try.func67, Try.ntmps67
 go_wp2
 go_region
 go_wp2
 exact bodyPost_ret (v := .tuple #[.agg #[.int .u64 0, .int .u64 0], .bool (!(a0_0 == 0) || !(a0_1 == 0))]) (by simp [results, Try.results67, go_sem]) rfl ⟨rfl, below_drew (below_alloc (below_alloc (Below.refl _ _) _) _)⟩
theorem wide_Right.calls64 (a0_0 : Int) (a0_1 : Int) (a1 : Int) (x y : Int) (w : World) (h : ¬ a1 ≤ 0) (h2 : ¬ a1 ≥ 128) (h3 : a1 ≥ 64) (hl : wide_Left.f 0 (shr .u64 a0_0 (wrap64 (a1 - 64))) a1 = some (x, y)) :
  Calls Try.prog 67 #[.agg #[.int .u64 a0_0, .int .u64 a0_1], .int .i64 a1] w fun e w' => e = .returned (.tuple #[.agg #[.int .u64 0, .int .u64 (shr .u64 a0_0 (wrap64 (a1 - 64)))], .bool (!(x == a0_0) || !(y == a0_1))]) ∧ Below w.heap.size w w' := by
 have hu40 := Try.underlying50
 have c0 : decide (a1 ≤ 0) = false := decide_eq_false h
 have c1 : decide (128 ≤ a1) = false := decide_eq_false h2
 have c2 : decide (64 ≤ a1) = true := decide_eq_true h3
 have ew : wrap64 (a1 - 64) = a1 - 64 := by unfold wrap64; omega
 rw [ew] at hl ⊢
 have g0 := eq_true (show 64 ≤ a1 from h3)
 have g1 : a1 < 128 := by omega
 have es : shr .u64 a0_0 (a1 - 64) = a0_0 / 2 ^ (a1 - 64).toNat := by unfold shr; rw [show min (a1 - 64).toNat IntKind.u64.bits = (a1 - 64).toNat by rw [show IntKind.u64.bits = 64 by decide]; omega]
 rw [es] at hl ⊢
 clear es
 obtain ⟨s, hs⟩ : ∃ s, a0_0 / 2 ^ (a1 - 64).toNat = s := ⟨_, rfl⟩
 rw [hs] at hl ⊢
 have B0 := A_ hl;clear h h2 hl
 go_enter Try.func67, Try.ntmps67
 go_wp2
 go_region_held3 (fun w' => w'.cell? ⟨w.heap.size, 0, none⟩ = some (.int .u64 a0_0) ∧ w'.cell? ⟨w.heap.size, 1, none⟩ = some (.int .u64 a0_1) ∧ w'.cell? ⟨w.heap.size + 1, 0, none⟩ = some (.int .u64 0) ∧ w'.cell? ⟨w.heap.size + 1, 1, none⟩ = some (.int .u64 s) ∧ w'.frozen? ⟨w.heap.size + 1, 0, none⟩ = false ∧ w.heap.size + 1 < w'.heap.size ∧ Below w.heap.size w w')
  (((try go_split_ands); (try dsimp only); (repeat' apply And.intro) <;> first | assumption | (simp [go_sem, World.cell?_alloc_past]; done) | (simp [go_sem, World.cell?_alloc_past, *]; done) | (rw [hc _ _ (by omega)]; assumption) | (rw [hf _ _ (by omega)]; assumption) | (have := hb.size; omega) | (refine below_step ?_ hb; assumption) | (repeat (first | assumption | exact Below.refl _ _ | apply below_drew1 | apply below_alloc | (refine below_set ?_ (by omega))))))
  ((go_at_call 87; refine (wide_Left.calls 0 s a1 x y _ B0.out).mono ?_; rintro e w1 ⟨rfl, hb⟩; obtain ⟨hc, hf⟩ := wide_Right.bcell hb))
 rename_i hH
 obtain ⟨q0, q1, q2, q3, q4, q5, q6⟩ := hH
 go_wp2
 exact bodyPost_ret (v := .tuple #[.agg #[.int .u64 0, .int .u64 s], .bool (!(x == a0_0) || !(y == a0_1))]) (by simp [results, Try.results67, go_sem, q2, q3]) rfl ⟨rfl, q6⟩
theorem wide_Right.calls1 (a0_0 : Int) (a0_1 : Int) (a1 : Int) (x y : Int) (w : World) (h : ¬ a1 ≤ 0) (h2 : ¬ a1 ≥ 128) (h3 : ¬ a1 ≥ 64) (hl : wide_Left.f (shr .u64 a0_0 a1) (Go.bits .or .u64 (shr .u64 a0_1 a1) (shl .u64 a0_0 (wrap64 (64 - a1)))) a1 = some (x, y)) :
  Calls Try.prog 67 #[.agg #[.int .u64 a0_0, .int .u64 a0_1], .int .i64 a1] w fun e w' => e = .returned (.tuple #[.agg #[.int .u64 (shr .u64 a0_0 a1), .int .u64 (Go.bits .or .u64 (shr .u64 a0_1 a1) (shl .u64 a0_0 (wrap64 (64 - a1))))], .bool (!(x == a0_0) || !(y == a0_1))]) ∧ Below w.heap.size w w' := by
 have hu40 := Try.underlying50
 have c0 : decide (a1 ≤ 0) = false := decide_eq_false h
 have c1 : decide (128 ≤ a1) = false := decide_eq_false h2
 have c2 : decide (64 ≤ a1) = false := decide_eq_false h3
 have ew : wrap64 (64 - a1) = 64 - a1 := by unfold wrap64; omega
 rw [ew] at hl ⊢
 have gw : IntKind.i64.wrap (64 - a1) = 64 - a1 := by rw [i64_w]; unfold wrap64; omega
 have g0 := eq_true (show 0 ≤ a1 by omega)
 have g1 : a1 < 64 := by omega
 have g2 : 0 ≤ 64 - a1 := by omega
 have es : ∀ z : Int, shr .u64 z a1 = z / 2 ^ a1.toNat := fun z => by unfold shr; rw [show min a1.toNat IntKind.u64.bits = a1.toNat by rw [show IntKind.u64.bits = 64 by decide]; omega]
 have et : shl .u64 a0_0 (64 - a1) = IntKind.u64.wrap (a0_0 * 2 ^ min (64 - a1).toNat 64) := rfl
 rw [es, es, et] at hl ⊢
 clear es et
 obtain ⟨s, hs⟩ : ∃ s, a0_0 / 2 ^ a1.toNat = s := ⟨_, rfl⟩
 obtain ⟨s1, hs1⟩ : ∃ s, a0_1 / 2 ^ a1.toNat = s := ⟨_, rfl⟩
 obtain ⟨s2, hs2⟩ : ∃ s, IntKind.u64.wrap (a0_0 * 2 ^ min (64 - a1).toNat 64) = s := ⟨_, rfl⟩
 rw [hs, hs1, hs2] at hl ⊢
 obtain ⟨t, ht⟩ : ∃ t, Go.bits .or .u64 s1 s2 = t := ⟨_, rfl⟩
 rw [ht] at hl ⊢
 have B0 := A_ hl;clear h h2 h3 hl ew
 go_enter Try.func67, Try.ntmps67
 have g3 := eq_true (show a1 ≤ 64 by omega)
 go_wp2
 go_region_held3 (fun w' => w'.cell? ⟨w.heap.size, 0, none⟩ = some (.int .u64 a0_0) ∧ w'.cell? ⟨w.heap.size, 1, none⟩ = some (.int .u64 a0_1) ∧ w'.frozen? ⟨w.heap.size + 1, 0, none⟩ = false ∧ w.heap.size + 1 < w'.heap.size ∧ Below w.heap.size w w')
  (((try go_split_ands); (try dsimp only); (repeat' apply And.intro) <;> first | assumption | (simp [go_sem, World.cell?_alloc_past]; done) | (simp [go_sem, World.cell?_alloc_past, *]; done) | (rw [hc _ _ (by omega)]; assumption) | (rw [hf _ _ (by omega)]; assumption) | (have := hb.size; omega) | (refine below_step ?_ hb; assumption) | (repeat (first | assumption | exact Below.refl _ _ | apply below_drew1 | apply below_alloc | (refine below_set ?_ (by omega))))))
  (fail)
 rename_i hH0
 clear hH0
 go_wp2
 go_region_held3 (fun w' => w'.cell? ⟨w.heap.size, 0, none⟩ = some (.int .u64 a0_0) ∧ w'.cell? ⟨w.heap.size, 1, none⟩ = some (.int .u64 a0_1) ∧ w'.cell? ⟨w.heap.size + 1, 0, none⟩ = some (.int .u64 s) ∧ w'.cell? ⟨w.heap.size + 1, 1, none⟩ = some (.int .u64 t) ∧ w'.frozen? ⟨w.heap.size + 1, 0, none⟩ = false ∧ w.heap.size + 1 < w'.heap.size ∧ Below w.heap.size w w')
  (((try go_split_ands); (try dsimp only); (repeat' apply And.intro) <;> first | assumption | (simp [go_sem, World.cell?_alloc_past]; done) | (simp [go_sem, World.cell?_alloc_past, *]; done) | (rw [hc _ _ (by omega)]; assumption) | (rw [hf _ _ (by omega)]; assumption) | (have := hb.size; omega) | (refine below_step ?_ hb; assumption) | (repeat (first | assumption | exact Below.refl _ _ | apply below_drew1 | apply below_alloc | (refine below_set ?_ (by omega))))))
  ((go_at_call 87; refine (wide_Left.calls s t a1 x y _ B0.out).mono ?_; rintro e w1 ⟨rfl, hb⟩; obtain ⟨hc, hf⟩ := wide_Right.bcell hb))
 rename_i hH
 obtain ⟨q0, q1, q2, q3, q4, q5, q6⟩ := hH
 go_wp2
 exact bodyPost_ret (v := .tuple #[.agg #[.int .u64 s, .int .u64 t], .bool (!(x == a0_0) || !(y == a0_1))]) (by simp [results, Try.results67, go_sem, q2, q3]) rfl ⟨rfl, q6⟩
theorem wide_Right.calls (a0_0 : Int) (a0_1 : Int) (a1 : Int) (r1 : Int) (r2 : Int) (r3 : Bool) (w : World) (h : wide_Right.f a0_0 a0_1 a1 = some (r1, r2, r3)) :
  Calls Try.prog 67 #[.agg #[.int .u64 a0_0, .int .u64 a0_1], .int .i64 a1] w fun e w' => e = .returned (.tuple #[.agg #[.int .u64 r1, .int .u64 r2], .bool r3]) ∧ Below w.heap.size w w' := by
 unfold wide_Right.f at h
 by_cases h1 : a1 ≤ 0
 ·rw [if_pos h1] at h
  simp only [Option.some.injEq, Prod.mk.injEq] at h
  obtain ⟨rfl, rfl, rfl⟩ := h
  exact wide_Right.calls0 _ _ a1 w h1
 ·rw [if_neg h1] at h
  by_cases h2 : a1 ≥ 128
  ·rw [if_pos h2] at h
   simp only [Option.some.injEq, Prod.mk.injEq] at h
   obtain ⟨rfl, rfl, rfl⟩ := h
   exact wide_Right.calls128 _ _ a1 w h1 h2
  ·rw [if_neg h2] at h
   by_cases h3 : a1 ≥ 64
   ·rw [if_pos h3] at h
    obtain ⟨⟨x, y⟩, A0, H⟩ := ob_ h
    simp only [Option.some.injEq, Prod.mk.injEq] at H
    obtain ⟨rfl, rfl, rfl⟩ := H
    exact wide_Right.calls64 _ _ a1 x y w h1 h2 h3 A0
   ·rw [if_neg h3] at h
    obtain ⟨⟨x, y⟩, A0, H⟩ := ob_ h
    simp only [Option.some.injEq, Prod.mk.injEq] at H
    obtain ⟨rfl, rfl, rfl⟩ := H
    exact wide_Right.calls1 _ _ a1 x y w h1 h2 h3 A0
def wide_order.f (a0 : Int) (a1 : Int) : Option (Int) := if a0 < a1 then (some (-1)) else (if a0 > a1 then (some 1) else (some 0))
theorem wide_order.calls (a0 : Int) (a1 : Int) (r : Int) (w : World) (h : wide_order.f a0 a1 = some r) :
  Calls Try.prog 79 #[.int .u64 a0, .int .u64 a1] w fun e w' => e = .returned (.int .i64 r) ∧ Drawn0 w w' := by
 have H : (if a0 < a1 then (some (-1)) else (if a0 > a1 then (some 1) else (some 0))) = some r := h
 clear h
 by_cases c3 : a0 < a1
 ·rw [if_pos c3] at H
  have c3b0 : decide (a0 < a1) = true := decide_eq_true c3
  clear c3
  obtain rfl := Option.some.inj H
  go_enter Try.func79, Try.ntmps79
  go_wp2
  go_ret
  exact ⟨sm_, by repeat (first | exact Drawn0.refl _ | apply Drawn0.step)⟩
 ·rw [if_neg c3] at H
  have c3b0 : decide (a0 < a1) = false := decide_eq_false c3
  clear c3
  by_cases c4 : a0 > a1
  ·rw [if_pos c4] at H
   have c4b0 : decide (a1 < a0) = true := decide_eq_true c4
   clear c4
   obtain rfl := Option.some.inj H
   go_enter Try.func79, Try.ntmps79
   go_wp2
   go_ret
   exact ⟨sm_, by repeat (first | exact Drawn0.refl _ | apply Drawn0.step)⟩
  ·rw [if_neg c4] at H
   have c4b0 : decide (a1 < a0) = false := decide_eq_false c4
   clear c4
   obtain rfl := Option.some.inj H
   go_enter Try.func79, Try.ntmps79
   go_wp2
   go_ret
   exact ⟨sm_, by repeat (first | exact Drawn0.refl _ | apply Drawn0.step)⟩
def wide_Cmp.f (a0_0 : Int) (a0_1 : Int) (a1_0 : Int) (a1_1 : Int) : Option (Int) := if a0_0 = a1_0 then ((wide_order.f a0_1 a1_1).bind fun t205 => (some t205)) else ((wide_order.f a0_0 a1_0).bind fun t206 => (some t206))
theorem wide_Cmp.calls (a0_0 : Int) (a0_1 : Int) (a1_0 : Int) (a1_1 : Int) (r : Int) (w : World) (h : wide_Cmp.f a0_0 a0_1 a1_0 a1_1 = some r) :
  Calls Try.prog 40 #[.agg #[.int .u64 a0_0, .int .u64 a0_1], .agg #[.int .u64 a1_0, .int .u64 a1_1]] w fun e w' => e = .returned (.int .i64 r) ∧ Below w.heap.size w w' := by
 have hu50 := Try.underlying50
 have HB := A_ (Below.refl w.heap.size w)
 have H : (if a0_0 = a1_0 then ((wide_order.f a0_1 a1_1).bind fun t205 => (some t205)) else ((wide_order.f a0_0 a1_0).bind fun t206 => (some t206))) = some r := h
 clear h
 by_cases c3 : a0_0 = a1_0
 ·rw [if_pos c3] at H
  have c3b0 : (a0_0 == a1_0) = true := beq_iff_eq.mpr c3
  have c3b1 : (a0_0 != a1_0) = false := bne_eq_false_iff_eq.mpr c3
  clear c3
  replace H := ob_ H
  obtain ⟨t205, A40, H⟩ := H
  replace H : (some t205) = some r := H
  have A4 := A_ A40;clear A40
  obtain rfl := Option.some.inj H
  go_enter Try.func40, Try.ntmps40
  go_wp2_with (first | ((with_reducible refine gate_dst (N := 2) rfl ?_); refine be_ 2 #[.int .u64 a0_0, .int .u64 a0_1] 50 ?_; intro gb203 hg w5 hbox hb; have BK203 := A_ (hbox); have GW203 := A_ (sz_ hg (hb_ HB.out)); have GE203 := A_ (sz_ hg (hb_ HB.out)); replace HB := A_ (below_step (hb_ HB.out) hb); clear hb hbox hg) | ((with_reducible refine gate_dst (N := 3) rfl ?_); refine be_ 3 #[.int .u64 a1_0, .int .u64 a1_1] 50 ?_; intro gb204 hg w6 hbox hb; have BK204 := A_ (hbox); have GW204 := A_ (sz_ hg (hb1_ HB.out GE203.out)); have GE204 := A_ (sz_ hg (hb1_ HB.out GE203.out)); have NB203_204 := A_ (nl_ hg BK203.out); have NB204_203 := A_ (ng_ hg BK203.out); replace BK203 := A_ (bb_ BK203.out hb); replace HB := A_ (below_step (hb1_ HB.out GE203.out) hb); clear hb hbox hg; have hnb7 := NB203_204.out; have hnc7 := NB204_203.out; have hcz8_0 := bv_ BK203.out 0; have hcz8_1 := bv_ BK203.out 1; have hfz8_0 := blk_frozen BK203.out 0; have hfz8_1 := blk_frozen BK203.out 1; have hcz9_0 := bv_ BK204.out 0; have hcz9_1 := bv_ BK204.out 1; have hfz9_0 := blk_frozen BK204.out 0; have hfz9_1 := blk_frozen BK204.out 1) | ((with_reducible refine gate_callee (f := 79) rfl ?_); refine gl_ (some 19) Try.func79 #[.int .u64 a0_1, .int .u64 a1_1] ?_; (with_reducible refine (wide_order.calls a0_1 a1_1 t205 _ A4.out).mono ?_); rintro e w' ⟨rfl, ⟨nd, rfl⟩⟩; refine ⟨_, rfl, ?_⟩))
  go_ret
  exact ⟨er_, hb2_ HB.out GE203.out GE204.out⟩
 ·rw [if_neg c3] at H
  have c3b0 : (a0_0 == a1_0) = false := beq_eq_false_iff_ne.mpr c3
  have c3b1 : (a0_0 != a1_0) = true := bne_iff_ne.mpr c3
  replace H := ob_ H
  obtain ⟨t206, A100, H⟩ := H
  replace H : (some t206) = some r := H
  have A10 := A_ A100;clear A100
  obtain rfl := Option.some.inj H
  go_enter Try.func40, Try.ntmps40
  go_wp2_with (first | ((with_reducible refine gate_dst (N := 2) rfl ?_); refine be_ 2 #[.int .u64 a0_0, .int .u64 a0_1] 50 ?_; intro gb203 hg w11 hbox hb; have BK203 := A_ (hbox); have GW203 := A_ (sz_ hg (hb_ HB.out)); have GE203 := A_ (sz_ hg (hb_ HB.out)); replace HB := A_ (below_step (hb_ HB.out) hb); clear hb hbox hg) | ((with_reducible refine gate_dst (N := 3) rfl ?_); refine be_ 3 #[.int .u64 a1_0, .int .u64 a1_1] 50 ?_; intro gb204 hg w12 hbox hb; have BK204 := A_ (hbox); have GW204 := A_ (sz_ hg (hb1_ HB.out GE203.out)); have GE204 := A_ (sz_ hg (hb1_ HB.out GE203.out)); have NB203_204 := A_ (nl_ hg BK203.out); have NB204_203 := A_ (ng_ hg BK203.out); replace BK203 := A_ (bb_ BK203.out hb); replace HB := A_ (below_step (hb1_ HB.out GE203.out) hb); clear hb hbox hg; have hnb13 := NB203_204.out; have hnc13 := NB204_203.out; have hcz14_0 := bv_ BK203.out 0; have hcz14_1 := bv_ BK203.out 1; have hfz14_0 := blk_frozen BK203.out 0; have hfz14_1 := blk_frozen BK203.out 1; have hcz15_0 := bv_ BK204.out 0; have hcz15_1 := bv_ BK204.out 1; have hfz15_0 := blk_frozen BK204.out 0; have hfz15_1 := blk_frozen BK204.out 1) | ((with_reducible refine gate_callee (f := 79) rfl ?_); refine gl_ (some 14) Try.func79 #[.int .u64 a0_0, .int .u64 a1_0] ?_; (with_reducible refine (wide_order.calls a0_0 a1_0 t206 _ A10.out).mono ?_); rintro e w' ⟨rfl, ⟨nd, rfl⟩⟩; refine ⟨_, rfl, ?_⟩))
  go_ret
  exact ⟨er_, hb2_ HB.out GE203.out GE204.out⟩
attribute [local go_sem high] eqA50
def wide_Root.l0 : Nat → Int → Int → Int → Int → Option (Int × Bool)
 | 0, _, _, _, _ => none
 | k + 1, x2, x4, x208000, x208001 => if x4 > 0 then ((wide_Mul.f (Go.bits .or .u64 x2 x4) (Go.bits .or .u64 x2 x4)).bind fun bt210 => ((wide_Cmp.f bt210.1 bt210.2 x208000 x208001).bind fun t212 => (if t212 ≤ 0 then (wide_Root.l0 k (Go.bits .or .u64 x2 x4) (x4 / 2) x208000 x208001) else (wide_Root.l0 k x2 (x4 / 2) x208000 x208001)))) else ((wide_Mul.f x2 x2).bind fun bt208 => (some (x2, (!(bt208.1 == x208000) || (!(bt208.2 == x208001))))))
def wide_Root.f (k : Nat) (a0_0 : Int) (a0_1 : Int) : Option (Int × Bool) := wide_Root.l0 k 0 9223372036854775808 a0_0 a0_1
theorem wide_Root.mono_l : ∀ k, (∀ y0 y1 y2 y3, LeO (wide_Root.l0 k y0 y1 y2 y3) (wide_Root.l0 (k + 1) y0 y1 y2 y3))
 | 0 => fun _ _ _ _ r h => by simp [wide_Root.l0] at h
 | k + 1 => by
  have ih0 := wide_Root.mono_l k
  ·intro y0 y1 y2 y3
   unfold wide_Root.l0
   repeat' first
   | (with_reducible exact ih0 _ _ _ _)
   | (with_reducible exact LeO.refl _)
   | (with_reducible exact LeO.none _)
   | (with_reducible refine LeO.ite ?_ ?_)
   | (with_reducible refine LeO.bind ?_ (fun _ => ?_))
   | exact ih0 _ _ _ _
   | exact LeO.none _
   | refine LeO.ite ?_ ?_
   | refine LeO.bind ?_ (fun _ => ?_)
theorem wide_Root.mono : ∀ a0 a1 k, LeO (wide_Root.f k a0 a1) (wide_Root.f (k + 1) a0 a1) := by
 intro a0 a1 k
 have ih0 := wide_Root.mono_l k
 unfold wide_Root.f
 repeat' first
   | (with_reducible exact ih0 _ _ _ _)
   | (with_reducible exact LeO.refl _)
   | (with_reducible exact LeO.none _)
   | (with_reducible refine LeO.ite ?_ ?_)
   | (with_reducible refine LeO.bind ?_ (fun _ => ?_))
   | exact ih0 _ _ _ _
   | exact LeO.none _
   | refine LeO.ite ?_ ?_
   | refine LeO.bind ?_ (fun _ => ?_)
def wide_Root.T7 : Bool × List (List Nat × List Nat) := (true, [([], []), ([], []), ([], []), ([1, 2], [1, 2]), ([], []), ([3, 4], [3, 4]), ([0, 3, 0, 1, 2], [0, 1, 2]), ([5, 6, 0, 1, 2, 3, 4, 5, 6], [5])])
def wide_Root.B7 : List Nat := [0, 0, 0, 6, 0, 30, 15, 127]
theorem wide_Root.tab7 : rtab .any (opsOf Try.f68 7) = wide_Root.T7 := by kernel_rfl
theorem wide_Root.bits7 : waitsOk wide_Root.T7.2 wide_Root.B7 = true := by kernel_rfl
theorem wide_Root.calls (k : Nat) (a0_0 : Int) (a0_1 : Int) (r1 : Int) (r2 : Bool) (w : World) (h : wide_Root.f k a0_0 a0_1 = some (r1, r2)) :
  Calls Try.prog 68 #[.agg #[.int .u64 a0_0, .int .u64 a0_1]] w fun e w' => e = .returned (.tuple #[.int .u64 r1, .bool r2]) ∧ Below w.heap.size w w' := by
 have hu50 := Try.underlying50
 have HB := A_ (Below.refl w.heap.size w)
 have H : (wide_Root.l0 k 0 9223372036854775808 a0_0 a0_1) = some (r1, r2) := h
 clear h
 have H' := A_ H
 clear H
 go_enter Try.func68, Try.ntmps68
 go_wp2_with (first | ((with_reducible refine gate_dst (N := 1) rfl ?_); refine be_ 1 #[.int .u64 a0_0, .int .u64 a0_1] 50 ?_; intro gb207 hg w2 hbox hb; have BK207 := A_ (hbox); have GW207 := A_ (sz_ hg (hb_ HB.out)); have GE207 := A_ (sz_ hg (hb_ HB.out)); replace HB := A_ (below_step (hb_ HB.out) hb); clear hb hbox hg))
 go_loopg [2, 4] k (fun kq v2 v4 w' => ∃ (x2_1 : Int) (x4_1 : Int), v2 = .int .u64 x2_1 ∧ v4 = .int .u64 x4_1 ∧ Aside0 (wide_Root.l0 kq x2_1 x4_1 a0_0 a0_1 = some (r1, r2)) ∧ Aside0 (kq ≤ k) ∧ Aside0 (w'.heap[gb207]? = some (.cells #[.int .u64 a0_0, .int .u64 a0_1] 50 (0, 0))) ∧ Aside0 (Below w.heap.size w w'))
 case atStart => exact ⟨(0), (9223372036854775808), sm_, sm_, H', ⟨Nat.le_refl _⟩, ⟨bk_ BK207.out⟩, ⟨hb1_ HB.out GE207.out⟩⟩
 case round =>
  clear H'
  try clear p2
  obtain ⟨x2_1, x4_1, rfl, rfl, HA, HK1, BK207, HB⟩ := hrel
  cases gk with
  | zero => exact absurd HA.out (by simp [wide_Root.l0])
  | succ k1 =>
   have H := HA.out
   clear HA
   simp only [wide_Root.l0] at H
   by_cases c3 : x4_1 > 0
   ·rw [if_pos c3] at H
    have c3b0 : decide (0 < x4_1) = true := decide_eq_true c3
    clear c3
    replace H := ob_ H
    obtain ⟨⟨t210, t211⟩, A40, H⟩ := H
    replace H : ((wide_Cmp.f t210 t211 a0_0 a0_1).bind fun t212 => (if t212 ≤ 0 then (wide_Root.l0 k1 (Go.bits .or .u64 x2_1 x4_1) (x4_1 / 2) a0_0 a0_1) else (wide_Root.l0 k1 x2_1 (x4_1 / 2) a0_0 a0_1))) = some (r1, r2) := H
    have A4 := A_ A40;clear A40
    replace H := ob_ H
    obtain ⟨t212, A50, H⟩ := H
    replace H : (if t212 ≤ 0 then (wide_Root.l0 k1 (Go.bits .or .u64 x2_1 x4_1) (x4_1 / 2) a0_0 a0_1) else (wide_Root.l0 k1 x2_1 (x4_1 / 2) a0_0 a0_1)) = some (r1, r2) := H
    have A5 := A_ A50;clear A50
    by_cases c6 : t212 ≤ 0
    ·rw [if_pos c6] at H
     have c6b0 : decide (t212 ≤ 0) = true := decide_eq_true c6
     clear c6
     have H' := A_ H
     clear H
     try go_wp2
     replace BK207 := A_ (blk_drew BK207.out)
     replace HB := A_ (below_drew1 HB.out)
     refine start_ (n := 6) (S := fun w' => w'.cell? ⟨gb207, 0, none⟩ = some (.int .u64 a0_0) ∧ w'.cell? ⟨gb207, 1, none⟩ = some (.int .u64 a0_1)) (ds := []) #[false, false, false, false, false, false] (by kernel_rfl) rfl rfl ⟨bc_ BK207.out 0, bc_ BK207.out 1⟩ (fun hHeld => ?_)
     generalize wr.drew = w7 at BK207 HB hHeld ⊢
     refine pu_ 0 (some 13) #[true, false, false, false, false, false] rfl rfl (by kernel_rfl) ?_
     refine pu_ 1 (some 14) #[true, true, false, false, false, false] rfl rfl (by kernel_rfl) ?_
     refine tk2_ 3 (some 16) #[true, true, false, true, false, false] rfl rfl (by kernel_rfl) hHeld ?_
     refine one_ (i := 2) (N := some 15) #[true, true, true, true, false, false] rfl rfl (by kernel_rfl) (by decide) (fun K hK => ?_)
     refine goes_ Try.func38 (by kernel_rfl) rfl #[.int .u64 (Go.bits .or .u64 x2_1 x4_1), .int .u64 (Go.bits .or .u64 x2_1 x4_1)] (by rfl) rfl rfl mp_ ?_
     with_reducible refine (wide_Mul.calls (Go.bits .or .u64 x2_1 x4_1) (Go.bits .or .u64 x2_1 x4_1) t210 t211 _ A4.out).mono ?_
     rintro e w8 ⟨rfl, hb⟩
     refine ⟨_, rfl, ?_⟩
     replace BK207 := A_ (bb_ BK207.out hb)
     replace HB := A_ (below_step (hb1_ HB.out GE207.out) hb);(try clear hb);(try clear hb2);(try clear hk);(try clear hi)
     refine hK.out _ _ ⟨bc_ BK207.out 0, bc_ BK207.out 1⟩ (fun hHeld => ?_)
     clear hK K
     refine norm_ (a' := ?_) ?_ ?_
     rotate_left
     ·show Act.put _ (some 15) _ = _
      simp only [Act.put, lI_, l0_, lS_, i64_w, i32_w]
      rfl
     refine one_ (i := 4) (N := some 17) #[true, true, true, true, true, false] rfl rfl (by kernel_rfl) (by decide) (fun K hK => ?_)
     refine goes_ Try.func40 (by kernel_rfl) rfl #[.agg #[.int .u64 t210, .int .u64 t211], .agg #[.int .u64 a0_0, .int .u64 a0_1]] (by rfl) rfl rfl mp_ ?_
     with_reducible refine (wide_Cmp.calls t210 t211 a0_0 a0_1 t212 _ A5.out).mono ?_
     rintro e w9 ⟨rfl, hb⟩
     refine ⟨_, rfl, ?_⟩
     replace BK207 := A_ (bb_ BK207.out hb)
     replace HB := A_ (below_step (hb1_ HB.out GE207.out) hb);(try clear hb);(try clear hb2);(try clear hk);(try clear hi)
     refine hK.out _ _ ⟨bc_ BK207.out 0, bc_ BK207.out 1⟩ (fun hHeld => ?_)
     clear hK K
     refine norm_ (a' := ?_) ?_ ?_
     rotate_left
     ·show Act.put _ (some 17) _ = _
      simp only [Act.put, lI_, l0_, lS_, i64_w, i32_w]
      rfl
     refine pu_ 5 (some 18) #[true, true, true, true, true, true] rfl rfl (by kernel_rfl) ?_
     refine done_ (by kernel_rfl) ?_
     try go_wp2
     go_roundg k1
     case measure => have := HK1.out; omega
     case rel => exact ⟨(Go.bits .or .u64 x2_1 x4_1), (x4_1 / 2), sm_, sm_, H', ⟨by have := HK1.out; omega⟩, ⟨bk_ BK207.out⟩, ⟨hb1_ HB.out GE207.out⟩⟩
    ·rw [if_neg c6] at H
     have c6b0 : decide (t212 ≤ 0) = false := decide_eq_false c6
     clear c6
     have H' := A_ H
     clear H
     try go_wp2
     replace BK207 := A_ (blk_drew BK207.out)
     replace HB := A_ (below_drew1 HB.out)
     refine start_ (n := 6) (S := fun w' => w'.cell? ⟨gb207, 0, none⟩ = some (.int .u64 a0_0) ∧ w'.cell? ⟨gb207, 1, none⟩ = some (.int .u64 a0_1)) (ds := []) #[false, false, false, false, false, false] (by kernel_rfl) rfl rfl ⟨bc_ BK207.out 0, bc_ BK207.out 1⟩ (fun hHeld => ?_)
     generalize wr.drew = w10 at BK207 HB hHeld ⊢
     refine pu_ 0 (some 13) #[true, false, false, false, false, false] rfl rfl (by kernel_rfl) ?_
     refine pu_ 1 (some 14) #[true, true, false, false, false, false] rfl rfl (by kernel_rfl) ?_
     refine tk2_ 3 (some 16) #[true, true, false, true, false, false] rfl rfl (by kernel_rfl) hHeld ?_
     refine one_ (i := 2) (N := some 15) #[true, true, true, true, false, false] rfl rfl (by kernel_rfl) (by decide) (fun K hK => ?_)
     refine goes_ Try.func38 (by kernel_rfl) rfl #[.int .u64 (Go.bits .or .u64 x2_1 x4_1), .int .u64 (Go.bits .or .u64 x2_1 x4_1)] (by rfl) rfl rfl mp_ ?_
     with_reducible refine (wide_Mul.calls (Go.bits .or .u64 x2_1 x4_1) (Go.bits .or .u64 x2_1 x4_1) t210 t211 _ A4.out).mono ?_
     rintro e w11 ⟨rfl, hb⟩
     refine ⟨_, rfl, ?_⟩
     replace BK207 := A_ (bb_ BK207.out hb)
     replace HB := A_ (below_step (hb1_ HB.out GE207.out) hb);(try clear hb);(try clear hb2);(try clear hk);(try clear hi)
     refine hK.out _ _ ⟨bc_ BK207.out 0, bc_ BK207.out 1⟩ (fun hHeld => ?_)
     clear hK K
     refine norm_ (a' := ?_) ?_ ?_
     rotate_left
     ·show Act.put _ (some 15) _ = _
      simp only [Act.put, lI_, l0_, lS_, i64_w, i32_w]
      rfl
     refine one_ (i := 4) (N := some 17) #[true, true, true, true, true, false] rfl rfl (by kernel_rfl) (by decide) (fun K hK => ?_)
     refine goes_ Try.func40 (by kernel_rfl) rfl #[.agg #[.int .u64 t210, .int .u64 t211], .agg #[.int .u64 a0_0, .int .u64 a0_1]] (by rfl) rfl rfl mp_ ?_
     with_reducible refine (wide_Cmp.calls t210 t211 a0_0 a0_1 t212 _ A5.out).mono ?_
     rintro e w12 ⟨rfl, hb⟩
     refine ⟨_, rfl, ?_⟩
     replace BK207 := A_ (bb_ BK207.out hb)
     replace HB := A_ (below_step (hb1_ HB.out GE207.out) hb);(try clear hb);(try clear hb2);(try clear hk);(try clear hi)
     refine hK.out _ _ ⟨bc_ BK207.out 0, bc_ BK207.out 1⟩ (fun hHeld => ?_)
     clear hK K
     refine norm_ (a' := ?_) ?_ ?_
     rotate_left
     ·show Act.put _ (some 17) _ = _
      simp only [Act.put, lI_, l0_, lS_, i64_w, i32_w]
      rfl
     refine pu_ 5 (some 18) #[true, true, true, true, true, true] rfl rfl (by kernel_rfl) ?_
     refine done_ (by kernel_rfl) ?_
     try go_wp2
     go_roundg k1
     case measure => have := HK1.out; omega
     case rel => exact ⟨(x2_1), (x4_1 / 2), sm_, sm_, H', ⟨by have := HK1.out; omega⟩, ⟨bk_ BK207.out⟩, ⟨hb1_ HB.out GE207.out⟩⟩
   ·rw [if_neg c3] at H
    have c3b0 : decide (0 < x4_1) = false := decide_eq_false c3
    clear c3
    replace H := ob_ H
    obtain ⟨⟨t208, t209⟩, A130, H⟩ := H
    replace H : (some (x2_1, (!(t208 == a0_0) || (!(t209 == a0_1))))) = some (r1, r2) := H
    have A13 := A_ A130;clear A130
    simp only [Option.some.injEq, Prod.mk.injEq] at H
    obtain ⟨rfl, rfl⟩ := H
    try go_wp2
    replace BK207 := A_ (blk_drew BK207.out)
    replace HB := A_ (below_drew1 HB.out)
    refine start_ (n := 8) (S := fun w' => w'.cell? ⟨gb207, 0, none⟩ = some (.int .u64 a0_0) ∧ w'.cell? ⟨gb207, 1, none⟩ = some (.int .u64 a0_1)) (ds := []) #[false, false, false, false, false, false, false, false] (by kernel_rfl) rfl rfl ⟨bc_ BK207.out 0, bc_ BK207.out 1⟩ (fun hHeld => ?_); refine with_tabW wide_Root.tab7 wide_Root.bits7 (fun HT_ HW_ => ?_)
    generalize wr.drew = w14 at BK207 HB hHeld ⊢
    refine pu_ 0 (some 20) #[true, false, false, false, false, false, false, false] rfl rfl (any_of HT_.out (by kernel_rfl)) ?_
    refine pu_ 1 (some 21) #[true, true, false, false, false, false, false, false] rfl rfl (any_of HT_.out (by kernel_rfl)) ?_
    refine pu_ 2 (some 22) #[true, true, true, false, false, false, false, false] rfl rfl (any_of HT_.out (by kernel_rfl)) ?_
    refine tk2_ 4 (some 24) #[true, true, true, false, true, false, false, false] rfl rfl (take_ofW HT_.out HW_.out (by kernel_rfl)) hHeld ?_
    refine one_ (i := 3) (N := some 23) #[true, true, true, true, true, false, false, false] rfl rfl (one_of HT_.out (by kernel_rfl)) (by decide) (fun K hK => ?_)
    refine goes_ Try.func38 (by kernel_rfl) rfl #[.int .u64 x2_1, .int .u64 x2_1] (by rfl) rfl rfl mp_ ?_
    with_reducible refine (wide_Mul.calls x2_1 x2_1 t208 t209 _ A13.out).mono ?_
    rintro e w15 ⟨rfl, hb⟩
    refine ⟨_, rfl, ?_⟩
    replace BK207 := A_ (bb_ BK207.out hb)
    replace HB := A_ (below_step (hb1_ HB.out GE207.out) hb);(try clear hb);(try clear hb2);(try clear hk);(try clear hi)
    refine hK.out _ _ ⟨bc_ BK207.out 0, bc_ BK207.out 1⟩ (fun hHeld => ?_)
    clear hK K
    refine norm_ (a' := ?_) ?_ ?_
    rotate_left
    ·show Act.put _ (some 23) _ = _
     simp only [Act.put, lI_, l0_, lS_, i64_w, i32_w]
     rfl
    refine pu_ 5 (some 25) #[true, true, true, true, true, true, false, false] rfl rfl (any_of HT_.out (by kernel_rfl)) ?_
    refine pu_ 6 (some 2) #[true, true, true, true, true, true, true, false] rfl rfl (any_of HT_.out (by kernel_rfl)) ?_
    refine pu_ 7 (some 3) #[true, true, true, true, true, true, true, true] rfl rfl (any_of HT_.out (by kernel_rfl)) ?_
    refine done_ (done_of HT_.out (by kernel_rfl)) ?_
    try go_wp2
    go_ret2
    exact ⟨er_, hb1_ HB.out GE207.out⟩
attribute [local go_sem high] eqA50
def L01_awake.f (k : Nat)  : Option (Bool) := (wide_Of.f 5).bind fun bt581 => ((wide_Right.f bt581.1 bt581.2 1).bind fun bt583 => ((wide_Root.f k 1 0).bind fun bt587 => ((wide_Mul.f 9223372036854775808 4).bind fun bt589 => (if (bt589.1 == 2 && (bt589.2 == 0)) = true then ((wide_Of.f 2).bind fun bt591 => (if (bt583.1 == bt591.1 && (bt583.2.1 == bt591.2)) = true then (if bt583.2.2 = true then (if bt587.1 = 4294967296 then (some (!bt587.2)) else (some false)) else (some false)) else (some false))) else (some false)))))
theorem L01_awake.mono : ∀ k, LeO (L01_awake.f k ) (L01_awake.f (k + 1) ) := by
 intro  k
 unfold L01_awake.f
 repeat' first
   | (with_reducible exact wide_Root.mono _ _ _)
   | (with_reducible exact LeO.refl _)
   | (with_reducible exact LeO.none _)
   | (with_reducible refine LeO.ite ?_ ?_)
   | (with_reducible refine LeO.bind ?_ (fun _ => ?_))
   | exact wide_Root.mono _ _ _
   | exact LeO.none _
   | refine LeO.ite ?_ ?_
   | refine LeO.bind ?_ (fun _ => ?_)
def L01_awake.T3 : Bool × List (List Nat × List Nat) := (true, [([], []), ([], []), ([0, 1], [0, 1]), ([2, 0], [2]), ([3], [3]), ([3, 3], [3]), ([4, 5, 3], [3, 4, 5]), ([3, 6], [3, 6]), ([7, 5], [7]), ([8], [8]), ([8, 9], [8, 9]), ([10, 8], [10]), ([11], [11]), ([12, 11], [11, 12]), ([11, 13], [11, 13]), ([14, 11], [14]), ([15], [15]), ([16, 15], [15, 16]), ([15, 17], [15, 17]), ([18, 15, 0, 1, 2, 3, 4, 5, 6, 7, 8, 9, 10, 11, 12, 13, 14, 15, 16, 17, 18], [18])])
def L01_awake.B3 : List Nat := [0, 0, 3, 7, 15, 15, 63, 127, 255, 511, 1023, 2047, 4095, 8191, 16383, 32767, 65535, 131071, 262143, 524287]
theorem L01_awake.tab3 : rtab .any (opsOf Try.f28 3) = L01_awake.T3 := by kernel_rfl
theorem L01_awake.bits3 : waitsOk L01_awake.T3.2 L01_awake.B3 = true := by kernel_rfl
theorem L01_awake.calls (k : Nat)  (r : Bool) (w : World) (h : L01_awake.f k  = some r) :
  Calls Try.prog 28 #[] w fun e w' => e = .returned (.bool r) ∧ Below w.heap.size w w' := by
 have hu50 := Try.underlying50
 have HB := A_ (Below.refl w.heap.size w)
 have H : ((wide_Of.f 5).bind fun bt581 => ((wide_Right.f bt581.1 bt581.2 1).bind fun bt583 => ((wide_Root.f k 1 0).bind fun bt587 => ((wide_Mul.f 9223372036854775808 4).bind fun bt589 => (if (bt589.1 == 2 && (bt589.2 == 0)) = true then ((wide_Of.f 2).bind fun bt591 => (if (bt583.1 == bt591.1 && (bt583.2.1 == bt591.2)) = true then (if bt583.2.2 = true then (if bt587.1 = 4294967296 then (some (!bt587.2)) else (some false)) else (some false)) else (some false))) else (some false)))))) = some r := h
 clear h
 replace H := ob_ H
 obtain ⟨⟨t581, t582⟩, A10, H⟩ := H
 replace H : ((wide_Right.f t581 t582 1).bind fun bt583 => ((wide_Root.f k 1 0).bind fun bt587 => ((wide_Mul.f 9223372036854775808 4).bind fun bt589 => (if (bt589.1 == 2 && (bt589.2 == 0)) = true then ((wide_Of.f 2).bind fun bt591 => (if (bt583.1 == bt591.1 && (bt583.2.1 == bt591.2)) = true then (if bt583.2.2 = true then (if bt587.1 = 4294967296 then (some (!bt587.2)) else (some false)) else (some false)) else (some false))) else (some false))))) = some r := H
 have A1 := A_ A10;clear A10
 replace H := ob_ H
 obtain ⟨⟨t583, t584, t585⟩, A20, H⟩ := H
 replace H : ((wide_Root.f k 1 0).bind fun bt587 => ((wide_Mul.f 9223372036854775808 4).bind fun bt589 => (if (bt589.1 == 2 && (bt589.2 == 0)) = true then ((wide_Of.f 2).bind fun bt591 => (if (t583 == bt591.1 && (t584 == bt591.2)) = true then (if t585 = true then (if bt587.1 = 4294967296 then (some (!bt587.2)) else (some false)) else (some false)) else (some false))) else (some false)))) = some r := H
 have A2 := A_ A20;clear A20
 replace H := ob_ H
 obtain ⟨⟨t587, t588⟩, A30, H⟩ := H
 replace H : ((wide_Mul.f 9223372036854775808 4).bind fun bt589 => (if (bt589.1 == 2 && (bt589.2 == 0)) = true then ((wide_Of.f 2).bind fun bt591 => (if (t583 == bt591.1 && (t584 == bt591.2)) = true then (if t585 = true then (if t587 = 4294967296 then (some (!t588)) else (some false)) else (some false)) else (some false))) else (some false))) = some r := H
 have A3 := A_ A30;clear A30
 replace H := ob_ H
 obtain ⟨⟨t589, t590⟩, A40, H⟩ := H
 replace H : (if (t589 == 2 && (t590 == 0)) = true then ((wide_Of.f 2).bind fun bt591 => (if (t583 == bt591.1 && (t584 == bt591.2)) = true then (if t585 = true then (if t587 = 4294967296 then (some (!t588)) else (some false)) else (some false)) else (some false))) else (some false)) = some r := H
 have A4 := A_ A40;clear A40
 by_cases c5 : (t589 == 2 && (t590 == 0)) = true
 ·rw [if_pos c5] at H
  have c5b0 : (t589 == 2 && (t590 == 0)) = true := c5
  (try (have c5b1 : decide (t589 = 2 && (t590 == 0)) = true := by simpa using c5))
  (try (have c5b2 : (t589 == 2 && (t590 == 0)) = true := by simpa using c5))
  clear c5
  replace H := ob_ H
  obtain ⟨⟨t591, t592⟩, A60, H⟩ := H
  replace H : (if (t583 == t591 && (t584 == t592)) = true then (if t585 = true then (if t587 = 4294967296 then (some (!t588)) else (some false)) else (some false)) else (some false)) = some r := H
  have A6 := A_ A60;clear A60
  by_cases c7 : (t583 == t591 && (t584 == t592)) = true
  ·rw [if_pos c7] at H
   have c7b0 : (t583 == t591 && (t584 == t592)) = true := c7
   (try (have c7b1 : decide (t583 = t591 && (t584 == t592)) = true := by simpa using c7))
   (try (have c7b2 : (t583 == t591 && (t584 == t592)) = true := by simpa using c7))
   clear c7
   by_cases c8 : t585 = true
   ·subst c8
    have H1 : (if t587 = 4294967296 then (some (!t588)) else (some false)) = some r := by rw [if_pos rfl] at H; exact H
    clear H;have H := H1;clear H1
    by_cases c9 : t587 = 4294967296
    ·rw [if_pos c9] at H
     have c9b0 : (t587 == 4294967296) = true := beq_iff_eq.mpr c9
     have c9b1 : (t587 != 4294967296) = false := bne_eq_false_iff_eq.mpr c9
     clear c9
     obtain rfl := Option.some.inj H
     go_enter Try.func28, Try.ntmps28
     try go_wp2_with (first | ((with_reducible refine gate_callee (f := 42) rfl ?_); refine gl_ (some 6) Try.func42 #[.int .u64 5] ?_; (with_reducible refine (wide_Of.calls 5 t581 t582 _ A1.out).mono ?_); rintro e w10 ⟨rfl, hb⟩; refine ⟨_, rfl, ?_⟩; replace HB := A_ (below_step (hb_ HB.out) hb); (try clear hb); (try clear hb2); (try clear hk); (try clear hi)) | ((with_reducible refine gate_callee (f := 67) rfl ?_); refine gl_ (some 7) Try.func67 #[.agg #[.int .u64 t581, .int .u64 t582], .int .i64 1] ?_; (with_reducible refine (wide_Right.calls t581 t582 1 t583 t584 true _ A2.out).mono ?_); rintro e w11 ⟨rfl, hb⟩; refine ⟨_, rfl, ?_⟩; replace HB := A_ (below_step (hb_ HB.out) hb); (try clear hb); (try clear hb2); (try clear hk); (try clear hi)) | ((with_reducible refine gate_dst (N := 1) rfl ?_); refine be_ 1 #[.int .u64 0, .int .u64 0] 50 ?_; intro gb586 hg w12 hbox hb; have BK586 := A_ (hbox); have GW586 := A_ (sz_ hg (hb_ HB.out)); have GE586 := A_ (sz_ hg (hb_ HB.out)); replace HB := A_ (below_step (hb_ HB.out) hb); clear hb hbox hg; have hcz13_0 := bv_ BK586.out 0; have hcz13_1 := bv_ BK586.out 1; have hfz13_0 := blk_frozen BK586.out 0; have hfz13_1 := blk_frozen BK586.out 1) | ((with_reducible refine gate_callee (f := 68) rfl ?_); refine gl_ (some 12) Try.func68 #[.agg #[.int .u64 1, .int .u64 0]] ?_; (with_reducible refine (wide_Root.calls k 1 0 t587 t588 _ A3.out).mono ?_); rintro e w14 ⟨rfl, hb⟩; refine ⟨_, rfl, ?_⟩; replace BK586 := A_ (blk_below (g := gb586) (o := .cells #[.int .u64 t583, .int .u64 t584] 50 (0, 0)) (by (with_reducible repeat (first | refine blk_drewN ?_ _ | refine blk_drew ?_ | refine blk_alloc ?_ _)); refine blk_put (cs := #[.int .u64 t583, .int .u64 0]) ?_ 1 _ rfl; (with_reducible repeat (first | refine blk_drewN ?_ _ | refine blk_drew ?_ | refine blk_alloc ?_ _)); refine blk_put (cs := #[.int .u64 0, .int .u64 0]) ?_ 0 _ rfl; (with_reducible repeat (first | refine blk_drewN ?_ _ | refine blk_drew ?_ | refine blk_alloc ?_ _)); exact BK586.out) hb); replace HB := A_ (below_step (hb1_ HB.out GE586.out) hb); (try clear hb); (try clear hb2); (try clear hk); (try clear hi)))
     replace BK586 := A_ (blk_drew BK586.out)
     replace HB := A_ (below_drew1 HB.out)
     refine start_ (n := 20) (S := fun w' => w'.cell? ⟨gb586, 0, none⟩ = some (.int .u64 t583) ∧ w'.cell? ⟨gb586, 1, none⟩ = some (.int .u64 t584)) (ds := []) #[false, false, false, false, false, false, false, false, false, false, false, false, false, false, false, false, false, false, false, false] (by kernel_rfl) rfl rfl ⟨bc_ BK586.out 0, bc_ BK586.out 1⟩ (fun hHeld => ?_); refine with_tabW L01_awake.tab3 L01_awake.bits3 (fun HT_ HW_ => ?_)
     generalize w14.drew = w15 at BK586 HB hHeld ⊢
     refine pu_ 1 (some 16) #[false, true, false, false, false, false, false, false, false, false, false, false, false, false, false, false, false, false, false, false] rfl rfl (any_of HT_.out (by kernel_rfl)) ?_
     refine one_ (i := 0) (N := some 15) #[true, true, false, false, false, false, false, false, false, false, false, false, false, false, false, false, false, false, false, false] rfl rfl (one_of HT_.out (by kernel_rfl)) (by decide) (fun K hK => ?_)
     refine goes_ Try.func38 (by kernel_rfl) rfl #[.int .u64 9223372036854775808, .int .u64 4] (by rfl) rfl rfl mp_ ?_
     with_reducible refine (wide_Mul.calls 9223372036854775808 4 t589 t590 _ A4.out).mono ?_
     rintro e w16 ⟨rfl, hb⟩
     refine ⟨_, rfl, ?_⟩
     replace BK586 := A_ (bb_ BK586.out hb)
     replace HB := A_ (below_step (hb1_ HB.out GE586.out) hb);(try clear hb);(try clear hb2);(try clear hk);(try clear hi)
     refine hK.out _ _ ⟨bc_ BK586.out 0, bc_ BK586.out 1⟩ (fun hHeld => ?_)
     clear hK K
     refine norm_ (a' := ?_) ?_ ?_
     rotate_left
     ·show Act.put _ (some 15) _ = _
      simp only [Act.put, lI_, l0_, lS_, i64_w, i32_w]
      rfl
     refine pu_ 2 (some 17) #[true, true, true, false, false, false, false, false, false, false, false, false, false, false, false, false, false, false, false, false] rfl rfl (any_of HT_.out (by kernel_rfl)) ?_
     refine pu_ 3 (some 18) #[true, true, true, true, false, false, false, false, false, false, false, false, false, false, false, false, false, false, false, false] rfl rfl (any_of HT_.out (by kernel_rfl)) ?_
     refine tk2_ 4 (some 19) #[true, true, true, true, true, false, false, false, false, false, false, false, false, false, false, false, false, false, false, false] rfl rfl (take_ofW HT_.out HW_.out (by kernel_rfl)) hHeld ?_
     refine one_ (i := 5) (N := some 20) #[true, true, true, true, true, true, false, false, false, false, false, false, false, false, false, false, false, false, false, false] rfl rfl (one_of HT_.out (by kernel_rfl)) (by decide) (fun K hK => ?_)
     refine goes_ Try.func42 (by kernel_rfl) rfl #[.int .u64 2] (by rfl) rfl rfl mp_ ?_
     with_reducible refine (wide_Of.calls 2 t591 t592 _ A6.out).mono ?_
     rintro e w17 ⟨rfl, hb⟩
     refine ⟨_, rfl, ?_⟩
     replace BK586 := A_ (bb_ BK586.out hb)
     replace HB := A_ (below_step (hb1_ HB.out GE586.out) hb);(try clear hb);(try clear hb2);(try clear hk);(try clear hi)
     refine hK.out _ _ ⟨bc_ BK586.out 0, bc_ BK586.out 1⟩ (fun hHeld => ?_)
     clear hK K
     refine norm_ (a' := ?_) ?_ ?_
     rotate_left
     ·show Act.put _ (some 20) _ = _
      simp only [Act.put, lI_, l0_, lS_, i64_w, i32_w]
      rfl
     refine pu_ 6 (some 21) #[true, true, true, true, true, true, true, false, false, false, false, false, false, false, false, false, false, false, false, false] rfl rfl (any_of HT_.out (by kernel_rfl)) ?_
     refine pu_ 7 (some 22) #[true, true, true, true, true, true, true, true, false, false, false, false, false, false, false, false, false, false, false, false] rfl rfl (any_of HT_.out (by kernel_rfl)) ?_
     refine pu_ 8 (some 23) #[true, true, true, true, true, true, true, true, true, false, false, false, false, false, false, false, false, false, false, false] rfl rfl (any_of HT_.out (by kernel_rfl)) ?_
     refine pu_ 9 (some 24) #[true, true, true, true, true, true, true, true, true, true, false, false, false, false, false, false, false, false, false, false] rfl rfl (any_of HT_.out (by kernel_rfl)) ?_
     refine pu_ 10 (some 25) #[true, true, true, true, true, true, true, true, true, true, true, false, false, false, false, false, false, false, false, false] rfl rfl (any_of HT_.out (by kernel_rfl)) ?_
     refine pu_ 11 (some 26) #[true, true, true, true, true, true, true, true, true, true, true, true, false, false, false, false, false, false, false, false] rfl rfl (any_of HT_.out (by kernel_rfl)) ?_
     refine pu_ 12 (some 27) #[true, true, true, true, true, true, true, true, true, true, true, true, true, false, false, false, false, false, false, false] rfl rfl (any_of HT_.out (by kernel_rfl)) ?_
     refine pu_ 13 (some 28) #[true, true, true, true, true, true, true, true, true, true, true, true, true, true, false, false, false, false, false, false] rfl rfl (any_of HT_.out (by kernel_rfl)) ?_
     refine pu_ 14 (some 29) #[true, true, true, true, true, true, true, true, true, true, true, true, true, true, true, false, false, false, false, false] rfl rfl (any_of HT_.out (by kernel_rfl)) ?_
     refine pu_ 15 (some 30) #[true, true, true, true, true, true, true, true, true, true, true, true, true, true, true, true, false, false, false, false] rfl rfl (any_of HT_.out (by kernel_rfl)) ?_
     refine pu_ 16 (some 31) #[true, true, true, true, true, true, true, true, true, true, true, true, true, true, true, true, true, false, false, false] rfl rfl (any_of HT_.out (by kernel_rfl)) ?_
     refine pu_ 17 (some 32) #[true, true, true, true, true, true, true, true, true, true, true, true, true, true, true, true, true, true, false, false] rfl rfl (any_of HT_.out (by kernel_rfl)) ?_
     refine pu_ 18 (some 33) #[true, true, true, true, true, true, true, true, true, true, true, true, true, true, true, true, true, true, true, false] rfl rfl (any_of HT_.out (by kernel_rfl)) ?_
     refine pu_ 19 (some 0) #[true, true, true, true, true, true, true, true, true, true, true, true, true, true, true, true, true, true, true, true] rfl rfl (any_of HT_.out (by kernel_rfl)) ?_
     refine done_ (done_of HT_.out (by kernel_rfl)) ?_
     try go_wp2
     go_ret
     exact ⟨er_, hb1_ HB.out GE586.out⟩
    ·rw [if_neg c9] at H
     have c9b0 : (t587 == 4294967296) = false := beq_eq_false_iff_ne.mpr c9
     have c9b1 : (t587 != 4294967296) = true := bne_iff_ne.mpr c9
     obtain rfl := Option.some.inj H
     go_enter Try.func28, Try.ntmps28
     try go_wp2_with (first | ((with_reducible refine gate_callee (f := 42) rfl ?_); refine gl_ (some 6) Try.func42 #[.int .u64 5] ?_; (with_reducible refine (wide_Of.calls 5 t581 t582 _ A1.out).mono ?_); rintro e w18 ⟨rfl, hb⟩; refine ⟨_, rfl, ?_⟩; replace HB := A_ (below_step (hb_ HB.out) hb); (try clear hb); (try clear hb2); (try clear hk); (try clear hi)) | ((with_reducible refine gate_callee (f := 67) rfl ?_); refine gl_ (some 7) Try.func67 #[.agg #[.int .u64 t581, .int .u64 t582], .int .i64 1] ?_; (with_reducible refine (wide_Right.calls t581 t582 1 t583 t584 true _ A2.out).mono ?_); rintro e w19 ⟨rfl, hb⟩; refine ⟨_, rfl, ?_⟩; replace HB := A_ (below_step (hb_ HB.out) hb); (try clear hb); (try clear hb2); (try clear hk); (try clear hi)) | ((with_reducible refine gate_dst (N := 1) rfl ?_); refine be_ 1 #[.int .u64 0, .int .u64 0] 50 ?_; intro gb586 hg w20 hbox hb; have BK586 := A_ (hbox); have GW586 := A_ (sz_ hg (hb_ HB.out)); have GE586 := A_ (sz_ hg (hb_ HB.out)); replace HB := A_ (below_step (hb_ HB.out) hb); clear hb hbox hg; have hcz21_0 := bv_ BK586.out 0; have hcz21_1 := bv_ BK586.out 1; have hfz21_0 := blk_frozen BK586.out 0; have hfz21_1 := blk_frozen BK586.out 1) | ((with_reducible refine gate_callee (f := 68) rfl ?_); refine gl_ (some 12) Try.func68 #[.agg #[.int .u64 1, .int .u64 0]] ?_; (with_reducible refine (wide_Root.calls k 1 0 t587 t588 _ A3.out).mono ?_); rintro e w22 ⟨rfl, hb⟩; refine ⟨_, rfl, ?_⟩; replace BK586 := A_ (blk_below (g := gb586) (o := .cells #[.int .u64 t583, .int .u64 t584] 50 (0, 0)) (by (with_reducible repeat (first | refine blk_drewN ?_ _ | refine blk_drew ?_ | refine blk_alloc ?_ _)); refine blk_put (cs := #[.int .u64 t583, .int .u64 0]) ?_ 1 _ rfl; (with_reducible repeat (first | refine blk_drewN ?_ _ | refine blk_drew ?_ | refine blk_alloc ?_ _)); refine blk_put (cs := #[.int .u64 0, .int .u64 0]) ?_ 0 _ rfl; (with_reducible repeat (first | refine blk_drewN ?_ _ | refine blk_drew ?_ | refine blk_alloc ?_ _)); exact BK586.out) hb); replace HB := A_ (below_step (hb1_ HB.out GE586.out) hb); (try clear hb); (try clear hb2); (try clear hk); (try clear hi)))
     replace BK586 := A_ (blk_drew BK586.out)
     replace HB := A_ (below_drew1 HB.out)
     refine start_ (n := 20) (S := fun w' => w'.cell? ⟨gb586, 0, none⟩ = some (.int .u64 t583) ∧ w'.cell? ⟨gb586, 1, none⟩ = some (.int .u64 t584)) (ds := []) #[false, false, false, false, false, false, false, false, false, false, false, false, false, false, false, false, false, false, false, false] (by kernel_rfl) rfl rfl ⟨bc_ BK586.out 0, bc_ BK586.out 1⟩ (fun hHeld => ?_); refine with_tabW L01_awake.tab3 L01_awake.bits3 (fun HT_ HW_ => ?_)
     generalize w22.drew = w23 at BK586 HB hHeld ⊢
     refine pu_ 1 (some 16) #[false, true, false, false, false, false, false, false, false, false, false, false, false, false, false, false, false, false, false, false] rfl rfl (any_of HT_.out (by kernel_rfl)) ?_
     refine one_ (i := 0) (N := some 15) #[true, true, false, false, false, false, false, false, false, false, false, false, false, false, false, false, false, false, false, false] rfl rfl (one_of HT_.out (by kernel_rfl)) (by decide) (fun K hK => ?_)
     refine goes_ Try.func38 (by kernel_rfl) rfl #[.int .u64 9223372036854775808, .int .u64 4] (by rfl) rfl rfl mp_ ?_
     with_reducible refine (wide_Mul.calls 9223372036854775808 4 t589 t590 _ A4.out).mono ?_
     rintro e w24 ⟨rfl, hb⟩
     refine ⟨_, rfl, ?_⟩
     replace BK586 := A_ (bb_ BK586.out hb)
     replace HB := A_ (below_step (hb1_ HB.out GE586.out) hb);(try clear hb);(try clear hb2);(try clear hk);(try clear hi)
     refine hK.out _ _ ⟨bc_ BK586.out 0, bc_ BK586.out 1⟩ (fun hHeld => ?_)
     clear hK K
     refine norm_ (a' := ?_) ?_ ?_
     rotate_left
     ·show Act.put _ (some 15) _ = _
      simp only [Act.put, lI_, l0_, lS_, i64_w, i32_w]
      rfl
     refine pu_ 2 (some 17) #[true, true, true, false, false, false, false, false, false, false, false, false, false, false, false, false, false, false, false, false] rfl rfl (any_of HT_.out (by kernel_rfl)) ?_
     refine pu_ 3 (some 18) #[true, true, true, true, false, false, false, false, false, false, false, false, false, false, false, false, false, false, false, false] rfl rfl (any_of HT_.out (by kernel_rfl)) ?_
     refine tk2_ 4 (some 19) #[true, true, true, true, true, false, false, false, false, false, false, false, false, false, false, false, false, false, false, false] rfl rfl (take_ofW HT_.out HW_.out (by kernel_rfl)) hHeld ?_
     refine one_ (i := 5) (N := some 20) #[true, true, true, true, true, true, false, false, false, false, false, false, false, false, false, false, false, false, false, false] rfl rfl (one_of HT_.out (by kernel_rfl)) (by decide) (fun K hK => ?_)
     refine goes_ Try.func42 (by kernel_rfl) rfl #[.int .u64 2] (by rfl) rfl rfl mp_ ?_
     with_reducible refine (wide_Of.calls 2 t591 t592 _ A6.out).mono ?_
     rintro e w25 ⟨rfl, hb⟩
     refine ⟨_, rfl, ?_⟩
     replace BK586 := A_ (bb_ BK586.out hb)
     replace HB := A_ (below_step (hb1_ HB.out GE586.out) hb);(try clear hb);(try clear hb2);(try clear hk);(try clear hi)
     refine hK.out _ _ ⟨bc_ BK586.out 0, bc_ BK586.out 1⟩ (fun hHeld => ?_)
     clear hK K
     refine norm_ (a' := ?_) ?_ ?_
     rotate_left
     ·show Act.put _ (some 20) _ = _
      simp only [Act.put, lI_, l0_, lS_, i64_w, i32_w]
      rfl
     refine pu_ 6 (some 21) #[true, true, true, true, true, true, true, false, false, false, false, false, false, false, false, false, false, false, false, false] rfl rfl (any_of HT_.out (by kernel_rfl)) ?_
     refine pu_ 7 (some 22) #[true, true, true, true, true, true, true, true, false, false, false, false, false, false, false, false, false, false, false, false] rfl rfl (any_of HT_.out (by kernel_rfl)) ?_
     refine pu_ 8 (some 23) #[true, true, true, true, true, true, true, true, true, false, false, false, false, false, false, false, false, false, false, false] rfl rfl (any_of HT_.out (by kernel_rfl)) ?_
     refine pu_ 9 (some 24) #[true, true, true, true, true, true, true, true, true, true, false, false, false, false, false, false, false, false, false, false] rfl rfl (any_of HT_.out (by kernel_rfl)) ?_
     refine pu_ 10 (some 25) #[true, true, true, true, true, true, true, true, true, true, true, false, false, false, false, false, false, false, false, false] rfl rfl (any_of HT_.out (by kernel_rfl)) ?_
     refine pu_ 11 (some 26) #[true, true, true, true, true, true, true, true, true, true, true, true, false, false, false, false, false, false, false, false] rfl rfl (any_of HT_.out (by kernel_rfl)) ?_
     refine pu_ 12 (some 27) #[true, true, true, true, true, true, true, true, true, true, true, true, true, false, false, false, false, false, false, false] rfl rfl (any_of HT_.out (by kernel_rfl)) ?_
     refine pu_ 13 (some 28) #[true, true, true, true, true, true, true, true, true, true, true, true, true, true, false, false, false, false, false, false] rfl rfl (any_of HT_.out (by kernel_rfl)) ?_
     refine pu_ 14 (some 29) #[true, true, true, true, true, true, true, true, true, true, true, true, true, true, true, false, false, false, false, false] rfl rfl (any_of HT_.out (by kernel_rfl)) ?_
     refine pu_ 15 (some 30) #[true, true, true, true, true, true, true, true, true, true, true, true, true, true, true, true, false, false, false, false] rfl rfl (any_of HT_.out (by kernel_rfl)) ?_
     refine pure_ (i := 16) (N := some 31) (v := undef) (a' := ?_) #[true, true, true, true, true, true, true, true, true, true, true, true, true, true, true, true, true, false, false, false] rfl rfl (any_of HT_.out (by kernel_rfl)) (fun _ _ _ h => h) (Or.inr ⟨by rfl, rfl⟩) ?_ ?_
     rotate_left
     ·simp only [Act.put, lI_, l0_, lS_, i64_w, i32_w]
      rfl
     refine pure_ (i := 17) (N := some 32) (v := undef) (a' := ?_) #[true, true, true, true, true, true, true, true, true, true, true, true, true, true, true, true, true, true, false, false] rfl rfl (any_of HT_.out (by kernel_rfl)) (fun _ _ _ h => h) (Or.inr ⟨by rfl, rfl⟩) ?_ ?_
     rotate_left
     ·simp only [Act.put, lI_, l0_, lS_, i64_w, i32_w]
      rfl
     refine pu_ 18 (some 33) #[true, true, true, true, true, true, true, true, true, true, true, true, true, true, true, true, true, true, true, false] rfl rfl (any_of HT_.out (by kernel_rfl)) ?_
     refine pu_ 19 (some 0) #[true, true, true, true, true, true, true, true, true, true, true, true, true, true, true, true, true, true, true, true] rfl rfl (any_of HT_.out (by kernel_rfl)) ?_
     refine done_ (done_of HT_.out (by kernel_rfl)) ?_
     try go_wp2
     go_ret
     exact ⟨er_, hb1_ HB.out GE586.out⟩
   ·replace c8 := Bool.eq_false_iff.mpr c8
    subst c8
    have H1 : (some false) = some r := by rw [if_neg (show ¬ (false = true) by decide)] at H; exact H
    clear H;have H := H1;clear H1
    obtain rfl := Option.some.inj H
    go_enter Try.func28, Try.ntmps28
    try go_wp2_with (first | ((with_reducible refine gate_callee (f := 42) rfl ?_); refine gl_ (some 6) Try.func42 #[.int .u64 5] ?_; (with_reducible refine (wide_Of.calls 5 t581 t582 _ A1.out).mono ?_); rintro e w26 ⟨rfl, hb⟩; refine ⟨_, rfl, ?_⟩; replace HB := A_ (below_step (hb_ HB.out) hb); (try clear hb); (try clear hb2); (try clear hk); (try clear hi)) | ((with_reducible refine gate_callee (f := 67) rfl ?_); refine gl_ (some 7) Try.func67 #[.agg #[.int .u64 t581, .int .u64 t582], .int .i64 1] ?_; (with_reducible refine (wide_Right.calls t581 t582 1 t583 t584 false _ A2.out).mono ?_); rintro e w27 ⟨rfl, hb⟩; refine ⟨_, rfl, ?_⟩; replace HB := A_ (below_step (hb_ HB.out) hb); (try clear hb); (try clear hb2); (try clear hk); (try clear hi)) | ((with_reducible refine gate_dst (N := 1) rfl ?_); refine be_ 1 #[.int .u64 0, .int .u64 0] 50 ?_; intro gb586 hg w28 hbox hb; have BK586 := A_ (hbox); have GW586 := A_ (sz_ hg (hb_ HB.out)); have GE586 := A_ (sz_ hg (hb_ HB.out)); replace HB := A_ (below_step (hb_ HB.out) hb); clear hb hbox hg; have hcz29_0 := bv_ BK586.out 0; have hcz29_1 := bv_ BK586.out 1; have hfz29_0 := blk_frozen BK586.out 0; have hfz29_1 := blk_frozen BK586.out 1) | ((with_reducible refine gate_callee (f := 68) rfl ?_); refine gl_ (some 12) Try.func68 #[.agg #[.int .u64 1, .int .u64 0]] ?_; (with_reducible refine (wide_Root.calls k 1 0 t587 t588 _ A3.out).mono ?_); rintro e w30 ⟨rfl, hb⟩; refine ⟨_, rfl, ?_⟩; replace BK586 := A_ (blk_below (g := gb586) (o := .cells #[.int .u64 t583, .int .u64 t584] 50 (0, 0)) (by (with_reducible repeat (first | refine blk_drewN ?_ _ | refine blk_drew ?_ | refine blk_alloc ?_ _)); refine blk_put (cs := #[.int .u64 t583, .int .u64 0]) ?_ 1 _ rfl; (with_reducible repeat (first | refine blk_drewN ?_ _ | refine blk_drew ?_ | refine blk_alloc ?_ _)); refine blk_put (cs := #[.int .u64 0, .int .u64 0]) ?_ 0 _ rfl; (with_reducible repeat (first | refine blk_drewN ?_ _ | refine blk_drew ?_ | refine blk_alloc ?_ _)); exact BK586.out) hb); replace HB := A_ (below_step (hb1_ HB.out GE586.out) hb); (try clear hb); (try clear hb2); (try clear hk); (try clear hi)))
    replace BK586 := A_ (blk_drew BK586.out)
    replace HB := A_ (below_drew1 HB.out)
    refine start_ (n := 20) (S := fun w' => w'.cell? ⟨gb586, 0, none⟩ = some (.int .u64 t583) ∧ w'.cell? ⟨gb586, 1, none⟩ = some (.int .u64 t584)) (ds := []) #[false, false, false, false, false, false, false, false, false, false, false, false, false, false, false, false, false, false, false, false] (by kernel_rfl) rfl rfl ⟨bc_ BK586.out 0, bc_ BK586.out 1⟩ (fun hHeld => ?_); refine with_tabW L01_awake.tab3 L01_awake.bits3 (fun HT_ HW_ => ?_)
    generalize w30.drew = w31 at BK586 HB hHeld ⊢
    refine pu_ 1 (some 16) #[false, true, false, false, false, false, false, false, false, false, false, false, false, false, false, false, false, false, false, false] rfl rfl (any_of HT_.out (by kernel_rfl)) ?_
    refine one_ (i := 0) (N := some 15) #[true, true, false, false, false, false, false, false, false, false, false, false, false, false, false, false, false, false, false, false] rfl rfl (one_of HT_.out (by kernel_rfl)) (by decide) (fun K hK => ?_)
    refine goes_ Try.func38 (by kernel_rfl) rfl #[.int .u64 9223372036854775808, .int .u64 4] (by rfl) rfl rfl mp_ ?_
    with_reducible refine (wide_Mul.calls 9223372036854775808 4 t589 t590 _ A4.out).mono ?_
    rintro e w32 ⟨rfl, hb⟩
    refine ⟨_, rfl, ?_⟩
    replace BK586 := A_ (bb_ BK586.out hb)
    replace HB := A_ (below_step (hb1_ HB.out GE586.out) hb);(try clear hb);(try clear hb2);(try clear hk);(try clear hi)
    refine hK.out _ _ ⟨bc_ BK586.out 0, bc_ BK586.out 1⟩ (fun hHeld => ?_)
    clear hK K
    refine norm_ (a' := ?_) ?_ ?_
    rotate_left
    ·show Act.put _ (some 15) _ = _
     simp only [Act.put, lI_, l0_, lS_, i64_w, i32_w]
     rfl
    refine pu_ 2 (some 17) #[true, true, true, false, false, false, false, false, false, false, false, false, false, false, false, false, false, false, false, false] rfl rfl (any_of HT_.out (by kernel_rfl)) ?_
    refine pu_ 3 (some 18) #[true, true, true, true, false, false, false, false, false, false, false, false, false, false, false, false, false, false, false, false] rfl rfl (any_of HT_.out (by kernel_rfl)) ?_
    refine tk2_ 4 (some 19) #[true, true, true, true, true, false, false, false, false, false, false, false, false, false, false, false, false, false, false, false] rfl rfl (take_ofW HT_.out HW_.out (by kernel_rfl)) hHeld ?_
    refine one_ (i := 5) (N := some 20) #[true, true, true, true, true, true, false, false, false, false, false, false, false, false, false, false, false, false, false, false] rfl rfl (one_of HT_.out (by kernel_rfl)) (by decide) (fun K hK => ?_)
    refine goes_ Try.func42 (by kernel_rfl) rfl #[.int .u64 2] (by rfl) rfl rfl mp_ ?_
    with_reducible refine (wide_Of.calls 2 t591 t592 _ A6.out).mono ?_
    rintro e w33 ⟨rfl, hb⟩
    refine ⟨_, rfl, ?_⟩
    replace BK586 := A_ (bb_ BK586.out hb)
    replace HB := A_ (below_step (hb1_ HB.out GE586.out) hb);(try clear hb);(try clear hb2);(try clear hk);(try clear hi)
    refine hK.out _ _ ⟨bc_ BK586.out 0, bc_ BK586.out 1⟩ (fun hHeld => ?_)
    clear hK K
    refine norm_ (a' := ?_) ?_ ?_
    rotate_left
    ·show Act.put _ (some 20) _ = _
     simp only [Act.put, lI_, l0_, lS_, i64_w, i32_w]
     rfl
    refine pu_ 6 (some 21) #[true, true, true, true, true, true, true, false, false, false, false, false, false, false, false, false, false, false, false, false] rfl rfl (any_of HT_.out (by kernel_rfl)) ?_
    refine pu_ 7 (some 22) #[true, true, true, true, true, true, true, true, false, false, false, false, false, false, false, false, false, false, false, false] rfl rfl (any_of HT_.out (by kernel_rfl)) ?_
    refine pu_ 8 (some 23) #[true, true, true, true, true, true, true, true, true, false, false, false, false, false, false, false, false, false, false, false] rfl rfl (any_of HT_.out (by kernel_rfl)) ?_
    refine pu_ 9 (some 24) #[true, true, true, true, true, true, true, true, true, true, false, false, false, false, false, false, false, false, false, false] rfl rfl (any_of HT_.out (by kernel_rfl)) ?_
    refine pu_ 10 (some 25) #[true, true, true, true, true, true, true, true, true, true, true, false, false, false, false, false, false, false, false, false] rfl rfl (any_of HT_.out (by kernel_rfl)) ?_
    refine pu_ 11 (some 26) #[true, true, true, true, true, true, true, true, true, true, true, true, false, false, false, false, false, false, false, false] rfl rfl (any_of HT_.out (by kernel_rfl)) ?_
    refine pure_ (i := 12) (N := some 27) (v := undef) (a' := ?_) #[true, true, true, true, true, true, true, true, true, true, true, true, true, false, false, false, false, false, false, false] rfl rfl (any_of HT_.out (by kernel_rfl)) (fun _ _ _ h => h) (Or.inr ⟨by rfl, rfl⟩) ?_ ?_
    rotate_left
    ·simp only [Act.put, lI_, l0_, lS_, i64_w, i32_w]
     rfl
    refine pure_ (i := 13) (N := some 28) (v := undef) (a' := ?_) #[true, true, true, true, true, true, true, true, true, true, true, true, true, true, false, false, false, false, false, false] rfl rfl (any_of HT_.out (by kernel_rfl)) (fun _ _ _ h => h) (Or.inr ⟨by rfl, rfl⟩) ?_ ?_
    rotate_left
    ·simp only [Act.put, lI_, l0_, lS_, i64_w, i32_w]
     rfl
    refine pu_ 14 (some 29) #[true, true, true, true, true, true, true, true, true, true, true, true, true, true, true, false, false, false, false, false] rfl rfl (any_of HT_.out (by kernel_rfl)) ?_
    refine pu_ 15 (some 30) #[true, true, true, true, true, true, true, true, true, true, true, true, true, true, true, true, false, false, false, false] rfl rfl (any_of HT_.out (by kernel_rfl)) ?_
    refine pure_ (i := 16) (N := some 31) (v := undef) (a' := ?_) #[true, true, true, true, true, true, true, true, true, true, true, true, true, true, true, true, true, false, false, false] rfl rfl (any_of HT_.out (by kernel_rfl)) (fun _ _ _ h => h) (Or.inr ⟨by rfl, rfl⟩) ?_ ?_
    rotate_left
    ·simp only [Act.put, lI_, l0_, lS_, i64_w, i32_w]
     rfl
    refine pure_ (i := 17) (N := some 32) (v := undef) (a' := ?_) #[true, true, true, true, true, true, true, true, true, true, true, true, true, true, true, true, true, true, false, false] rfl rfl (any_of HT_.out (by kernel_rfl)) (fun _ _ _ h => h) (Or.inr ⟨by rfl, rfl⟩) ?_ ?_
    rotate_left
    ·simp only [Act.put, lI_, l0_, lS_, i64_w, i32_w]
     rfl
    refine pu_ 18 (some 33) #[true, true, true, true, true, true, true, true, true, true, true, true, true, true, true, true, true, true, true, false] rfl rfl (any_of HT_.out (by kernel_rfl)) ?_
    refine pu_ 19 (some 0) #[true, true, true, true, true, true, true, true, true, true, true, true, true, true, true, true, true, true, true, true] rfl rfl (any_of HT_.out (by kernel_rfl)) ?_
    refine done_ (done_of HT_.out (by kernel_rfl)) ?_
    try go_wp2
    go_ret
    exact ⟨er_, hb1_ HB.out GE586.out⟩
  ·rw [if_neg c7] at H
   have c7b0 : (t583 == t591 && (t584 == t592)) = false := by simpa using c7
   (try (have c7b1 : decide (t583 = t591 && (t584 == t592)) = false := by simpa using c7))
   (try (have c7b2 : (t583 == t591 && (t584 == t592)) = false := by simpa using c7))
   (try (have c7b3 : ¬ (t583 = t591 && (t584 == t592)) := by simpa using c7))
   clear c7
   obtain rfl := Option.some.inj H
   go_enter Try.func28, Try.ntmps28
   try go_wp2_with (first | ((with_reducible refine gate_callee (f := 42) rfl ?_); refine gl_ (some 6) Try.func42 #[.int .u64 5] ?_; (with_reducible refine (wide_Of.calls 5 t581 t582 _ A1.out).mono ?_); rintro e w34 ⟨rfl, hb⟩; refine ⟨_, rfl, ?_⟩; replace HB := A_ (below_step (hb_ HB.out) hb); (try clear hb); (try clear hb2); (try clear hk); (try clear hi)) | ((with_reducible refine gate_callee (f := 67) rfl ?_); refine gl_ (some 7) Try.func67 #[.agg #[.int .u64 t581, .int .u64 t582], .int .i64 1] ?_; (with_reducible refine (wide_Right.calls t581 t582 1 t583 t584 t585 _ A2.out).mono ?_); rintro e w35 ⟨rfl, hb⟩; refine ⟨_, rfl, ?_⟩; replace HB := A_ (below_step (hb_ HB.out) hb); (try clear hb); (try clear hb2); (try clear hk); (try clear hi)) | ((with_reducible refine gate_dst (N := 1) rfl ?_); refine be_ 1 #[.int .u64 0, .int .u64 0] 50 ?_; intro gb586 hg w36 hbox hb; have BK586 := A_ (hbox); have GW586 := A_ (sz_ hg (hb_ HB.out)); have GE586 := A_ (sz_ hg (hb_ HB.out)); replace HB := A_ (below_step (hb_ HB.out) hb); clear hb hbox hg; have hcz37_0 := bv_ BK586.out 0; have hcz37_1 := bv_ BK586.out 1; have hfz37_0 := blk_frozen BK586.out 0; have hfz37_1 := blk_frozen BK586.out 1) | ((with_reducible refine gate_callee (f := 68) rfl ?_); refine gl_ (some 12) Try.func68 #[.agg #[.int .u64 1, .int .u64 0]] ?_; (with_reducible refine (wide_Root.calls k 1 0 t587 t588 _ A3.out).mono ?_); rintro e w38 ⟨rfl, hb⟩; refine ⟨_, rfl, ?_⟩; replace BK586 := A_ (blk_below (g := gb586) (o := .cells #[.int .u64 t583, .int .u64 t584] 50 (0, 0)) (by (with_reducible repeat (first | refine blk_drewN ?_ _ | refine blk_drew ?_ | refine blk_alloc ?_ _)); refine blk_put (cs := #[.int .u64 t583, .int .u64 0]) ?_ 1 _ rfl; (with_reducible repeat (first | refine blk_drewN ?_ _ | refine blk_drew ?_ | refine blk_alloc ?_ _)); refine blk_put (cs := #[.int .u64 0, .int .u64 0]) ?_ 0 _ rfl; (with_reducible repeat (first | refine blk_drewN ?_ _ | refine blk_drew ?_ | refine blk_alloc ?_ _)); exact BK586.out) hb); replace HB := A_ (below_step (hb1_ HB.out GE586.out) hb); (try clear hb); (try clear hb2); (try clear hk); (try clear hi)))
   replace BK586 := A_ (blk_drew BK586.out)
   replace HB := A_ (below_drew1 HB.out)
   refine start_ (n := 20) (S := fun w' => w'.cell? ⟨gb586, 0, none⟩ = some (.int .u64 t583) ∧ w'.cell? ⟨gb586, 1, none⟩ = some (.int .u64 t584)) (ds := []) #[false, false, false, false, false, false, false, false, false, false, false, false, false, false, false, false, false, false, false, false] (by kernel_rfl) rfl rfl ⟨bc_ BK586.out 0, bc_ BK586.out 1⟩ (fun hHeld => ?_); refine with_tabW L01_awake.tab3 L01_awake.bits3 (fun HT_ HW_ => ?_)
   generalize w38.drew = w39 at BK586 HB hHeld ⊢
   refine pu_ 1 (some 16) #[false, true, false, false, false, false, false, false, false, false, false, false, false, false, false, false, false, false, false, false] rfl rfl (any_of HT_.out (by kernel_rfl)) ?_
   refine one_ (i := 0) (N := some 15) #[true, true, false, false, false, false, false, false, false, false, false, false, false, false, false, false, false, false, false, false] rfl rfl (one_of HT_.out (by kernel_rfl)) (by decide) (fun K hK => ?_)
   refine goes_ Try.func38 (by kernel_rfl) rfl #[.int .u64 9223372036854775808, .int .u64 4] (by rfl) rfl rfl mp_ ?_
   with_reducible refine (wide_Mul.calls 9223372036854775808 4 t589 t590 _ A4.out).mono ?_
   rintro e w40 ⟨rfl, hb⟩
   refine ⟨_, rfl, ?_⟩
   replace BK586 := A_ (bb_ BK586.out hb)
   replace HB := A_ (below_step (hb1_ HB.out GE586.out) hb);(try clear hb);(try clear hb2);(try clear hk);(try clear hi)
   refine hK.out _ _ ⟨bc_ BK586.out 0, bc_ BK586.out 1⟩ (fun hHeld => ?_)
   clear hK K
   refine norm_ (a' := ?_) ?_ ?_
   rotate_left
   ·show Act.put _ (some 15) _ = _
    simp only [Act.put, lI_, l0_, lS_, i64_w, i32_w]
    rfl
   refine pu_ 2 (some 17) #[true, true, true, false, false, false, false, false, false, false, false, false, false, false, false, false, false, false, false, false] rfl rfl (any_of HT_.out (by kernel_rfl)) ?_
   refine pu_ 3 (some 18) #[true, true, true, true, false, false, false, false, false, false, false, false, false, false, false, false, false, false, false, false] rfl rfl (any_of HT_.out (by kernel_rfl)) ?_
   refine tk2_ 4 (some 19) #[true, true, true, true, true, false, false, false, false, false, false, false, false, false, false, false, false, false, false, false] rfl rfl (take_ofW HT_.out HW_.out (by kernel_rfl)) hHeld ?_
   refine one_ (i := 5) (N := some 20) #[true, true, true, true, true, true, false, false, false, false, false, false, false, false, false, false, false, false, false, false] rfl rfl (one_of HT_.out (by kernel_rfl)) (by decide) (fun K hK => ?_)
   refine goes_ Try.func42 (by kernel_rfl) rfl #[.int .u64 2] (by rfl) rfl rfl mp_ ?_
   with_reducible refine (wide_Of.calls 2 t591 t592 _ A6.out).mono ?_
   rintro e w41 ⟨rfl, hb⟩
   refine ⟨_, rfl, ?_⟩
   replace BK586 := A_ (bb_ BK586.out hb)
   replace HB := A_ (below_step (hb1_ HB.out GE586.out) hb);(try clear hb);(try clear hb2);(try clear hk);(try clear hi)
   refine hK.out _ _ ⟨bc_ BK586.out 0, bc_ BK586.out 1⟩ (fun hHeld => ?_)
   clear hK K
   refine norm_ (a' := ?_) ?_ ?_
   rotate_left
   ·show Act.put _ (some 20) _ = _
    simp only [Act.put, lI_, l0_, lS_, i64_w, i32_w]
    rfl
   refine pu_ 6 (some 21) #[true, true, true, true, true, true, true, false, false, false, false, false, false, false, false, false, false, false, false, false] rfl rfl (any_of HT_.out (by kernel_rfl)) ?_
   refine pu_ 7 (some 22) #[true, true, true, true, true, true, true, true, false, false, false, false, false, false, false, false, false, false, false, false] rfl rfl (any_of HT_.out (by kernel_rfl)) ?_
   refine pu_ 8 (some 23) #[true, true, true, true, true, true, true, true, true, false, false, false, false, false, false, false, false, false, false, false] rfl rfl (any_of HT_.out (by kernel_rfl)) ?_
   refine pure_ (i := 9) (N := some 24) (v := undef) (a' := ?_) #[true, true, true, true, true, true, true, true, true, true, false, false, false, false, false, false, false, false, false, false] rfl rfl (any_of HT_.out (by kernel_rfl)) (fun _ _ _ h => h) (Or.inr ⟨by rfl, rfl⟩) ?_ ?_
   rotate_left
   ·simp only [Act.put, lI_, l0_, lS_, i64_w, i32_w]
    rfl
   refine pu_ 10 (some 25) #[true, true, true, true, true, true, true, true, true, true, true, false, false, false, false, false, false, false, false, false] rfl rfl (any_of HT_.out (by kernel_rfl)) ?_
   refine pu_ 11 (some 26) #[true, true, true, true, true, true, true, true, true, true, true, true, false, false, false, false, false, false, false, false] rfl rfl (any_of HT_.out (by kernel_rfl)) ?_
   refine pure_ (i := 12) (N := some 27) (v := undef) (a' := ?_) #[true, true, true, true, true, true, true, true, true, true, true, true, true, false, false, false, false, false, false, false] rfl rfl (any_of HT_.out (by kernel_rfl)) (fun _ _ _ h => h) (Or.inr ⟨by rfl, rfl⟩) ?_ ?_
   rotate_left
   ·simp only [Act.put, lI_, l0_, lS_, i64_w, i32_w]
    rfl
   refine pure_ (i := 13) (N := some 28) (v := undef) (a' := ?_) #[true, true, true, true, true, true, true, true, true, true, true, true, true, true, false, false, false, false, false, false] rfl rfl (any_of HT_.out (by kernel_rfl)) (fun _ _ _ h => h) (Or.inr ⟨by rfl, rfl⟩) ?_ ?_
   rotate_left
   ·simp only [Act.put, lI_, l0_, lS_, i64_w, i32_w]
    rfl
   refine pu_ 14 (some 29) #[true, true, true, true, true, true, true, true, true, true, true, true, true, true, true, false, false, false, false, false] rfl rfl (any_of HT_.out (by kernel_rfl)) ?_
   refine pu_ 15 (some 30) #[true, true, true, true, true, true, true, true, true, true, true, true, true, true, true, true, false, false, false, false] rfl rfl (any_of HT_.out (by kernel_rfl)) ?_
   refine pure_ (i := 16) (N := some 31) (v := undef) (a' := ?_) #[true, true, true, true, true, true, true, true, true, true, true, true, true, true, true, true, true, false, false, false] rfl rfl (any_of HT_.out (by kernel_rfl)) (fun _ _ _ h => h) (Or.inr ⟨by rfl, rfl⟩) ?_ ?_
   rotate_left
   ·simp only [Act.put, lI_, l0_, lS_, i64_w, i32_w]
    rfl
   refine pure_ (i := 17) (N := some 32) (v := undef) (a' := ?_) #[true, true, true, true, true, true, true, true, true, true, true, true, true, true, true, true, true, true, false, false] rfl rfl (any_of HT_.out (by kernel_rfl)) (fun _ _ _ h => h) (Or.inr ⟨by rfl, rfl⟩) ?_ ?_
   rotate_left
   ·simp only [Act.put, lI_, l0_, lS_, i64_w, i32_w]
    rfl
   refine pu_ 18 (some 33) #[true, true, true, true, true, true, true, true, true, true, true, true, true, true, true, true, true, true, true, false] rfl rfl (any_of HT_.out (by kernel_rfl)) ?_
   refine pu_ 19 (some 0) #[true, true, true, true, true, true, true, true, true, true, true, true, true, true, true, true, true, true, true, true] rfl rfl (any_of HT_.out (by kernel_rfl)) ?_
   refine done_ (done_of HT_.out (by kernel_rfl)) ?_
   try go_wp2
   go_ret
   exact ⟨er_, hb1_ HB.out GE586.out⟩
 ·rw [if_neg c5] at H
  have c5b0 : (t589 == 2 && (t590 == 0)) = false := by simpa using c5
  (try (have c5b1 : decide (t589 = 2 && (t590 == 0)) = false := by simpa using c5))
  (try (have c5b2 : (t589 == 2 && (t590 == 0)) = false := by simpa using c5))
  (try (have c5b3 : ¬ (t589 = 2 && (t590 == 0)) := by simpa using c5))
  clear c5
  obtain rfl := Option.some.inj H
  go_enter Try.func28, Try.ntmps28
  try go_wp2_with (first | ((with_reducible refine gate_callee (f := 42) rfl ?_); refine gl_ (some 6) Try.func42 #[.int .u64 5] ?_; (with_reducible refine (wide_Of.calls 5 t581 t582 _ A1.out).mono ?_); rintro e w42 ⟨rfl, hb⟩; refine ⟨_, rfl, ?_⟩; replace HB := A_ (below_step (hb_ HB.out) hb); (try clear hb); (try clear hb2); (try clear hk); (try clear hi)) | ((with_reducible refine gate_callee (f := 67) rfl ?_); refine gl_ (some 7) Try.func67 #[.agg #[.int .u64 t581, .int .u64 t582], .int .i64 1] ?_; (with_reducible refine (wide_Right.calls t581 t582 1 t583 t584 t585 _ A2.out).mono ?_); rintro e w43 ⟨rfl, hb⟩; refine ⟨_, rfl, ?_⟩; replace HB := A_ (below_step (hb_ HB.out) hb); (try clear hb); (try clear hb2); (try clear hk); (try clear hi)) | ((with_reducible refine gate_dst (N := 1) rfl ?_); refine be_ 1 #[.int .u64 0, .int .u64 0] 50 ?_; intro gb586 hg w44 hbox hb; have BK586 := A_ (hbox); have GW586 := A_ (sz_ hg (hb_ HB.out)); have GE586 := A_ (sz_ hg (hb_ HB.out)); replace HB := A_ (below_step (hb_ HB.out) hb); clear hb hbox hg; have hcz45_0 := bv_ BK586.out 0; have hcz45_1 := bv_ BK586.out 1; have hfz45_0 := blk_frozen BK586.out 0; have hfz45_1 := blk_frozen BK586.out 1) | ((with_reducible refine gate_callee (f := 68) rfl ?_); refine gl_ (some 12) Try.func68 #[.agg #[.int .u64 1, .int .u64 0]] ?_; (with_reducible refine (wide_Root.calls k 1 0 t587 t588 _ A3.out).mono ?_); rintro e w46 ⟨rfl, hb⟩; refine ⟨_, rfl, ?_⟩; replace BK586 := A_ (blk_below (g := gb586) (o := .cells #[.int .u64 t583, .int .u64 t584] 50 (0, 0)) (by (with_reducible repeat (first | refine blk_drewN ?_ _ | refine blk_drew ?_ | refine blk_alloc ?_ _)); refine blk_put (cs := #[.int .u64 t583, .int .u64 0]) ?_ 1 _ rfl; (with_reducible repeat (first | refine blk_drewN ?_ _ | refine blk_drew ?_ | refine blk_alloc ?_ _)); refine blk_put (cs := #[.int .u64 0, .int .u64 0]) ?_ 0 _ rfl; (with_reducible repeat (first | refine blk_drewN ?_ _ | refine blk_drew ?_ | refine blk_alloc ?_ _)); exact BK586.out) hb); replace HB := A_ (below_step (hb1_ HB.out GE586.out) hb); (try clear hb); (try clear hb2); (try clear hk); (try clear hi)))
  replace BK586 := A_ (blk_drew BK586.out)
  replace HB := A_ (below_drew1 HB.out)
  refine start_ (n := 20) (S := fun w' => True) (ds := []) #[false, false, false, false, false, false, false, false, false, false, false, false, false, false, false, false, false, false, false, false] (by kernel_rfl) rfl rfl trivial (fun hHeld => ?_); refine with_tabW L01_awake.tab3 L01_awake.bits3 (fun HT_ HW_ => ?_)
  generalize w46.drew = w47 at BK586 HB hHeld ⊢
  refine pu_ 1 (some 16) #[false, true, false, false, false, false, false, false, false, false, false, false, false, false, false, false, false, false, false, false] rfl rfl (any_of HT_.out (by kernel_rfl)) ?_
  refine one_ (i := 0) (N := some 15) #[true, true, false, false, false, false, false, false, false, false, false, false, false, false, false, false, false, false, false, false] rfl rfl (one_of HT_.out (by kernel_rfl)) (by decide) (fun K hK => ?_)
  refine goes_ Try.func38 (by kernel_rfl) rfl #[.int .u64 9223372036854775808, .int .u64 4] (by rfl) rfl rfl mp_ ?_
  with_reducible refine (wide_Mul.calls 9223372036854775808 4 t589 t590 _ A4.out).mono ?_
  rintro e w48 ⟨rfl, hb⟩
  refine ⟨_, rfl, ?_⟩
  replace BK586 := A_ (bb_ BK586.out hb)
  replace HB := A_ (below_step (hb1_ HB.out GE586.out) hb);(try clear hb);(try clear hb2);(try clear hk);(try clear hi)
  refine hK.out _ _ trivial (fun hHeld => ?_)
  clear hK K
  refine norm_ (a' := ?_) ?_ ?_
  rotate_left
  ·show Act.put _ (some 15) _ = _
   simp only [Act.put, lI_, l0_, lS_, i64_w, i32_w]
   rfl
  refine pu_ 2 (some 17) #[true, true, true, false, false, false, false, false, false, false, false, false, false, false, false, false, false, false, false, false] rfl rfl (any_of HT_.out (by kernel_rfl)) ?_
  refine pu_ 3 (some 18) #[true, true, true, true, false, false, false, false, false, false, false, false, false, false, false, false, false, false, false, false] rfl rfl (any_of HT_.out (by kernel_rfl)) ?_
  refine pure_ (i := 4) (N := some 19) (v := undef) (a' := ?_) #[true, true, true, true, true, false, false, false, false, false, false, false, false, false, false, false, false, false, false, false] rfl rfl (any_of HT_.out (by kernel_rfl)) (fun _ _ _ h => h) (Or.inr ⟨by rfl, rfl⟩) ?_ ?_
  rotate_left
  ·simp only [Act.put, lI_, l0_, lS_, i64_w, i32_w]
   rfl
  refine pure_ (i := 5) (N := some 20) (v := undef) (a' := ?_) #[true, true, true, true, true, true, false, false, false, false, false, false, false, false, false, false, false, false, false, false] rfl rfl (any_of HT_.out (by kernel_rfl)) (fun _ _ _ h => h) (Or.inr ⟨by rfl, rfl⟩) ?_ ?_
  rotate_left
  ·simp only [Act.put, lI_, l0_, lS_, i64_w, i32_w]
   rfl
  refine pure_ (i := 6) (N := some 21) (v := undef) (a' := ?_) #[true, true, true, true, true, true, true, false, false, false, false, false, false, false, false, false, false, false, false, false] rfl rfl (any_of HT_.out (by kernel_rfl)) (fun _ _ _ h => h) (Or.inr ⟨by rfl, rfl⟩) ?_ ?_
  rotate_left
  ·simp only [Act.put, lI_, l0_, lS_, i64_w, i32_w]
   rfl
  refine pu_ 7 (some 22) #[true, true, true, true, true, true, true, true, false, false, false, false, false, false, false, false, false, false, false, false] rfl rfl (any_of HT_.out (by kernel_rfl)) ?_
  refine pu_ 8 (some 23) #[true, true, true, true, true, true, true, true, true, false, false, false, false, false, false, false, false, false, false, false] rfl rfl (any_of HT_.out (by kernel_rfl)) ?_
  refine pure_ (i := 9) (N := some 24) (v := undef) (a' := ?_) #[true, true, true, true, true, true, true, true, true, true, false, false, false, false, false, false, false, false, false, false] rfl rfl (any_of HT_.out (by kernel_rfl)) (fun _ _ _ h => h) (Or.inr ⟨by rfl, rfl⟩) ?_ ?_
  rotate_left
  ·simp only [Act.put, lI_, l0_, lS_, i64_w, i32_w]
   rfl
  refine pu_ 10 (some 25) #[true, true, true, true, true, true, true, true, true, true, true, false, false, false, false, false, false, false, false, false] rfl rfl (any_of HT_.out (by kernel_rfl)) ?_
  refine pu_ 11 (some 26) #[true, true, true, true, true, true, true, true, true, true, true, true, false, false, false, false, false, false, false, false] rfl rfl (any_of HT_.out (by kernel_rfl)) ?_
  refine pure_ (i := 12) (N := some 27) (v := undef) (a' := ?_) #[true, true, true, true, true, true, true, true, true, true, true, true, true, false, false, false, false, false, false, false] rfl rfl (any_of HT_.out (by kernel_rfl)) (fun _ _ _ h => h) (Or.inr ⟨by rfl, rfl⟩) ?_ ?_
  rotate_left
  ·simp only [Act.put, lI_, l0_, lS_, i64_w, i32_w]
   rfl
  refine pure_ (i := 13) (N := some 28) (v := undef) (a' := ?_) #[true, true, true, true, true, true, true, true, true, true, true, true, true, true, false, false, false, false, false, false] rfl rfl (any_of HT_.out (by kernel_rfl)) (fun _ _ _ h => h) (Or.inr ⟨by rfl, rfl⟩) ?_ ?_
  rotate_left
  ·simp only [Act.put, lI_, l0_, lS_, i64_w, i32_w]
   rfl
  refine pu_ 14 (some 29) #[true, true, true, true, true, true, true, true, true, true, true, true, true, true, true, false, false, false, false, false] rfl rfl (any_of HT_.out (by kernel_rfl)) ?_
  refine pu_ 15 (some 30) #[true, true, true, true, true, true, true, true, true, true, true, true, true, true, true, true, false, false, false, false] rfl rfl (any_of HT_.out (by kernel_rfl)) ?_
  refine pure_ (i := 16) (N := some 31) (v := undef) (a' := ?_) #[true, true, true, true, true, true, true, true, true, true, true, true, true, true, true, true, true, false, false, false] rfl rfl (any_of HT_.out (by kernel_rfl)) (fun _ _ _ h => h) (Or.inr ⟨by rfl, rfl⟩) ?_ ?_
  rotate_left
  ·simp only [Act.put, lI_, l0_, lS_, i64_w, i32_w]
   rfl
  refine pure_ (i := 17) (N := some 32) (v := undef) (a' := ?_) #[true, true, true, true, true, true, true, true, true, true, true, true, true, true, true, true, true, true, false, false] rfl rfl (any_of HT_.out (by kernel_rfl)) (fun _ _ _ h => h) (Or.inr ⟨by rfl, rfl⟩) ?_ ?_
  rotate_left
  ·simp only [Act.put, lI_, l0_, lS_, i64_w, i32_w]
   rfl
  refine pu_ 18 (some 33) #[true, true, true, true, true, true, true, true, true, true, true, true, true, true, true, true, true, true, true, false] rfl rfl (any_of HT_.out (by kernel_rfl)) ?_
  refine pu_ 19 (some 0) #[true, true, true, true, true, true, true, true, true, true, true, true, true, true, true, true, true, true, true, true] rfl rfl (any_of HT_.out (by kernel_rfl)) ?_
  refine done_ (done_of HT_.out (by kernel_rfl)) ?_
  try go_wp2
  go_ret
  exact ⟨er_, hb1_ HB.out GE586.out⟩
def r1_High.f (l0_0 : List Int) : Option (Int) := (r1_at.f l0_0 3).bind fun t612 => ((r1_at.f l0_0 2).bind fun t613 => (some (IntKind.u64.wrap ((IntKind.u64.wrap (t612 * 4294967296)) + t613))))
theorem r1_High.calls (A0_0 : Option Addr) (c0_0 : Nat) (l0_0 : List Int) (r : Int) (w : World) (hr0_0 : Kd.C (Kd.int .u64) w A0_0 l0_0.length l0_0) (hc0_0 : l0_0.length ≤ c0_0) (h : r1_High.f l0_0 = some r) :
  Calls Try.prog 72 #[.agg #[.slice A0_0 l0_0.length c0_0]] w fun e w' => e = .returned (.int .u64 r) ∧ Below w.heap.size w w' := by
 have hu53 := Try.underlying53
 have HR0_0 := A_ hr0_0;have HC0_0 := A_ hc0_0;clear hr0_0 hc0_0
 have HB := A_ (Below.refl w.heap.size w)
 have H : ((r1_at.f l0_0 3).bind fun t612 => ((r1_at.f l0_0 2).bind fun t613 => (some (IntKind.u64.wrap ((IntKind.u64.wrap (t612 * 4294967296)) + t613))))) = some r := h
 clear h
 replace H := ob_ H
 obtain ⟨t612, A20, H⟩ := H
 replace H : ((r1_at.f l0_0 2).bind fun t613 => (some (IntKind.u64.wrap ((IntKind.u64.wrap (t612 * 4294967296)) + t613)))) = some r := H
 have A2 := A_ A20;clear A20
 replace H := ob_ H
 obtain ⟨t613, A30, H⟩ := H
 replace H : (some (IntKind.u64.wrap ((IntKind.u64.wrap (t612 * 4294967296)) + t613))) = some r := H
 have A3 := A_ A30;clear A30
 obtain rfl := Option.some.inj H
 go_enter Try.func72, Try.ntmps72
 go_wp2_with (first | ((with_reducible refine gate_dst (N := 1) rfl ?_); refine be_ 1 #[.slice A0_0 l0_0.length c0_0] 53 ?_; intro gb611 hg w4 hbox hb; have BK611 := A_ (hbox); have GW611 := A_ (sz_ hg (hb_ HB.out)); have GE611 := A_ (sz_ hg (hb_ HB.out)); replace HB := A_ (below_step (hb_ HB.out) hb); clear hb hbox hg; have hcz5_0 := bv_ BK611.out 0; have hfz5_0 := blk_frozen BK611.out 0) | (go_at_call 70; (with_reducible refine (r1_at.calls _ _ l0_0 3 t612 _ ?side1 ?side2 A2.out).mono ?_); (case side1 => exact cs_ ((Kd.C_below HR0_0.out HB.out))); (case side2 => exact HC0_0.out); rintro e w' ⟨rfl, ⟨nd, rfl⟩⟩; (try first | exact ⟨rfl, _, World.drewN_drewN _ _ _⟩ | exact ⟨rfl, _, Eq.trans (World.drewN_drewN _ _ _) (congrArg (World.drewN _) (Nat.add_assoc _ _ _))⟩)) | (go_at_call 70; (with_reducible refine (r1_at.calls _ _ l0_0 2 t613 _ ?side1 ?side2 A3.out).mono ?_); (case side1 => exact cs_ ((Kd.C_below HR0_0.out (hb1_ HB.out GE611.out)))); (case side2 => exact HC0_0.out); rintro e w' ⟨rfl, ⟨nd, rfl⟩⟩; (try first | exact ⟨rfl, _, World.drewN_drewN _ _ _⟩ | exact ⟨rfl, _, Eq.trans (World.drewN_drewN _ _ _) (congrArg (World.drewN _) (Nat.add_assoc _ _ _))⟩)))
 repeat (go_quiet (first | ((with_reducible refine gate_dst (N := 1) rfl ?_); refine be_ 1 #[.slice A0_0 l0_0.length c0_0] 53 ?_; intro gb611 hg w4 hbox hb; have BK611 := A_ (hbox); have GW611 := A_ (sz_ hg (hb_ HB.out)); have GE611 := A_ (sz_ hg (hb_ HB.out)); replace HB := A_ (below_step (hb_ HB.out) hb); clear hb hbox hg; have hcz5_0 := bv_ BK611.out 0; have hfz5_0 := blk_frozen BK611.out 0) | (go_at_call 70; (with_reducible refine (r1_at.calls _ _ l0_0 3 t612 _ ?side1 ?side2 A2.out).mono ?_); (case side1 => exact cs_ ((Kd.C_below HR0_0.out HB.out))); (case side2 => exact HC0_0.out); rintro e w' ⟨rfl, ⟨nd, rfl⟩⟩; (try first | exact ⟨rfl, _, World.drewN_drewN _ _ _⟩ | exact ⟨rfl, _, Eq.trans (World.drewN_drewN _ _ _) (congrArg (World.drewN _) (Nat.add_assoc _ _ _))⟩)) | (go_at_call 70; (with_reducible refine (r1_at.calls _ _ l0_0 2 t613 _ ?side1 ?side2 A3.out).mono ?_); (case side1 => exact cs_ ((Kd.C_below HR0_0.out (hb1_ HB.out GE611.out)))); (case side2 => exact HC0_0.out); rintro e w' ⟨rfl, ⟨nd, rfl⟩⟩; (try first | exact ⟨rfl, _, World.drewN_drewN _ _ _⟩ | exact ⟨rfl, _, Eq.trans (World.drewN_drewN _ _ _) (congrArg (World.drewN _) (Nat.add_assoc _ _ _))⟩))); try go_wp2_with (first | ((with_reducible refine gate_dst (N := 1) rfl ?_); refine be_ 1 #[.slice A0_0 l0_0.length c0_0] 53 ?_; intro gb611 hg w4 hbox hb; have BK611 := A_ (hbox); have GW611 := A_ (sz_ hg (hb_ HB.out)); have GE611 := A_ (sz_ hg (hb_ HB.out)); replace HB := A_ (below_step (hb_ HB.out) hb); clear hb hbox hg; have hcz5_0 := bv_ BK611.out 0; have hfz5_0 := blk_frozen BK611.out 0) | (go_at_call 70; (with_reducible refine (r1_at.calls _ _ l0_0 3 t612 _ ?side1 ?side2 A2.out).mono ?_); (case side1 => exact cs_ ((Kd.C_below HR0_0.out HB.out))); (case side2 => exact HC0_0.out); rintro e w' ⟨rfl, ⟨nd, rfl⟩⟩; (try first | exact ⟨rfl, _, World.drewN_drewN _ _ _⟩ | exact ⟨rfl, _, Eq.trans (World.drewN_drewN _ _ _) (congrArg (World.drewN _) (Nat.add_assoc _ _ _))⟩)) | (go_at_call 70; (with_reducible refine (r1_at.calls _ _ l0_0 2 t613 _ ?side1 ?side2 A3.out).mono ?_); (case side1 => exact cs_ ((Kd.C_below HR0_0.out (hb1_ HB.out GE611.out)))); (case side2 => exact HC0_0.out); rintro e w' ⟨rfl, ⟨nd, rfl⟩⟩; (try first | exact ⟨rfl, _, World.drewN_drewN _ _ _⟩ | exact ⟨rfl, _, Eq.trans (World.drewN_drewN _ _ _) (congrArg (World.drewN _) (Nat.add_assoc _ _ _))⟩))))
 go_ret
 exact ⟨er_, hb1_ HB.out GE611.out⟩
end Go.Proofs.Ytjjehbedpgdhgaa.PA
