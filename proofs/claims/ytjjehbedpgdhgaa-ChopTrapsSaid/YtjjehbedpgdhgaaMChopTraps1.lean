/- What the Go functions that the statement ChopTraps reaches compute, and the mathematics on it, in the order in which one leans on the other; for every input. -/
import Derived.Test.YtjjehbedpgdhgaaVChopTraps0
import Derived.Test.YtjjehbedpgdhgaaMChopTraps0
namespace Go.Proofs.Ytjjehbedpgdhgaa.PA
open Go.RowKit Go.Proofs.YtjjehbedpgdhgaaW.PrintWords Go.Proofs.YtjjehbedpgdhgaaW.PrintLast Go.Proofs.YtjjehbedpgdhgaaW.PrintMore
attribute [local go_sem] max2_int min2_int max_two min_two max_three min_three max_four min_four   -- for this text's walks alone
set_option linter.unusedVariables false
set_option linter.unusedSimpArgs false
set_option maxHeartbeats 8000000
set_option maxRecDepth 100000
def shape_format_split.f (a0_0 : Int) (a0_1 : Int) (a1 : Int) : Option (Int × Int × Bool × Int × Int) := if 0 ≤ (wrap64 (a0_0 + a0_1)) then (if 0 ≤ a0_1 then ((shape_format_ones.f a0_0 a0_1).bind fun t114 => (some (a0_0, a0_1, ((Go.bits .and .u64 (shr .u64 a1 (wrap64 (a0_0 + a0_1))) 1) == 1), Go.bits .and .u64 (shr .u64 a1 a0_1) t114, Go.bits .and .u64 a1 (IntKind.u64.wrap ((shl .u64 1 a0_1) - 1))))) else (none)) else (none)
def shape_format_split.T1 : Bool × List (List Nat × List Nat) := (true, [([], []), ([], []), ([], []), ([2], [2]), ([], []), ([4], [4]), ([3, 5], [3, 5]), ([1, 6], [1, 6]), ([7], [7]), ([8], [8]), ([], []), ([], []), ([11], [11]), ([10, 12], [10, 12]), ([], []), ([14], [14]), ([13, 15], [13, 15]), ([], []), ([], []), ([18], [18]), ([19], [19]), ([20], [20]), ([17, 21], [17, 21]), ([0, 9, 16, 22], [0, 9, 16, 22]), ([23, 15, 0, 1, 2, 3, 4, 5, 6, 7, 8, 9, 10, 11, 12, 13, 14, 15, 16, 17, 18, 19, 20, 21, 22, 23], [23])])
def shape_format_split.B1 : List Nat := [0, 0, 0, 4, 0, 16, 60, 126, 254, 510, 0, 0, 2048, 7168, 0, 16384, 64512, 0, 0, 262144, 786432, 1835008, 4063232, 8388607, 16777215]
theorem shape_format_split.tab1 : rtab .any (opsOf Try.f55 1) = shape_format_split.T1 := by kernel_rfl
theorem shape_format_split.bits1 : waitsOk shape_format_split.T1.2 shape_format_split.B1 = true := by kernel_rfl
theorem shape_format_split.calls (a0_0 : Int) (a0_1 : Int) (a1 : Int) (r1 : Int) (r2 : Int) (r3 : Bool) (r4 : Int) (r5 : Int) (w : World) (h : shape_format_split.f a0_0 a0_1 a1 = some (r1, r2, r3, r4, r5)) :
  Calls Try.prog 55 #[.agg #[.int .i64 a0_0, .int .i64 a0_1], .int .u64 a1] w fun e w' => e = .returned (.agg #[.int .i64 r1, .int .i64 r2, .bool r3, .int .u64 r4, .int .u64 r5]) ∧ Below w.heap.size w w' := by
 have hu73 := Try.underlying73
 have hu79 := Try.underlying79
 have HB := A_ (Below.refl w.heap.size w)
 have H : (if 0 ≤ (wrap64 (a0_0 + a0_1)) then (if 0 ≤ a0_1 then ((shape_format_ones.f a0_0 a0_1).bind fun t114 => (some (a0_0, a0_1, ((Go.bits .and .u64 (shr .u64 a1 (wrap64 (a0_0 + a0_1))) 1) == 1), Go.bits .and .u64 (shr .u64 a1 a0_1) t114, Go.bits .and .u64 a1 (IntKind.u64.wrap ((shl .u64 1 a0_1) - 1))))) else (none)) else (none)) = some (r1, r2, r3, r4, r5) := h
 clear h
 obtain ⟨ji3, hji3⟩ : ∃ j_ : Int, (wrap64 (a0_0 + a0_1)) = j_ := ⟨_, rfl⟩
 replace H : (if 0 ≤ (ji3) then (if 0 ≤ a0_1 then ((shape_format_ones.f a0_0 a0_1).bind fun t114 => (some (a0_0, a0_1, ((Go.bits .and .u64 (shr .u64 a1 (ji3)) 1) == 1), Go.bits .and .u64 (shr .u64 a1 a0_1) t114, Go.bits .and .u64 a1 (IntKind.u64.wrap ((shl .u64 1 a0_1) - 1))))) else (none)) else (none)) = some (r1, r2, r3, r4, r5) := by first | (rw [hji3] at H; exact H) | (simp only [hji3] at H ⊢; exact H)
 have hji3w : (IntKind.i64.wrap (a0_0 + a0_1)) = ji3 := (i64_w _).trans hji3
 by_cases c4 : 0 ≤ (ji3)
 ·rw [if_pos c4] at H
  have c4b0 := eq_true c4
  have c4b1 : decide (0 ≤ (ji3)) = true := decide_eq_true c4
  clear c4
  obtain ⟨ji5, hji5⟩ : ∃ j_ : Int, (shr .u64 a1 (ji3)) = j_ := ⟨_, rfl⟩
  replace H : (if 0 ≤ a0_1 then ((shape_format_ones.f a0_0 a0_1).bind fun t114 => (some (a0_0, a0_1, ((Go.bits .and .u64 (ji5) 1) == 1), Go.bits .and .u64 (shr .u64 a1 a0_1) t114, Go.bits .and .u64 a1 (IntKind.u64.wrap ((shl .u64 1 a0_1) - 1))))) else (none)) = some (r1, r2, r3, r4, r5) := by first | (rw [hji5] at H; exact H) | (simp only [hji5] at H ⊢; exact H)
  have hji5_ : (a1 / 2 ^ min (ji3).toNat 64) = ji5 := hji5
  have hji5z : (ji3) ≤ 64 → (a1 / 2 ^ (ji3).toNat) = ji5 := shr_small hji5
  by_cases c6 : 0 ≤ a0_1
  ·rw [if_pos c6] at H
   have c6b0 := eq_true c6
   have c6b1 : decide (0 ≤ a0_1) = true := decide_eq_true c6
   clear c6
   obtain ⟨ji7, hji7⟩ : ∃ j_ : Int, (shr .u64 a1 a0_1) = j_ := ⟨_, rfl⟩
   replace H : ((shape_format_ones.f a0_0 a0_1).bind fun t114 => (some (a0_0, a0_1, ((Go.bits .and .u64 (ji5) 1) == 1), Go.bits .and .u64 (ji7) t114, Go.bits .and .u64 a1 (IntKind.u64.wrap ((shl .u64 1 a0_1) - 1))))) = some (r1, r2, r3, r4, r5) := by first | (rw [hji7] at H; exact H) | (simp only [hji7] at H ⊢; exact H)
   have hji7_ : (a1 / 2 ^ min a0_1.toNat 64) = ji7 := hji7
   have hji7z : a0_1 ≤ 64 → (a1 / 2 ^ a0_1.toNat) = ji7 := shr_small hji7
   replace H := ob_ H
   obtain ⟨t114, A80, H⟩ := H
   replace H : (some (a0_0, a0_1, ((Go.bits .and .u64 (ji5) 1) == 1), Go.bits .and .u64 (ji7) t114, Go.bits .and .u64 a1 (IntKind.u64.wrap ((shl .u64 1 a0_1) - 1)))) = some (r1, r2, r3, r4, r5) := H
   have A8 := A_ A80;clear A80
   have c9b0 := eq_true (of_decide_eq_true (by first | (with_reducible assumption) | assumption) : 0 ≤ a0_1)
   obtain ⟨ji10, hji10⟩ : ∃ j_ : Int, (shl .u64 1 a0_1) = j_ := ⟨_, rfl⟩
   replace H : (some (a0_0, a0_1, ((Go.bits .and .u64 (ji5) 1) == 1), Go.bits .and .u64 (ji7) t114, Go.bits .and .u64 a1 (IntKind.u64.wrap ((ji10) - 1)))) = some (r1, r2, r3, r4, r5) := by first | (rw [hji10] at H; exact H) | (simp only [hji10] at H ⊢; exact H)
   (try rw [hji10] at A8)
   have hji10_ : (IntKind.u64.wrap (1 * 2 ^ min a0_1.toNat 64)) = ji10 := hji10
   have hji10z : a0_1 ≤ 64 → (IntKind.u64.wrap (1 * 2 ^ a0_1.toNat)) = ji10 := shl_small hji10
   have hji10u : (IntKind.u64.wrap (2 ^ min a0_1.toNat 64)) = ji10 := by have h_ := hji10_; rw [Int.one_mul] at h_; exact h_
   have hji10v : a0_1 ≤ 64 → (IntKind.u64.wrap (2 ^ a0_1.toNat)) = ji10 := fun hle_ => by have h_ := hji10z hle_; rw [Int.one_mul] at h_; exact h_
   simp only [Option.some.injEq, Prod.mk.injEq] at H
   obtain ⟨rfl, rfl, rfl, rfl, rfl⟩ := H
   go_enter Try.func55, Try.ntmps55
   try go_wp2_with (first | ((with_reducible refine gate_dst (N := 2) rfl ?_); refine be_ 2 #[.int .i64 a0_0, .int .i64 a0_1] 73 ?_; intro gb112 hg w11 hbox hb; have BK112 := A_ (hbox); have GW112 := A_ (sz_ hg (hb_ HB.out)); have GE112 := A_ (sz_ hg (hb_ HB.out)); replace HB := A_ (below_step (hb_ HB.out) hb); clear hb hbox hg) | ((with_reducible refine gate_dst (N := 4) rfl ?_); refine be_ 4 #[.int .i64 0, .int .i64 0, .bool false, .int .u64 0, .int .u64 0] 79 ?_; intro gb113 hg w12 hbox hb; have BK113 := A_ (hbox); have GW113 := A_ (sz_ hg (hb1_ HB.out GE112.out)); have GE113 := A_ (sz_ hg (hb1_ HB.out GE112.out)); have NB112_113 := A_ (nl_ hg BK112.out); have NB113_112 := A_ (ng_ hg BK112.out); replace BK112 := A_ (bb_ BK112.out hb); replace HB := A_ (below_step (hb1_ HB.out GE112.out) hb); clear hb hbox hg))
   replace BK112 := A_ (blk_drew BK112.out)
   replace BK113 := A_ (blk_drew BK113.out)
   replace HB := A_ (below_drew1 HB.out)
   refine start_ (n := 25) (S := fun w' => w'.cell? ⟨gb112, 0, none⟩ = some (.int .i64 a0_0) ∧ w'.cell? ⟨gb112, 1, none⟩ = some (.int .i64 a0_1)) (ds := []) #[false, false, false, false, false, false, false, false, false, false, false, false, false, false, false, false, false, false, false, false, false, false, false, false, false] (by kernel_rfl) rfl rfl ⟨bc_ BK112.out 0, bc_ BK112.out 1⟩ (fun hHeld => ?_); refine with_tabW shape_format_split.tab1 shape_format_split.bits1 (fun HT_ HW_ => ?_)
   generalize w12.drew = w13 at BK112 BK113 HB hHeld ⊢
   refine pu_ 1 (some 6) #[false, true, false, false, false, false, false, false, false, false, false, false, false, false, false, false, false, false, false, false, false, false, false, false, false] rfl rfl (any_of HT_.out (by kernel_rfl)) ?_
   refine pu_ 2 (some 7) #[false, true, true, false, false, false, false, false, false, false, false, false, false, false, false, false, false, false, false, false, false, false, false, false, false] rfl rfl (any_of HT_.out (by kernel_rfl)) ?_
   refine pu_ 4 (some 9) #[false, true, true, false, true, false, false, false, false, false, false, false, false, false, false, false, false, false, false, false, false, false, false, false, false] rfl rfl (any_of HT_.out (by kernel_rfl)) ?_
   refine pu_ 10 (some 15) #[false, true, true, false, true, false, false, false, false, false, true, false, false, false, false, false, false, false, false, false, false, false, false, false, false] rfl rfl (any_of HT_.out (by kernel_rfl)) ?_
   refine pu_ 11 (some 16) #[false, true, true, false, true, false, false, false, false, false, true, true, false, false, false, false, false, false, false, false, false, false, false, false, false] rfl rfl (any_of HT_.out (by kernel_rfl)) ?_
   refine pu_ 17 (some 22) #[false, true, true, false, true, false, false, false, false, false, true, true, false, false, false, false, false, true, false, false, false, false, false, false, false] rfl rfl (any_of HT_.out (by kernel_rfl)) ?_
   refine pu_ 18 (some 23) #[false, true, true, false, true, false, false, false, false, false, true, true, false, false, false, false, false, true, true, false, false, false, false, false, false] rfl rfl (any_of HT_.out (by kernel_rfl)) ?_
   refine tk2_ 0 (some 5) #[true, true, true, false, true, false, false, false, false, false, true, true, false, false, false, false, false, true, true, false, false, false, false, false, false] rfl rfl (take_ofW HT_.out HW_.out (by kernel_rfl)) hHeld ?_
   refine tk2_ 3 (some 8) #[true, true, true, true, true, false, false, false, false, false, true, true, false, false, false, false, false, true, true, false, false, false, false, false, false] rfl rfl (take_ofW HT_.out HW_.out (by kernel_rfl)) hHeld ?_
   refine tk2_ 5 (some 10) #[true, true, true, true, true, true, false, false, false, false, true, true, false, false, false, false, false, true, true, false, false, false, false, false, false] rfl rfl (take_ofW HT_.out HW_.out (by kernel_rfl)) hHeld ?_
   refine pu_ 6 (some 11) #[true, true, true, true, true, true, true, false, false, false, true, true, false, false, false, false, false, true, true, false, false, false, false, false, false] rfl rfl (any_of HT_.out (by kernel_rfl)) ?_
   refine pu_ 7 (some 12) #[true, true, true, true, true, true, true, true, false, false, true, true, false, false, false, false, false, true, true, false, false, false, false, false, false] rfl rfl (any_of HT_.out (by kernel_rfl)) ?_
   refine pu_ 8 (some 13) #[true, true, true, true, true, true, true, true, true, false, true, true, false, false, false, false, false, true, true, false, false, false, false, false, false] rfl rfl (any_of HT_.out (by kernel_rfl)) ?_
   refine pu_ 9 (some 14) #[true, true, true, true, true, true, true, true, true, true, true, true, false, false, false, false, false, true, true, false, false, false, false, false, false] rfl rfl (any_of HT_.out (by kernel_rfl)) ?_
   refine tk2_ 12 (some 17) #[true, true, true, true, true, true, true, true, true, true, true, true, true, false, false, false, false, true, true, false, false, false, false, false, false] rfl rfl (take_ofW HT_.out HW_.out (by kernel_rfl)) hHeld ?_
   refine pu_ 13 (some 18) #[true, true, true, true, true, true, true, true, true, true, true, true, true, true, false, false, false, true, true, false, false, false, false, false, false] rfl rfl (any_of HT_.out (by kernel_rfl)) ?_
   refine tk2_ 14 (some 19) #[true, true, true, true, true, true, true, true, true, true, true, true, true, true, true, false, false, true, true, false, false, false, false, false, false] rfl rfl (take_ofW HT_.out HW_.out (by kernel_rfl)) hHeld ?_
   refine tk2_ 19 (some 24) #[true, true, true, true, true, true, true, true, true, true, true, true, true, true, true, false, false, true, true, true, false, false, false, false, false] rfl rfl (take_ofW HT_.out HW_.out (by kernel_rfl)) hHeld ?_
   refine pu_ 20 (some 25) #[true, true, true, true, true, true, true, true, true, true, true, true, true, true, true, false, false, true, true, true, true, false, false, false, false] rfl rfl (any_of HT_.out (by kernel_rfl)) ?_
   refine pu_ 21 (some 26) #[true, true, true, true, true, true, true, true, true, true, true, true, true, true, true, false, false, true, true, true, true, true, false, false, false] rfl rfl (any_of HT_.out (by kernel_rfl)) ?_
   refine pu_ 22 (some 27) #[true, true, true, true, true, true, true, true, true, true, true, true, true, true, true, false, false, true, true, true, true, true, true, false, false] rfl rfl (any_of HT_.out (by kernel_rfl)) ?_
   refine one_ (i := 15) (N := some 20) #[true, true, true, true, true, true, true, true, true, true, true, true, true, true, true, true, false, true, true, true, true, true, true, false, false] rfl rfl (one_of HT_.out (by kernel_rfl)) (by decide) (fun K hK => ?_)
   refine goes_ Try.func54 (by kernel_rfl) rfl #[.agg #[.int .i64 a0_0, .int .i64 a0_1]] (by rfl) rfl rfl mp_ ?_
   with_reducible refine (shape_format_ones.calls a0_0 a0_1 t114 _ A8.out).mono ?_
   rintro e w14 ⟨rfl, hb⟩
   refine ⟨_, rfl, ?_⟩
   replace BK112 := A_ (bb_ BK112.out hb)
   replace BK113 := A_ (bb_ BK113.out hb)
   replace HB := A_ (below_step (hb2_ HB.out GE112.out GE113.out) hb);(try clear hb);(try clear hb2);(try clear hk);(try clear hi)
   refine hK.out _ _ ⟨bc_ BK112.out 0, bc_ BK112.out 1⟩ (fun hHeld => ?_)
   clear hK K
   refine norm_ (a' := ?_) ?_ ?_
   rotate_left
   ·show Act.put _ (some 20) _ = _
    simp only [Act.put, lI_, l0_, lS_, i64_w, i32_w]
    rfl
   refine pu_ 16 (some 21) #[true, true, true, true, true, true, true, true, true, true, true, true, true, true, true, true, true, true, true, true, true, true, true, false, false] rfl rfl (any_of HT_.out (by kernel_rfl)) ?_
   refine pu_ 23 (some 28) #[true, true, true, true, true, true, true, true, true, true, true, true, true, true, true, true, true, true, true, true, true, true, true, true, false] rfl rfl (any_of HT_.out (by kernel_rfl)) ?_
   refine one_ (i := 24) (N := none) #[true, true, true, true, true, true, true, true, true, true, true, true, true, true, true, true, true, true, true, true, true, true, true, true, true] rfl rfl (one_of HT_.out (by kernel_rfl)) (by decide) (fun K hK => ?_)
   have hs15 : w14.cell? ⟨gb113, 0, none⟩ = some (.int .i64 0) := bc_ BK113.out 0
   have hfs15 := blk_frozen BK113.out 0
   have hns15_0 := NB112_113.out
   have hms15_0 := NB113_112.out
   have hs16 : w14.cell? ⟨gb113, 1, none⟩ = some (.int .i64 0) := bc_ BK113.out 1
   have hfs16 := blk_frozen BK113.out 1
   have hns16_0 := NB112_113.out
   have hms16_0 := NB113_112.out
   have hs17 : w14.cell? ⟨gb113, 2, none⟩ = some (.bool false) := bc_ BK113.out 2
   have hfs17 := blk_frozen BK113.out 2
   have hns17_0 := NB112_113.out
   have hms17_0 := NB113_112.out
   have hs18 : w14.cell? ⟨gb113, 3, none⟩ = some (.int .u64 0) := bc_ BK113.out 3
   have hfs18 := blk_frozen BK113.out 3
   have hns18_0 := NB112_113.out
   have hms18_0 := NB113_112.out
   have hs19 : w14.cell? ⟨gb113, 4, none⟩ = some (.int .u64 0) := bc_ BK113.out 4
   have hfs19 := blk_frozen BK113.out 4
   have hns19_0 := NB112_113.out
   have hms19_0 := NB113_112.out
   refine skip_ (w1 := ?_) (by rfl) rfl ?_ ?_
   rotate_left
   ·go_simp
    rfl
   refine hK.out _ _ ⟨((cell_far (p := ⟨gb113, _, none⟩) NB112_113.out _).trans (((cell_far (p := ⟨gb113, _, none⟩) NB112_113.out _).trans (((cell_far (p := ⟨gb113, _, none⟩) NB112_113.out _).trans (((cell_far (p := ⟨gb113, _, none⟩) NB112_113.out _).trans (((cell_far (p := ⟨gb113, _, none⟩) NB112_113.out _).trans (hHeld.1)))))))))), ((cell_far (p := ⟨gb113, _, none⟩) NB112_113.out _).trans (((cell_far (p := ⟨gb113, _, none⟩) NB112_113.out _).trans (((cell_far (p := ⟨gb113, _, none⟩) NB112_113.out _).trans (((cell_far (p := ⟨gb113, _, none⟩) NB112_113.out _).trans (((cell_far (p := ⟨gb113, _, none⟩) NB112_113.out _).trans (hHeld.2))))))))))⟩ (fun hHeld => ?_)
   clear hK K
   refine done_ (done_of HT_.out (by kernel_rfl)) ?_
   try go_wp2
   refine bodyPost_ret (results_cell_row rfl _ _ gb113 79 #[.int .i64 a0_0, .int .i64 a0_1, .bool ((Go.bits .and .u64 (ji5) 1) == 1), .int .u64 (Go.bits .and .u64 (ji7) t114), .int .u64 (Go.bits .and .u64 a1 (IntKind.u64.wrap ((ji10) - 1)))] (0, 0) _ rfl (by (with_reducible repeat (first | refine blk_drewN ?_ _ | refine blk_drew ?_ | refine blk_alloc ?_ _)); refine blk_put (cs := #[.int .i64 a0_0, .int .i64 a0_1, .bool ((Go.bits .and .u64 (ji5) 1) == 1), .int .u64 (Go.bits .and .u64 (ji7) t114), .int .u64 0]) ?_ 4 _ rfl; (with_reducible repeat (first | refine blk_drewN ?_ _ | refine blk_drew ?_ | refine blk_alloc ?_ _)); refine blk_put (cs := #[.int .i64 a0_0, .int .i64 a0_1, .bool ((Go.bits .and .u64 (ji5) 1) == 1), .int .u64 0, .int .u64 0]) ?_ 3 _ rfl; (with_reducible repeat (first | refine blk_drewN ?_ _ | refine blk_drew ?_ | refine blk_alloc ?_ _)); refine blk_put (cs := #[.int .i64 a0_0, .int .i64 a0_1, .bool false, .int .u64 0, .int .u64 0]) ?_ 2 _ rfl; (with_reducible repeat (first | refine blk_drewN ?_ _ | refine blk_drew ?_ | refine blk_alloc ?_ _)); refine blk_put (cs := #[.int .i64 a0_0, .int .i64 0, .bool false, .int .u64 0, .int .u64 0]) ?_ 1 _ rfl; (with_reducible repeat (first | refine blk_drewN ?_ _ | refine blk_drew ?_ | refine blk_alloc ?_ _)); refine blk_put (cs := #[.int .i64 0, .int .i64 0, .bool false, .int .u64 0, .int .u64 0]) ?_ 0 _ rfl; (with_reducible repeat (first | refine blk_drewN ?_ _ | refine blk_drew ?_ | refine blk_alloc ?_ _)); exact BK113.out) Try.underlying79 rfl (by kernel_rfl)) rfl ?_
   exact ⟨by first | rfl | (simp [errW_none, errW_some] <;> rfl) | (simp only [← hji3, ← hji5, ← hji7, ← hji10]; first | rfl | (simp [errW_none, errW_some] <;> rfl)) | (simp [*, errW_none, errW_some] <;> rfl), hb2_ HB.out GE112.out GE113.out⟩
  ·rw [if_neg c6] at H
   exact absurd H (by simp)
 ·rw [if_neg c4] at H
  exact absurd H (by simp)
def shape_of.f (a0 : Int) : Option (Int × Int × Bool) := if a0 = 32 then (some (8, 23, true)) else (if a0 = 64 then (some (11, 52, true)) else (some (0, 0, false)))
theorem shape_of.calls (a0 : Int) (r1 : Int) (r2 : Int) (r3 : Bool) (w : World) (h : shape_of.f a0 = some (r1, r2, r3)) :
  Calls Try.prog 52 #[.int .i64 a0] w fun e w' => e = .returned (.tuple #[.agg #[.int .i64 r1, .int .i64 r2], .bool r3]) ∧ Below w.heap.size w w' := by
 have hu73 := Try.underlying73
 have HB := A_ (Below.refl w.heap.size w)
 have H : (if a0 = 32 then (some (8, 23, true)) else (if a0 = 64 then (some (11, 52, true)) else (some (0, 0, false)))) = some (r1, r2, r3) := h
 clear h
 by_cases c2 : a0 = 32
 ·rw [if_pos c2] at H
  have c2b0 : (a0 == 32) = true := beq_iff_eq.mpr c2
  have c2b1 : (a0 != 32) = false := bne_eq_false_iff_eq.mpr c2
  clear c2
  simp only [Option.some.injEq, Prod.mk.injEq] at H
  obtain ⟨rfl, rfl, rfl⟩ := H
  go_enter Try.func52, Try.ntmps52
  go_wp2_with (first | ((with_reducible refine gate_dst (N := 2) rfl ?_); refine be_ 2 #[.int .i64 0, .int .i64 0] 73 ?_; intro gb101 hg w3 hbox hb; have BK101 := A_ (hbox); have GW101 := A_ (sz_ hg (hb_ HB.out)); have GE101 := A_ (sz_ hg (hb_ HB.out)); replace HB := A_ (below_step (hb_ HB.out) hb); clear hb hbox hg; have hcz4_0 := bv_ BK101.out 0; have hcz4_1 := bv_ BK101.out 1; have hfz4_0 := blk_frozen BK101.out 0; have hfz4_1 := blk_frozen BK101.out 1))
  refine bodyPost_ret (results_ct rfl _ _ gb101 73 #[.int .i64 8, .int .i64 23] (0, 0) _ rfl (by (with_reducible repeat (first | refine blk_drewN ?_ _ | refine blk_drew ?_ | refine blk_alloc ?_ _)); refine blk_put (cs := #[.int .i64 8, .int .i64 0]) ?_ 1 _ rfl; (with_reducible repeat (first | refine blk_drewN ?_ _ | refine blk_drew ?_ | refine blk_alloc ?_ _)); refine blk_put (cs := #[.int .i64 0, .int .i64 0]) ?_ 0 _ rfl; (with_reducible repeat (first | refine blk_drewN ?_ _ | refine blk_drew ?_ | refine blk_alloc ?_ _)); exact BK101.out) Try.underlying73 rfl (by kernel_rfl)) rfl ?_
  exact ⟨er_, hb1_ HB.out GE101.out⟩
 ·rw [if_neg c2] at H
  have c2b0 : (a0 == 32) = false := beq_eq_false_iff_ne.mpr c2
  have c2b1 : (a0 != 32) = true := bne_iff_ne.mpr c2
  by_cases c5 : a0 = 64
  ·rw [if_pos c5] at H
   have c5b0 : (a0 == 64) = true := beq_iff_eq.mpr c5
   have c5b1 : (a0 != 64) = false := bne_eq_false_iff_eq.mpr c5
   clear c5
   simp only [Option.some.injEq, Prod.mk.injEq] at H
   obtain ⟨rfl, rfl, rfl⟩ := H
   go_enter Try.func52, Try.ntmps52
   go_wp2_with (first | ((with_reducible refine gate_dst (N := 2) rfl ?_); refine be_ 2 #[.int .i64 0, .int .i64 0] 73 ?_; intro gb101 hg w6 hbox hb; have BK101 := A_ (hbox); have GW101 := A_ (sz_ hg (hb_ HB.out)); have GE101 := A_ (sz_ hg (hb_ HB.out)); replace HB := A_ (below_step (hb_ HB.out) hb); clear hb hbox hg; have hcz7_0 := bv_ BK101.out 0; have hcz7_1 := bv_ BK101.out 1; have hfz7_0 := blk_frozen BK101.out 0; have hfz7_1 := blk_frozen BK101.out 1))
   refine bodyPost_ret (results_ct rfl _ _ gb101 73 #[.int .i64 11, .int .i64 52] (0, 0) _ rfl (by (with_reducible repeat (first | refine blk_drewN ?_ _ | refine blk_drew ?_ | refine blk_alloc ?_ _)); refine blk_put (cs := #[.int .i64 11, .int .i64 0]) ?_ 1 _ rfl; (with_reducible repeat (first | refine blk_drewN ?_ _ | refine blk_drew ?_ | refine blk_alloc ?_ _)); refine blk_put (cs := #[.int .i64 0, .int .i64 0]) ?_ 0 _ rfl; (with_reducible repeat (first | refine blk_drewN ?_ _ | refine blk_drew ?_ | refine blk_alloc ?_ _)); exact BK101.out) Try.underlying73 rfl (by kernel_rfl)) rfl ?_
   exact ⟨er_, hb1_ HB.out GE101.out⟩
  ·rw [if_neg c5] at H
   have c5b0 : (a0 == 64) = false := beq_eq_false_iff_ne.mpr c5
   have c5b1 : (a0 != 64) = true := bne_iff_ne.mpr c5
   simp only [Option.some.injEq, Prod.mk.injEq] at H
   obtain ⟨rfl, rfl, rfl⟩ := H
   go_enter Try.func52, Try.ntmps52
   go_wp2_with (first | ((with_reducible refine gate_dst (N := 2) rfl ?_); refine be_ 2 #[.int .i64 0, .int .i64 0] 73 ?_; intro gb101 hg w8 hbox hb; have BK101 := A_ (hbox); have GW101 := A_ (sz_ hg (hb_ HB.out)); have GE101 := A_ (sz_ hg (hb_ HB.out)); replace HB := A_ (below_step (hb_ HB.out) hb); clear hb hbox hg; have hcz9_0 := bv_ BK101.out 0; have hcz9_1 := bv_ BK101.out 1; have hfz9_0 := blk_frozen BK101.out 0; have hfz9_1 := blk_frozen BK101.out 1))
   refine bodyPost_ret (results_ct rfl _ _ gb101 73 #[.int .i64 0, .int .i64 0] (0, 0) _ rfl (by (with_reducible repeat (first | refine blk_drewN ?_ _ | refine blk_drew ?_ | refine blk_alloc ?_ _)); refine blk_put (cs := #[.int .i64 0, .int .i64 0]) ?_ 1 _ rfl; (with_reducible repeat (first | refine blk_drewN ?_ _ | refine blk_drew ?_ | refine blk_alloc ?_ _)); refine blk_put (cs := #[.int .i64 0, .int .i64 0]) ?_ 0 _ rfl; (with_reducible repeat (first | refine blk_drewN ?_ _ | refine blk_drew ?_ | refine blk_alloc ?_ _)); exact BK101.out) Try.underlying73 rfl (by kernel_rfl)) rfl ?_
   exact ⟨er_, hb1_ HB.out GE101.out⟩
mutual
def shape_Open.j0 : Nat → Bool → Int → Int → Bool → Int → Int → Option (Bool × Int × Int × Int)
 | 0, _, _, _, _, _, _ => none
 | k + 1, x19, x127000, x127001, x127002, x127003, x127004 => if x19 = true then (some (false, 3, 0, 0)) else ((shape_format_ones.f x127000 x127001).bind fun t128 => (if x127003 = t128 then (some (x127002, 2, 0, 0)) else (if x127003 = 0 then (shape_Open.j1 k (x127004 == 0) x127000 x127001 x127002 x127003 x127004) else (shape_Open.j1 k false x127000 x127001 x127002 x127003 x127004))))
def shape_Open.j1 : Nat → Bool → Int → Int → Bool → Int → Int → Option (Bool × Int × Int × Int)
 | 0, _, _, _, _, _, _ => none
 | k + 1, x42, x127000, x127001, x127002, x127003, x127004 => if x42 = true then (some (x127002, 0, 0, 0)) else (if x127003 = 0 then ((shape_format_low.f x127000 x127001).bind fun t129 => (some (x127002, 1, t129, x127004))) else ((shape_format_low.f x127000 x127001).bind fun t130 => (if 0 ≤ x127001 then (some (x127002, 1, wrap64 ((wrap64 (t130 + (wrap64 (x127003)))) - 1), Go.bits .or .u64 (shl .u64 1 x127001) x127004)) else (none))))
end
def shape_Open.f (k : Nat) (a0 : Int) (a1 : Int) : Option (Bool × Int × Int × Int) := (shape_of.f a0).bind fun bt117 => (if bt117.2.2 = true then ((shape_format_split.f bt117.1 bt117.2.1 a1).bind fun bt121 => ((shape_format_ones.f bt121.1 bt121.2.1).bind fun t127 => (if bt121.2.2.2.1 = t127 then (shape_Open.j0 k (bt121.2.2.2.2 != 0) bt121.1 bt121.2.1 bt121.2.2.1 bt121.2.2.2.1 bt121.2.2.2.2) else (shape_Open.j0 k false bt121.1 bt121.2.1 bt121.2.2.1 bt121.2.2.2.1 bt121.2.2.2.2)))) else (some (false, 0, 0, 0)))
theorem shape_Open.mono_l : ∀ k, (∀ y0 y1 y2 y3 y4 y5, LeO (shape_Open.j0 k y0 y1 y2 y3 y4 y5) (shape_Open.j0 (k + 1) y0 y1 y2 y3 y4 y5)) ∧ (∀ y0 y1 y2 y3 y4 y5, LeO (shape_Open.j1 k y0 y1 y2 y3 y4 y5) (shape_Open.j1 (k + 1) y0 y1 y2 y3 y4 y5))
 | 0 => ⟨fun _ _ _ _ _ _ r h => by simp [shape_Open.j0] at h, fun _ _ _ _ _ _ r h => by simp [shape_Open.j1] at h⟩
 | k + 1 => by
  obtain ⟨ih0, ih1⟩ := shape_Open.mono_l k
  refine ⟨?_, ?_⟩
  ·intro y0 y1 y2 y3 y4 y5
   unfold shape_Open.j0
   repeat' first
   | (with_reducible exact ih0 _ _ _ _ _ _)
   | (with_reducible exact ih1 _ _ _ _ _ _)
   | (with_reducible exact LeO.refl _)
   | (with_reducible exact LeO.none _)
   | (with_reducible refine LeO.ite ?_ ?_)
   | (with_reducible refine LeO.bind ?_ (fun _ => ?_))
   | exact ih0 _ _ _ _ _ _
   | exact ih1 _ _ _ _ _ _
   | exact LeO.none _
   | refine LeO.ite ?_ ?_
   | refine LeO.bind ?_ (fun _ => ?_)
  ·intro y0 y1 y2 y3 y4 y5
   unfold shape_Open.j1
   repeat' first
   | (with_reducible exact ih0 _ _ _ _ _ _)
   | (with_reducible exact ih1 _ _ _ _ _ _)
   | (with_reducible exact LeO.refl _)
   | (with_reducible exact LeO.none _)
   | (with_reducible refine LeO.ite ?_ ?_)
   | (with_reducible refine LeO.bind ?_ (fun _ => ?_))
   | exact ih0 _ _ _ _ _ _
   | exact ih1 _ _ _ _ _ _
   | exact LeO.none _
   | refine LeO.ite ?_ ?_
   | refine LeO.bind ?_ (fun _ => ?_)
theorem shape_Open.mono : ∀ a0 a1 k, LeO (shape_Open.f k a0 a1) (shape_Open.f (k + 1) a0 a1) := by
 intro a0 a1 k
 obtain ⟨ih0, ih1⟩ := shape_Open.mono_l k
 unfold shape_Open.f
 repeat' first
   | (with_reducible exact ih0 _ _ _ _ _ _)
   | (with_reducible exact ih1 _ _ _ _ _ _)
   | (with_reducible exact LeO.refl _)
   | (with_reducible exact LeO.none _)
   | (with_reducible refine LeO.ite ?_ ?_)
   | (with_reducible refine LeO.bind ?_ (fun _ => ?_))
   | exact ih0 _ _ _ _ _ _
   | exact ih1 _ _ _ _ _ _
   | exact LeO.none _
   | refine LeO.ite ?_ ?_
   | refine LeO.bind ?_ (fun _ => ?_)
def shape_Open.T5 : Bool × List (List Nat × List Nat) := (true, [([], []), ([0], [0]), ([], []), ([2], [2]), ([3], [3]), ([1, 4], [1, 4]), ([5, 4], [5]), ([6], [6]), ([7, 6], [6, 7]), ([8, 6], [6, 8]), ([6, 9], [6, 9]), ([10, 6], [10])])
def shape_Open.B5 : List Nat := [0, 1, 0, 4, 12, 31, 63, 127, 255, 511, 1023, 2047]
theorem shape_Open.tab5 : rtab .any (opsOf Try.f15 5) = shape_Open.T5 := by kernel_rfl
theorem shape_Open.bits5 : waitsOk shape_Open.T5.2 shape_Open.B5 = true := by kernel_rfl
def shape_Open.T12 : Bool × List (List Nat × List Nat) := (true, [([], []), ([0], [0]), ([], []), ([2], [2]), ([3], [3]), ([], []), ([5], [5]), ([1, 4, 6], [1, 4, 6]), ([7, 4, 0, 1, 2, 3, 4, 5, 6, 7], [7])])
def shape_Open.B12 : List Nat := [0, 1, 0, 4, 12, 0, 32, 127, 255]
theorem shape_Open.tab12 : rtab .any (opsOf Try.f15 12) = shape_Open.T12 := by kernel_rfl
theorem shape_Open.bits12 : waitsOk shape_Open.T12.2 shape_Open.B12 = true := by kernel_rfl
def shape_Open.T13 : Bool × List (List Nat × List Nat) := (true, [([], []), ([0], [0]), ([], []), ([2], [2]), ([3], [3]), ([], []), ([5], [5]), ([6], [6]), ([4, 7], [4, 7]), ([8], [8]), ([], []), ([10], [10]), ([11], [11]), ([12], [12]), ([], []), ([14], [14]), ([13, 15], [13, 15]), ([1, 9, 16], [1, 9, 16]), ([17, 4, 0, 1, 2, 3, 4, 5, 6, 7, 8, 9, 10, 11, 12, 13, 14, 15, 16, 17], [17])])
def shape_Open.B13 : List Nat := [0, 1, 0, 4, 12, 0, 32, 96, 252, 508, 0, 1024, 3072, 7168, 0, 16384, 64512, 131071, 262143]
theorem shape_Open.tab13 : rtab .any (opsOf Try.f15 13) = shape_Open.T13 := by kernel_rfl
theorem shape_Open.bits13 : waitsOk shape_Open.T13.2 shape_Open.B13 = true := by kernel_rfl
theorem shape_Open.calls (k : Nat) (a0 : Int) (a1 : Int) (r1 : Bool) (r2 : Int) (r3 : Int) (r4 : Int) (w : World) (h : shape_Open.f k a0 a1 = some (r1, r2, r3, r4)) :
  Calls Try.prog 15 #[.int .i64 a0, .int .u64 a1] w fun e w' => e = .returned (.agg #[.bool r1, .int .i64 r2, .int .i64 r3, .int .u64 r4]) ∧ Below w.heap.size w w' := by
 have hu30 := Try.underlying30
 have hu73 := Try.underlying73
 have hu79 := Try.underlying79
 have HB := A_ (Below.refl w.heap.size w)
 have H : ((shape_of.f a0).bind fun bt117 => (if bt117.2.2 = true then ((shape_format_split.f bt117.1 bt117.2.1 a1).bind fun bt121 => ((shape_format_ones.f bt121.1 bt121.2.1).bind fun t127 => (if bt121.2.2.2.1 = t127 then (shape_Open.j0 k (bt121.2.2.2.2 != 0) bt121.1 bt121.2.1 bt121.2.2.1 bt121.2.2.2.1 bt121.2.2.2.2) else (shape_Open.j0 k false bt121.1 bt121.2.1 bt121.2.2.1 bt121.2.2.2.1 bt121.2.2.2.2)))) else (some (false, 0, 0, 0)))) = some (r1, r2, r3, r4) := h
 clear h
 replace H := ob_ H
 obtain ⟨⟨t117, t118, t119⟩, A30, H⟩ := H
 replace H : (if t119 = true then ((shape_format_split.f t117 t118 a1).bind fun bt121 => ((shape_format_ones.f bt121.1 bt121.2.1).bind fun t127 => (if bt121.2.2.2.1 = t127 then (shape_Open.j0 k (bt121.2.2.2.2 != 0) bt121.1 bt121.2.1 bt121.2.2.1 bt121.2.2.2.1 bt121.2.2.2.2) else (shape_Open.j0 k false bt121.1 bt121.2.1 bt121.2.2.1 bt121.2.2.2.1 bt121.2.2.2.2)))) else (some (false, 0, 0, 0))) = some (r1, r2, r3, r4) := H
 have A3 := A_ A30;clear A30
 by_cases c4 : t119 = true
 ·subst c4
  have H1 : ((shape_format_split.f t117 t118 a1).bind fun bt121 => ((shape_format_ones.f bt121.1 bt121.2.1).bind fun t127 => (if bt121.2.2.2.1 = t127 then (shape_Open.j0 k (bt121.2.2.2.2 != 0) bt121.1 bt121.2.1 bt121.2.2.1 bt121.2.2.2.1 bt121.2.2.2.2) else (shape_Open.j0 k false bt121.1 bt121.2.1 bt121.2.2.1 bt121.2.2.2.1 bt121.2.2.2.2)))) = some (r1, r2, r3, r4) := by rw [if_pos rfl] at H; exact H
  clear H;have H := H1;clear H1
  replace H := ob_ H
  obtain ⟨⟨t121, t122, t123, t124, t125⟩, A50, H⟩ := H
  replace H : ((shape_format_ones.f t121 t122).bind fun t127 => (if t124 = t127 then (shape_Open.j0 k (t125 != 0) t121 t122 t123 t124 t125) else (shape_Open.j0 k false t121 t122 t123 t124 t125))) = some (r1, r2, r3, r4) := H
  have A5 := A_ A50;clear A50;have HC6 := A_ H;clear H
  go_enter Try.func15, Try.ntmps15
  go_upto_region 5 with (first | ((with_reducible refine gate_dst (N := 4) rfl ?_); refine be_ 4 #[.bool false, .int .i64 0, .int .i64 0, .int .u64 0] 30 ?_; intro gb116 hg w7 hbox hb; have BK116 := A_ (hbox); have GW116 := A_ (sz_ hg (hb_ HB.out)); have GE116 := A_ (sz_ hg (hb_ HB.out)); replace HB := A_ (below_step (hb_ HB.out) hb); clear hb hbox hg) | ((with_reducible refine gate_callee (f := 52) rfl ?_); refine gl_ (some 10) Try.func52 #[.int .i64 a0] ?_; (with_reducible refine (shape_of.calls a0 t117 t118 true _ A3.out).mono ?_); rintro e w8 ⟨rfl, hb⟩; refine ⟨_, rfl, ?_⟩; replace BK116 := A_ (bb_ BK116.out hb); replace HB := A_ (below_step (hb1_ HB.out GE116.out) hb); (try clear hb); (try clear hb2); (try clear hk); (try clear hi)) | ((with_reducible refine gate_dst (N := 5) rfl ?_); refine be_ 5 #[.int .i64 0, .int .i64 0] 73 ?_; intro gb120 hg w9 hbox hb; have BK120 := A_ (hbox); have GW120 := A_ (sz_ hg (hb1_ HB.out GE116.out)); have GE120 := A_ (sz_ hg (hb1_ HB.out GE116.out)); have NB116_120 := A_ (nl_ hg BK116.out); have NB120_116 := A_ (ng_ hg BK116.out); replace BK116 := A_ (bb_ BK116.out hb); replace HB := A_ (below_step (hb1_ HB.out GE116.out) hb); clear hb hbox hg; have hnb10 := NB120_116.out; have hnc10 := NB116_120.out; have hcz11_0 := bv_ BK120.out 0; have hcz11_1 := bv_ BK120.out 1; have hfz11_0 := blk_frozen BK120.out 0; have hfz11_1 := blk_frozen BK120.out 1) | ((with_reducible refine gate_callee (f := 55) rfl ?_); refine gl_ (some 18) Try.func55 #[.agg #[.int .i64 t117, .int .i64 t118], .int .u64 a1] ?_; (with_reducible refine (shape_format_split.calls t117 t118 a1 t121 t122 t123 t124 t125 _ A5.out).mono ?_); rintro e w12 ⟨rfl, hb⟩; refine ⟨_, rfl, ?_⟩; replace BK116 := A_ (blk_below (g := gb116) (o := .cells #[.bool false, .int .i64 0, .int .i64 0, .int .u64 0] 30 (0, 0)) (bf2_ BK116.out NB116_120.out NB116_120.out) hb); replace BK120 := A_ (blk_below (g := gb120) (o := .cells #[.int .i64 t117, .int .i64 t118] 73 (0, 0)) (by (with_reducible repeat (first | refine blk_drewN ?_ _ | refine blk_drew ?_ | refine blk_alloc ?_ _)); refine blk_put (cs := #[.int .i64 t117, .int .i64 0]) ?_ 1 _ rfl; (with_reducible repeat (first | refine blk_drewN ?_ _ | refine blk_drew ?_ | refine blk_alloc ?_ _)); refine blk_put (cs := #[.int .i64 0, .int .i64 0]) ?_ 0 _ rfl; (with_reducible repeat (first | refine blk_drewN ?_ _ | refine blk_drew ?_ | refine blk_alloc ?_ _)); exact BK120.out) hb); replace HB := A_ (below_step (hb2_ HB.out GE116.out GE120.out) hb); (try clear hb); (try clear hb2); (try clear hk); (try clear hi)) | ((with_reducible refine gate_dst (N := 7) rfl ?_); refine be_ 7 #[.int .i64 0, .int .i64 0, .bool false, .int .u64 0, .int .u64 0] 79 ?_; intro gb126 hg w13 hbox hb; have BK126 := A_ (hbox); have GW126 := A_ (sz_ hg (hb2_ HB.out GE116.out GE120.out)); have GE126 := A_ (sz_ hg (hb2_ HB.out GE116.out GE120.out)); have NB116_126 := A_ (nl_ hg BK116.out); have NB126_116 := A_ (ng_ hg BK116.out); have NB120_126 := A_ (nl_ hg BK120.out); have NB126_120 := A_ (ng_ hg BK120.out); replace BK116 := A_ (bb_ BK116.out hb); replace BK120 := A_ (bb_ BK120.out hb); replace HB := A_ (below_step (hb2_ HB.out GE116.out GE120.out) hb); clear hb hbox hg; have hnb14 := NB126_116.out; have hnc14 := NB116_126.out; have hnb15 := NB126_120.out; have hnc15 := NB120_126.out; have hcz16_0 := bv_ BK126.out 0; have hcz16_1 := bv_ BK126.out 1; have hcz16_2 := bv_ BK126.out 2; have hcz16_3 := bv_ BK126.out 3; have hcz16_4 := bv_ BK126.out 4; have hfz16_0 := blk_frozen BK126.out 0; have hfz16_1 := blk_frozen BK126.out 1; have hfz16_2 := blk_frozen BK126.out 2; have hfz16_3 := blk_frozen BK126.out 3; have hfz16_4 := blk_frozen BK126.out 4))
  (try simp only [Act.put, lI_, l0_, lS_])
  go_cut [19] (fun v19 wc => ∃ (kq : Nat) (x19_5 : Bool), v19 = .bool x19_5 ∧ Aside0 (shape_Open.j0 kq x19_5 t121 t122 t123 t124 t125 = some (r1, r2, r3, r4)) ∧ Aside0 (kq ≤ k) ∧ Aside0 (wc.heap[gb116]? = some (.cells #[.bool false, .int .i64 0, .int .i64 0, .int .u64 0] 30 (0, 0))) ∧ Aside0 (wc.heap[gb120]? = some (.cells #[.int .i64 t117, .int .i64 t118] 73 (0, 0))) ∧ Aside0 (wc.heap[gb126]? = some (.cells #[.int .i64 t121, .int .i64 t122, .bool t123, .int .u64 t124, .int .u64 t125] 79 (0, 0))) ∧ Aside0 (Below w.heap.size w wc))
  case first =>
   have H := HC6.out
   clear HC6
   replace H := ob_ H
   obtain ⟨t127, A170, H⟩ := H
   replace H : (if t124 = t127 then (shape_Open.j0 k (t125 != 0) t121 t122 t123 t124 t125) else (shape_Open.j0 k false t121 t122 t123 t124 t125)) = some (r1, r2, r3, r4) := H
   have A17 := A_ A170;clear A170
   by_cases c18 : t124 = t127
   ·rw [if_pos c18] at H
    have c18b0 : (t124 == t127) = true := beq_iff_eq.mpr c18
    have c18b1 : (t124 != t127) = false := bne_eq_false_iff_eq.mpr c18
    clear c18
    (first | rw [c18b0] | (simp only [i64_w, i32_w]; rw [c18b0]) | skip)
    have H' := A_ H
    clear H
    try go_wp2
    have n0_ : Aside0 ((((((w13.setCell ⟨gb126, 0, none⟩ (.int .i64 t121)).setCell ⟨gb126, 1, none⟩ (.int .i64 t122)).setCell ⟨gb126, 2, none⟩ (.bool t123)).setCell ⟨gb126, 3, none⟩ (.int .u64 t124)).setCell ⟨gb126, 4, none⟩ (.int .u64 t125)).heap[gb116]? = some (.cells #[.bool false, .int .i64 0, .int .i64 0, .int .u64 0] 30 (0, 0))) := ⟨bf5_ BK116.out NB116_126.out NB116_126.out NB116_126.out NB116_126.out NB116_126.out⟩
    have n1_ : Aside0 ((((((w13.setCell ⟨gb126, 0, none⟩ (.int .i64 t121)).setCell ⟨gb126, 1, none⟩ (.int .i64 t122)).setCell ⟨gb126, 2, none⟩ (.bool t123)).setCell ⟨gb126, 3, none⟩ (.int .u64 t124)).setCell ⟨gb126, 4, none⟩ (.int .u64 t125)).heap[gb120]? = some (.cells #[.int .i64 t117, .int .i64 t118] 73 (0, 0))) := ⟨bf5_ BK120.out NB120_126.out NB120_126.out NB120_126.out NB120_126.out NB120_126.out⟩
    have n2_ : Aside0 ((((((w13.setCell ⟨gb126, 0, none⟩ (.int .i64 t121)).setCell ⟨gb126, 1, none⟩ (.int .i64 t122)).setCell ⟨gb126, 2, none⟩ (.bool t123)).setCell ⟨gb126, 3, none⟩ (.int .u64 t124)).setCell ⟨gb126, 4, none⟩ (.int .u64 t125)).heap[gb126]? = some (.cells #[.int .i64 t121, .int .i64 t122, .bool t123, .int .u64 t124, .int .u64 t125] 79 (0, 0))) := ⟨by (with_reducible repeat (first | refine blk_drewN ?_ _ | refine blk_drew ?_ | refine blk_alloc ?_ _)); refine blk_put (cs := #[.int .i64 t121, .int .i64 t122, .bool t123, .int .u64 t124, .int .u64 0]) ?_ 4 _ rfl; (with_reducible repeat (first | refine blk_drewN ?_ _ | refine blk_drew ?_ | refine blk_alloc ?_ _)); refine blk_put (cs := #[.int .i64 t121, .int .i64 t122, .bool t123, .int .u64 0, .int .u64 0]) ?_ 3 _ rfl; (with_reducible repeat (first | refine blk_drewN ?_ _ | refine blk_drew ?_ | refine blk_alloc ?_ _)); refine blk_put (cs := #[.int .i64 t121, .int .i64 t122, .bool false, .int .u64 0, .int .u64 0]) ?_ 2 _ rfl; (with_reducible repeat (first | refine blk_drewN ?_ _ | refine blk_drew ?_ | refine blk_alloc ?_ _)); refine blk_put (cs := #[.int .i64 t121, .int .i64 0, .bool false, .int .u64 0, .int .u64 0]) ?_ 1 _ rfl; (with_reducible repeat (first | refine blk_drewN ?_ _ | refine blk_drew ?_ | refine blk_alloc ?_ _)); refine blk_put (cs := #[.int .i64 0, .int .i64 0, .bool false, .int .u64 0, .int .u64 0]) ?_ 0 _ rfl; (with_reducible repeat (first | refine blk_drewN ?_ _ | refine blk_drew ?_ | refine blk_alloc ?_ _)); exact BK126.out⟩
    have n3_ : Aside0 (Below w.heap.size w (((((w13.setCell ⟨gb126, 0, none⟩ (.int .i64 t121)).setCell ⟨gb126, 1, none⟩ (.int .i64 t122)).setCell ⟨gb126, 2, none⟩ (.bool t123)).setCell ⟨gb126, 3, none⟩ (.int .u64 t124)).setCell ⟨gb126, 4, none⟩ (.int .u64 t125))) := ⟨hb3_ HB.out GE116.out GE120.out GE126.out⟩
    (try clear BK116);(try clear BK120);(try clear BK126);(try clear HB)
    generalize (((((w13.setCell ⟨gb126, 0, none⟩ (.int .i64 t121)).setCell ⟨gb126, 1, none⟩ (.int .i64 t122)).setCell ⟨gb126, 2, none⟩ (.bool t123)).setCell ⟨gb126, 3, none⟩ (.int .u64 t124)).setCell ⟨gb126, 4, none⟩ (.int .u64 t125)) = w19 at n0_ n1_ n2_ n3_ ⊢
    have BK116 := n0_;have BK120 := n1_;have BK126 := n2_;have HB := n3_;clear n0_ n1_ n2_ n3_
    replace BK116 := A_ (blk_drew BK116.out)
    replace BK120 := A_ (blk_drew BK120.out)
    replace BK126 := A_ (blk_drew BK126.out)
    replace HB := A_ (below_drew1 HB.out)
    refine start_ (n := 12) (S := fun w' => w'.cell? ⟨gb126, 0, none⟩ = some (.int .i64 t121) ∧ w'.cell? ⟨gb126, 1, none⟩ = some (.int .i64 t122) ∧ w'.cell? ⟨gb126, 2, none⟩ = some (.bool t123) ∧ w'.cell? ⟨gb126, 3, none⟩ = some (.int .u64 t124) ∧ w'.cell? ⟨gb126, 4, none⟩ = some (.int .u64 t125)) (ds := []) #[false, false, false, false, false, false, false, false, false, false, false, false] (by kernel_rfl) rfl rfl ⟨bc_ BK126.out 0, bc_ BK126.out 1, bc_ BK126.out 2, bc_ BK126.out 3, bc_ BK126.out 4⟩ (fun hHeld => ?_); refine with_tabW shape_Open.tab5 shape_Open.bits5 (fun HT_ HW_ => ?_)
    generalize w19.drew = w20 at BK116 BK120 BK126 HB hHeld ⊢
    refine pu_ 0 (some 20) #[true, false, false, false, false, false, false, false, false, false, false, false] rfl rfl (any_of HT_.out (by kernel_rfl)) ?_
    refine pu_ 2 (some 22) #[true, false, true, false, false, false, false, false, false, false, false, false] rfl rfl (any_of HT_.out (by kernel_rfl)) ?_
    refine tk5_ 1 (some 21) #[true, true, true, false, false, false, false, false, false, false, false, false] rfl rfl (take_ofW HT_.out HW_.out (by kernel_rfl)) hHeld ?_
    refine tk5_ 3 (some 23) #[true, true, true, true, false, false, false, false, false, false, false, false] rfl rfl (take_ofW HT_.out HW_.out (by kernel_rfl)) hHeld ?_
    refine one_ (i := 4) (N := some 24) #[true, true, true, true, true, false, false, false, false, false, false, false] rfl rfl (one_of HT_.out (by kernel_rfl)) (by decide) (fun K hK => ?_)
    refine goes_ Try.func54 (by kernel_rfl) rfl #[.agg #[.int .i64 t121, .int .i64 t122]] (by rfl) rfl rfl mp_ ?_
    with_reducible refine (shape_format_ones.calls t121 t122 t127 _ A17.out).mono ?_
    rintro e w21 ⟨rfl, hb⟩
    refine ⟨_, rfl, ?_⟩
    replace BK116 := A_ (bb_ BK116.out hb)
    replace BK120 := A_ (bb_ BK120.out hb)
    replace BK126 := A_ (bb_ BK126.out hb)
    replace HB := A_ (below_step (hb3_ HB.out GE116.out GE120.out GE126.out) hb);(try clear hb);(try clear hb2);(try clear hk);(try clear hi)
    refine hK.out _ _ ⟨bc_ BK126.out 0, bc_ BK126.out 1, bc_ BK126.out 2, bc_ BK126.out 3, bc_ BK126.out 4⟩ (fun hHeld => ?_)
    clear hK K
    refine norm_ (a' := ?_) ?_ ?_
    rotate_left
    ·show Act.put _ (some 24) _ = _
     simp only [Act.put, lI_, l0_, lS_, i64_w, i32_w]
     rfl
    refine pu_ 5 (some 25) #[true, true, true, true, true, true, false, false, false, false, false, false] rfl rfl (any_of HT_.out (by kernel_rfl)) ?_
    refine pu_ 6 (some 26) #[true, true, true, true, true, true, true, false, false, false, false, false] rfl rfl (any_of HT_.out (by kernel_rfl)) ?_
    refine pu_ 7 (some 27) #[true, true, true, true, true, true, true, true, false, false, false, false] rfl rfl (any_of HT_.out (by kernel_rfl)) ?_
    refine tk5_ 8 (some 28) #[true, true, true, true, true, true, true, true, true, false, false, false] rfl rfl (take_ofW HT_.out HW_.out (by kernel_rfl)) hHeld ?_
    refine pu_ 9 (some 29) #[true, true, true, true, true, true, true, true, true, true, false, false] rfl rfl (any_of HT_.out (by kernel_rfl)) ?_
    refine pu_ 10 (some 30) #[true, true, true, true, true, true, true, true, true, true, true, false] rfl rfl (any_of HT_.out (by kernel_rfl)) ?_
    refine pu_ 11 (some 19) #[true, true, true, true, true, true, true, true, true, true, true, true] rfl rfl (any_of HT_.out (by kernel_rfl)) ?_
    refine done_ (done_of HT_.out (by kernel_rfl)) ?_
    try go_wp2
    go_meet
    case rel => exact ⟨_, ((t125 != 0)), sm_, H', ⟨by first | omega | exact Nat.le_refl _⟩, ⟨bk_ BK116.out⟩, ⟨bk_ BK120.out⟩, ⟨bk_ BK126.out⟩, ⟨hb3_ HB.out GE116.out GE120.out GE126.out⟩⟩
   ·rw [if_neg c18] at H
    have c18b0 : (t124 == t127) = false := beq_eq_false_iff_ne.mpr c18
    have c18b1 : (t124 != t127) = true := bne_iff_ne.mpr c18
    (first | rw [c18b0] | (simp only [i64_w, i32_w]; rw [c18b0]) | skip)
    have H' := A_ H
    clear H
    try go_wp2
    have n0_ : Aside0 ((((((w13.setCell ⟨gb126, 0, none⟩ (.int .i64 t121)).setCell ⟨gb126, 1, none⟩ (.int .i64 t122)).setCell ⟨gb126, 2, none⟩ (.bool t123)).setCell ⟨gb126, 3, none⟩ (.int .u64 t124)).setCell ⟨gb126, 4, none⟩ (.int .u64 t125)).heap[gb116]? = some (.cells #[.bool false, .int .i64 0, .int .i64 0, .int .u64 0] 30 (0, 0))) := ⟨bf5_ BK116.out NB116_126.out NB116_126.out NB116_126.out NB116_126.out NB116_126.out⟩
    have n1_ : Aside0 ((((((w13.setCell ⟨gb126, 0, none⟩ (.int .i64 t121)).setCell ⟨gb126, 1, none⟩ (.int .i64 t122)).setCell ⟨gb126, 2, none⟩ (.bool t123)).setCell ⟨gb126, 3, none⟩ (.int .u64 t124)).setCell ⟨gb126, 4, none⟩ (.int .u64 t125)).heap[gb120]? = some (.cells #[.int .i64 t117, .int .i64 t118] 73 (0, 0))) := ⟨bf5_ BK120.out NB120_126.out NB120_126.out NB120_126.out NB120_126.out NB120_126.out⟩
    have n2_ : Aside0 ((((((w13.setCell ⟨gb126, 0, none⟩ (.int .i64 t121)).setCell ⟨gb126, 1, none⟩ (.int .i64 t122)).setCell ⟨gb126, 2, none⟩ (.bool t123)).setCell ⟨gb126, 3, none⟩ (.int .u64 t124)).setCell ⟨gb126, 4, none⟩ (.int .u64 t125)).heap[gb126]? = some (.cells #[.int .i64 t121, .int .i64 t122, .bool t123, .int .u64 t124, .int .u64 t125] 79 (0, 0))) := ⟨by (with_reducible repeat (first | refine blk_drewN ?_ _ | refine blk_drew ?_ | refine blk_alloc ?_ _)); refine blk_put (cs := #[.int .i64 t121, .int .i64 t122, .bool t123, .int .u64 t124, .int .u64 0]) ?_ 4 _ rfl; (with_reducible repeat (first | refine blk_drewN ?_ _ | refine blk_drew ?_ | refine blk_alloc ?_ _)); refine blk_put (cs := #[.int .i64 t121, .int .i64 t122, .bool t123, .int .u64 0, .int .u64 0]) ?_ 3 _ rfl; (with_reducible repeat (first | refine blk_drewN ?_ _ | refine blk_drew ?_ | refine blk_alloc ?_ _)); refine blk_put (cs := #[.int .i64 t121, .int .i64 t122, .bool false, .int .u64 0, .int .u64 0]) ?_ 2 _ rfl; (with_reducible repeat (first | refine blk_drewN ?_ _ | refine blk_drew ?_ | refine blk_alloc ?_ _)); refine blk_put (cs := #[.int .i64 t121, .int .i64 0, .bool false, .int .u64 0, .int .u64 0]) ?_ 1 _ rfl; (with_reducible repeat (first | refine blk_drewN ?_ _ | refine blk_drew ?_ | refine blk_alloc ?_ _)); refine blk_put (cs := #[.int .i64 0, .int .i64 0, .bool false, .int .u64 0, .int .u64 0]) ?_ 0 _ rfl; (with_reducible repeat (first | refine blk_drewN ?_ _ | refine blk_drew ?_ | refine blk_alloc ?_ _)); exact BK126.out⟩
    have n3_ : Aside0 (Below w.heap.size w (((((w13.setCell ⟨gb126, 0, none⟩ (.int .i64 t121)).setCell ⟨gb126, 1, none⟩ (.int .i64 t122)).setCell ⟨gb126, 2, none⟩ (.bool t123)).setCell ⟨gb126, 3, none⟩ (.int .u64 t124)).setCell ⟨gb126, 4, none⟩ (.int .u64 t125))) := ⟨hb3_ HB.out GE116.out GE120.out GE126.out⟩
    (try clear BK116);(try clear BK120);(try clear BK126);(try clear HB)
    generalize (((((w13.setCell ⟨gb126, 0, none⟩ (.int .i64 t121)).setCell ⟨gb126, 1, none⟩ (.int .i64 t122)).setCell ⟨gb126, 2, none⟩ (.bool t123)).setCell ⟨gb126, 3, none⟩ (.int .u64 t124)).setCell ⟨gb126, 4, none⟩ (.int .u64 t125)) = w22 at n0_ n1_ n2_ n3_ ⊢
    have BK116 := n0_;have BK120 := n1_;have BK126 := n2_;have HB := n3_;clear n0_ n1_ n2_ n3_
    replace BK116 := A_ (blk_drew BK116.out)
    replace BK120 := A_ (blk_drew BK120.out)
    replace BK126 := A_ (blk_drew BK126.out)
    replace HB := A_ (below_drew1 HB.out)
    refine start_ (n := 12) (S := fun w' => w'.cell? ⟨gb126, 0, none⟩ = some (.int .i64 t121) ∧ w'.cell? ⟨gb126, 1, none⟩ = some (.int .i64 t122) ∧ w'.cell? ⟨gb126, 2, none⟩ = some (.bool t123) ∧ w'.cell? ⟨gb126, 3, none⟩ = some (.int .u64 t124) ∧ w'.cell? ⟨gb126, 4, none⟩ = some (.int .u64 t125)) (ds := []) #[false, false, false, false, false, false, false, false, false, false, false, false] (by kernel_rfl) rfl rfl ⟨bc_ BK126.out 0, bc_ BK126.out 1, bc_ BK126.out 2, bc_ BK126.out 3, bc_ BK126.out 4⟩ (fun hHeld => ?_); refine with_tabW shape_Open.tab5 shape_Open.bits5 (fun HT_ HW_ => ?_)
    generalize w22.drew = w23 at BK116 BK120 BK126 HB hHeld ⊢
    refine pu_ 0 (some 20) #[true, false, false, false, false, false, false, false, false, false, false, false] rfl rfl (any_of HT_.out (by kernel_rfl)) ?_
    refine pu_ 2 (some 22) #[true, false, true, false, false, false, false, false, false, false, false, false] rfl rfl (any_of HT_.out (by kernel_rfl)) ?_
    refine tk5_ 1 (some 21) #[true, true, true, false, false, false, false, false, false, false, false, false] rfl rfl (take_ofW HT_.out HW_.out (by kernel_rfl)) hHeld ?_
    refine tk5_ 3 (some 23) #[true, true, true, true, false, false, false, false, false, false, false, false] rfl rfl (take_ofW HT_.out HW_.out (by kernel_rfl)) hHeld ?_
    refine one_ (i := 4) (N := some 24) #[true, true, true, true, true, false, false, false, false, false, false, false] rfl rfl (one_of HT_.out (by kernel_rfl)) (by decide) (fun K hK => ?_)
    refine goes_ Try.func54 (by kernel_rfl) rfl #[.agg #[.int .i64 t121, .int .i64 t122]] (by rfl) rfl rfl mp_ ?_
    with_reducible refine (shape_format_ones.calls t121 t122 t127 _ A17.out).mono ?_
    rintro e w24 ⟨rfl, hb⟩
    refine ⟨_, rfl, ?_⟩
    replace BK116 := A_ (bb_ BK116.out hb)
    replace BK120 := A_ (bb_ BK120.out hb)
    replace BK126 := A_ (bb_ BK126.out hb)
    replace HB := A_ (below_step (hb3_ HB.out GE116.out GE120.out GE126.out) hb);(try clear hb);(try clear hb2);(try clear hk);(try clear hi)
    refine hK.out _ _ ⟨bc_ BK126.out 0, bc_ BK126.out 1, bc_ BK126.out 2, bc_ BK126.out 3, bc_ BK126.out 4⟩ (fun hHeld => ?_)
    clear hK K
    refine norm_ (a' := ?_) ?_ ?_
    rotate_left
    ·show Act.put _ (some 24) _ = _
     simp only [Act.put, lI_, l0_, lS_, i64_w, i32_w]
     rfl
    refine pu_ 5 (some 25) #[true, true, true, true, true, true, false, false, false, false, false, false] rfl rfl (any_of HT_.out (by kernel_rfl)) ?_
    refine pu_ 6 (some 26) #[true, true, true, true, true, true, true, false, false, false, false, false] rfl rfl (any_of HT_.out (by kernel_rfl)) ?_
    refine pure_ (i := 7) (N := some 27) (v := undef) (a' := ?_) #[true, true, true, true, true, true, true, true, false, false, false, false] rfl rfl (any_of HT_.out (by kernel_rfl)) (fun _ _ _ h => h) (Or.inr ⟨by rfl, rfl⟩) ?_ ?_
    rotate_left
    ·simp only [Act.put, lI_, l0_, lS_, i64_w, i32_w]
     rfl
    refine pure_ (i := 8) (N := some 28) (v := undef) (a' := ?_) #[true, true, true, true, true, true, true, true, true, false, false, false] rfl rfl (any_of HT_.out (by kernel_rfl)) (fun _ _ _ h => h) (Or.inr ⟨by rfl, rfl⟩) ?_ ?_
    rotate_left
    ·simp only [Act.put, lI_, l0_, lS_, i64_w, i32_w]
     rfl
    refine pure_ (i := 9) (N := some 29) (v := undef) (a' := ?_) #[true, true, true, true, true, true, true, true, true, true, false, false] rfl rfl (any_of HT_.out (by kernel_rfl)) (fun _ _ _ h => h) (Or.inr ⟨by rfl, rfl⟩) ?_ ?_
    rotate_left
    ·simp only [Act.put, lI_, l0_, lS_, i64_w, i32_w]
     rfl
    refine pu_ 10 (some 30) #[true, true, true, true, true, true, true, true, true, true, true, false] rfl rfl (any_of HT_.out (by kernel_rfl)) ?_
    refine pu_ 11 (some 19) #[true, true, true, true, true, true, true, true, true, true, true, true] rfl rfl (any_of HT_.out (by kernel_rfl)) ?_
    refine done_ (done_of HT_.out (by kernel_rfl)) ?_
    try go_wp2
    go_meet
    case rel => exact ⟨_, (false), sm_, H', ⟨by first | omega | exact Nat.le_refl _⟩, ⟨bk_ BK116.out⟩, ⟨bk_ BK120.out⟩, ⟨bk_ BK126.out⟩, ⟨hb3_ HB.out GE116.out GE120.out GE126.out⟩⟩
  case rest =>
   clear HC6
   try clear c1
   try clear p2
   try clear c4
   try clear c5
   try clear c10
   try clear c14
   try clear c15
   try clear c18
   try clear c18b0
   try clear c18b1
   try clear hcz11_0
   try clear hcz11_1
   try clear hcz16_0
   try clear hcz16_1
   try clear hcz16_2
   try clear hcz16_3
   try clear hcz16_4
   try clear hfz11_0
   try clear hfz11_1
   try clear hfz16_0
   try clear hfz16_1
   try clear hfz16_2
   try clear hfz16_3
   try clear hfz16_4
   obtain ⟨kq, x19_5, rfl, HA, HJ5, BK116, BK120, BK126, HB⟩ := hcut
   cases kq with
   | zero => exact absurd HA.out (by simp [shape_Open.j0])
   | succ kj5 =>
    have H := HA.out
    clear HA
    simp only [shape_Open.j0] at H
    by_cases c25 : x19_5 = true
    ·subst c25
     have H1 : (some (false, 3, 0, 0)) = some (r1, r2, r3, r4) := by rw [if_pos rfl] at H; exact H
     clear H;have H := H1;clear H1
     simp only [Option.some.injEq, Prod.mk.injEq] at H
     obtain ⟨rfl, rfl, rfl, rfl⟩ := H
     have hnb26 := NB116_120.out
     have hnc26 := NB120_116.out
     have hnb27 := NB116_126.out
     have hnc27 := NB126_116.out
     have hcz28_0 := bv_ BK116.out 0
     have hcz28_1 := bv_ BK116.out 1
     have hcz28_2 := bv_ BK116.out 2
     have hcz28_3 := bv_ BK116.out 3
     have hfz28_0 := blk_frozen BK116.out 0
     have hfz28_1 := blk_frozen BK116.out 1
     have hfz28_2 := blk_frozen BK116.out 2
     have hfz28_3 := blk_frozen BK116.out 3
     go_wp2
     refine bodyPost_ret (results_cell_row rfl _ _ gb116 30 #[.bool false, .int .i64 3, .int .i64 0, .int .u64 0] (0, 0) _ rfl (by (with_reducible repeat (first | refine blk_drewN ?_ _ | refine blk_drew ?_ | refine blk_alloc ?_ _)); refine blk_put (cs := #[.bool false, .int .i64 3, .int .i64 0, .int .u64 0]) ?_ 3 _ rfl; (with_reducible repeat (first | refine blk_drewN ?_ _ | refine blk_drew ?_ | refine blk_alloc ?_ _)); refine blk_put (cs := #[.bool false, .int .i64 3, .int .i64 0, .int .u64 0]) ?_ 2 _ rfl; (with_reducible repeat (first | refine blk_drewN ?_ _ | refine blk_drew ?_ | refine blk_alloc ?_ _)); refine blk_put (cs := #[.bool false, .int .i64 0, .int .i64 0, .int .u64 0]) ?_ 1 _ rfl; (with_reducible repeat (first | refine blk_drewN ?_ _ | refine blk_drew ?_ | refine blk_alloc ?_ _)); refine blk_put (cs := #[.bool false, .int .i64 0, .int .i64 0, .int .u64 0]) ?_ 0 _ rfl; (with_reducible repeat (first | refine blk_drewN ?_ _ | refine blk_drew ?_ | refine blk_alloc ?_ _)); exact BK116.out) Try.underlying30 rfl (by kernel_rfl)) rfl ?_
     exact ⟨er_, hb3_ HB.out GE116.out GE120.out GE126.out⟩
    ·replace c25 := Bool.eq_false_iff.mpr c25
     subst c25
     have H1 : ((shape_format_ones.f t121 t122).bind fun t128 => (if t124 = t128 then (some (t123, 2, 0, 0)) else (if t124 = 0 then (shape_Open.j1 kj5 (t125 == 0) t121 t122 t123 t124 t125) else (shape_Open.j1 kj5 false t121 t122 t123 t124 t125)))) = some (r1, r2, r3, r4) := by rw [if_neg (show ¬ (false = true) by decide)] at H; exact H
     clear H;have H := H1;clear H1
     replace H := ob_ H
     obtain ⟨t128, A290, H⟩ := H
     replace H : (if t124 = t128 then (some (t123, 2, 0, 0)) else (if t124 = 0 then (shape_Open.j1 kj5 (t125 == 0) t121 t122 t123 t124 t125) else (shape_Open.j1 kj5 false t121 t122 t123 t124 t125))) = some (r1, r2, r3, r4) := H
     have A29 := A_ A290;clear A290
     by_cases c30 : t124 = t128
     ·rw [if_pos c30] at H
      have c30b0 : (t124 == t128) = true := beq_iff_eq.mpr c30
      have c30b1 : (t124 != t128) = false := bne_eq_false_iff_eq.mpr c30
      clear c30
      simp only [Option.some.injEq, Prod.mk.injEq] at H
      obtain ⟨rfl, rfl, rfl, rfl⟩ := H
      try go_wp2
      replace BK116 := A_ (blk_drew BK116.out)
      replace BK120 := A_ (blk_drew BK120.out)
      replace BK126 := A_ (blk_drew BK126.out)
      replace HB := A_ (below_drew1 HB.out)
      refine start_ (n := 7) (S := fun w' => w'.cell? ⟨gb126, 0, none⟩ = some (.int .i64 t121) ∧ w'.cell? ⟨gb126, 1, none⟩ = some (.int .i64 t122) ∧ w'.cell? ⟨gb126, 2, none⟩ = some (.bool t123) ∧ w'.cell? ⟨gb126, 3, none⟩ = some (.int .u64 t124) ∧ w'.cell? ⟨gb126, 4, none⟩ = some (.int .u64 t125)) (ds := []) #[false, false, false, false, false, false, false] (by kernel_rfl) rfl rfl ⟨bc_ BK126.out 0, bc_ BK126.out 1, bc_ BK126.out 2, bc_ BK126.out 3, bc_ BK126.out 4⟩ (fun hHeld => ?_)
      generalize wc.drew = w31 at BK116 BK120 BK126 HB hHeld ⊢
      refine pu_ 0 (some 33) #[true, false, false, false, false, false, false] rfl rfl (by kernel_rfl) ?_
      refine pu_ 2 (some 35) #[true, false, true, false, false, false, false] rfl rfl (by kernel_rfl) ?_
      refine tk5_ 1 (some 34) #[true, true, true, false, false, false, false] rfl rfl (by kernel_rfl) hHeld ?_
      refine tk5_ 3 (some 36) #[true, true, true, true, false, false, false] rfl rfl (by kernel_rfl) hHeld ?_
      refine one_ (i := 4) (N := some 37) #[true, true, true, true, true, false, false] rfl rfl (by kernel_rfl) (by decide) (fun K hK => ?_)
      refine goes_ Try.func54 (by kernel_rfl) rfl #[.agg #[.int .i64 t121, .int .i64 t122]] (by rfl) rfl rfl mp_ ?_
      with_reducible refine (shape_format_ones.calls t121 t122 t128 _ A29.out).mono ?_
      rintro e w32 ⟨rfl, hb⟩
      refine ⟨_, rfl, ?_⟩
      replace BK116 := A_ (bb_ BK116.out hb)
      replace BK120 := A_ (bb_ BK120.out hb)
      replace BK126 := A_ (bb_ BK126.out hb)
      replace HB := A_ (below_step (hb3_ HB.out GE116.out GE120.out GE126.out) hb);(try clear hb);(try clear hb2);(try clear hk);(try clear hi)
      refine hK.out _ _ ⟨bc_ BK126.out 0, bc_ BK126.out 1, bc_ BK126.out 2, bc_ BK126.out 3, bc_ BK126.out 4⟩ (fun hHeld => ?_)
      clear hK K
      refine norm_ (a' := ?_) ?_ ?_
      rotate_left
      ·show Act.put _ (some 37) _ = _
       simp only [Act.put, lI_, l0_, lS_, i64_w, i32_w]
       rfl
      refine pu_ 5 (some 38) #[true, true, true, true, true, true, false] rfl rfl (by kernel_rfl) ?_
      refine pu_ 6 (some 32) #[true, true, true, true, true, true, true] rfl rfl (by kernel_rfl) ?_
      refine done_ (by kernel_rfl) ?_
      have hnb33 := NB126_116.out
      have hnc33 := NB116_126.out
      have hnb34 := NB126_120.out
      have hnc34 := NB120_126.out
      have hcz35_0 := bv_ BK126.out 0
      have hcz35_1 := bv_ BK126.out 1
      have hcz35_2 := bv_ BK126.out 2
      have hcz35_3 := bv_ BK126.out 3
      have hcz35_4 := bv_ BK126.out 4
      have hfz35_0 := blk_frozen BK126.out 0
      have hfz35_1 := blk_frozen BK126.out 1
      have hfz35_2 := blk_frozen BK126.out 2
      have hfz35_3 := blk_frozen BK126.out 3
      have hfz35_4 := blk_frozen BK126.out 4
      have hnb36 := NB116_120.out
      have hnc36 := NB120_116.out
      have hcz37_0 := bv_ BK116.out 0
      have hcz37_1 := bv_ BK116.out 1
      have hcz37_2 := bv_ BK116.out 2
      have hcz37_3 := bv_ BK116.out 3
      have hfz37_0 := blk_frozen BK116.out 0
      have hfz37_1 := blk_frozen BK116.out 1
      have hfz37_2 := blk_frozen BK116.out 2
      have hfz37_3 := blk_frozen BK116.out 3
      try go_wp2
      refine bodyPost_ret (results_cell_row rfl _ _ gb116 30 #[.bool t123, .int .i64 2, .int .i64 0, .int .u64 0] (0, 0) _ rfl (by (with_reducible repeat (first | refine blk_drewN ?_ _ | refine blk_drew ?_ | refine blk_alloc ?_ _)); refine blk_put (cs := #[.bool t123, .int .i64 2, .int .i64 0, .int .u64 0]) ?_ 3 _ rfl; (with_reducible repeat (first | refine blk_drewN ?_ _ | refine blk_drew ?_ | refine blk_alloc ?_ _)); refine blk_put (cs := #[.bool t123, .int .i64 2, .int .i64 0, .int .u64 0]) ?_ 2 _ rfl; (with_reducible repeat (first | refine blk_drewN ?_ _ | refine blk_drew ?_ | refine blk_alloc ?_ _)); refine blk_put (cs := #[.bool t123, .int .i64 0, .int .i64 0, .int .u64 0]) ?_ 1 _ rfl; (with_reducible repeat (first | refine blk_drewN ?_ _ | refine blk_drew ?_ | refine blk_alloc ?_ _)); refine blk_put (cs := #[.bool false, .int .i64 0, .int .i64 0, .int .u64 0]) ?_ 0 _ rfl; (with_reducible repeat (first | refine blk_drewN ?_ _ | refine blk_drew ?_ | refine blk_alloc ?_ _)); exact BK116.out) Try.underlying30 rfl (by kernel_rfl)) rfl ?_
      exact ⟨er_, hb3_ HB.out GE116.out GE120.out GE126.out⟩
     ·rw [if_neg c30] at H
      have c30b0 : (t124 == t128) = false := beq_eq_false_iff_ne.mpr c30
      have c30b1 : (t124 != t128) = true := bne_iff_ne.mpr c30
      have HC38 := A_ H;clear H
      try go_wp2
      replace BK116 := A_ (blk_drew BK116.out)
      replace BK120 := A_ (blk_drew BK120.out)
      replace BK126 := A_ (blk_drew BK126.out)
      replace HB := A_ (below_drew1 HB.out)
      refine start_ (n := 7) (S := fun w' => w'.cell? ⟨gb126, 0, none⟩ = some (.int .i64 t121) ∧ w'.cell? ⟨gb126, 1, none⟩ = some (.int .i64 t122) ∧ w'.cell? ⟨gb126, 2, none⟩ = some (.bool t123) ∧ w'.cell? ⟨gb126, 3, none⟩ = some (.int .u64 t124) ∧ w'.cell? ⟨gb126, 4, none⟩ = some (.int .u64 t125)) (ds := []) #[false, false, false, false, false, false, false] (by kernel_rfl) rfl rfl ⟨bc_ BK126.out 0, bc_ BK126.out 1, bc_ BK126.out 2, bc_ BK126.out 3, bc_ BK126.out 4⟩ (fun hHeld => ?_)
      generalize wc.drew = w39 at BK116 BK120 BK126 HB hHeld ⊢
      refine pu_ 0 (some 33) #[true, false, false, false, false, false, false] rfl rfl (by kernel_rfl) ?_
      refine pu_ 2 (some 35) #[true, false, true, false, false, false, false] rfl rfl (by kernel_rfl) ?_
      refine tk5_ 1 (some 34) #[true, true, true, false, false, false, false] rfl rfl (by kernel_rfl) hHeld ?_
      refine tk5_ 3 (some 36) #[true, true, true, true, false, false, false] rfl rfl (by kernel_rfl) hHeld ?_
      refine one_ (i := 4) (N := some 37) #[true, true, true, true, true, false, false] rfl rfl (by kernel_rfl) (by decide) (fun K hK => ?_)
      refine goes_ Try.func54 (by kernel_rfl) rfl #[.agg #[.int .i64 t121, .int .i64 t122]] (by rfl) rfl rfl mp_ ?_
      with_reducible refine (shape_format_ones.calls t121 t122 t128 _ A29.out).mono ?_
      rintro e w40 ⟨rfl, hb⟩
      refine ⟨_, rfl, ?_⟩
      replace BK116 := A_ (bb_ BK116.out hb)
      replace BK120 := A_ (bb_ BK120.out hb)
      replace BK126 := A_ (bb_ BK126.out hb)
      replace HB := A_ (below_step (hb3_ HB.out GE116.out GE120.out GE126.out) hb);(try clear hb);(try clear hb2);(try clear hk);(try clear hi)
      refine hK.out _ _ ⟨bc_ BK126.out 0, bc_ BK126.out 1, bc_ BK126.out 2, bc_ BK126.out 3, bc_ BK126.out 4⟩ (fun hHeld => ?_)
      clear hK K
      refine norm_ (a' := ?_) ?_ ?_
      rotate_left
      ·show Act.put _ (some 37) _ = _
       simp only [Act.put, lI_, l0_, lS_, i64_w, i32_w]
       rfl
      refine pu_ 5 (some 38) #[true, true, true, true, true, true, false] rfl rfl (by kernel_rfl) ?_
      refine pu_ 6 (some 32) #[true, true, true, true, true, true, true] rfl rfl (by kernel_rfl) ?_
      refine done_ (by kernel_rfl) ?_
      go_upto_region 9 with (fail)
      go_cut [42] (fun v42 wc => ∃ (kq : Nat) (x42_37 : Bool), v42 = .bool x42_37 ∧ Aside0 (shape_Open.j1 kq x42_37 t121 t122 t123 t124 t125 = some (r1, r2, r3, r4)) ∧ Aside0 (kq ≤ kj5) ∧ Aside0 (wc.heap[gb116]? = some (.cells #[.bool false, .int .i64 0, .int .i64 0, .int .u64 0] 30 (0, 0))) ∧ Aside0 (wc.heap[gb120]? = some (.cells #[.int .i64 t117, .int .i64 t118] 73 (0, 0))) ∧ Aside0 (wc.heap[gb126]? = some (.cells #[.int .i64 t121, .int .i64 t122, .bool t123, .int .u64 t124, .int .u64 t125] 79 (0, 0))) ∧ Aside0 (Below w.heap.size w wc))
      case first =>
       have H := HC38.out
       clear HC38
       by_cases c41 : t124 = 0
       ·rw [if_pos c41] at H
        have c41b0 : (t124 == 0) = true := beq_iff_eq.mpr c41
        have c41b1 : (t124 != 0) = false := bne_eq_false_iff_eq.mpr c41
        clear c41
        (first | rw [c41b0] | (simp only [i64_w, i32_w]; rw [c41b0]) | skip)
        have H' := A_ H
        clear H
        have hnb42 := NB126_116.out
        have hnc42 := NB116_126.out
        have hnb43 := NB126_120.out
        have hnc43 := NB120_126.out
        have hcz44_0 := bv_ BK126.out 0
        have hcz44_1 := bv_ BK126.out 1
        have hcz44_2 := bv_ BK126.out 2
        have hcz44_3 := bv_ BK126.out 3
        have hcz44_4 := bv_ BK126.out 4
        have hfz44_0 := blk_frozen BK126.out 0
        have hfz44_1 := blk_frozen BK126.out 1
        have hfz44_2 := blk_frozen BK126.out 2
        have hfz44_3 := blk_frozen BK126.out 3
        have hfz44_4 := blk_frozen BK126.out 4
        go_wp2
        go_meet
        case rel => exact ⟨_, ((t125 == 0)), sm_, H', ⟨by have := HJ5.out; first | omega | exact Nat.le_refl _⟩, ⟨bk_ BK116.out⟩, ⟨bk_ BK120.out⟩, ⟨bk_ BK126.out⟩, ⟨hb3_ HB.out GE116.out GE120.out GE126.out⟩⟩
       ·rw [if_neg c41] at H
        have c41b0 : (t124 == 0) = false := beq_eq_false_iff_ne.mpr c41
        have c41b1 : (t124 != 0) = true := bne_iff_ne.mpr c41
        (first | rw [c41b0] | (simp only [i64_w, i32_w]; rw [c41b0]) | skip)
        have H' := A_ H
        clear H
        have hnb45 := NB126_116.out
        have hnc45 := NB116_126.out
        have hnb46 := NB126_120.out
        have hnc46 := NB120_126.out
        have hcz47_0 := bv_ BK126.out 0
        have hcz47_1 := bv_ BK126.out 1
        have hcz47_2 := bv_ BK126.out 2
        have hcz47_3 := bv_ BK126.out 3
        have hcz47_4 := bv_ BK126.out 4
        have hfz47_0 := blk_frozen BK126.out 0
        have hfz47_1 := blk_frozen BK126.out 1
        have hfz47_2 := blk_frozen BK126.out 2
        have hfz47_3 := blk_frozen BK126.out 3
        have hfz47_4 := blk_frozen BK126.out 4
        go_wp2
        go_meet
        case rel => exact ⟨_, (false), sm_, H', ⟨by have := HJ5.out; first | omega | exact Nat.le_refl _⟩, ⟨bk_ BK116.out⟩, ⟨bk_ BK120.out⟩, ⟨bk_ BK126.out⟩, ⟨hb3_ HB.out GE116.out GE120.out GE126.out⟩⟩
      case rest =>
       clear HC38
       try clear c1
       try clear c2
       try clear p2
       try clear c3
       try clear c4
       try clear c5
       try clear c10
       try clear c14
       try clear c15
       try clear c18
       try clear c18b0
       try clear c18b1
       try clear c25
       try clear c26
       try clear c27
       try clear c30
       try clear c30b0
       try clear c30b1
       try clear c33
       try clear c34
       try clear c36
       try clear c41
       try clear c41b0
       try clear c41b1
       try clear c42
       try clear c43
       try clear c45
       try clear c46
       try clear hcz11_0
       try clear hcz11_1
       try clear hcz16_0
       try clear hcz16_1
       try clear hcz16_2
       try clear hcz16_3
       try clear hcz16_4
       try clear hcz28_0
       try clear hcz28_1
       try clear hcz28_2
       try clear hcz28_3
       try clear hcz35_0
       try clear hcz35_1
       try clear hcz35_2
       try clear hcz35_3
       try clear hcz35_4
       try clear hcz37_0
       try clear hcz37_1
       try clear hcz37_2
       try clear hcz37_3
       try clear hcz44_0
       try clear hcz44_1
       try clear hcz44_2
       try clear hcz44_3
       try clear hcz44_4
       try clear hcz47_0
       try clear hcz47_1
       try clear hcz47_2
       try clear hcz47_3
       try clear hcz47_4
       try clear hfz11_0
       try clear hfz11_1
       try clear hfz16_0
       try clear hfz16_1
       try clear hfz16_2
       try clear hfz16_3
       try clear hfz16_4
       try clear hfz28_0
       try clear hfz28_1
       try clear hfz28_2
       try clear hfz28_3
       try clear hfz35_0
       try clear hfz35_1
       try clear hfz35_2
       try clear hfz35_3
       try clear hfz35_4
       try clear hfz37_0
       try clear hfz37_1
       try clear hfz37_2
       try clear hfz37_3
       try clear hfz44_0
       try clear hfz44_1
       try clear hfz44_2
       try clear hfz44_3
       try clear hfz44_4
       try clear hfz47_0
       try clear hfz47_1
       try clear hfz47_2
       try clear hfz47_3
       try clear hfz47_4
       try clear p2
       obtain ⟨kq, x42_37, rfl, HA, HJ37, BK116, BK120, BK126, HB⟩ := hcut
       cases kq with
       | zero => exact absurd HA.out (by simp [shape_Open.j1])
       | succ kj37 =>
        have H := HA.out
        clear HA
        simp only [shape_Open.j1] at H
        by_cases c48 : x42_37 = true
        ·subst c48
         have H1 : (some (t123, 0, 0, 0)) = some (r1, r2, r3, r4) := by rw [if_pos rfl] at H; exact H
         clear H;have H := H1;clear H1
         simp only [Option.some.injEq, Prod.mk.injEq] at H
         obtain ⟨rfl, rfl, rfl, rfl⟩ := H
         have hnb49 := NB126_116.out
         have hnc49 := NB116_126.out
         have hnb50 := NB126_120.out
         have hnc50 := NB120_126.out
         have hcz51_0 := bv_ BK126.out 0
         have hcz51_1 := bv_ BK126.out 1
         have hcz51_2 := bv_ BK126.out 2
         have hcz51_3 := bv_ BK126.out 3
         have hcz51_4 := bv_ BK126.out 4
         have hfz51_0 := blk_frozen BK126.out 0
         have hfz51_1 := blk_frozen BK126.out 1
         have hfz51_2 := blk_frozen BK126.out 2
         have hfz51_3 := blk_frozen BK126.out 3
         have hfz51_4 := blk_frozen BK126.out 4
         have hnb52 := NB116_120.out
         have hnc52 := NB120_116.out
         have hcz53_0 := bv_ BK116.out 0
         have hcz53_1 := bv_ BK116.out 1
         have hcz53_2 := bv_ BK116.out 2
         have hcz53_3 := bv_ BK116.out 3
         have hfz53_0 := blk_frozen BK116.out 0
         have hfz53_1 := blk_frozen BK116.out 1
         have hfz53_2 := blk_frozen BK116.out 2
         have hfz53_3 := blk_frozen BK116.out 3
         go_wp2
         refine bodyPost_ret (results_cell_row rfl _ _ gb116 30 #[.bool t123, .int .i64 0, .int .i64 0, .int .u64 0] (0, 0) _ rfl (by (with_reducible repeat (first | refine blk_drewN ?_ _ | refine blk_drew ?_ | refine blk_alloc ?_ _)); refine blk_put (cs := #[.bool t123, .int .i64 0, .int .i64 0, .int .u64 0]) ?_ 3 _ rfl; (with_reducible repeat (first | refine blk_drewN ?_ _ | refine blk_drew ?_ | refine blk_alloc ?_ _)); refine blk_put (cs := #[.bool t123, .int .i64 0, .int .i64 0, .int .u64 0]) ?_ 2 _ rfl; (with_reducible repeat (first | refine blk_drewN ?_ _ | refine blk_drew ?_ | refine blk_alloc ?_ _)); refine blk_put (cs := #[.bool t123, .int .i64 0, .int .i64 0, .int .u64 0]) ?_ 1 _ rfl; (with_reducible repeat (first | refine blk_drewN ?_ _ | refine blk_drew ?_ | refine blk_alloc ?_ _)); refine blk_put (cs := #[.bool false, .int .i64 0, .int .i64 0, .int .u64 0]) ?_ 0 _ rfl; (with_reducible repeat (first | refine blk_drewN ?_ _ | refine blk_drew ?_ | refine blk_alloc ?_ _)); exact BK116.out) Try.underlying30 rfl (by kernel_rfl)) rfl ?_
         exact ⟨er_, hb3_ HB.out GE116.out GE120.out GE126.out⟩
        ·replace c48 := Bool.eq_false_iff.mpr c48
         subst c48
         have H1 : (if t124 = 0 then ((shape_format_low.f t121 t122).bind fun t129 => (some (t123, 1, t129, t125))) else ((shape_format_low.f t121 t122).bind fun t130 => (if 0 ≤ t122 then (some (t123, 1, wrap64 ((wrap64 (t130 + (wrap64 (t124)))) - 1), Go.bits .or .u64 (shl .u64 1 t122) t125)) else (none)))) = some (r1, r2, r3, r4) := by rw [if_neg (show ¬ (false = true) by decide)] at H; exact H
         clear H;have H := H1;clear H1
         by_cases c54 : t124 = 0
         ·rw [if_pos c54] at H
          have c54b0 : (t124 == 0) = true := beq_iff_eq.mpr c54
          have c54b1 : (t124 != 0) = false := bne_eq_false_iff_eq.mpr c54
          clear c54
          replace H := ob_ H
          obtain ⟨t129, A550, H⟩ := H
          replace H : (some (t123, 1, t129, t125)) = some (r1, r2, r3, r4) := H
          have A55 := A_ A550;clear A550
          simp only [Option.some.injEq, Prod.mk.injEq] at H
          obtain ⟨rfl, rfl, rfl, rfl⟩ := H
          have hnb56 := NB126_116.out
          have hnc56 := NB116_126.out
          have hnb57 := NB126_120.out
          have hnc57 := NB120_126.out
          have hcz58_0 := bv_ BK126.out 0
          have hcz58_1 := bv_ BK126.out 1
          have hcz58_2 := bv_ BK126.out 2
          have hcz58_3 := bv_ BK126.out 3
          have hcz58_4 := bv_ BK126.out 4
          have hfz58_0 := blk_frozen BK126.out 0
          have hfz58_1 := blk_frozen BK126.out 1
          have hfz58_2 := blk_frozen BK126.out 2
          have hfz58_3 := blk_frozen BK126.out 3
          have hfz58_4 := blk_frozen BK126.out 4
          try go_wp2
          replace BK116 := A_ (blk_drew BK116.out)
          replace BK120 := A_ (blk_drew BK120.out)
          replace BK126 := A_ (blk_drew BK126.out)
          replace HB := A_ (below_drew1 HB.out)
          refine start_ (n := 9) (S := fun w' => w'.cell? ⟨gb126, 0, none⟩ = some (.int .i64 t121) ∧ w'.cell? ⟨gb126, 1, none⟩ = some (.int .i64 t122) ∧ w'.cell? ⟨gb126, 2, none⟩ = some (.bool t123) ∧ w'.cell? ⟨gb126, 3, none⟩ = some (.int .u64 t124) ∧ w'.cell? ⟨gb126, 4, none⟩ = some (.int .u64 t125)) (ds := []) #[false, false, false, false, false, false, false, false, false] (by kernel_rfl) rfl rfl ⟨bc_ BK126.out 0, bc_ BK126.out 1, bc_ BK126.out 2, bc_ BK126.out 3, bc_ BK126.out 4⟩ (fun hHeld => ?_); refine with_tabW shape_Open.tab12 shape_Open.bits12 (fun HT_ HW_ => ?_)
          generalize wc.drew = w59 at BK116 BK120 BK126 HB hHeld ⊢
          refine pu_ 0 (some 58) #[true, false, false, false, false, false, false, false, false] rfl rfl (any_of HT_.out (by kernel_rfl)) ?_
          refine pu_ 2 (some 60) #[true, false, true, false, false, false, false, false, false] rfl rfl (any_of HT_.out (by kernel_rfl)) ?_
          refine pu_ 5 (some 63) #[true, false, true, false, false, true, false, false, false] rfl rfl (any_of HT_.out (by kernel_rfl)) ?_
          refine tk5_ 1 (some 59) #[true, true, true, false, false, true, false, false, false] rfl rfl (take_ofW HT_.out HW_.out (by kernel_rfl)) hHeld ?_
          refine tk5_ 3 (some 61) #[true, true, true, true, false, true, false, false, false] rfl rfl (take_ofW HT_.out HW_.out (by kernel_rfl)) hHeld ?_
          refine tk5_ 6 (some 64) #[true, true, true, true, false, true, true, false, false] rfl rfl (take_ofW HT_.out HW_.out (by kernel_rfl)) hHeld ?_
          refine one_ (i := 4) (N := some 62) #[true, true, true, true, true, true, true, false, false] rfl rfl (one_of HT_.out (by kernel_rfl)) (by decide) (fun K hK => ?_)
          refine goes_ Try.func56 (by kernel_rfl) rfl #[.agg #[.int .i64 t121, .int .i64 t122]] (by rfl) rfl rfl mp_ ?_
          with_reducible refine (shape_format_low.calls t121 t122 t129 _ A55.out).mono ?_
          rintro e w60 ⟨rfl, hb⟩
          refine ⟨_, rfl, ?_⟩
          replace BK116 := A_ (bb_ BK116.out hb)
          replace BK120 := A_ (bb_ BK120.out hb)
          replace BK126 := A_ (bb_ BK126.out hb)
          replace HB := A_ (below_step (hb3_ HB.out GE116.out GE120.out GE126.out) hb);(try clear hb);(try clear hb2);(try clear hk);(try clear hi)
          refine hK.out _ _ ⟨bc_ BK126.out 0, bc_ BK126.out 1, bc_ BK126.out 2, bc_ BK126.out 3, bc_ BK126.out 4⟩ (fun hHeld => ?_)
          clear hK K
          refine norm_ (a' := ?_) ?_ ?_
          rotate_left
          ·show Act.put _ (some 62) _ = _
           simp only [Act.put, lI_, l0_, lS_, i64_w, i32_w]
           rfl
          refine pu_ 7 (some 65) #[true, true, true, true, true, true, true, true, false] rfl rfl (any_of HT_.out (by kernel_rfl)) ?_
          refine one_ (i := 8) (N := none) #[true, true, true, true, true, true, true, true, true] rfl rfl (one_of HT_.out (by kernel_rfl)) (by decide) (fun K hK => ?_)
          have hs61 : w60.cell? ⟨gb116, 0, none⟩ = some (.bool false) := bc_ BK116.out 0
          have hfs61 := blk_frozen BK116.out 0
          have hns61_1 := NB120_116.out
          have hns61_2 := NB126_116.out
          have hms61_1 := NB116_120.out
          have hms61_2 := NB116_126.out
          have hs62 : w60.cell? ⟨gb116, 1, none⟩ = some (.int .i64 0) := bc_ BK116.out 1
          have hfs62 := blk_frozen BK116.out 1
          have hns62_1 := NB120_116.out
          have hns62_2 := NB126_116.out
          have hms62_1 := NB116_120.out
          have hms62_2 := NB116_126.out
          have hs63 : w60.cell? ⟨gb116, 2, none⟩ = some (.int .i64 0) := bc_ BK116.out 2
          have hfs63 := blk_frozen BK116.out 2
          have hns63_1 := NB120_116.out
          have hns63_2 := NB126_116.out
          have hms63_1 := NB116_120.out
          have hms63_2 := NB116_126.out
          have hs64 : w60.cell? ⟨gb116, 3, none⟩ = some (.int .u64 0) := bc_ BK116.out 3
          have hfs64 := blk_frozen BK116.out 3
          have hns64_1 := NB120_116.out
          have hns64_2 := NB126_116.out
          have hms64_1 := NB116_120.out
          have hms64_2 := NB116_126.out
          refine skip_ (w1 := ?_) (by rfl) rfl ?_ ?_
          rotate_left
          ·go_simp
           rfl
          refine hK.out _ _ ⟨((cell_far (p := ⟨gb116, _, none⟩) NB126_116.out _).trans (((cell_far (p := ⟨gb116, _, none⟩) NB126_116.out _).trans (((cell_far (p := ⟨gb116, _, none⟩) NB126_116.out _).trans (((cell_far (p := ⟨gb116, _, none⟩) NB126_116.out _).trans (hHeld.1)))))))), ((cell_far (p := ⟨gb116, _, none⟩) NB126_116.out _).trans (((cell_far (p := ⟨gb116, _, none⟩) NB126_116.out _).trans (((cell_far (p := ⟨gb116, _, none⟩) NB126_116.out _).trans (((cell_far (p := ⟨gb116, _, none⟩) NB126_116.out _).trans (hHeld.2.1)))))))), ((cell_far (p := ⟨gb116, _, none⟩) NB126_116.out _).trans (((cell_far (p := ⟨gb116, _, none⟩) NB126_116.out _).trans (((cell_far (p := ⟨gb116, _, none⟩) NB126_116.out _).trans (((cell_far (p := ⟨gb116, _, none⟩) NB126_116.out _).trans (hHeld.2.2.1)))))))), ((cell_far (p := ⟨gb116, _, none⟩) NB126_116.out _).trans (((cell_far (p := ⟨gb116, _, none⟩) NB126_116.out _).trans (((cell_far (p := ⟨gb116, _, none⟩) NB126_116.out _).trans (((cell_far (p := ⟨gb116, _, none⟩) NB126_116.out _).trans (hHeld.2.2.2.1)))))))), ((cell_far (p := ⟨gb116, _, none⟩) NB126_116.out _).trans (((cell_far (p := ⟨gb116, _, none⟩) NB126_116.out _).trans (((cell_far (p := ⟨gb116, _, none⟩) NB126_116.out _).trans (((cell_far (p := ⟨gb116, _, none⟩) NB126_116.out _).trans (hHeld.2.2.2.2))))))))⟩ (fun hHeld => ?_)
          clear hK K
          refine done_ (done_of HT_.out (by kernel_rfl)) ?_
          try go_wp2
          refine bodyPost_ret (results_cell_row rfl _ _ gb116 30 #[.bool t123, .int .i64 1, .int .i64 t129, .int .u64 t125] (0, 0) _ rfl (by (with_reducible repeat (first | refine blk_drewN ?_ _ | refine blk_drew ?_ | refine blk_alloc ?_ _)); refine blk_put (cs := #[.bool t123, .int .i64 1, .int .i64 t129, .int .u64 0]) ?_ 3 _ rfl; (with_reducible repeat (first | refine blk_drewN ?_ _ | refine blk_drew ?_ | refine blk_alloc ?_ _)); refine blk_put (cs := #[.bool t123, .int .i64 1, .int .i64 0, .int .u64 0]) ?_ 2 _ rfl; (with_reducible repeat (first | refine blk_drewN ?_ _ | refine blk_drew ?_ | refine blk_alloc ?_ _)); refine blk_put (cs := #[.bool t123, .int .i64 0, .int .i64 0, .int .u64 0]) ?_ 1 _ rfl; (with_reducible repeat (first | refine blk_drewN ?_ _ | refine blk_drew ?_ | refine blk_alloc ?_ _)); refine blk_put (cs := #[.bool false, .int .i64 0, .int .i64 0, .int .u64 0]) ?_ 0 _ rfl; (with_reducible repeat (first | refine blk_drewN ?_ _ | refine blk_drew ?_ | refine blk_alloc ?_ _)); exact BK116.out) Try.underlying30 rfl (by kernel_rfl)) rfl ?_
          exact ⟨er_, hb3_ HB.out GE116.out GE120.out GE126.out⟩
         ·rw [if_neg c54] at H
          have c54b0 : (t124 == 0) = false := beq_eq_false_iff_ne.mpr c54
          have c54b1 : (t124 != 0) = true := bne_iff_ne.mpr c54
          replace H := ob_ H
          obtain ⟨t130, A650, H⟩ := H
          replace H : (if 0 ≤ t122 then (some (t123, 1, wrap64 ((wrap64 (t130 + (wrap64 (t124)))) - 1), Go.bits .or .u64 (shl .u64 1 t122) t125)) else (none)) = some (r1, r2, r3, r4) := H
          have A65 := A_ A650;clear A650
          by_cases c66 : 0 ≤ t122
          ·rw [if_pos c66] at H
           have c66b0 := eq_true c66
           have c66b1 : decide (0 ≤ t122) = true := decide_eq_true c66
           clear c66
           obtain ⟨ji67, hji67⟩ : ∃ j_ : Int, (shl .u64 1 t122) = j_ := ⟨_, rfl⟩
           replace H : (some (t123, 1, wrap64 ((wrap64 (t130 + (wrap64 (t124)))) - 1), Go.bits .or .u64 (ji67) t125)) = some (r1, r2, r3, r4) := by first | (rw [hji67] at H; exact H) | (simp only [hji67] at H ⊢; exact H)
           (try rw [hji67] at A65)
           have hji67_ : (IntKind.u64.wrap (1 * 2 ^ min t122.toNat 64)) = ji67 := hji67
           have hji67z : t122 ≤ 64 → (IntKind.u64.wrap (1 * 2 ^ t122.toNat)) = ji67 := shl_small hji67
           have hji67u : (IntKind.u64.wrap (2 ^ min t122.toNat 64)) = ji67 := by have h_ := hji67_; rw [Int.one_mul] at h_; exact h_
           have hji67v : t122 ≤ 64 → (IntKind.u64.wrap (2 ^ t122.toNat)) = ji67 := fun hle_ => by have h_ := hji67z hle_; rw [Int.one_mul] at h_; exact h_
           simp only [Option.some.injEq, Prod.mk.injEq] at H
           obtain ⟨rfl, rfl, rfl, rfl⟩ := H
           have hnb68 := NB126_116.out
           have hnc68 := NB116_126.out
           have hnb69 := NB126_120.out
           have hnc69 := NB120_126.out
           have hcz70_0 := bv_ BK126.out 0
           have hcz70_1 := bv_ BK126.out 1
           have hcz70_2 := bv_ BK126.out 2
           have hcz70_3 := bv_ BK126.out 3
           have hcz70_4 := bv_ BK126.out 4
           have hfz70_0 := blk_frozen BK126.out 0
           have hfz70_1 := blk_frozen BK126.out 1
           have hfz70_2 := blk_frozen BK126.out 2
           have hfz70_3 := blk_frozen BK126.out 3
           have hfz70_4 := blk_frozen BK126.out 4
           try go_wp2
           replace BK116 := A_ (blk_drew BK116.out)
           replace BK120 := A_ (blk_drew BK120.out)
           replace BK126 := A_ (blk_drew BK126.out)
           replace HB := A_ (below_drew1 HB.out)
           refine start_ (n := 19) (S := fun w' => w'.cell? ⟨gb126, 0, none⟩ = some (.int .i64 t121) ∧ w'.cell? ⟨gb126, 1, none⟩ = some (.int .i64 t122) ∧ w'.cell? ⟨gb126, 2, none⟩ = some (.bool t123) ∧ w'.cell? ⟨gb126, 3, none⟩ = some (.int .u64 t124) ∧ w'.cell? ⟨gb126, 4, none⟩ = some (.int .u64 t125)) (ds := []) #[false, false, false, false, false, false, false, false, false, false, false, false, false, false, false, false, false, false, false] (by kernel_rfl) rfl rfl ⟨bc_ BK126.out 0, bc_ BK126.out 1, bc_ BK126.out 2, bc_ BK126.out 3, bc_ BK126.out 4⟩ (fun hHeld => ?_); refine with_tabW shape_Open.tab13 shape_Open.bits13 (fun HT_ HW_ => ?_)
           generalize wc.drew = w71 at BK116 BK120 BK126 HB hHeld ⊢
           refine pu_ 0 (some 66) #[true, false, false, false, false, false, false, false, false, false, false, false, false, false, false, false, false, false, false] rfl rfl (any_of HT_.out (by kernel_rfl)) ?_
           refine pu_ 2 (some 68) #[true, false, true, false, false, false, false, false, false, false, false, false, false, false, false, false, false, false, false] rfl rfl (any_of HT_.out (by kernel_rfl)) ?_
           refine pu_ 5 (some 71) #[true, false, true, false, false, true, false, false, false, false, false, false, false, false, false, false, false, false, false] rfl rfl (any_of HT_.out (by kernel_rfl)) ?_
           refine pu_ 10 (some 76) #[true, false, true, false, false, true, false, false, false, false, true, false, false, false, false, false, false, false, false] rfl rfl (any_of HT_.out (by kernel_rfl)) ?_
           refine pu_ 11 (some 77) #[true, false, true, false, false, true, false, false, false, false, true, true, false, false, false, false, false, false, false] rfl rfl (any_of HT_.out (by kernel_rfl)) ?_
           refine pu_ 14 (some 80) #[true, false, true, false, false, true, false, false, false, false, true, true, false, false, true, false, false, false, false] rfl rfl (any_of HT_.out (by kernel_rfl)) ?_
           refine tk5_ 1 (some 67) #[true, true, true, false, false, true, false, false, false, false, true, true, false, false, true, false, false, false, false] rfl rfl (take_ofW HT_.out HW_.out (by kernel_rfl)) hHeld ?_
           refine tk5_ 3 (some 69) #[true, true, true, true, false, true, false, false, false, false, true, true, false, false, true, false, false, false, false] rfl rfl (take_ofW HT_.out HW_.out (by kernel_rfl)) hHeld ?_
           refine tk5_ 6 (some 72) #[true, true, true, true, false, true, true, false, false, false, true, true, false, false, true, false, false, false, false] rfl rfl (take_ofW HT_.out HW_.out (by kernel_rfl)) hHeld ?_
           refine pu_ 7 (some 73) #[true, true, true, true, false, true, true, true, false, false, true, true, false, false, true, false, false, false, false] rfl rfl (any_of HT_.out (by kernel_rfl)) ?_
           refine tk5_ 12 (some 78) #[true, true, true, true, false, true, true, true, false, false, true, true, true, false, true, false, false, false, false] rfl rfl (take_ofW HT_.out HW_.out (by kernel_rfl)) hHeld ?_
           refine pu_ 13 (some 79) #[true, true, true, true, false, true, true, true, false, false, true, true, true, true, true, false, false, false, false] rfl rfl (any_of HT_.out (by kernel_rfl)) ?_
           refine tk5_ 15 (some 81) #[true, true, true, true, false, true, true, true, false, false, true, true, true, true, true, true, false, false, false] rfl rfl (take_ofW HT_.out HW_.out (by kernel_rfl)) hHeld ?_
           refine pu_ 16 (some 82) #[true, true, true, true, false, true, true, true, false, false, true, true, true, true, true, true, true, false, false] rfl rfl (any_of HT_.out (by kernel_rfl)) ?_
           refine one_ (i := 4) (N := some 70) #[true, true, true, true, true, true, true, true, false, false, true, true, true, true, true, true, true, false, false] rfl rfl (one_of HT_.out (by kernel_rfl)) (by decide) (fun K hK => ?_)
           refine goes_ Try.func56 (by kernel_rfl) rfl #[.agg #[.int .i64 t121, .int .i64 t122]] (by rfl) rfl rfl mp_ ?_
           with_reducible refine (shape_format_low.calls t121 t122 t130 _ A65.out).mono ?_
           rintro e w72 ⟨rfl, hb⟩
           refine ⟨_, rfl, ?_⟩
           replace BK116 := A_ (bb_ BK116.out hb)
           replace BK120 := A_ (bb_ BK120.out hb)
           replace BK126 := A_ (bb_ BK126.out hb)
           replace HB := A_ (below_step (hb3_ HB.out GE116.out GE120.out GE126.out) hb);(try clear hb);(try clear hb2);(try clear hk);(try clear hi)
           refine hK.out _ _ ⟨bc_ BK126.out 0, bc_ BK126.out 1, bc_ BK126.out 2, bc_ BK126.out 3, bc_ BK126.out 4⟩ (fun hHeld => ?_)
           clear hK K
           refine norm_ (a' := ?_) ?_ ?_
           rotate_left
           ·show Act.put _ (some 70) _ = _
            simp only [Act.put, lI_, l0_, lS_, i64_w, i32_w]
            rfl
           refine pu_ 8 (some 74) #[true, true, true, true, true, true, true, true, true, false, true, true, true, true, true, true, true, false, false] rfl rfl (any_of HT_.out (by kernel_rfl)) ?_
           refine pu_ 9 (some 75) #[true, true, true, true, true, true, true, true, true, true, true, true, true, true, true, true, true, false, false] rfl rfl (any_of HT_.out (by kernel_rfl)) ?_
           refine pu_ 17 (some 83) #[true, true, true, true, true, true, true, true, true, true, true, true, true, true, true, true, true, true, false] rfl rfl (any_of HT_.out (by kernel_rfl)) ?_
           refine one_ (i := 18) (N := none) #[true, true, true, true, true, true, true, true, true, true, true, true, true, true, true, true, true, true, true] rfl rfl (one_of HT_.out (by kernel_rfl)) (by decide) (fun K hK => ?_)
           have hs73 : w72.cell? ⟨gb116, 0, none⟩ = some (.bool false) := bc_ BK116.out 0
           have hfs73 := blk_frozen BK116.out 0
           have hns73_1 := NB120_116.out
           have hns73_2 := NB126_116.out
           have hms73_1 := NB116_120.out
           have hms73_2 := NB116_126.out
           have hs74 : w72.cell? ⟨gb116, 1, none⟩ = some (.int .i64 0) := bc_ BK116.out 1
           have hfs74 := blk_frozen BK116.out 1
           have hns74_1 := NB120_116.out
           have hns74_2 := NB126_116.out
           have hms74_1 := NB116_120.out
           have hms74_2 := NB116_126.out
           have hs75 : w72.cell? ⟨gb116, 2, none⟩ = some (.int .i64 0) := bc_ BK116.out 2
           have hfs75 := blk_frozen BK116.out 2
           have hns75_1 := NB120_116.out
           have hns75_2 := NB126_116.out
           have hms75_1 := NB116_120.out
           have hms75_2 := NB116_126.out
           have hs76 : w72.cell? ⟨gb116, 3, none⟩ = some (.int .u64 0) := bc_ BK116.out 3
           have hfs76 := blk_frozen BK116.out 3
           have hns76_1 := NB120_116.out
           have hns76_2 := NB126_116.out
           have hms76_1 := NB116_120.out
           have hms76_2 := NB116_126.out
           refine skip_ (w1 := ?_) (by rfl) rfl ?_ ?_
           rotate_left
           ·go_simp
            rfl
           refine hK.out _ _ ⟨((cell_far (p := ⟨gb116, _, none⟩) NB126_116.out _).trans (((cell_far (p := ⟨gb116, _, none⟩) NB126_116.out _).trans (((cell_far (p := ⟨gb116, _, none⟩) NB126_116.out _).trans (((cell_far (p := ⟨gb116, _, none⟩) NB126_116.out _).trans (hHeld.1)))))))), ((cell_far (p := ⟨gb116, _, none⟩) NB126_116.out _).trans (((cell_far (p := ⟨gb116, _, none⟩) NB126_116.out _).trans (((cell_far (p := ⟨gb116, _, none⟩) NB126_116.out _).trans (((cell_far (p := ⟨gb116, _, none⟩) NB126_116.out _).trans (hHeld.2.1)))))))), ((cell_far (p := ⟨gb116, _, none⟩) NB126_116.out _).trans (((cell_far (p := ⟨gb116, _, none⟩) NB126_116.out _).trans (((cell_far (p := ⟨gb116, _, none⟩) NB126_116.out _).trans (((cell_far (p := ⟨gb116, _, none⟩) NB126_116.out _).trans (hHeld.2.2.1)))))))), ((cell_far (p := ⟨gb116, _, none⟩) NB126_116.out _).trans (((cell_far (p := ⟨gb116, _, none⟩) NB126_116.out _).trans (((cell_far (p := ⟨gb116, _, none⟩) NB126_116.out _).trans (((cell_far (p := ⟨gb116, _, none⟩) NB126_116.out _).trans (hHeld.2.2.2.1)))))))), ((cell_far (p := ⟨gb116, _, none⟩) NB126_116.out _).trans (((cell_far (p := ⟨gb116, _, none⟩) NB126_116.out _).trans (((cell_far (p := ⟨gb116, _, none⟩) NB126_116.out _).trans (((cell_far (p := ⟨gb116, _, none⟩) NB126_116.out _).trans (hHeld.2.2.2.2))))))))⟩ (fun hHeld => ?_)
           clear hK K
           refine done_ (done_of HT_.out (by kernel_rfl)) ?_
           try go_wp2
           refine bodyPost_ret (results_cell_row rfl _ _ gb116 30 #[.bool t123, .int .i64 1, .int .i64 (wrap64 ((wrap64 (t130 + (wrap64 (t124)))) - 1)), .int .u64 (Go.bits .or .u64 (ji67) t125)] (0, 0) _ rfl (by (with_reducible repeat (first | refine blk_drewN ?_ _ | refine blk_drew ?_ | refine blk_alloc ?_ _)); refine blk_put (cs := #[.bool t123, .int .i64 1, .int .i64 (wrap64 ((wrap64 (t130 + (wrap64 (t124)))) - 1)), .int .u64 0]) ?_ 3 _ rfl; (with_reducible repeat (first | refine blk_drewN ?_ _ | refine blk_drew ?_ | refine blk_alloc ?_ _)); refine blk_put (cs := #[.bool t123, .int .i64 1, .int .i64 0, .int .u64 0]) ?_ 2 _ rfl; (with_reducible repeat (first | refine blk_drewN ?_ _ | refine blk_drew ?_ | refine blk_alloc ?_ _)); refine blk_put (cs := #[.bool t123, .int .i64 0, .int .i64 0, .int .u64 0]) ?_ 1 _ rfl; (with_reducible repeat (first | refine blk_drewN ?_ _ | refine blk_drew ?_ | refine blk_alloc ?_ _)); refine blk_put (cs := #[.bool false, .int .i64 0, .int .i64 0, .int .u64 0]) ?_ 0 _ rfl; (with_reducible repeat (first | refine blk_drewN ?_ _ | refine blk_drew ?_ | refine blk_alloc ?_ _)); exact BK116.out) Try.underlying30 rfl (by kernel_rfl)) rfl ?_
           exact ⟨by first | rfl | (simp [errW_none, errW_some] <;> rfl) | (simp only [← hji67]; first | rfl | (simp [errW_none, errW_some] <;> rfl)) | (simp [*, errW_none, errW_some] <;> rfl), hb3_ HB.out GE116.out GE120.out GE126.out⟩
          ·rw [if_neg c66] at H
           exact absurd H (by simp)
 ·replace c4 := Bool.eq_false_iff.mpr c4
  subst c4
  have H1 : (some (false, 0, 0, 0)) = some (r1, r2, r3, r4) := by rw [if_neg (show ¬ (false = true) by decide)] at H; exact H
  clear H;have H := H1;clear H1
  simp only [Option.some.injEq, Prod.mk.injEq] at H
  obtain ⟨rfl, rfl, rfl, rfl⟩ := H
  go_enter Try.func15, Try.ntmps15
  go_wp2_with (first | ((with_reducible refine gate_dst (N := 4) rfl ?_); refine be_ 4 #[.bool false, .int .i64 0, .int .i64 0, .int .u64 0] 30 ?_; intro gb116 hg w77 hbox hb; have BK116 := A_ (hbox); have GW116 := A_ (sz_ hg (hb_ HB.out)); have GE116 := A_ (sz_ hg (hb_ HB.out)); replace HB := A_ (below_step (hb_ HB.out) hb); clear hb hbox hg) | ((with_reducible refine gate_callee (f := 52) rfl ?_); refine gl_ (some 10) Try.func52 #[.int .i64 a0] ?_; (with_reducible refine (shape_of.calls a0 t117 t118 false _ A3.out).mono ?_); rintro e w78 ⟨rfl, hb⟩; refine ⟨_, rfl, ?_⟩; replace BK116 := A_ (bb_ BK116.out hb); replace HB := A_ (below_step (hb1_ HB.out GE116.out) hb); (try clear hb); (try clear hb2); (try clear hk); (try clear hi)) | ((with_reducible refine gate_dst (N := 5) rfl ?_); refine be_ 5 #[.int .i64 0, .int .i64 0] 73 ?_; intro gb120 hg w79 hbox hb; have BK120 := A_ (hbox); have GW120 := A_ (sz_ hg (hb1_ HB.out GE116.out)); have GE120 := A_ (sz_ hg (hb1_ HB.out GE116.out)); have NB116_120 := A_ (nl_ hg BK116.out); have NB120_116 := A_ (ng_ hg BK116.out); replace BK116 := A_ (bb_ BK116.out hb); replace HB := A_ (below_step (hb1_ HB.out GE116.out) hb); clear hb hbox hg; have hnb80 := NB120_116.out; have hnc80 := NB116_120.out; have hcz81_0 := bv_ BK120.out 0; have hcz81_1 := bv_ BK120.out 1; have hfz81_0 := blk_frozen BK120.out 0; have hfz81_1 := blk_frozen BK120.out 1; have hcz82_0 := bv_ BK116.out 0; have hcz82_1 := bv_ BK116.out 1; have hcz82_2 := bv_ BK116.out 2; have hcz82_3 := bv_ BK116.out 3; have hfz82_0 := blk_frozen BK116.out 0; have hfz82_1 := blk_frozen BK116.out 1; have hfz82_2 := blk_frozen BK116.out 2; have hfz82_3 := blk_frozen BK116.out 3))
  refine bodyPost_ret (results_cell_row rfl _ _ gb116 30 #[.bool false, .int .i64 0, .int .i64 0, .int .u64 0] (0, 0) _ rfl (by (with_reducible repeat (first | refine blk_drewN ?_ _ | refine blk_drew ?_ | refine blk_alloc ?_ _)); refine blk_put (cs := #[.bool false, .int .i64 0, .int .i64 0, .int .u64 0]) ?_ 3 _ rfl; (with_reducible repeat (first | refine blk_drewN ?_ _ | refine blk_drew ?_ | refine blk_alloc ?_ _)); refine blk_put (cs := #[.bool false, .int .i64 0, .int .i64 0, .int .u64 0]) ?_ 2 _ rfl; (with_reducible repeat (first | refine blk_drewN ?_ _ | refine blk_drew ?_ | refine blk_alloc ?_ _)); refine blk_put (cs := #[.bool false, .int .i64 0, .int .i64 0, .int .u64 0]) ?_ 1 _ rfl; (with_reducible repeat (first | refine blk_drewN ?_ _ | refine blk_drew ?_ | refine blk_alloc ?_ _)); refine blk_put (cs := #[.bool false, .int .i64 0, .int .i64 0, .int .u64 0]) ?_ 0 _ rfl; (with_reducible repeat (first | refine blk_drewN ?_ _ | refine blk_drew ?_ | refine blk_alloc ?_ _)); refine blk_far ?_ NB116_120.out _; (with_reducible repeat (first | refine blk_drewN ?_ _ | refine blk_drew ?_ | refine blk_alloc ?_ _)); refine blk_far ?_ NB116_120.out _; (with_reducible repeat (first | refine blk_drewN ?_ _ | refine blk_drew ?_ | refine blk_alloc ?_ _)); exact BK116.out) Try.underlying30 rfl (by kernel_rfl)) rfl ?_
  exact ⟨er_, hb2_ HB.out GE116.out GE120.out⟩
end Go.Proofs.Ytjjehbedpgdhgaa.PA
