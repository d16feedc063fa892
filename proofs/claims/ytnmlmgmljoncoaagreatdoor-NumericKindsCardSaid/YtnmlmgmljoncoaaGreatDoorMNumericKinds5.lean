/- What the Go functions that the statement NumericKinds reaches compute, and the mathematics on it, in the order in which one leans on the other; for every input. -/
import Derived.Test.YtnmlmgmljoncoaaGreatDoorVNumericKinds0
import Derived.Test.YtnmlmgmljoncoaaGreatDoorMNumericKinds0
import Derived.Test.YtnmlmgmljoncoaaGreatDoorMNumericKinds4
import Derived.Deep.RegionHeld3
import Derived.Deep.DeepCutAuto
import Derived.BigRegion
import Derived.Test.YtnmlmgmljoncoaaGreatDoorMNumericKinds3
import Derived.Test.YtnmlmgmljoncoaaGreatDoorMNumericKinds2
import Derived.Laws.BitsAllLaws
import Derived.Test.YtnmlmgmljoncoaaGreatDoorMNumericKinds1
namespace Go.Proofs.YtnmlmgmljoncoaaGreatDoor.PA
open Go.RowKit Go.Proofs.YtnmlmgmljoncoaaGreatDoorW.PrintWords Go.Proofs.YtnmlmgmljoncoaaGreatDoorW.PrintLast Go.Proofs.YtnmlmgmljoncoaaGreatDoorW.PrintMore
attribute [local go_sem] max2_int min2_int max_two min_two max_three min_three max_four min_four   -- for this text's walks alone
set_option linter.unusedVariables false
set_option linter.unusedSimpArgs false
set_option maxHeartbeats 8000000
set_option maxRecDepth 100000
def round_aim.f (a0 : Int) (a1 : Bool) (a2_0 : Int) (a2_1 : Int) (a2_2 : Int) (a2_3 : Bool) : Option (Int × Int × Int × Bool × Int × Int × Int × Int × Bool × Bool) := (shape_Fields.f a0).bind fun bt284 => (if bt284.1 = 0 then (some (0, 0, 0, false, 0, 0, 0, 0, false, false)) else (if 0 ≤ (wrap64 (bt284.1 - 1)) then (if 0 ≤ bt284.1 then (some (a2_0, a2_1, a2_2, a2_3, a0, bt284.2, wrap64 ((wrap64 (2 - (shl .i64 1 (wrap64 (bt284.1 - 1))))) - bt284.2), wrap64 ((wrap64 ((wrap64 ((wrap64 (2 - (shl .i64 1 (wrap64 (bt284.1 - 1))))) - bt284.2)) + (shl .i64 1 bt284.1))) - 3), a1, true)) else (none)) else (none)))
def round_aim.T5 : Bool × List (List Nat × List Nat) := (true, [([], []), ([], []), ([], []), ([], []), ([], []), ([], []), ([5], [5]), ([4, 6], [4, 6]), ([7], [7]), ([], []), ([0, 1, 2, 3, 8, 9], [0, 1, 2, 3, 8, 9]), ([10, 0, 1, 2, 3, 4, 5, 6, 7, 8, 9, 10], [10]), ([11, 0, 1, 2, 3, 4, 5, 6, 7, 8, 9, 10, 11], [])])
def round_aim.B5 : List Nat := [0, 0, 0, 0, 0, 0, 32, 112, 240, 0, 1023, 2047, 4095]
theorem round_aim.tab5 : rtab .any (opsOf Tryz.f239 5) = round_aim.T5 := by kernel_rfl
theorem round_aim.bits5 : waitsOk round_aim.T5.2 round_aim.B5 = true := by kernel_rfl
theorem round_aim.calls (a0 : Int) (a1 : Bool) (a2_0 : Int) (a2_1 : Int) (a2_2 : Int) (a2_3 : Bool) (r1 : Int) (r2 : Int) (r3 : Int) (r4 : Bool) (r5 : Int) (r6 : Int) (r7 : Int) (r8 : Int) (r9 : Bool) (r10 : Bool) (w : World) (h : round_aim.f a0 a1 a2_0 a2_1 a2_2 a2_3 = some (r1, r2, r3, r4, r5, r6, r7, r8, r9, r10)) :
  Calls Tryz.prog 239 #[.int .i64 a0, .bool a1, .agg #[.int .u64 a2_0, .int .u64 a2_1, .int .i64 a2_2, .bool a2_3]] w fun e w' => e = .returned (.tuple #[.agg #[.int .u64 r1, .int .u64 r2, .int .i64 r3, .bool r4, .int .i64 r5, .int .i64 r6, .int .i64 r7, .int .i64 r8, .bool r9], .bool r10]) ∧ Below w.heap.size w w' := by
 have hu191 := Tryz.underlying191
 have hu193 := Tryz.underlying193
 have HB := A_ (Below.refl w.heap.size w)
 have H : ((shape_Fields.f a0).bind fun bt284 => (if bt284.1 = 0 then (some (0, 0, 0, false, 0, 0, 0, 0, false, false)) else (if 0 ≤ (wrap64 (bt284.1 - 1)) then (if 0 ≤ bt284.1 then (some (a2_0, a2_1, a2_2, a2_3, a0, bt284.2, wrap64 ((wrap64 (2 - (shl .i64 1 (wrap64 (bt284.1 - 1))))) - bt284.2), wrap64 ((wrap64 ((wrap64 ((wrap64 (2 - (shl .i64 1 (wrap64 (bt284.1 - 1))))) - bt284.2)) + (shl .i64 1 bt284.1))) - 3), a1, true)) else (none)) else (none)))) = some (r1, r2, r3, r4, r5, r6, r7, r8, r9, r10) := h
 clear h
 replace H := ob_ H
 obtain ⟨⟨t284, t285⟩, A40, H⟩ := H
 replace H : (if t284 = 0 then (some (0, 0, 0, false, 0, 0, 0, 0, false, false)) else (if 0 ≤ (wrap64 (t284 - 1)) then (if 0 ≤ t284 then (some (a2_0, a2_1, a2_2, a2_3, a0, t285, wrap64 ((wrap64 (2 - (shl .i64 1 (wrap64 (t284 - 1))))) - t285), wrap64 ((wrap64 ((wrap64 ((wrap64 (2 - (shl .i64 1 (wrap64 (t284 - 1))))) - t285)) + (shl .i64 1 t284))) - 3), a1, true)) else (none)) else (none))) = some (r1, r2, r3, r4, r5, r6, r7, r8, r9, r10) := H
 have A4 := A_ A40;clear A40
 by_cases c5 : t284 = 0
 ·rw [if_pos c5] at H
  have c5b0 : (t284 == 0) = true := beq_iff_eq.mpr c5
  have c5b1 : (t284 != 0) = false := bne_eq_false_iff_eq.mpr c5
  clear c5
  simp only [Option.some.injEq, Prod.mk.injEq] at H
  obtain ⟨rfl, rfl, rfl, rfl, rfl, rfl, rfl, rfl, rfl, rfl⟩ := H
  go_enter Tryz.func239, Tryz.ntmps239
  go_wp2_with (first | ((with_reducible refine gate_dst (N := 5) rfl ?_); refine be_ 5 #[.int .u64 a2_0, .int .u64 a2_1, .int .i64 a2_2, .bool a2_3] 191 ?_; intro gb282 hg w6 hbox hb; have BK282 := A_ (hbox); have GW282 := A_ (sz_ hg (hb_ HB.out)); have GE282 := A_ (sz_ hg (hb_ HB.out)); replace HB := A_ (below_step (hb_ HB.out) hb); clear hb hbox hg) | ((with_reducible refine gate_dst (N := 6) rfl ?_); refine be_ 6 #[.int .u64 0, .int .u64 0, .int .i64 0, .bool false, .int .i64 0, .int .i64 0, .int .i64 0, .int .i64 0, .bool false] 193 ?_; intro gb283 hg w7 hbox hb; have BK283 := A_ (hbox); have GW283 := A_ (sz_ hg (hb1_ HB.out GE282.out)); have GE283 := A_ (sz_ hg (hb1_ HB.out GE282.out)); have NB282_283 := A_ (nl_ hg BK282.out); have NB283_282 := A_ (ng_ hg BK282.out); replace BK282 := A_ (bb_ BK282.out hb); replace HB := A_ (below_step (hb1_ HB.out GE282.out) hb); clear hb hbox hg) | ((with_reducible refine gate_callee (f := 15) rfl ?_); refine goesL_ (some 13) rfl rfl Tryz.func15 (by kernel_rfl) rfl #[.int .i64 a0] rfl mp_ ?_; (with_reducible refine (shape_Fields.calls a0 t284 t285 _ A4.out).mono ?_); rintro e w8 ⟨rfl, hb⟩; refine ⟨_, rfl, ?_⟩; replace BK282 := A_ (bb_ BK282.out hb); replace BK283 := A_ (bb_ BK283.out hb); replace HB := A_ (below_step (hb2_ HB.out GE282.out GE283.out) hb); (try clear hb); (try clear hb2); (try clear hk); (try clear hi); have hnb9 := NB283_282.out; have hnc9 := NB282_283.out; have hcz10_0 := bv_ BK283.out 0; have hcz10_1 := bv_ BK283.out 1; have hcz10_2 := bv_ BK283.out 2; have hcz10_3 := bv_ BK283.out 3; have hcz10_4 := bv_ BK283.out 4; have hcz10_5 := bv_ BK283.out 5; have hcz10_6 := bv_ BK283.out 6; have hcz10_7 := bv_ BK283.out 7; have hcz10_8 := bv_ BK283.out 8; have hfz10_0 := blk_frozen BK283.out 0; have hfz10_1 := blk_frozen BK283.out 1; have hfz10_2 := blk_frozen BK283.out 2; have hfz10_3 := blk_frozen BK283.out 3; have hfz10_4 := blk_frozen BK283.out 4; have hfz10_5 := blk_frozen BK283.out 5; have hfz10_6 := blk_frozen BK283.out 6; have hfz10_7 := blk_frozen BK283.out 7; have hfz10_8 := blk_frozen BK283.out 8))
  refine bodyPost_ret (results_ct rfl _ _ gb283 193 #[.int .u64 0, .int .u64 0, .int .i64 0, .bool false, .int .i64 0, .int .i64 0, .int .i64 0, .int .i64 0, .bool false] (0, 0) _ rfl (by (with_reducible repeat (first | refine blk_drewN ?_ _ | refine blk_drew ?_ | refine blk_alloc ?_ _)); refine blk_put (cs := #[.int .u64 0, .int .u64 0, .int .i64 0, .bool false, .int .i64 0, .int .i64 0, .int .i64 0, .int .i64 0, .bool false]) ?_ 8 _ rfl; (with_reducible repeat (first | refine blk_drewN ?_ _ | refine blk_drew ?_ | refine blk_alloc ?_ _)); refine blk_put (cs := #[.int .u64 0, .int .u64 0, .int .i64 0, .bool false, .int .i64 0, .int .i64 0, .int .i64 0, .int .i64 0, .bool false]) ?_ 7 _ rfl; (with_reducible repeat (first | refine blk_drewN ?_ _ | refine blk_drew ?_ | refine blk_alloc ?_ _)); refine blk_put (cs := #[.int .u64 0, .int .u64 0, .int .i64 0, .bool false, .int .i64 0, .int .i64 0, .int .i64 0, .int .i64 0, .bool false]) ?_ 6 _ rfl; (with_reducible repeat (first | refine blk_drewN ?_ _ | refine blk_drew ?_ | refine blk_alloc ?_ _)); refine blk_put (cs := #[.int .u64 0, .int .u64 0, .int .i64 0, .bool false, .int .i64 0, .int .i64 0, .int .i64 0, .int .i64 0, .bool false]) ?_ 5 _ rfl; (with_reducible repeat (first | refine blk_drewN ?_ _ | refine blk_drew ?_ | refine blk_alloc ?_ _)); refine blk_put (cs := #[.int .u64 0, .int .u64 0, .int .i64 0, .bool false, .int .i64 0, .int .i64 0, .int .i64 0, .int .i64 0, .bool false]) ?_ 4 _ rfl; (with_reducible repeat (first | refine blk_drewN ?_ _ | refine blk_drew ?_ | refine blk_alloc ?_ _)); refine blk_put (cs := #[.int .u64 0, .int .u64 0, .int .i64 0, .bool false, .int .i64 0, .int .i64 0, .int .i64 0, .int .i64 0, .bool false]) ?_ 3 _ rfl; (with_reducible repeat (first | refine blk_drewN ?_ _ | refine blk_drew ?_ | refine blk_alloc ?_ _)); refine blk_put (cs := #[.int .u64 0, .int .u64 0, .int .i64 0, .bool false, .int .i64 0, .int .i64 0, .int .i64 0, .int .i64 0, .bool false]) ?_ 2 _ rfl; (with_reducible repeat (first | refine blk_drewN ?_ _ | refine blk_drew ?_ | refine blk_alloc ?_ _)); refine blk_put (cs := #[.int .u64 0, .int .u64 0, .int .i64 0, .bool false, .int .i64 0, .int .i64 0, .int .i64 0, .int .i64 0, .bool false]) ?_ 1 _ rfl; (with_reducible repeat (first | refine blk_drewN ?_ _ | refine blk_drew ?_ | refine blk_alloc ?_ _)); refine blk_put (cs := #[.int .u64 0, .int .u64 0, .int .i64 0, .bool false, .int .i64 0, .int .i64 0, .int .i64 0, .int .i64 0, .bool false]) ?_ 0 _ rfl; (with_reducible repeat (first | refine blk_drewN ?_ _ | refine blk_drew ?_ | refine blk_alloc ?_ _)); exact BK283.out) Tryz.underlying193 rfl (by kernel_rfl)) rfl ?_
  exact ⟨er_, hb2_ HB.out GE282.out GE283.out⟩
 ·rw [if_neg c5] at H
  have c5b0 : (t284 == 0) = false := beq_eq_false_iff_ne.mpr c5
  have c5b1 : (t284 != 0) = true := bne_iff_ne.mpr c5
  obtain ⟨ji11, hji11⟩ : ∃ j_ : Int, (wrap64 (t284 - 1)) = j_ := ⟨_, rfl⟩
  replace H : (if 0 ≤ (ji11) then (if 0 ≤ t284 then (some (a2_0, a2_1, a2_2, a2_3, a0, t285, wrap64 ((wrap64 (2 - (shl .i64 1 (ji11)))) - t285), wrap64 ((wrap64 ((wrap64 ((wrap64 (2 - (shl .i64 1 (ji11)))) - t285)) + (shl .i64 1 t284))) - 3), a1, true)) else (none)) else (none)) = some (r1, r2, r3, r4, r5, r6, r7, r8, r9, r10) := by first | (rw [hji11] at H; exact H) | (simp only [hji11] at H ⊢; exact H)
  (try rw [hji11] at A4)
  have hji11w : (IntKind.i64.wrap (t284 - 1)) = ji11 := (i64_w _).trans hji11
  by_cases c12 : 0 ≤ (ji11)
  ·rw [if_pos c12] at H
   have c12b0 := eq_true c12
   have c12b1 : decide (0 ≤ (ji11)) = true := decide_eq_true c12
   clear c12
   obtain ⟨ji13, hji13⟩ : ∃ j_ : Int, (shl .i64 1 (ji11)) = j_ := ⟨_, rfl⟩
   replace H : (if 0 ≤ t284 then (some (a2_0, a2_1, a2_2, a2_3, a0, t285, wrap64 ((wrap64 (2 - (ji13))) - t285), wrap64 ((wrap64 ((wrap64 ((wrap64 (2 - (ji13))) - t285)) + (shl .i64 1 t284))) - 3), a1, true)) else (none)) = some (r1, r2, r3, r4, r5, r6, r7, r8, r9, r10) := by first | (rw [hji13] at H; exact H) | (simp only [hji13] at H ⊢; exact H)
   (try rw [hji13] at A4)
   have hji13_ : (IntKind.i64.wrap (1 * 2 ^ min (ji11).toNat 64)) = ji13 := hji13
   have hji13z : (ji11) ≤ 64 → (IntKind.i64.wrap (1 * 2 ^ (ji11).toNat)) = ji13 := shl_small hji13
   have hji13u : (IntKind.i64.wrap (2 ^ min (ji11).toNat 64)) = ji13 := by have h_ := hji13_; rw [Int.one_mul] at h_; exact h_
   have hji13v : (ji11) ≤ 64 → (IntKind.i64.wrap (2 ^ (ji11).toNat)) = ji13 := fun hle_ => by have h_ := hji13z hle_; rw [Int.one_mul] at h_; exact h_
   have hji13y : (wrap64 (1 * 2 ^ min (ji11).toNat 64)) = ji13 := (i64_w _).symm.trans hji13_
   have hji13x : (ji11) ≤ 64 → (wrap64 (1 * 2 ^ (ji11).toNat)) = ji13 := fun h_ => (i64_w _).symm.trans (hji13z h_)
   by_cases c14 : 0 ≤ t284
   ·rw [if_pos c14] at H
    have c14b0 := eq_true c14
    have c14b1 : decide (0 ≤ t284) = true := decide_eq_true c14
    clear c14
    obtain ⟨ji15, hji15⟩ : ∃ j_ : Int, (shl .i64 1 t284) = j_ := ⟨_, rfl⟩
    replace H : (some (a2_0, a2_1, a2_2, a2_3, a0, t285, wrap64 ((wrap64 (2 - (ji13))) - t285), wrap64 ((wrap64 ((wrap64 ((wrap64 (2 - (ji13))) - t285)) + (ji15))) - 3), a1, true)) = some (r1, r2, r3, r4, r5, r6, r7, r8, r9, r10) := by first | (rw [hji15] at H; exact H) | (simp only [hji15] at H ⊢; exact H)
    (try rw [hji15] at A4)
    have hji15_ : (IntKind.i64.wrap (1 * 2 ^ min t284.toNat 64)) = ji15 := hji15
    have hji15z : t284 ≤ 64 → (IntKind.i64.wrap (1 * 2 ^ t284.toNat)) = ji15 := shl_small hji15
    have hji15u : (IntKind.i64.wrap (2 ^ min t284.toNat 64)) = ji15 := by have h_ := hji15_; rw [Int.one_mul] at h_; exact h_
    have hji15v : t284 ≤ 64 → (IntKind.i64.wrap (2 ^ t284.toNat)) = ji15 := fun hle_ => by have h_ := hji15z hle_; rw [Int.one_mul] at h_; exact h_
    have hji15y : (wrap64 (1 * 2 ^ min t284.toNat 64)) = ji15 := (i64_w _).symm.trans hji15_
    have hji15x : t284 ≤ 64 → (wrap64 (1 * 2 ^ t284.toNat)) = ji15 := fun h_ => (i64_w _).symm.trans (hji15z h_)
    simp only [Option.some.injEq, Prod.mk.injEq] at H
    obtain ⟨rfl, rfl, rfl, rfl, rfl, rfl, rfl, rfl, rfl, rfl⟩ := H
    go_enter Tryz.func239, Tryz.ntmps239
    try go_wp2_with (first | ((with_reducible refine gate_dst (N := 5) rfl ?_); refine be_ 5 #[.int .u64 a2_0, .int .u64 a2_1, .int .i64 a2_2, .bool a2_3] 191 ?_; intro gb282 hg w16 hbox hb; have BK282 := A_ (hbox); have GW282 := A_ (sz_ hg (hb_ HB.out)); have GE282 := A_ (sz_ hg (hb_ HB.out)); replace HB := A_ (below_step (hb_ HB.out) hb); clear hb hbox hg) | ((with_reducible refine gate_dst (N := 6) rfl ?_); refine be_ 6 #[.int .u64 0, .int .u64 0, .int .i64 0, .bool false, .int .i64 0, .int .i64 0, .int .i64 0, .int .i64 0, .bool false] 193 ?_; intro gb283 hg w17 hbox hb; have BK283 := A_ (hbox); have GW283 := A_ (sz_ hg (hb1_ HB.out GE282.out)); have GE283 := A_ (sz_ hg (hb1_ HB.out GE282.out)); have NB282_283 := A_ (nl_ hg BK282.out); have NB283_282 := A_ (ng_ hg BK282.out); replace BK282 := A_ (bb_ BK282.out hb); replace HB := A_ (below_step (hb1_ HB.out GE282.out) hb); clear hb hbox hg) | ((with_reducible refine gate_callee (f := 15) rfl ?_); refine goesL_ (some 13) rfl rfl Tryz.func15 (by kernel_rfl) rfl #[.int .i64 a0] rfl mp_ ?_; (with_reducible refine (shape_Fields.calls a0 t284 t285 _ A4.out).mono ?_); rintro e w18 ⟨rfl, hb⟩; refine ⟨_, rfl, ?_⟩; replace BK282 := A_ (bb_ BK282.out hb); replace BK283 := A_ (bb_ BK283.out hb); replace HB := A_ (below_step (hb2_ HB.out GE282.out GE283.out) hb); (try clear hb); (try clear hb2); (try clear hk); (try clear hi)))
    replace BK282 := A_ (blk_drew BK282.out)
    replace BK283 := A_ (blk_drew BK283.out)
    replace HB := A_ (below_drew1 HB.out)
    refine start_ (n := 13) (S := fun w' => w'.cell? ⟨gb282, 0, none⟩ = some (.int .u64 a2_0) ∧ w'.cell? ⟨gb282, 1, none⟩ = some (.int .u64 a2_1) ∧ w'.cell? ⟨gb282, 2, none⟩ = some (.int .i64 a2_2) ∧ w'.cell? ⟨gb282, 3, none⟩ = some (.bool a2_3)) (ds := []) #[false, false, false, false, false, false, false, false, false, false, false, false, false] (by kernel_rfl) rfl rfl ⟨bc_ BK282.out 0, bc_ BK282.out 1, bc_ BK282.out 2, bc_ BK282.out 3⟩ (fun hHeld => ?_); refine with_tabW round_aim.tab5 round_aim.bits5 (fun HT_ HW_ => ?_)
    generalize w18.drew = w19 at BK282 BK283 HB hHeld ⊢
    refine pu_ 1 (some 26) #[false, true, false, false, false, false, false, false, false, false, false, false, false] rfl rfl (any_of HT_.out (by kernel_rfl)) ?_
    refine pu_ 2 (some 27) #[false, true, true, false, false, false, false, false, false, false, false, false, false] rfl rfl (any_of HT_.out (by kernel_rfl)) ?_
    refine pu_ 3 (some 28) #[false, true, true, true, false, false, false, false, false, false, false, false, false] rfl rfl (any_of HT_.out (by kernel_rfl)) ?_
    refine pu_ 4 (some 29) #[false, true, true, true, true, false, false, false, false, false, false, false, false] rfl rfl (any_of HT_.out (by kernel_rfl)) ?_
    refine pu_ 5 (some 30) #[false, true, true, true, true, true, false, false, false, false, false, false, false] rfl rfl (any_of HT_.out (by kernel_rfl)) ?_
    refine pu_ 6 (some 31) #[false, true, true, true, true, true, true, false, false, false, false, false, false] rfl rfl (any_of HT_.out (by kernel_rfl)) ?_
    refine pu_ 7 (some 32) #[false, true, true, true, true, true, true, true, false, false, false, false, false] rfl rfl (any_of HT_.out (by kernel_rfl)) ?_
    refine pu_ 8 (some 33) #[false, true, true, true, true, true, true, true, true, false, false, false, false] rfl rfl (any_of HT_.out (by kernel_rfl)) ?_
    refine pu_ 9 (some 34) #[false, true, true, true, true, true, true, true, true, true, false, false, false] rfl rfl (any_of HT_.out (by kernel_rfl)) ?_
    refine tk4_ 0 (some 25) #[true, true, true, true, true, true, true, true, true, true, false, false, false] rfl rfl (take_ofW HT_.out HW_.out (by kernel_rfl)) hHeld ?_
    refine pu_ 10 (some 35) #[true, true, true, true, true, true, true, true, true, true, true, false, false] rfl rfl (any_of HT_.out (by kernel_rfl)) ?_
    refine one_ (i := 11) (N := none) #[true, true, true, true, true, true, true, true, true, true, true, true, false] rfl rfl (one_of HT_.out (by kernel_rfl)) (by decide) (fun K hK => ?_)
    have hs20 : w19.cell? ⟨gb283, 0, none⟩ = some (.int .u64 0) := bc_ BK283.out 0
    have hfs20 := blk_frozen BK283.out 0
    have hns20_0 := NB282_283.out
    have hms20_0 := NB283_282.out
    have hs21 : w19.cell? ⟨gb283, 1, none⟩ = some (.int .u64 0) := bc_ BK283.out 1
    have hfs21 := blk_frozen BK283.out 1
    have hns21_0 := NB282_283.out
    have hms21_0 := NB283_282.out
    have hs22 : w19.cell? ⟨gb283, 2, none⟩ = some (.int .i64 0) := bc_ BK283.out 2
    have hfs22 := blk_frozen BK283.out 2
    have hns22_0 := NB282_283.out
    have hms22_0 := NB283_282.out
    have hs23 : w19.cell? ⟨gb283, 3, none⟩ = some (.bool false) := bc_ BK283.out 3
    have hfs23 := blk_frozen BK283.out 3
    have hns23_0 := NB282_283.out
    have hms23_0 := NB283_282.out
    have hs24 : w19.cell? ⟨gb283, 4, none⟩ = some (.int .i64 0) := bc_ BK283.out 4
    have hfs24 := blk_frozen BK283.out 4
    have hns24_0 := NB282_283.out
    have hms24_0 := NB283_282.out
    have hs25 : w19.cell? ⟨gb283, 5, none⟩ = some (.int .i64 0) := bc_ BK283.out 5
    have hfs25 := blk_frozen BK283.out 5
    have hns25_0 := NB282_283.out
    have hms25_0 := NB283_282.out
    have hs26 : w19.cell? ⟨gb283, 6, none⟩ = some (.int .i64 0) := bc_ BK283.out 6
    have hfs26 := blk_frozen BK283.out 6
    have hns26_0 := NB282_283.out
    have hms26_0 := NB283_282.out
    have hs27 : w19.cell? ⟨gb283, 7, none⟩ = some (.int .i64 0) := bc_ BK283.out 7
    have hfs27 := blk_frozen BK283.out 7
    have hns27_0 := NB282_283.out
    have hms27_0 := NB283_282.out
    have hs28 : w19.cell? ⟨gb283, 8, none⟩ = some (.bool false) := bc_ BK283.out 8
    have hfs28 := blk_frozen BK283.out 8
    have hns28_0 := NB282_283.out
    have hms28_0 := NB283_282.out
    refine skip_ (w1 := ?_) (by rfl) rfl ?_ ?_
    rotate_left
    ·go_simp
     rfl
    refine hK.out _ _ ⟨((cell_far (p := ⟨gb283, _, none⟩) NB282_283.out _).trans (((cell_far (p := ⟨gb283, _, none⟩) NB282_283.out _).trans (((cell_far (p := ⟨gb283, _, none⟩) NB282_283.out _).trans (((cell_far (p := ⟨gb283, _, none⟩) NB282_283.out _).trans (((cell_far (p := ⟨gb283, _, none⟩) NB282_283.out _).trans (((cell_far (p := ⟨gb283, _, none⟩) NB282_283.out _).trans (((cell_far (p := ⟨gb283, _, none⟩) NB282_283.out _).trans (((cell_far (p := ⟨gb283, _, none⟩) NB282_283.out _).trans (((cell_far (p := ⟨gb283, _, none⟩) NB282_283.out _).trans (hHeld.1)))))))))))))))))), ((cell_far (p := ⟨gb283, _, none⟩) NB282_283.out _).trans (((cell_far (p := ⟨gb283, _, none⟩) NB282_283.out _).trans (((cell_far (p := ⟨gb283, _, none⟩) NB282_283.out _).trans (((cell_far (p := ⟨gb283, _, none⟩) NB282_283.out _).trans (((cell_far (p := ⟨gb283, _, none⟩) NB282_283.out _).trans (((cell_far (p := ⟨gb283, _, none⟩) NB282_283.out _).trans (((cell_far (p := ⟨gb283, _, none⟩) NB282_283.out _).trans (((cell_far (p := ⟨gb283, _, none⟩) NB282_283.out _).trans (((cell_far (p := ⟨gb283, _, none⟩) NB282_283.out _).trans (hHeld.2.1)))))))))))))))))), ((cell_far (p := ⟨gb283, _, none⟩) NB282_283.out _).trans (((cell_far (p := ⟨gb283, _, none⟩) NB282_283.out _).trans (((cell_far (p := ⟨gb283, _, none⟩) NB282_283.out _).trans (((cell_far (p := ⟨gb283, _, none⟩) NB282_283.out _).trans (((cell_far (p := ⟨gb283, _, none⟩) NB282_283.out _).trans (((cell_far (p := ⟨gb283, _, none⟩) NB282_283.out _).trans (((cell_far (p := ⟨gb283, _, none⟩) NB282_283.out _).trans (((cell_far (p := ⟨gb283, _, none⟩) NB282_283.out _).trans (((cell_far (p := ⟨gb283, _, none⟩) NB282_283.out _).trans (hHeld.2.2.1)))))))))))))))))), ((cell_far (p := ⟨gb283, _, none⟩) NB282_283.out _).trans (((cell_far (p := ⟨gb283, _, none⟩) NB282_283.out _).trans (((cell_far (p := ⟨gb283, _, none⟩) NB282_283.out _).trans (((cell_far (p := ⟨gb283, _, none⟩) NB282_283.out _).trans (((cell_far (p := ⟨gb283, _, none⟩) NB282_283.out _).trans (((cell_far (p := ⟨gb283, _, none⟩) NB282_283.out _).trans (((cell_far (p := ⟨gb283, _, none⟩) NB282_283.out _).trans (((cell_far (p := ⟨gb283, _, none⟩) NB282_283.out _).trans (((cell_far (p := ⟨gb283, _, none⟩) NB282_283.out _).trans (hHeld.2.2.2))))))))))))))))))⟩ (fun hHeld => ?_)
    clear hK K
    refine pu_ 12 (some 7) #[true, true, true, true, true, true, true, true, true, true, true, true, true] rfl rfl (any_of HT_.out (by kernel_rfl)) ?_
    refine done_ (done_of HT_.out (by kernel_rfl)) ?_
    try go_wp2
    refine bodyPost_ret (results_ct rfl _ _ gb283 193 #[.int .u64 a2_0, .int .u64 a2_1, .int .i64 a2_2, .bool a2_3, .int .i64 a0, .int .i64 t285, .int .i64 (wrap64 ((wrap64 (2 - (ji13))) - t285)), .int .i64 (wrap64 ((wrap64 ((wrap64 ((wrap64 (2 - (ji13))) - t285)) + (ji15))) - 3)), .bool a1] (0, 0) _ rfl (by (with_reducible repeat (first | refine blk_drewN ?_ _ | refine blk_drew ?_ | refine blk_alloc ?_ _)); refine blk_put (cs := #[.int .u64 a2_0, .int .u64 a2_1, .int .i64 a2_2, .bool a2_3, .int .i64 a0, .int .i64 t285, .int .i64 (wrap64 ((wrap64 (2 - (ji13))) - t285)), .int .i64 (wrap64 ((wrap64 ((wrap64 ((wrap64 (2 - (ji13))) - t285)) + (ji15))) - 3)), .bool false]) ?_ 8 _ rfl; (with_reducible repeat (first | refine blk_drewN ?_ _ | refine blk_drew ?_ | refine blk_alloc ?_ _)); refine blk_put (cs := #[.int .u64 a2_0, .int .u64 a2_1, .int .i64 a2_2, .bool a2_3, .int .i64 a0, .int .i64 t285, .int .i64 (wrap64 ((wrap64 (2 - (ji13))) - t285)), .int .i64 0, .bool false]) ?_ 7 _ rfl; (with_reducible repeat (first | refine blk_drewN ?_ _ | refine blk_drew ?_ | refine blk_alloc ?_ _)); refine blk_put (cs := #[.int .u64 a2_0, .int .u64 a2_1, .int .i64 a2_2, .bool a2_3, .int .i64 a0, .int .i64 t285, .int .i64 0, .int .i64 0, .bool false]) ?_ 6 _ rfl; (with_reducible repeat (first | refine blk_drewN ?_ _ | refine blk_drew ?_ | refine blk_alloc ?_ _)); refine blk_put (cs := #[.int .u64 a2_0, .int .u64 a2_1, .int .i64 a2_2, .bool a2_3, .int .i64 a0, .int .i64 0, .int .i64 0, .int .i64 0, .bool false]) ?_ 5 _ rfl; (with_reducible repeat (first | refine blk_drewN ?_ _ | refine blk_drew ?_ | refine blk_alloc ?_ _)); refine blk_put (cs := #[.int .u64 a2_0, .int .u64 a2_1, .int .i64 a2_2, .bool a2_3, .int .i64 0, .int .i64 0, .int .i64 0, .int .i64 0, .bool false]) ?_ 4 _ rfl; (with_reducible repeat (first | refine blk_drewN ?_ _ | refine blk_drew ?_ | refine blk_alloc ?_ _)); refine blk_put (cs := #[.int .u64 a2_0, .int .u64 a2_1, .int .i64 a2_2, .bool false, .int .i64 0, .int .i64 0, .int .i64 0, .int .i64 0, .bool false]) ?_ 3 _ rfl; (with_reducible repeat (first | refine blk_drewN ?_ _ | refine blk_drew ?_ | refine blk_alloc ?_ _)); refine blk_put (cs := #[.int .u64 a2_0, .int .u64 a2_1, .int .i64 0, .bool false, .int .i64 0, .int .i64 0, .int .i64 0, .int .i64 0, .bool false]) ?_ 2 _ rfl; (with_reducible repeat (first | refine blk_drewN ?_ _ | refine blk_drew ?_ | refine blk_alloc ?_ _)); refine blk_put (cs := #[.int .u64 a2_0, .int .u64 0, .int .i64 0, .bool false, .int .i64 0, .int .i64 0, .int .i64 0, .int .i64 0, .bool false]) ?_ 1 _ rfl; (with_reducible repeat (first | refine blk_drewN ?_ _ | refine blk_drew ?_ | refine blk_alloc ?_ _)); refine blk_put (cs := #[.int .u64 0, .int .u64 0, .int .i64 0, .bool false, .int .i64 0, .int .i64 0, .int .i64 0, .int .i64 0, .bool false]) ?_ 0 _ rfl; (with_reducible repeat (first | refine blk_drewN ?_ _ | refine blk_drew ?_ | refine blk_alloc ?_ _)); exact BK283.out) Tryz.underlying193 rfl (by kernel_rfl)) rfl ?_
    exact ⟨by first | rfl | (simp [errW_none, errW_some] <;> rfl) | (simp only [← hji11, ← hji13, ← hji15]; first | rfl | (simp [errW_none, errW_some] <;> rfl)) | (simp [*, errW_none, errW_some] <;> rfl), hb2_ HB.out GE282.out GE283.out⟩
   ·rw [if_neg c14] at H
    exact absurd H (by simp)
  ·rw [if_neg c12] at H
   exact absurd H (by simp)
end Go.Proofs.YtnmlmgmljoncoaaGreatDoor.PA
/- What round.Pack does in its main way, told by what its callees answer; for every input in their bounds. -/
namespace Go.Proofs.YtnmlmgmljoncoaaGreatDoor.PA
open Go.RowKit Go.Proofs.YtnmlmgmljoncoaaGreatDoorW.PrintWords Go.Proofs.YtnmlmgmljoncoaaGreatDoorW.PrintLast Go.Proofs.YtnmlmgmljoncoaaGreatDoorW.PrintMore
attribute [local go_sem] max2_int min2_int max_two min_two max_three min_three max_four min_four   -- for this text's walks alone
set_option linter.unusedVariables false
set_option linter.unusedSimpArgs false
attribute [local go_sem high] eqA166
def rp_N (h l e n : Int) (m : Bool) (s0 s1 e2 : Int) : Prop :=
  (n ≤ 0 ∧ m = false ∧ s0 = h ∧ s1 = l ∧ e2 = e) ∨ (0 < n ∧ e2 = e + n ∧ ∃ (k0 k1 q0 q1 : Int) (lost x up : Bool), wide_Right.f h l (n - 1) = some (k0, k1, lost) ∧ wide_Right.f k0 k1 1 = some (q0, q1, x) ∧
    ((Go.bits .and .u64 k1 1 == 1) && ((lost || m) || (Go.bits .and .u64 q1 1 == 1))) = up ∧ (up = true → wide_Add.f q0 q1 0 1 = some (s0, s1)) ∧ (up = false → s0 = q0 ∧ s1 = q1))
theorem rp_near (b : Nat) (h l e n s0 s1 e2 : Int) (m : Bool) (w : World) (P : rp_PK b h l e m w w)
    (f : ∀ i, w.frozen? ⟨b, i, none⟩ = false) (h1 : n < 1099511627776) (e0 : -1099511627776 < e) (e1 : e < 1099511627776) (X : rp_N h l e n m s0 s1 e2) :
    Calls Tryz.prog 243 #[.pointer (some ⟨b, 0, none⟩), .int .i64 n] w fun en w' => en = .returned (.tuple #[]) ∧ rp_PK b s0 s1 e2 false w w' := by
  rcases X with ⟨h0, rfl, rfl, rfl, rfl⟩ | ⟨h0, rfl, k0, k1, q0, q1, lost, x, up, R1, R2, U, A1, A0⟩
  · refine (rp_near0 b s0 s1 e2 n w P.c0 P.c1 P.c2 P.c3 (f 3) h0).mono ?_
    rintro en w' ⟨rfl, rfl⟩
    exact ⟨rfl, P.put3 false⟩
  · exact rp_near1 b h l e n k0 k1 q0 q1 s0 s1 m lost x up w P.c0 P.c1 P.c2 P.c3 (f 0) (f 1) (f 2) (f 3) h0 h1 e0 e1 R1 R2 U A1 A0
set_option maxHeartbeats 8000000 in
set_option maxRecDepth 100000 in
theorem rp_pack (W f t2 t1 lo hi : Int) (hW : (W = 32 ∧ f = 23 ∧ t2 = 16777216 ∧ t1 = 8388608) ∨ (W = 64 ∧ f = 52 ∧ t2 = 9007199254740992 ∧ t1 = 4503599627370496)) (hlo : -10000 < lo ∧ lo < 10000) (h l e h1 l1 e1 n1 n s0 s1 e2 n2 u r0 r1 e3 r : Int) (m m1 ng : Bool) (w : World)
    (AIM : round_aim.f W ng h l e m = some (h, l, e, m, W, f, lo, hi, ng, true))
    (Z : (h == 0 && l == 0) = false ∨ m = true) (E1 : e ≤ 1048576) (E2 : -1048576 ≤ e)
    (T : (m = true ∧ (∃ n0, wide_Len.f h l = some n0 ∧ n0 < 127) ∧ (∃ x0 x1, wide_Left.f h l 1 = some (x0, x1) ∧ wide_Add.f x0 x1 0 1 = some (h1, l1)) ∧ e - 1 = e1 ∧ m1 = false) ∨ ((m = false ∨ ∃ n0, wide_Len.f h l = some n0 ∧ 127 ≤ n0) ∧ h1 = h ∧ l1 = l ∧ e1 = e ∧ m1 = m))
    (L1 : wide_Len.f h1 l1 = some n1) (b1 : 0 ≤ n1 ∧ n1 ≤ 128) (NB : mx (n1 - f - 1) (lo - e1) = n) (NX : rp_N h1 l1 e1 n m1 s0 s1 e2)
    (L2 : wide_Len.f s0 s1 = some n2) (b2 : 0 ≤ n2 ∧ n2 ≤ 128) (U : mn (f + 1 - n2) (e2 - lo) = u) (RX : (0 < u ∧ wide_Left.f s0 s1 u = some (r0, r1) ∧ e2 - u = e3) ∨ (u ≤ 0 ∧ r0 = s0 ∧ r1 = s1 ∧ e2 = e3))
    (FX : (hi < e3 ∧ shape_Inf.f W ng = some r) ∨ (e3 ≤ hi ∧ r0 = 0 ∧ ∃ l4 e4, ((r1 = t2 ∧ t1 = l4 ∧ e3 + 1 = e4) ∨ (r1 ≠ t2 ∧ r1 = l4 ∧ e3 = e4)) ∧
      ((l4 = 0 ∧ shape_Zero.f W ng = some r) ∨ (l4 ≠ 0 ∧ hi < e4 ∧ shape_Inf.f W ng = some r) ∨ (l4 ≠ 0 ∧ e4 ≤ hi ∧ ∃ k z, shape_Close.f k W ng 1 e4 l4 = some (r, z))))) :
    Calls Tryz.prog 214 #[.int .i64 W, .bool ng, .agg #[.int .u64 h, .int .u64 l], .int .i64 e, .bool m] w fun en w' => en = .returned (.int .u64 r) ∧ Below w.heap.size w w' := by
  have hu41 := Tryz.underlying166
  have hu95 := Tryz.underlying191
  have hu97 := Tryz.underlying193
  have A_ := Aside0.mk AIM
  have D1 : decide (1048576 < e) = false := decide_eq_false (by omega)
  have D2 : decide (e < -1048576) = false := decide_eq_false (by omega)
  clear AIM
  go_enter Tryz.func214, Tryz.ntmps214
  go_upto_region 4 with (first | (go_at_call 239; (with_reducible refine (round_aim.calls W ng h l e m h l e m W f lo hi ng true _ A_.out).mono ?_); rintro en w1 ⟨rfl, hb⟩))
  have HW := Aside0.mk (below_alloc (below_step (below_alloc (Below.refl _ w) _) hb) (.cells #[.int .u64 h, .int .u64 l, .int .i64 e, .bool m, .int .i64 W, .int .i64 f, .int .i64 lo, .int .i64 hi, .bool ng] 193 (0, 0)))
  have hag : w.heap.size < w1.heap.size := by have := hb.size; simp at this; omega
  have sa := ((Nr.bcell hb).1 w.heap.size 0 (by simp)).trans (show _ = some (Value.int .u64 h) by simp [go_sem])
  have sb := ((Nr.bcell hb).1 w.heap.size 1 (by simp)).trans (show _ = some (Value.int .u64 l) by simp [go_sem])
  have P : rp_PK w1.heap.size h l e m (w1.alloc (.cells #[.int .u64 h, .int .u64 l, .int .i64 e, .bool m, .int .i64 W, .int .i64 f, .int .i64 lo, .int .i64 hi, .bool ng] 193 (0, 0))) _ := rp_PK.start (by simp [go_sem]) (by simp [go_sem]) (by simp [go_sem]) (by simp [go_sem])
  have C : (w1.alloc (.cells #[.int .u64 h, .int .u64 l, .int .i64 e, .bool m, .int .i64 W, .int .i64 f, .int .i64 lo, .int .i64 hi, .bool ng] 193 (0, 0))).cell? ⟨w1.heap.size, 4, none⟩ = some (.int .i64 W) ∧ (w1.alloc (.cells #[.int .u64 h, .int .u64 l, .int .i64 e, .bool m, .int .i64 W, .int .i64 f, .int .i64 lo, .int .i64 hi, .bool ng] 193 (0, 0))).cell? ⟨w1.heap.size, 5, none⟩ = some (.int .i64 f) ∧
      (w1.alloc (.cells #[.int .u64 h, .int .u64 l, .int .i64 e, .bool m, .int .i64 W, .int .i64 f, .int .i64 lo, .int .i64 hi, .bool ng] 193 (0, 0))).cell? ⟨w1.heap.size, 6, none⟩ = some (.int .i64 lo) ∧ (w1.alloc (.cells #[.int .u64 h, .int .u64 l, .int .i64 e, .bool m, .int .i64 W, .int .i64 f, .int .i64 lo, .int .i64 hi, .bool ng] 193 (0, 0))).cell? ⟨w1.heap.size, 7, none⟩ = some (.int .i64 hi) ∧ (w1.alloc (.cells #[.int .u64 h, .int .u64 l, .int .i64 e, .bool m, .int .i64 W, .int .i64 f, .int .i64 lo, .int .i64 hi, .bool ng] 193 (0, 0))).cell? ⟨w1.heap.size, 8, none⟩ = some (.bool ng) ∧
      ∀ i, (w1.alloc (.cells #[.int .u64 h, .int .u64 l, .int .i64 e, .bool m, .int .i64 W, .int .i64 f, .int .i64 lo, .int .i64 hi, .bool ng] 193 (0, 0))).frozen? ⟨w1.heap.size, i, none⟩ = false := ⟨by simp [go_sem], by simp [go_sem], by simp [go_sem], by simp [go_sem], by simp [go_sem], fun i => by simp [go_sem]⟩
  have S : (w1.alloc (.cells #[.int .u64 h, .int .u64 l, .int .i64 e, .bool m, .int .i64 W, .int .i64 f, .int .i64 lo, .int .i64 hi, .bool ng] 193 (0, 0))).cell? ⟨w.heap.size, 0, none⟩ = some (.int .u64 h) ∧ (w1.alloc (.cells #[.int .u64 h, .int .u64 l, .int .i64 e, .bool m, .int .i64 W, .int .i64 f, .int .i64 lo, .int .i64 hi, .bool ng] 193 (0, 0))).cell? ⟨w.heap.size, 1, none⟩ = some (.int .u64 l) := ⟨(Nr.al hag 0 _).trans sa, (Nr.al hag 1 _).trans sb⟩
  generalize w1.alloc (.cells #[.int .u64 h, .int .u64 l, .int .i64 e, .bool m, .int .i64 W, .int .i64 f, .int .i64 lo, .int .i64 hi, .bool ng] 193 (0, 0)) = w2 at *
  clear hb sa sb
  obtain ⟨g, hg⟩ : ∃ g, w1.heap.size = g := ⟨_, rfl⟩
  rw [hg] at P C hag ⊢
  have C' := Aside0.mk C
  have S' := Aside0.mk S
  have P' := Aside0.mk P
  have N1 := Aside0.mk L1
  have N2 := Aside0.mk L2
  have NN := Aside0.mk NX
  have RR := Aside0.mk RX
  have FF := Aside0.mk FX
  have q0 : -1048578 < e1 ∧ e1 < 1048578 := by
    rcases T with ⟨_, _, _, hh, _⟩ | ⟨_, _, _, hh, _⟩ <;> omega
  have q1 : -1099511627776 < n ∧ n < 1099511627776 := by unfold mx at NB; rcases hW with ⟨_, hf, _⟩ | ⟨_, hf, _⟩ <;> split at NB <;> omega
  have q2 : -1099511627776 < e2 ∧ e2 < 1099511627776 := by
    unfold mx at NB
    rcases NX with ⟨_, _, _, _, hh⟩ | ⟨_, hh, _⟩
    · omega
    · rcases hW with ⟨_, hf, _⟩ | ⟨_, hf, _⟩ <;> split at NB <;> omega
  have q3 : -1099511627776 < e3 ∧ e3 < 1099511627776 := by
    rcases RX with ⟨_, _, hh⟩ | ⟨_, _, _, hh⟩
    · unfold mn at U; rcases hW with ⟨_, hf, _⟩ | ⟨_, hf, _⟩ <;> split at U <;> omega
    · omega
  have hf : f = 23 ∨ f = 52 := by rcases hW with ⟨_, hf, _⟩ | ⟨_, hf, _⟩ <;> omega
  have UU := Aside0.mk (show mn (f + 1 - n2) (e2 - lo) = u from U)
  have V1 := Aside0.mk (show IntKind.i64.wrap (n1 - f) = n1 - f by rw [i64_w]; unfold wrap64; omega)
  have V2 := Aside0.mk (show IntKind.i64.wrap (n1 - f - 1) = n1 - f - 1 by rw [i64_w]; unfold wrap64; omega)
  have V3 := Aside0.mk (show IntKind.i64.wrap (lo - e1) = lo - e1 by rw [i64_w]; unfold wrap64; omega)
  have V4 := Aside0.mk (show (if n1 - f - 1 < lo - e1 then lo - e1 else n1 - f - 1) = n from NB)
  have V5 := Aside0.mk (show IntKind.i64.wrap (e - 1) = e - 1 by rw [i64_w]; unfold wrap64; omega)
  have HH := Aside0.mk (show -10000 < lo ∧ lo < 10000 ∧ 0 ≤ n2 ∧ n2 ≤ 128 ∧ (0 ≤ f ∧ f < 1000) from ⟨hlo.1, hlo.2, b2.1, b2.2, by omega, by omega⟩)
  have QQ := Aside0.mk (And.intro q0 (And.intro q1 (And.intro q2 q3)))
  have WW := Aside0.mk hW
  have sa := S.1; have sb := S.2
  have c0 := P.c0; have c1 := P.c1; have c2 := P.c2; have c3 := P.c3; have f0 := C.2.2.2.2.2 0; have f1 := C.2.2.2.2.2 1; have f2 := C.2.2.2.2.2 2; have f3 := C.2.2.2.2.2 3
  clear S P C L1 L2 NX RX FX q0 q1 q2 q3 U NB hW hlo b1 b2 hf E1 E2 A_ hg
  go_cut [26] (fun s26 wx => s26 = .bool false ∧ wx = w2)
  case first =>
    clear T c0 c1 c2 c3 f0 f1 f2 f3 D1 D2
    obtain ⟨bh, hh⟩ : ∃ y, (h == 0) = y := ⟨_, rfl⟩
    obtain ⟨bl_, hl⟩ : ∃ y, (l == 0) = y := ⟨_, rfl⟩
    rw [hh, hl] at Z
    cases bh <;> cases bl_ <;> cases m <;> first
      | (exfalso; simp at Z; done)
      | (clear Z; go_wp2_with fail; go_meet; exact ⟨rfl, rfl⟩)
  case rest =>
    obtain ⟨rfl, hwx⟩ := hcut
    subst wc
    clear Z
    have hlt := Nat.lt_trans hag P'.out.lt
    obtain ⟨tb, T'⟩ : ∃ tb, Aside0 ((tb = true ∧ m = true ∧ (∃ n0, wide_Len.f h l = some n0 ∧ n0 < 127) ∧ (∃ x0 x1, wide_Left.f h l 1 = some (x0, x1) ∧ wide_Add.f x0 x1 0 1 = some (h1, l1)) ∧ e - 1 = e1 ∧ m1 = false) ∨ (tb = false ∧ (m = false ∨ m = true ∧ ∃ n0, wide_Len.f h l = some n0 ∧ 127 ≤ n0) ∧ h1 = h ∧ l1 = l ∧ e1 = e ∧ m1 = m)) := by
      rcases T with h | ⟨h1, h2⟩
      · exact ⟨true, ⟨.inl ⟨rfl, h⟩⟩⟩
      · refine ⟨false, ⟨.inr ⟨rfl, ?_, h2⟩⟩⟩
        rcases h1 with h1 | h1
        · exact .inl h1
        · cases m
          · exact .inl rfl
          · exact .inr ⟨rfl, h1⟩
    clear T
    go_step
    go_upto_region 10 with fail
    clear c0 c1 c2 c3
    go_cut [54] (fun s54 wy => s54 = .bool tb ∧ rp_PK g h l e m w2 wy)
    case first =>
      rcases T'.out with ⟨rfl, rfl, ⟨n0, T1, T2⟩, _⟩ | ⟨rfl, rfl | ⟨rfl, n0, T1, T2⟩, _⟩
      · have B1 := Aside0.mk T1
        have d3 : decide (n0 < 127) = true := decide_eq_true T2
        clear T1 T2
        go_wp2_with (go_at_call 240; (with_reducible refine (wide_Len.calls h l n0 _ B1.out).mono ?_); rintro en w3 ⟨rfl, hb⟩; replace P' := Aside0.mk (P'.out.below hb); clear hb)
        go_meet
        exact ⟨rfl, P'.out⟩
      · go_wp2_with fail
        go_meet
        exact ⟨rfl, P'.out⟩
      · have B1 := Aside0.mk T1
        have d3 : decide (n0 < 127) = false := decide_eq_false (by omega)
        clear T1 T2
        go_wp2_with (go_at_call 240; (with_reducible refine (wide_Len.calls h l n0 _ B1.out).mono ?_); rintro en w3 ⟨rfl, hb⟩; replace P' := Aside0.mk (P'.out.below hb); clear hb)
        go_meet
        exact ⟨rfl, P'.out⟩
    case rest =>
    obtain ⟨rfl, PA_⟩ := hcut
    have PA2 := Aside0.mk PA_
    have sa := (PA_.bl.cell (p := ⟨w.heap.size, 0, none⟩) hag).trans S'.out.1
    have sb := (PA_.bl.cell (p := ⟨w.heap.size, 1, none⟩) hag).trans S'.out.2
    clear PA_ P' D1 D2 f0 f1 f2 f3
    go_upto_if 54 with fail
    go_cut [] (fun wy => rp_PK g h1 l1 e1 m1 w2 wy)
    case first =>
      rcases T'.out with ⟨rfl, rfl, _, ⟨x0, x1, T3, T4⟩, rfl, rfl⟩ | ⟨rfl, _, rfl, rfl, rfl, rfl⟩
      · have B3 := Aside0.mk T3
        have B4 := Aside0.mk T4
        have V6 := V5.out
        clear T3 T4
        go_wp2_with (first
          | (go_at_call 242; (with_reducible refine (wide_Left.calls h l 1 x0 x1 _ B3.out).mono ?_); rintro en w4 ⟨rfl, hb⟩; replace PA2 := Aside0.mk (PA2.out.below hb); clear hb)
          | (go_at_call 215; (with_reducible refine (wide_Of.calls 1 0 1 _ rfl).mono ?_); rintro en w5 ⟨rfl, hb⟩; replace PA2 := Aside0.mk (PA2.out.below hb); clear hb)
          | (go_at_call 241; (with_reducible refine (wide_Add.calls x0 x1 0 1 h1 l1 _ B4.out).mono ?_); rintro en w6 ⟨rfl, hb⟩; replace PA2 := Aside0.mk (PA2.out.below hb); clear hb; have c0 := PA2.out.c0; have c1 := PA2.out.c1; have c2 := PA2.out.c2; have c3 := PA2.out.c3; have f0 := (PA2.out.fs 0).trans (C'.out.2.2.2.2.2 0); have f1 := (PA2.out.fs 1).trans (C'.out.2.2.2.2.2 1); have f2 := (PA2.out.fs 2).trans (C'.out.2.2.2.2.2 2); have f3 := (PA2.out.fs 3).trans (C'.out.2.2.2.2.2 3)))
        go_meet
        exact (((PA2.out.put0 h1).put1 l1).put2 (e - 1)).put3 false
      · go_wp2_with fail
        go_meet
        exact PA2.out
    case rest =>
    have P3 := hcut
    clear hcut T' V5 PA2 sa sb
    have PX := Aside0.mk P3
    have c0 := P3.c0; have c1 := P3.c1; have c2 := P3.c2; have c5 := (P3.cs 5 (by decide)).trans C'.out.2.1; have c6 := (P3.cs 6 (by decide)).trans C'.out.2.2.1
    have v1 := V1.out; have v2 := V2.out; have v3 := V3.out; have v4 := V4.out
    clear P3
    go_upto_region 12 with fail
    go_cut [] (fun wy => rp_PK g s0 s1 e2 false w2 wy)
    case first =>
      refine Reg.start (fun w' => w'.cell? ⟨g, 0, none⟩ = some (.int .u64 h1) ∧ w'.cell? ⟨g, 1, none⟩ = some (.int .u64 l1) ∧ w'.cell? ⟨g, 2, none⟩ = some (.int .i64 e1) ∧ w'.cell? ⟨g, 5, none⟩ = some (.int .i64 f) ∧ w'.cell? ⟨g, 6, none⟩ = some (.int .i64 lo) ∧ rp_PK g h1 l1 e1 m1 w2 w') 16 (by kernel_rfl) (by decide) ⟨c0, c1, c2, c5, c6, PX.out.drew⟩ ?_
      refine Reg.take (i := 0) rfl (by kernel_rfl) (fun _ _ _ h => h) (Or.inl ⟨by rfl, by intro w' hS; obtain ⟨k0, k1, k2, k5, k6, k7⟩ := hS; first | (go_simp; done) | (go_simp; with_reducible rfl)⟩) ?_
      simp only [Act.put, List.setIfInBounds_toArray, List.set_cons_zero, List.set_cons_succ]
      refine Reg.take (i := 1) rfl (by kernel_rfl) (fun _ _ _ h => h) (Or.inl ⟨by rfl, by intro w' hS; obtain ⟨k0, k1, k2, k5, k6, k7⟩ := hS; first | (go_simp; done) | (go_simp; with_reducible rfl)⟩) ?_
      simp only [Act.put, List.setIfInBounds_toArray, List.set_cons_zero, List.set_cons_succ]
      refine Reg.take (i := 2) rfl (by kernel_rfl) (fun _ _ _ h => h) (Or.inl ⟨by rfl, by intro w' hS; obtain ⟨k0, k1, k2, k5, k6, k7⟩ := hS; first | (go_simp; done) | (go_simp; with_reducible rfl)⟩) ?_
      simp only [Act.put, List.setIfInBounds_toArray, List.set_cons_zero, List.set_cons_succ]
      refine Reg.take (i := 3) rfl (by kernel_rfl) (fun _ _ _ h => h) (Or.inl ⟨by rfl, by intro w' hS; obtain ⟨k0, k1, k2, k5, k6, k7⟩ := hS; first | (go_simp; done) | (go_simp; with_reducible rfl)⟩) ?_
      simp only [Act.put, List.setIfInBounds_toArray, List.set_cons_zero, List.set_cons_succ]
      refine Reg.take (i := 5) rfl (by kernel_rfl) (fun _ _ _ h => h) (Or.inl ⟨by rfl, by intro w' hS; obtain ⟨k0, k1, k2, k5, k6, k7⟩ := hS; first | (go_simp; done) | (go_simp; with_reducible rfl)⟩) ?_
      simp only [Act.put, List.setIfInBounds_toArray, List.set_cons_zero, List.set_cons_succ]
      refine Reg.take (i := 6) rfl (by kernel_rfl) (fun _ _ _ h => h) (Or.inl ⟨by rfl, by intro w' hS; obtain ⟨k0, k1, k2, k5, k6, k7⟩ := hS; first | (go_simp; done) | (go_simp; with_reducible rfl)⟩) ?_
      simp only [Act.put, List.setIfInBounds_toArray, List.set_cons_zero, List.set_cons_succ]
      refine Reg.take (i := 9) rfl (by kernel_rfl) (fun _ _ _ h => h) (Or.inl ⟨by rfl, by intro w' hS; obtain ⟨k0, k1, k2, k5, k6, k7⟩ := hS; first | (go_simp; done) | (go_simp; with_reducible rfl)⟩) ?_
      simp only [Act.put, List.setIfInBounds_toArray, List.set_cons_zero, List.set_cons_succ]
      refine Reg.take (i := 10) rfl (by kernel_rfl) (fun _ _ _ h => h) (Or.inl ⟨by rfl, by intro w' hS; obtain ⟨k0, k1, k2, k5, k6, k7⟩ := hS; first | (go_simp; done) | (go_simp; with_reducible rfl)⟩) ?_
      simp only [Act.put, List.setIfInBounds_toArray, List.set_cons_zero, List.set_cons_succ]
      refine Reg.take (i := 11) rfl (by kernel_rfl) (fun _ _ _ h => h) (Or.inl ⟨by rfl, by intro w' hS; obtain ⟨k0, k1, k2, k5, k6, k7⟩ := hS; first | (go_simp; done) | (go_simp; with_reducible rfl)⟩) ?_
      simp only [Act.put, List.setIfInBounds_toArray, List.set_cons_zero, List.set_cons_succ]
      refine Reg.take (i := 12) rfl (by kernel_rfl) (fun _ _ _ h => h) (Or.inl ⟨by rfl, by intro w' hS; obtain ⟨k0, k1, k2, k5, k6, k7⟩ := hS; first | (go_simp; done) | (go_simp; with_reducible rfl)⟩) ?_
      simp only [Act.put, List.setIfInBounds_toArray, List.set_cons_zero, List.set_cons_succ]
      refine Reg.take (i := 13) rfl (by kernel_rfl) (fun _ _ _ h => h) (Or.inl ⟨by rfl, by intro w' hS; obtain ⟨k0, k1, k2, k5, k6, k7⟩ := hS; first | (go_simp; done) | (go_simp; with_reducible rfl)⟩) ?_
      simp only [Act.put, List.setIfInBounds_toArray, List.set_cons_zero, List.set_cons_succ]
      refine Reg.take (i := 14) rfl (by kernel_rfl) (fun _ _ _ h => h) (Or.inl ⟨by rfl, by intro w' hS; have v := v3; first | (go_simp; done) | (go_simp; with_reducible rfl)⟩) ?_
      simp only [Act.put, List.setIfInBounds_toArray, List.set_cons_zero, List.set_cons_succ]
      refine Reg.one (i := 4) rfl (by kernel_rfl) (fun K hK => ?_)
      go_simp
      refine (wide_Len.calls h1 l1 n1 _ N1.out).mono ?_
      rintro en w7 ⟨rfl, hb⟩
      have PW := PX.out.drew.below hb
      refine hK _ _ ⟨PW.c0, PW.c1, PW.c2, (PW.cs 5 (by decide)).trans C'.out.2.1, (PW.cs 6 (by decide)).trans C'.out.2.2.1, PW⟩ ?_
      clear hK K hb PX
      have PX := Aside0.mk PW
      clear PW
      try simp only [Act.put, List.setIfInBounds_toArray, List.set_cons_zero, List.set_cons_succ]
      refine Reg.take (i := 7) rfl (by kernel_rfl) (fun _ _ _ h => h) (Or.inl ⟨by rfl, by intro w' hS; have v := v1; first | (go_simp; done) | (go_simp; with_reducible rfl)⟩) ?_
      simp only [Act.put, List.setIfInBounds_toArray, List.set_cons_zero, List.set_cons_succ]
      refine Reg.take (i := 8) rfl (by kernel_rfl) (fun _ _ _ h => h) (Or.inl ⟨by rfl, by intro w' hS; first | (go_simp; done) | (go_simp; with_reducible rfl)⟩) ?_
      simp only [Act.put, List.setIfInBounds_toArray, List.set_cons_zero, List.set_cons_succ]
      refine Reg.take (i := 15) rfl (by kernel_rfl) (fun _ _ _ h => h) (Or.inl ⟨by rfl, by intro w' hS; first | (go_simp; done) | (go_simp; with_reducible rfl)⟩) ?_
      simp only [Act.put, List.setIfInBounds_toArray, List.set_cons_zero, List.set_cons_succ]
      refine Reg.last rfl (by kernel_rfl) (fun K hK => ?_)
      go_simp
      refine (rp_near g h1 l1 e1 n s0 s1 e2 m1 _ (rp_PK.start PX.out.c0 PX.out.c1 PX.out.c2 PX.out.c3) (fun i => (PX.out.fs i).trans (C'.out.2.2.2.2.2 i)) QQ.out.2.1.2 (by have := QQ.out.1; omega) (by have := QQ.out.1; omega) NN.out).mono ?_
      rintro en w8 ⟨rfl, PY⟩
      refine hK _ _ ?_
      have PZ := PX.out.trans PY
      clear hK K PY PX
      go_wp2_with fail
      go_meet
      exact PZ
    case rest =>
    have P3 := hcut
    clear hcut PX c0 c1 c2 c5 c6 v1 v2 v3 v4 V1 V2 V3 V4 N1 NN
    have PP := Aside0.mk P3
    have RC := Aside0.mk (rp_raise g s0 s1 e2 e3 u f lo hi r0 r1 false wc P3.c0 P3.c1 P3.c2 P3.c3 ((P3.cs 5 (by decide)).trans C'.out.2.1) ((P3.cs 6 (by decide)).trans C'.out.2.2.1) ((P3.cs 7 (by decide)).trans C'.out.2.2.2.1)
      ((P3.fs 0).trans (C'.out.2.2.2.2.2 0)) ((P3.fs 1).trans (C'.out.2.2.2.2.2 1)) ((P3.fs 2).trans (C'.out.2.2.2.2.2 2)) QQ.out.2.2.1.1 QQ.out.2.2.1.2 HH.out.2.2.2.2.1 HH.out.2.2.2.2.2 HH.out.1 HH.out.2.1 n2 HH.out.2.2.1 HH.out.2.2.2.1 N2.out UU.out RR.out)
    clear P3
    rcases FF.out with ⟨x1, x2⟩ | ⟨x1, x2, l4, e4, x3, x4⟩
    · have d4 : decide (e3 ≤ hi) = false := decide_eq_false (by omega)
      have B := Aside0.mk x2
      clear x1 x2 FF
      go_step
      go_wp2_with (first
        | (go_at_call 244; refine RC.out.mono ?_; rintro en w9 ⟨rfl, PR⟩; have PS := Aside0.mk (PP.out.trans PR); clear PR)
        | (go_at_call 147; (with_reducible refine (shape_Inf.calls W ng r _ B.out).mono ?_); rintro en wa ⟨rfl, hb⟩; replace PS := Aside0.mk (PS.out.below hb); clear hb))
      go_ret
      exact ⟨rfl, HW.out.trans (PS.out.bl.mono (Nat.le_of_lt hag))⟩
    · have d4 : decide (e3 ≤ hi) = true := decide_eq_true x1
      subst x2
      have X3 := Aside0.mk x3
      have X4 := Aside0.mk x4
      clear x1 x3 x4 FF
      go_step
      go_wp2_with (first
        | (go_at_call 244; refine RC.out.mono ?_; rintro en w9 ⟨rfl, PR⟩; have PS := Aside0.mk (PP.out.trans PR); clear PR)
        | (go_at_call 245; refine (rp_close g W f t2 t1 hi r1 l4 e3 e4 r false ng _ WW.out PS.out.c0 PS.out.c1 PS.out.c2 PS.out.c3 ((PS.out.cs 4 (by decide)).trans C'.out.1) ((PS.out.cs 5 (by decide)).trans C'.out.2.1) ((PS.out.cs 7 (by decide)).trans C'.out.2.2.2.1) ((PS.out.cs 8 (by decide)).trans C'.out.2.2.2.2.1) ((PS.out.fs 1).trans (C'.out.2.2.2.2.2 1)) ((PS.out.fs 2).trans (C'.out.2.2.2.2.2 2)) QQ.out.2.2.2.1 QQ.out.2.2.2.2 X3.out X4.out).mono ?_; rintro en wa ⟨rfl, hb⟩))
      go_ret
      exact ⟨rfl, HW.out.trans ((PS.out.bl.trans hb).mono (Nat.le_of_lt hag))⟩
end Go.Proofs.YtnmlmgmljoncoaaGreatDoor.PA
namespace Flo

def tw (k : Int) : Rat := (2 : Rat) ^ k
theorem tw_pos (k : Int) : 0 < tw k := Rat.zpow_pos (by decide)
theorem tw_add (a b : Int) : tw (a + b) = tw a * tw b := Rat.zpow_add (by decide) a b
theorem tw_one : tw 1 = 2 := Rat.zpow_one ..
theorem tw_succ (a : Int) : tw (a + 1) = 2 * tw a := by rw [tw_add, tw_one, Rat.mul_comm]
theorem tw_pred (a : Int) : tw a = 2 * tw (a - 1) := by
  have := tw_succ (a - 1); rwa [Int.sub_add_cancel] at this
theorem tw_nat (n : Nat) : tw n = ((2 ^ n : Nat) : Rat) := by
  unfold tw; rw [Rat.zpow_natCast]; simp
theorem tw_sub_nat (a b : Int) (h : b ≤ a) : tw a = ((2 ^ (a - b).toNat : Nat) : Rat) * tw b := by
  rw [← tw_nat, ← tw_add]; congr 1; omega
theorem tw_lt {a b : Int} (h : a < b) : tw a < tw b := by
  rw [tw_sub_nat b a (by omega)]
  have h2 : 2 ≤ 2 ^ (b - a).toNat := by
    have : 2 ^ 1 ≤ 2 ^ (b - a).toNat := Nat.pow_le_pow_right (by decide) (by omega)
    simpa using this
  have h3 : (2 : Rat) ≤ ((2 ^ (b - a).toNat : Nat) : Rat) := by exact_mod_cast h2
  have := Rat.mul_le_mul_of_nonneg_right h3 (Rat.le_of_lt (tw_pos a))
  have := tw_pos a
  grind
theorem tw_le {a b : Int} (h : a ≤ b) : tw a ≤ tw b := by
  rcases Int.lt_or_eq_of_le h with h | h
  · exact Rat.le_of_lt (tw_lt h)
  · subst h; exact Rat.le_refl
theorem mul_lt {a b t : Rat} (h : a < b) (ht : 0 < t) : a * t < b * t := Rat.mul_lt_mul_of_pos_right h ht
theorem mul_le {a b t : Rat} (h : a ≤ b) (ht : 0 < t) : a * t ≤ b * t := Rat.mul_le_mul_of_nonneg_right h (Rat.le_of_lt ht)
theorem lt_of_mul {a b t : Rat} (h : a * t < b * t) (ht : 0 < t) : a < b := Rat.lt_of_mul_lt_mul_right h (Rat.le_of_lt ht)
theorem le_of_mul {a b t : Rat} (h : a * t ≤ b * t) (ht : 0 < t) : a ≤ b := Rat.le_of_mul_le_mul_right h ht
theorem nat_lt {a b : Nat} : ((a : Nat) : Rat) < (b : Rat) ↔ a < b := Rat.natCast_lt_natCast
theorem nat_le {a b : Nat} : ((a : Nat) : Rat) ≤ (b : Rat) ↔ a ≤ b := Rat.natCast_le_natCast

structure Fmt where
  f : Nat
  low : Int
  top : Nat
  hf : 1 ≤ f
  ht : 2 ≤ top
namespace Fmt
variable (F : Fmt)
def inf : Nat := F.top * 2 ^ F.f
def sg (m : Nat) : Nat := if m < 2 ^ F.f then m else 2 ^ F.f + m % 2 ^ F.f
def ex (m : Nat) : Int := if m < 2 ^ F.f then F.low else (m / 2 ^ F.f : Nat) - 1 + F.low
def val (m : Nat) : Rat := (F.sg m : Rat) * tw (F.ex m)
def mid (m : Nat) : Rat := ((2 * F.sg m + 1 : Nat) : Rat) * tw (F.ex m - 1)
theorem pow_pos : 0 < 2 ^ F.f := Nat.pow_pos (by decide)
theorem sg_mk (q n : Nat) (h : n < 2 ^ (F.f + 1)) (hq : 0 < q → 2 ^ F.f ≤ n) : F.sg (q * 2 ^ F.f + n) = n ∧ F.ex (q * 2 ^ F.f + n) = q + F.low := by
  have hp := F.pow_pos
  rw [Nat.pow_succ] at h
  unfold sg ex
  by_cases h1 : n < 2 ^ F.f
  · have : q = 0 := by
      rcases Nat.eq_zero_or_pos q with h | h
      · exact h
      · have := hq h; omega
    subst this
    simp [h1]
  · have e : q * 2 ^ F.f + n = (n - 2 ^ F.f) + 2 ^ F.f * (q + 1) := by
      rw [Nat.mul_add, Nat.mul_comm q]; omega
    have h2 : ¬ (q * 2 ^ F.f + n < 2 ^ F.f) := by
      have := Nat.zero_le (q * 2 ^ F.f); omega
    rw [if_neg h2, if_neg h2, e, Nat.add_mul_mod_self_left, Nat.add_mul_div_left _ _ hp, Nat.mod_eq_of_lt (by omega), Nat.div_eq_of_lt (by omega)]
    constructor
    · omega
    · omega
theorem sg_ex (m : Nat) : ∃ q n, m = q * 2 ^ F.f + n ∧ n < 2 ^ (F.f + 1) ∧ (0 < q → 2 ^ F.f ≤ n) ∧ F.sg m = n ∧ F.ex m = q + F.low := by
  have hp := F.pow_pos
  by_cases h : m < 2 ^ F.f
  · refine ⟨0, m, by simp, by rw [Nat.pow_succ]; omega, by simp, ?_, ?_⟩ <;> simp [sg, ex, h]
  · have h3 := Nat.div_add_mod m (2 ^ F.f)
    have h4 : 1 ≤ m / 2 ^ F.f := (Nat.le_div_iff_mul_le hp).2 (by omega)
    have h5 := Nat.mod_lt m hp
    have h6 : m = (m / 2 ^ F.f - 1) * 2 ^ F.f + (2 ^ F.f + m % 2 ^ F.f) := by
      rw [Nat.sub_mul, Nat.one_mul, Nat.mul_comm (m / 2 ^ F.f)]
      have : 2 ^ F.f ≤ 2 ^ F.f * (m / 2 ^ F.f) := Nat.le_mul_of_pos_right _ h4
      omega
    have h7 : 2 ^ F.f + m % 2 ^ F.f < 2 ^ (F.f + 1) := by rw [Nat.pow_succ]; omega
    have := F.sg_mk (m / 2 ^ F.f - 1) (2 ^ F.f + m % 2 ^ F.f) h7 (by omega)
    rw [← h6] at this
    exact ⟨_, _, h6, h7, by omega, this.1, this.2⟩
theorem val_succ (m : Nat) : F.val (m + 1) = F.val m + tw (F.ex m) := by
  obtain ⟨q, n, e, hn, hq, h1, h2⟩ := F.sg_ex m
  have hp := F.pow_pos
  by_cases h : n + 1 < 2 ^ (F.f + 1)
  · obtain ⟨h3, h4⟩ := F.sg_mk q (n + 1) h (fun h => by have := hq h; omega)
    unfold val
    rw [h1, h2, e, Nat.add_assoc, h3, h4]
    push_cast
    grind
  · have hn1 : n + 1 = 2 ^ F.f + 2 ^ F.f := by rw [Nat.pow_succ] at h hn; omega
    have e2 : m + 1 = (q + 1) * 2 ^ F.f + 2 ^ F.f := by rw [e, Nat.add_mul]; omega
    obtain ⟨h3, h4⟩ := F.sg_mk (q + 1) (2 ^ F.f) (by rw [Nat.pow_succ]; omega) (fun _ => Nat.le_refl _)
    unfold val
    rw [h1, h2, e2, h3, h4]
    have : (((q + 1 : Nat) : Int) + F.low) = (q + F.low) + 1 := by omega
    rw [this, tw_succ]
    have h5 : ((n : Nat) : Rat) + 1 = ((2 ^ F.f : Nat) : Rat) + ((2 ^ F.f : Nat) : Rat) := by exact_mod_cast hn1
    grind
theorem mid_eq (m : Nat) : F.mid m = F.val m + tw (F.ex m - 1) := by
  unfold mid val
  rw [tw_pred (F.ex m)]
  push_cast
  grind
theorem mid_lt_succ (m : Nat) : F.mid m < F.val (m + 1) := by
  rw [mid_eq, val_succ, tw_pred (F.ex m)]
  have := tw_pos (F.ex m - 1)
  grind
theorem lt_mid (m : Nat) : F.val m < F.mid m := by
  rw [mid_eq]
  have := tw_pos (F.ex m - 1)
  grind
theorem val_lt_succ (m : Nat) : F.val m < F.val (m + 1) := by
  rw [val_succ]
  have := tw_pos (F.ex m)
  grind
theorem val_mono {a b : Nat} (h : a ≤ b) : F.val a ≤ F.val b := by
  induction b with
  | zero => obtain rfl : a = 0 := by omega
            exact Rat.le_refl
  | succ b ih =>
    rcases Nat.lt_or_ge b a with h1 | h1
    · obtain rfl : a = b + 1 := by omega
      exact Rat.le_refl
    · have := ih h1
      have := F.val_lt_succ b
      grind
theorem mid_lt {a b : Nat} (h : a < b) : F.mid a < F.mid b := by
  have h1 := F.mid_lt_succ a
  have h2 := F.val_mono (show a + 1 ≤ b by omega)
  have h3 := F.lt_mid b
  grind
def Up (x : Rat) (m : Nat) : Prop := F.mid m < x ∨ F.mid m = x ∧ m % 2 = 1
def Rnd (U : Nat → Prop) (r : Nat) : Prop := r ≤ F.inf ∧ (∀ m, m < r → U m) ∧ (r < F.inf → ¬ U r)
theorem Rnd.exact {m : Nat} (h : m ≤ F.inf) : F.Rnd (F.Up (F.val m)) m := by
  refine ⟨h, fun k hk => .inl ?_, fun _ u => ?_⟩
  · have h1 := F.mid_lt_succ k
    have h2 := F.val_mono (show k + 1 ≤ m by omega)
    grind
  · have h1 := F.lt_mid m
    rcases u with u | ⟨u, _⟩ <;> grind
theorem Rnd.make {x : Rat} {q n : Nat} (hx : x < tw (q + F.low + F.f + 1)) (hq : 0 < q → tw (q + F.low + F.f) ≤ x)
    (hd : 0 < n → ((2 * n - 1 : Nat) : Rat) * tw (q + F.low - 1) < x ∨ ((2 * n - 1 : Nat) : Rat) * tw (q + F.low - 1) = x ∧ n % 2 = 0)
    (hu : x < ((2 * n + 1 : Nat) : Rat) * tw (q + F.low - 1) ∨ x = ((2 * n + 1 : Nat) : Rat) * tw (q + F.low - 1) ∧ n % 2 = 0) :
    F.Rnd (F.Up x) (min F.inf (q * 2 ^ F.f + n)) := by
  have hp := F.pow_pos
  have T := tw_pos (q + F.low - 1)
  -- n is at most 2^(f+1), and at least 2^f where q is not 0
  have e1 : tw (q + F.low + F.f + 1) = ((2 ^ (F.f + 2) : Nat) : Rat) * tw (q + F.low - 1) := by
    rw [← tw_nat, ← tw_add]; congr 1; omega
  have e2 : tw (q + F.low + F.f) = ((2 ^ (F.f + 1) : Nat) : Rat) * tw (q + F.low - 1) := by
    rw [← tw_nat, ← tw_add]; congr 1; omega
  have hn : n ≤ 2 ^ (F.f + 1) := by
    rcases Nat.eq_zero_or_pos n with h | h
    · omega
    · have h1 : ((2 * n - 1 : Nat) : Rat) * tw (q + F.low - 1) < ((2 ^ (F.f + 2) : Nat) : Rat) * tw (q + F.low - 1) := by
        rw [← e1]
        rcases hd h with h | ⟨h, _⟩ <;> grind
      have h2 := nat_lt.1 (lt_of_mul h1 T)
      rw [Nat.pow_succ] at h2
      omega
  have hl : 0 < q → 2 ^ F.f ≤ n := by
    intro h
    have h1 := hq h
    have h2 : ((2 ^ (F.f + 1) : Nat) : Rat) * tw (q + F.low - 1) ≤ ((2 * n + 1 : Nat) : Rat) * tw (q + F.low - 1) := by
      rw [← e2]
      rcases hu with h | ⟨h, _⟩ <;> grind
    have h3 := nat_le.1 (le_of_mul h2 T)
    rw [Nat.pow_succ] at h3
    omega
  have par : (q * 2 ^ F.f + n) % 2 = n % 2 := by
    obtain ⟨g, hg⟩ : ∃ g, F.f = g + 1 := ⟨F.f - 1, by have := F.hf; omega⟩
    rw [hg, Nat.pow_succ, ← Nat.mul_assoc]; omega
  -- what is below the answer is above its middle
  have hbelow : ∀ m, m < q * 2 ^ F.f + n → F.Up x m := by
    intro m hm
    have hlast : F.Up x (q * 2 ^ F.f + n - 1) := by
      by_cases h : n ≤ 2 ^ F.f ∧ 0 < q
      · obtain ⟨h, h0⟩ := h
        have h1 : n = 2 ^ F.f := Nat.le_antisymm h (hl h0)
        have e3 : q * 2 ^ F.f + n - 1 = (q - 1) * 2 ^ F.f + (2 ^ (F.f + 1) - 1) := by
          rw [h1, Nat.pow_succ]
          have : q * 2 ^ F.f = (q - 1) * 2 ^ F.f + 2 ^ F.f := by rw [← Nat.succ_mul]; congr 1; omega
          omega
        obtain ⟨h3, h4⟩ := F.sg_mk (q - 1) (2 ^ (F.f + 1) - 1) (by have := Nat.pow_pos (n := F.f + 1) (show 0 < 2 by decide); omega) (by intro _; rw [Nat.pow_succ]; omega)
        refine .inl ?_
        unfold mid
        rw [e3, h3, h4]
        have h5 := hq h0
        have e4 : tw (q + F.low + F.f) = ((2 ^ (F.f + 2) : Nat) : Rat) * tw ((q - 1 : Nat) + F.low - 1) := by
          rw [← tw_nat, ← tw_add]; congr 1; omega
        have h6 : 2 * (2 ^ (F.f + 1) - 1) + 1 < 2 ^ (F.f + 2) := by
          have h7 : 2 ^ (F.f + 2) = 2 ^ (F.f + 1) * 2 := Nat.pow_succ ..
          have h8 := Nat.pow_pos (n := F.f + 1) (show 0 < 2 by decide)
          omega
        have h7 := mul_lt (nat_lt.2 h6) (tw_pos ((q - 1 : Nat) + F.low - 1))
        grind
      · have hn0 : 0 < n := by
          rcases Nat.eq_zero_or_pos n with h0 | h0
          · subst h0
            rcases Nat.eq_zero_or_pos q with h1 | h1
            · subst h1; omega
            · exact absurd ⟨by omega, h1⟩ h
          · exact h0
        have h1 : 0 < q → 2 ^ F.f ≤ n - 1 := by
          intro h0
          have := hl h0
          have : ¬ n ≤ 2 ^ F.f := fun h' => h ⟨h', h0⟩
          omega
        obtain ⟨h3, h4⟩ := F.sg_mk q (n - 1) (by omega) h1
        have e3 : q * 2 ^ F.f + n - 1 = q * 2 ^ F.f + (n - 1) := by omega
        have e4 : 2 * (n - 1) + 1 = 2 * n - 1 := by omega
        unfold Up mid
        rw [e3, h3, h4, e4]
        rcases hd hn0 with h5 | ⟨h5, h6⟩
        · exact .inl h5
        · refine .inr ⟨h5, ?_⟩
          rw [← e3]; omega
    rcases Nat.lt_or_ge m (q * 2 ^ F.f + n - 1) with h1 | h1
    · have h2 := F.mid_lt h1
      rcases hlast with h3 | ⟨h3, _⟩ <;> exact .inl (by grind)
    · obtain rfl : m = q * 2 ^ F.f + n - 1 := by omega
      exact hlast
  refine ⟨Nat.min_le_left _ _, fun m hm => hbelow m (by omega), fun h => ?_⟩
  have hm : min F.inf (q * 2 ^ F.f + n) = q * 2 ^ F.f + n := by omega
  rw [hm]
  by_cases h1 : n < 2 ^ (F.f + 1)
  · obtain ⟨h3, h4⟩ := F.sg_mk q n h1 hl
    unfold Up mid
    rw [h3, h4, par]
    rintro (h5 | ⟨h5, h6⟩) <;> rcases hu with h7 | ⟨h7, h8⟩
    · grind
    · grind
    · grind
    · omega
  · have h1 : n = 2 ^ (F.f + 1) := by omega
    have e3 : q * 2 ^ F.f + n = (q + 1) * 2 ^ F.f + 2 ^ F.f := by rw [h1, Nat.pow_succ, Nat.add_mul]; omega
    obtain ⟨h3, h4⟩ := F.sg_mk (q + 1) (2 ^ F.f) (by rw [Nat.pow_succ]; omega) (fun _ => Nat.le_refl _)
    have h9 := F.lt_mid (q * 2 ^ F.f + n)
    have h10 : F.val (q * 2 ^ F.f + n) = tw (q + F.low + F.f + 1) := by
      unfold val
      rw [e3, h3, h4, ← tw_nat, ← tw_add]; congr 1; omega
    rintro (h5 | ⟨h5, h6⟩) <;> grind
end Fmt
end Flo
set_option linter.unusedVariables false
set_option linter.unusedSimpArgs false
namespace Flo
def rne (a b : Nat) : Nat := if b < 2 * (a % b) ∨ (2 * (a % b) = b ∧ a / b % 2 = 1) then a / b + 1 else a / b
theorem rne_lo (a b : Nat) (hb : 0 < b) (h : 0 < rne a b) : (2 * rne a b - 1) * b < 2 * a ∨ (2 * rne a b - 1) * b = 2 * a ∧ rne a b % 2 = 0 := by
  have h1 := Nat.div_add_mod a b
  have h2 := Nat.mod_lt a hb
  unfold rne at *
  generalize a / b = q at *
  generalize a % b = r at *
  subst h1
  have e1 : (2 * (q + 1) - 1) * b = 2 * (b * q) + b := by
    rw [show 2 * (q + 1) - 1 = 2 * q + 1 by omega, Nat.add_mul, Nat.one_mul, Nat.mul_assoc, Nat.mul_comm q b]
  have e2 : 0 < q → (2 * q - 1) * b + b = 2 * (b * q) := by
    intro h0
    rw [← Nat.succ_mul, show (2 * q - 1).succ = 2 * q by omega, Nat.mul_assoc, Nat.mul_comm q b]
  generalize b * q = t at *
  by_cases h3 : b < 2 * r ∨ 2 * r = b ∧ q % 2 = 1
  · rw [if_pos h3] at h ⊢
    rw [e1]
    omega
  · rw [if_neg h3] at h ⊢
    have := e2 h
    omega
theorem rne_hi (a b : Nat) (hb : 0 < b) : 2 * a < (2 * rne a b + 1) * b ∨ 2 * a = (2 * rne a b + 1) * b ∧ rne a b % 2 = 0 := by
  have h1 := Nat.div_add_mod a b
  have h2 := Nat.mod_lt a hb
  unfold rne
  generalize a / b = q at *
  generalize a % b = r at *
  subst h1
  have e1 : (2 * (q + 1) + 1) * b = 2 * (b * q) + 3 * b := by
    rw [show 2 * (q + 1) + 1 = 2 * q + 3 by omega, Nat.add_mul, Nat.mul_assoc, Nat.mul_comm q b]
  have e2 : (2 * q + 1) * b = 2 * (b * q) + b := by rw [Nat.add_mul, Nat.one_mul, Nat.mul_assoc, Nat.mul_comm q b]
  generalize b * q = t at *
  by_cases h3 : b < 2 * r ∨ 2 * r = b ∧ q % 2 = 1
  · rw [if_pos h3, e1]; omega
  · rw [if_neg h3, e2]; omega
theorem rne_exact (n b : Nat) (hb : 0 < b) : rne (n * b) b = n := by
  unfold rne
  rw [Nat.mul_mod_left, Nat.mul_div_cancel _ hb, if_neg (by omega)]
namespace Fmt
variable (F : Fmt)
theorem Rnd.near {A B q : Nat} (hB : 0 < B) {x : Rat} (hxe : x * (B : Rat) = (A : Rat) * tw (q + F.low)) (hx : x < tw (q + F.low + F.f + 1)) (hq : 0 < q → tw (q + F.low + F.f) ≤ x) :
    F.Rnd (F.Up x) (min F.inf (q * 2 ^ F.f + rne A B)) := by
  have T := tw_pos (q + F.low - 1)
  have hB' : (0 : Rat) < (B : Rat) := by exact_mod_cast hB
  have e := tw_pred (q + F.low)
  rw [e] at hxe
  refine Rnd.make F hx hq ?_ ?_
  · intro h
    have key := rne_lo A B hB h
    generalize 2 * rne A B - 1 = m at *
    rcases key with h1 | ⟨h1, h2⟩
    · left
      have h3 : ((m * B : Nat) : Rat) < ((2 * A : Nat) : Rat) := nat_lt.2 h1
      have h4 := mul_lt h3 T
      refine lt_of_mul (t := (B : Rat)) ?_ hB'
      push_cast at h4
      grind
    · right
      refine ⟨?_, h2⟩
      have h3 : ((m * B : Nat) : Rat) = ((2 * A : Nat) : Rat) := by exact_mod_cast h1
      push_cast at h3
      have h5 : ((m : Rat) * tw (q + F.low - 1)) * B = x * B := by grind
      have h6 : ¬ ((m : Rat) * tw (q + F.low - 1)) < x := fun h => by have := mul_lt h hB'; grind
      have h7 : ¬ x < ((m : Rat) * tw (q + F.low - 1)) := fun h => by have := mul_lt h hB'; grind
      grind
  · have key := rne_hi A B hB
    generalize 2 * rne A B + 1 = m at *
    rcases key with h1 | ⟨h1, h2⟩
    · left
      have h3 : ((2 * A : Nat) : Rat) < ((m * B : Nat) : Rat) := nat_lt.2 h1
      have h4 := mul_lt h3 T
      refine lt_of_mul (t := (B : Rat)) ?_ hB'
      push_cast at h4
      grind
    · right
      refine ⟨?_, h2⟩
      have h3 : ((2 * A : Nat) : Rat) = ((m * B : Nat) : Rat) := by exact_mod_cast h1
      push_cast at h3
      have h5 : ((m : Rat) * tw (q + F.low - 1)) * B = x * B := by grind
      have h6 : ¬ ((m : Rat) * tw (q + F.low - 1)) < x := fun h => by have := mul_lt h hB'; grind
      have h7 : ¬ x < ((m : Rat) * tw (q + F.low - 1)) := fun h => by have := mul_lt h hB'; grind
      grind
end Fmt
end Flo
set_option linter.unusedVariables false
set_option linter.unusedSimpArgs false
namespace Flo
namespace Fmt
variable (F : Fmt)
theorem make_bd {x : Rat} {q n : Nat} (hx : x < tw (q + F.low + F.f + 1)) (hq : 0 < q → tw (q + F.low + F.f) ≤ x)
    (hd : 0 < n → ((2 * n - 1 : Nat) : Rat) * tw (q + F.low - 1) < x ∨ ((2 * n - 1 : Nat) : Rat) * tw (q + F.low - 1) = x ∧ n % 2 = 0)
    (hu : x < ((2 * n + 1 : Nat) : Rat) * tw (q + F.low - 1) ∨ x = ((2 * n + 1 : Nat) : Rat) * tw (q + F.low - 1) ∧ n % 2 = 0) :
    n ≤ 2 ^ (F.f + 1) ∧ (0 < q → 2 ^ F.f ≤ n) := by
  have T := tw_pos (q + F.low - 1)
  have e1 : tw (q + F.low + F.f + 1) = ((2 ^ (F.f + 2) : Nat) : Rat) * tw (q + F.low - 1) := by
    rw [← tw_nat, ← tw_add]; congr 1; omega
  have e2 : tw (q + F.low + F.f) = ((2 ^ (F.f + 1) : Nat) : Rat) * tw (q + F.low - 1) := by
    rw [← tw_nat, ← tw_add]; congr 1; omega
  constructor
  · rcases Nat.eq_zero_or_pos n with h | h
    · rw [h]; exact Nat.zero_le _
    · have h1 : ((2 * n - 1 : Nat) : Rat) * tw (q + F.low - 1) < ((2 ^ (F.f + 2) : Nat) : Rat) * tw (q + F.low - 1) := by
        rw [← e1]
        rcases hd h with h | ⟨h, _⟩ <;> grind
      have h2 := nat_lt.1 (lt_of_mul h1 T)
      rw [Nat.pow_succ] at h2
      omega
  · intro h
    have h1 := hq h
    have h2 : ((2 ^ (F.f + 1) : Nat) : Rat) * tw (q + F.low - 1) ≤ ((2 * n + 1 : Nat) : Rat) * tw (q + F.low - 1) := by
      rw [← e2]
      rcases hu with h | ⟨h, _⟩ <;> grind
    have h3 := nat_le.1 (le_of_mul h2 T)
    rw [Nat.pow_succ] at h3
    omega
theorem near_lo {A B q : Nat} (hB : 0 < B) {x : Rat} (hxe : x * (B : Rat) = (A : Rat) * tw (q + F.low)) (h : 0 < rne A B) :
    ((2 * rne A B - 1 : Nat) : Rat) * tw (q + F.low - 1) < x ∨ ((2 * rne A B - 1 : Nat) : Rat) * tw (q + F.low - 1) = x ∧ rne A B % 2 = 0 := by
  have T := tw_pos (q + F.low - 1)
  have hB' : (0 : Rat) < (B : Rat) := by exact_mod_cast hB
  have e := tw_pred (q + F.low)
  rw [e] at hxe
  have key := rne_lo A B hB h
  generalize 2 * rne A B - 1 = m at *
  rcases key with h1 | ⟨h1, h2⟩
  · left
    have h3 : ((m * B : Nat) : Rat) < ((2 * A : Nat) : Rat) := nat_lt.2 h1
    have h4 := mul_lt h3 T
    refine lt_of_mul (t := (B : Rat)) ?_ hB'
    push_cast at h4
    grind
  · right
    refine ⟨?_, h2⟩
    have h3 : ((m * B : Nat) : Rat) = ((2 * A : Nat) : Rat) := by exact_mod_cast h1
    push_cast at h3
    have h5 : ((m : Rat) * tw (q + F.low - 1)) * B = x * B := by generalize tw (q + F.low - 1) = t at *; grind
    have h6 : ¬ ((m : Rat) * tw (q + F.low - 1)) < x := fun h => by have := mul_lt h hB'; grind
    have h7 : ¬ x < ((m : Rat) * tw (q + F.low - 1)) := fun h => by have := mul_lt h hB'; grind
    grind
theorem near_hi {A B q : Nat} (hB : 0 < B) {x : Rat} (hxe : x * (B : Rat) = (A : Rat) * tw (q + F.low)) :
    x < ((2 * rne A B + 1 : Nat) : Rat) * tw (q + F.low - 1) ∨ x = ((2 * rne A B + 1 : Nat) : Rat) * tw (q + F.low - 1) ∧ rne A B % 2 = 0 := by
  have T := tw_pos (q + F.low - 1)
  have hB' : (0 : Rat) < (B : Rat) := by exact_mod_cast hB
  have e := tw_pred (q + F.low)
  rw [e] at hxe
  have key := rne_hi A B hB
  generalize 2 * rne A B + 1 = m at *
  rcases key with h1 | ⟨h1, h2⟩
  · left
    have h3 : ((2 * A : Nat) : Rat) < ((m * B : Nat) : Rat) := nat_lt.2 h1
    have h4 := mul_lt h3 T
    refine lt_of_mul (t := (B : Rat)) ?_ hB'
    push_cast at h4
    grind
  · right
    refine ⟨?_, h2⟩
    have h3 : ((2 * A : Nat) : Rat) = ((m * B : Nat) : Rat) := by exact_mod_cast h1
    push_cast at h3
    have h5 : ((m : Rat) * tw (q + F.low - 1)) * B = x * B := by generalize tw (q + F.low - 1) = t at *; grind
    have h6 : ¬ ((m : Rat) * tw (q + F.low - 1)) < x := fun h => by have := mul_lt h hB'; grind
    have h7 : ¬ x < ((m : Rat) * tw (q + F.low - 1)) := fun h => by have := mul_lt h hB'; grind
    grind
def fin (q n : Nat) : Nat :=
  if n = 2 ^ (F.f + 1) then (if F.top < q + 3 then F.inf else (q + 2) * 2 ^ F.f)
  else if F.top < q + 2 then F.inf else if n < 2 ^ F.f then n else (q + 1) * 2 ^ F.f + (n - 2 ^ F.f)
theorem fin_eq {q n : Nat} (hn : n ≤ 2 ^ (F.f + 1)) (hl : 0 < q → 2 ^ F.f ≤ n) : F.fin q n = min F.inf (q * 2 ^ F.f + n) := by
  have hp := F.pow_pos
  have ht := F.ht
  unfold fin inf
  rw [Nat.pow_succ] at hn ⊢
  have m1 : ∀ a b : Nat, a ≤ b → a * 2 ^ F.f ≤ b * 2 ^ F.f := fun a b h => Nat.mul_le_mul_right _ h
  have e2 : (q + 2) * 2 ^ F.f = q * 2 ^ F.f + 2 ^ F.f * 2 := by rw [Nat.add_mul, Nat.mul_comm 2]
  have e1 : (q + 1) * 2 ^ F.f = q * 2 ^ F.f + 2 ^ F.f := by rw [Nat.add_mul, Nat.one_mul]
  by_cases h : n = 2 ^ F.f * 2
  · rw [if_pos h, h, ← e2]
    split
    · rename_i h2
      have := m1 F.top (q + 2) (by omega)
      omega
    · rename_i h2
      have := m1 (q + 2) F.top (by omega)
      omega
  · rw [if_neg h]
    by_cases h3 : n < 2 ^ F.f
    · have hq : q = 0 := by
        rcases Nat.eq_zero_or_pos q with h4 | h4
        · exact h4
        · have := hl h4; omega
      subst hq
      have := m1 1 F.top (by omega)
      rw [if_neg (by omega), if_pos h3]
      omega
    · split
      · have := m1 F.top (q + 1) (by omega)
        omega
      · have := m1 (q + 2) F.top (by omega)
        omega
end Fmt
end Flo
set_option linter.unusedVariables false
set_option linter.unusedSimpArgs false
namespace Flo
theorem rne_bits (S j m : Nat) (hm : m ≤ 1) :
    rne (2 * S + m) (2 ^ (j + 2)) = if S / 2 ^ j % 2 = 1 ∧ (S % 2 ^ j ≠ 0 ∨ m = 1 ∨ S / 2 ^ j / 2 % 2 = 1) then S / 2 ^ j / 2 + 1 else S / 2 ^ j / 2 := by
  have hp : 0 < 2 ^ j := Nat.pow_pos (by decide)
  have h0 := Nat.div_add_mod S (2 ^ j)
  have h1 := Nat.mod_lt S hp
  generalize S / 2 ^ j = c at *
  generalize S % 2 ^ j = l at *
  generalize hP : 2 ^ j = P at *
  have e4 : 2 ^ (j + 2) = 4 * P := by rw [Nat.pow_add, hP, Nat.mul_comm]
  rw [e4]
  have hc := Nat.div_add_mod c 2
  have hc2 := Nat.mod_lt c (show 0 < 2 by decide)
  generalize c / 2 = n at *
  generalize c % 2 = h at *
  have eP : P * c = P * (2 * n) + P * h := by rw [← Nat.mul_add, hc]
  have e2 : P * (2 * n) = 2 * (P * n) := by rw [Nat.mul_left_comm]
  have e5 : 4 * P * n = 4 * (P * n) := Nat.mul_assoc ..
  have hPh : P * h = if h = 1 then P else 0 := by
    rcases (show h = 0 ∨ h = 1 by omega) with h3 | h3 <;> subst h3 <;> simp
  have hd : (2 * S + m) / (4 * P) = n := by
    rw [Nat.div_eq_iff (by omega)]
    rw [Nat.mul_comm n]
    split at hPh <;> omega
  have hr : (2 * S + m) % (4 * P) = 2 * (P * h) + 2 * l + m := by
    have := Nat.div_add_mod (2 * S + m) (4 * P)
    rw [hd, e5] at this
    omega
  unfold rne
  rw [hd, hr]
  have hmod : n % 2 < 2 := Nat.mod_lt _ (by decide)
  rcases (show h = 0 ∨ h = 1 by omega) with h3 | h3
  · subst h3
    rw [if_neg (by rw [Nat.mul_zero]; omega), if_neg (by omega)]
  · subst h3
    rw [Nat.mul_one]
    by_cases h4 : l ≠ 0 ∨ m = 1 ∨ n % 2 = 1
    · rw [if_pos (show 4 * P < 2 * (2 * P + 2 * l + m) ∨ 2 * (2 * P + 2 * l + m) = 4 * P ∧ n % 2 = 1 by omega), if_pos ⟨rfl, h4⟩]
    · rw [if_neg (show ¬ (4 * P < 2 * (2 * P + 2 * l + m) ∨ 2 * (2 * P + 2 * l + m) = 4 * P ∧ n % 2 = 1) by omega), if_neg (fun h => h4 h.2)]
namespace Fmt
variable (F : Fmt)
theorem Rnd.congr {U V : Nat → Prop} {r : Nat} (h : F.Rnd U r) (i : ∀ m, U m ↔ V m) : F.Rnd V r := ⟨h.1, fun m hm => (i m).1 (h.2.1 m hm), fun hr u => h.2.2 hr ((i r).2 u)⟩
theorem Rnd.pack_dn {S la j m : Nat} {e : Int} {q : Nat} (hm : m ≤ 1) (h1 : 2 ^ la ≤ 2 * S) (h2 : S < 2 ^ la) (hj : ((j + 1 : Nat) : Int) = max ((la : Int) - F.f - 1) (F.low - e)) (hq : (q : Int) = e + (j + 1 : Nat) - F.low) :
    F.Rnd (F.Up (((2 * S + m : Nat) : Rat) * tw (e - 1))) (F.fin q (rne (2 * S + m) (2 ^ (j + 2)))) ∧ rne (2 * S + m) (2 ^ (j + 2)) ≤ 2 ^ (F.f + 1) ∧ (0 < q → 2 ^ F.f ≤ rne (2 * S + m) (2 ^ (j + 2))) := by
  have hB : 0 < 2 ^ (j + 2) := Nat.pow_pos (by decide)
  have T := tw_pos (e - 1)
  have hxe : ((2 * S + m : Nat) : Rat) * tw (e - 1) * ((2 ^ (j + 2) : Nat) : Rat) = ((2 * S + m : Nat) : Rat) * tw (q + F.low) := by
    rw [← tw_nat, Rat.mul_assoc, ← tw_add]; congr 2; omega
  have hx : ((2 * S + m : Nat) : Rat) * tw (e - 1) < tw (q + F.low + F.f + 1) := by
    have h3 : ((2 * S + m : Nat) : Rat) < ((2 ^ (la + 1) : Nat) : Rat) := nat_lt.2 (by rw [Nat.pow_succ]; omega)
    have h4 := mul_lt h3 T
    rw [← tw_nat, ← tw_add] at h4
    have h5 : tw ((la + 1 : Nat) + (e - 1)) ≤ tw (q + F.low + F.f + 1) := tw_le (by omega)
    grind
  have hl : 0 < q → tw (q + F.low + F.f) ≤ ((2 * S + m : Nat) : Rat) * tw (e - 1) := by
    intro h
    have h3 : ((2 ^ la : Nat) : Rat) ≤ ((2 * S + m : Nat) : Rat) := nat_le.2 (by omega)
    have h4 := mul_le h3 T
    rw [← tw_nat, ← tw_add] at h4
    have h5 : tw (q + F.low + F.f) ≤ tw (la + (e - 1)) := tw_le (by omega)
    grind
  have bd := F.make_bd hx hl (fun h => F.near_lo hB hxe h) (F.near_hi hB hxe)
  refine ⟨?_, bd⟩
  rw [F.fin_eq bd.1 bd.2]
  exact Rnd.near F hB hxe hx hl
theorem Rnd.pack_up {S la u : Nat} {e : Int} {q : Nat} (h1 : 2 ^ la ≤ 2 * S) (h2 : S < 2 ^ la) (hla : la ≤ F.f + 1) (he : F.low ≤ e) (hu : (u : Int) = min ((F.f : Int) + 1 - la) (e - F.low)) (hq : (q : Int) = e - u - F.low) :
    F.Rnd (F.Up ((S : Rat) * tw e)) (F.fin q (S * 2 ^ u)) ∧ S * 2 ^ u ≤ 2 ^ (F.f + 1) ∧ (0 < q → 2 ^ F.f ≤ S * 2 ^ u) := by
  have T := tw_pos e
  have e0 : rne (S * 2 ^ u) 1 = S * 2 ^ u := by have := rne_exact (S * 2 ^ u) 1 (by decide); rwa [Nat.mul_one] at this
  have hxe : (S : Rat) * tw e * ((1 : Nat) : Rat) = ((S * 2 ^ u : Nat) : Rat) * tw (q + F.low) := by
    rw [tw_sub_nat e (q + F.low) (by omega), show (e - (q + F.low)).toNat = u by omega]
    push_cast
    grind
  have hx : (S : Rat) * tw e < tw (q + F.low + F.f + 1) := by
    have h3 : (S : Rat) < ((2 ^ la : Nat) : Rat) := nat_lt.2 h2
    have h4 := mul_lt h3 T
    rw [← tw_nat, ← tw_add] at h4
    have h5 : tw (la + e) ≤ tw (q + F.low + F.f + 1) := tw_le (by omega)
    grind
  have hl : 0 < q → tw (q + F.low + F.f) ≤ (S : Rat) * tw e := by
    intro h
    have h3 : ((2 ^ la : Nat) : Rat) ≤ ((2 * S : Nat) : Rat) := nat_le.2 h1
    have h4 := mul_le h3 (tw_pos (e - 1))
    rw [← tw_nat, ← tw_add] at h4
    have h5 : tw (q + F.low + F.f) ≤ tw (la + (e - 1)) := tw_le (by omega)
    have h6 := tw_pred e
    push_cast at h4
    rw [h6]
    generalize tw (e - 1) = t at *
    grind
  have hB : 0 < 1 := by decide
  have bd := F.make_bd hx hl (fun h => F.near_lo hB hxe h) (F.near_hi hB hxe)
  have R := Rnd.near F hB hxe hx hl
  rw [e0] at bd R
  refine ⟨?_, bd⟩
  rw [F.fin_eq bd.1 bd.2]
  exact R
end Fmt
end Flo
namespace Bit
theorem or_pow (x c k : Nat) (hx : x < 2 ^ k) : x ||| c * 2 ^ k = x + c * 2 ^ k := by
  rw [Nat.mul_comm, Nat.or_comm, ← Nat.two_pow_add_eq_or_of_lt hx, Nat.add_comm]
theorem and_low (a k : Nat) : a &&& (2 ^ k - 1) = a % 2 ^ k := Nat.and_two_pow_sub_one_eq_mod a k
end Bit
section
set_option linter.unusedVariables false
set_option linter.unusedSimpArgs false
namespace Go.Proofs.YtnmlmgmljoncoaaGreatDoor.Th
open Go.RowKit Go.Proofs.YtnmlmgmljoncoaaGreatDoorW.PrintWords Go.Proofs.YtnmlmgmljoncoaaGreatDoorW.PrintLast Go.Proofs.YtnmlmgmljoncoaaGreatDoorW.PrintMore Go.Proofs.YtnmlmgmljoncoaaGreatDoor.PA Bit
def sb (w : Int) : Nat := if w = 32 then 2147483648 else 9223372036854775808
def sgB (w : Int) (a : Nat) : Bool := decide (a / sb w % 2 = 1)
def mkN (w : Int) (m : Nat) (s : Bool) : Nat := m + if s then sb w else 0
theorem sg_mk (w : Int) (hw : w = 32 ∨ w = 64) (m : Nat) (s : Bool) (h : m < sb w) : sgB w (mkN w m s) = s := by
  unfold sgB mkN; revert h; unfold sb; rcases hw with rfl | rfl <;> cases s <;> simp <;> omega
theorem Ev.pos {α : Type} {c : Prop} [Decidable c] {f g : Nat → Option α} {r : α} (h : c) (k : Ev f r) : Ev (fun n => if c then f n else g n) r := Ev.congr (fun _ => if_pos h) k
theorem Ev.neg {α : Type} {c : Prop} [Decidable c] {f g : Nat → Option α} {r : α} (h : ¬ c) (k : Ev g r) : Ev (fun n => if c then f n else g n) r := Ev.congr (fun _ => if_neg h) k
theorem Ev.bs {α β : Type} {g : Option α} {a : α} {f : Nat → α → Option β} {r : β} (h : g = some a) (k : Ev (fun n => f n a) r) : Ev (fun n => g.bind (f n)) r := by subst h; exact k
theorem Ev.out {α : Type} {r s : α} (h : r = s) : Ev (fun _ => some r) s := by subst h; exact Ev.now _
theorem u64_id {n : Int} (h : 0 ≤ n) (h2 : n < 18446744073709551616) : IntKind.u64.wrap n = n := by rw [IntKind.wrap_u64]; omega
theorem w64_id {n : Int} (h : -9223372036854775808 ≤ n) (h2 : n < 9223372036854775808) : wrap64 n = n := by unfold wrap64; omega
end Go.Proofs.YtnmlmgmljoncoaaGreatDoor.Th
end
namespace Dig
def valB (B : Nat) : List Int → Nat
  | [] => 0
  | d :: l => d.toNat + B * valB B l
def OkB (B : Nat) (l : List Int) : Prop := ∀ d ∈ l, 0 ≤ d ∧ d < B
section
variable {B : Nat}
theorem OkB.nil : OkB B [] := fun _ h => by cases h
theorem OkB.cons {d : Int} {l : List Int} (h : 0 ≤ d ∧ d < B) (k : OkB B l) : OkB B (d :: l) := fun x hx => by
  rcases List.mem_cons.1 hx with rfl | hx
  · exact h
  · exact k x hx
theorem OkB.head {d : Int} {l : List Int} (k : OkB B (d :: l)) : 0 ≤ d ∧ d < B := k d List.mem_cons_self
theorem OkB.take {l : List Int} (k : OkB B l) (i : Nat) : OkB B (l.take i) := fun x hx => k x (List.mem_of_mem_take hx)
end
theorem W2 : 2 ≤ 4294967296 := by decide
def val (l : List Int) : Nat := valB 4294967296 l
def Ok (l : List Int) : Prop := ∀ d ∈ l, 0 ≤ d ∧ d < 4294967296
theorem Ok.up {l : List Int} (h : Ok l) : OkB 4294967296 l := h
theorem Ok.nil : Ok [] := fun _ h => by cases h
theorem Ok.cons {d : Int} {l : List Int} (h : 0 ≤ d ∧ d < 4294967296) (k : Ok l) : Ok (d :: l) := OkB.cons (B := 4294967296) h k
theorem Ok.take {l : List Int} (k : Ok l) (i : Nat) : Ok (l.take i) := OkB.take (B := 4294967296) k i
end Dig
section
set_option linter.unusedVariables false
set_option linter.unusedSimpArgs false
namespace Go.Proofs.YtnmlmgmljoncoaaGreatDoor.Th
open Go.RowKit Go.Proofs.YtnmlmgmljoncoaaGreatDoorW.PrintWords Go.Proofs.YtnmlmgmljoncoaaGreatDoorW.PrintLast Go.Proofs.YtnmlmgmljoncoaaGreatDoorW.PrintMore Go.Proofs.YtnmlmgmljoncoaaGreatDoor.PA Dig

def bl (n : Nat) : Nat := if n = 0 then 0 else n.log2 + 1
theorem bl_zero : bl 0 = 0 := rfl
theorem bl_half {n : Nat} (h : 0 < n) : bl n = bl (n / 2) + 1 := by
  unfold bl
  rw [if_neg (by omega)]
  by_cases h2 : n < 2
  · obtain rfl : n = 1 := by omega
    rfl
  · rw [if_neg (by omega), Nat.log2_def, if_pos (by omega)]
theorem bl_le {n k : Nat} : bl n ≤ k ↔ n < 2 ^ k := by
  unfold bl
  split
  · subst_vars; simp [Nat.pow_pos]
  · rw [← Nat.log2_lt ‹_›]; omega
theorem lt_bl {n k : Nat} : k < bl n ↔ 2 ^ k ≤ n := by
  have := @bl_le n k; omega
theorem bl_shift (n k : Nat) (h : 0 < n) : bl (n * 2 ^ k) = bl n + k := by
  refine Nat.le_antisymm ?_ ?_
  · rw [bl_le, Nat.pow_add]
    exact Nat.mul_lt_mul_of_pos_right (bl_le.1 (Nat.le_refl _)) (Nat.pow_pos (by decide))
  · have h1 : 2 ^ (bl n - 1) ≤ n := lt_bl.1 (by have := (lt_bl (n := n) (k := 0)).2 (by rw [Nat.pow_zero]; omega); omega)
    have h0 : 0 < bl n := (lt_bl (n := n) (k := 0)).2 (by rw [Nat.pow_zero]; omega)
    have h2 : bl n + k - 1 < bl (n * 2 ^ k) := by
      rw [lt_bl, show bl n + k - 1 = (bl n - 1) + k by omega, Nat.pow_add]
      exact Nat.mul_le_mul_right _ h1
    omega
theorem bl_add_low (a b k : Nat) (ha : 0 < a) (hb : b < 2 ^ k) : bl (a * 2 ^ k + b) = bl a + k := by
  refine Nat.le_antisymm ?_ ?_
  · rw [bl_le, Nat.pow_add]
    have h1 : a + 1 ≤ 2 ^ bl a := bl_le.1 (Nat.le_refl _)
    have h2 := Nat.mul_le_mul_right (2 ^ k) h1
    rw [Nat.add_mul] at h2
    omega
  · rw [← bl_shift a k ha]
    have h0 : 0 < bl (a * 2 ^ k) := (lt_bl (n := a * 2 ^ k) (k := 0)).2 (by rw [Nat.pow_zero]; exact Nat.mul_pos ha (Nat.pow_pos (by decide)))
    have h1 : bl (a * 2 ^ k) - 1 < bl (a * 2 ^ k + b) := by
      rw [lt_bl]
      have : 2 ^ (bl (a * 2 ^ k) - 1) ≤ a * 2 ^ k := lt_bl.1 (by omega)
      omega
    omega
theorem lt_two_bl (n : Nat) : n < 2 ^ bl n := bl_le.1 (Nat.le_refl _)
theorem bl_pos {n : Nat} : 0 < bl n ↔ 0 < n := by
  have := (lt_bl (n := n) (k := 0)); rw [Nat.pow_zero] at this; omega
theorem two_bl_le {n : Nat} (h : 0 < n) : 2 ^ (bl n - 1) ≤ n := lt_bl.1 (by have := bl_pos.2 h; omega)
theorem bl64 {n : Nat} (h : n < 18446744073709551616) : bl n ≤ 64 := bl_le.2 h

end Go.Proofs.YtnmlmgmljoncoaaGreatDoor.Th
end
section
set_option linter.unusedVariables false
set_option linter.unusedSimpArgs false
namespace Go.Proofs.YtnmlmgmljoncoaaGreatDoor.Th
open Flo
def pkc (F : Fmt) (S : Nat) (e : Int) (m : Nat) : Nat :=
  if (bl S : Int) - F.f - 1 ≤ 0 ∧ F.low - e ≤ 0 then F.fin (e - (min ((F.f : Int) + 1 - bl S) (e - F.low)).toNat - F.low).toNat (S * 2 ^ (min ((F.f : Int) + 1 - bl S) (e - F.low)).toNat)
  else F.fin (e + max ((bl S : Int) - F.f - 1) (F.low - e) - F.low).toNat (rne (2 * S + m) (2 ^ ((max ((bl S : Int) - F.f - 1) (F.low - e)).toNat + 1)))
def pkm (F : Fmt) (S : Nat) (e : Int) (m : Bool) : Nat :=
  if S = 0 ∧ m = false then 0 else if 1048576 < e then F.inf else if e < -1048576 then 0 else
  if m = true ∧ bl S < 127 then pkc F (2 * S + 1) (e - 1) 0 else pkc F S e (if m then 1 else 0)
theorem dbl (S : Nat) (e : Int) : ((2 * S + 0 : Nat) : Rat) * tw (e - 1) = (S : Rat) * tw e := by
  rw [tw_pred e]; push_cast; grind
theorem pkc_dn (F : Fmt) {S m : Nat} {e : Int} (hm : m ≤ 1) (hS : 0 < S) (h : ¬ ((bl S : Int) - F.f - 1 ≤ 0 ∧ F.low - e ≤ 0)) :
    ∃ q n j : Nat, (j : Int) + 1 = max ((bl S : Int) - F.f - 1) (F.low - e) ∧ (q : Int) = e + (j + 1 : Nat) - F.low ∧ n = rne (2 * S + m) (2 ^ (j + 2)) ∧ pkc F S e m = F.fin q n ∧
    F.Rnd (F.Up (((2 * S + m : Nat) : Rat) * tw (e - 1))) (F.fin q n) ∧ n ≤ 2 ^ (F.f + 1) ∧ (0 < q → 2 ^ F.f ≤ n) := by
  have h1 := two_bl_le hS
  have h2 := lt_two_bl S
  have h0 := bl_pos.2 hS
  have h3 : 2 ^ bl S ≤ 2 * S := by
    have : 2 ^ bl S = 2 ^ (bl S - 1) * 2 := by rw [← Nat.pow_succ]; congr 1; omega
    omega
  obtain ⟨j, hj⟩ : ∃ j : Nat, (j : Int) + 1 = max ((bl S : Int) - F.f - 1) (F.low - e) := ⟨(max ((bl S : Int) - F.f - 1) (F.low - e) - 1).toNat, by omega⟩
  obtain ⟨q, hq⟩ : ∃ q : Nat, (q : Int) = e + (j + 1 : Nat) - F.low := ⟨(e + (j + 1 : Nat) - F.low).toNat, by omega⟩
  have P := Fmt.Rnd.pack_dn F (S := S) (la := bl S) (j := j) (m := m) (e := e) (q := q) hm h3 h2 (by omega) hq
  refine ⟨q, _, j, hj, hq, rfl, ?_, P.1, P.2.1, P.2.2⟩
  unfold pkc
  rw [if_neg h, ← hj, show ((j : Int) + 1).toNat + 1 = j + 2 by omega, show (e + ((j : Int) + 1) - F.low).toNat = q by omega]
theorem pkc_up (F : Fmt) {S : Nat} {e : Int} (hS : 0 < S) (h : (bl S : Int) - F.f - 1 ≤ 0 ∧ F.low - e ≤ 0) :
    ∃ q u : Nat, (u : Int) = min ((F.f : Int) + 1 - bl S) (e - F.low) ∧ (q : Int) = e - u - F.low ∧ pkc F S e 0 = F.fin q (S * 2 ^ u) ∧
    F.Rnd (F.Up (((2 * S + 0 : Nat) : Rat) * tw (e - 1))) (F.fin q (S * 2 ^ u)) ∧ S * 2 ^ u ≤ 2 ^ (F.f + 1) ∧ (0 < q → 2 ^ F.f ≤ S * 2 ^ u) := by
  have h1 := two_bl_le hS
  have h2 := lt_two_bl S
  have h0 := bl_pos.2 hS
  have h3 : 2 ^ bl S ≤ 2 * S := by
    have : 2 ^ bl S = 2 ^ (bl S - 1) * 2 := by rw [← Nat.pow_succ]; congr 1; omega
    omega
  obtain ⟨u, hu⟩ : ∃ u : Nat, (u : Int) = min ((F.f : Int) + 1 - bl S) (e - F.low) := ⟨(min ((F.f : Int) + 1 - bl S) (e - F.low)).toNat, by omega⟩
  obtain ⟨q, hq⟩ : ∃ q : Nat, (q : Int) = e - u - F.low := ⟨(e - u - F.low).toNat, by omega⟩
  have P := Fmt.Rnd.pack_up F (S := S) (la := bl S) (e := e) (u := u) (q := q) h3 h2 (by omega) (by omega) hu hq
  refine ⟨q, u, hu, hq, ?_, by rw [dbl]; exact P.1, P.2.1, P.2.2⟩
  unfold pkc
  rw [if_pos h, ← hu, show ((u : Nat) : Int).toNat = u by omega, show (e - (u : Int) - F.low).toNat = q by omega]
end Go.Proofs.YtnmlmgmljoncoaaGreatDoor.Th
end
section
set_option linter.unusedVariables false
set_option linter.unusedSimpArgs false
namespace Go.Proofs.YtnmlmgmljoncoaaGreatDoor.Th
open Go.RowKit Go.Proofs.YtnmlmgmljoncoaaGreatDoorW.PrintWords Go.Proofs.YtnmlmgmljoncoaaGreatDoorW.PrintLast Go.Proofs.YtnmlmgmljoncoaaGreatDoorW.PrintMore Go.Proofs.YtnmlmgmljoncoaaGreatDoor.PA Bit Flo
def f32 : Fmt := ⟨23, -149, 255, by decide, by decide⟩
def f64 : Fmt := ⟨52, -1074, 2047, by decide, by decide⟩
def fmt (w : Int) : Fmt := if w = 32 then f32 else f64
theorem ones32 : shape_format_ones.f 8 23 = some 255 := by decide +kernel
theorem low32 : shape_format_low.f 8 23 = some (-149) := by decide +kernel
theorem inf32 : f32.inf = 2139095040 := by decide
theorem sg32 (m : Nat) : f32.sg m = if m < 8388608 then m else 8388608 + m % 8388608 := by
  unfold Fmt.sg; rw [show (2 : Nat) ^ f32.f = 8388608 by decide]
theorem ex32 (m : Nat) : f32.ex m = if m < 8388608 then (-149 : Int) else ((m / 8388608 : Nat) : Int) - 1 + (-149) := by
  unfold Fmt.ex; rw [show (2 : Nat) ^ f32.f = 8388608 by decide]; rfl
theorem ones64 : shape_format_ones.f 11 52 = some 2047 := by decide +kernel
theorem low64 : shape_format_low.f 11 52 = some (-1074) := by decide +kernel
theorem inf64 : f64.inf = 9218868437227405312 := by decide
theorem sg64 (m : Nat) : f64.sg m = if m < 4503599627370496 then m else 4503599627370496 + m % 4503599627370496 := by
  unfold Fmt.sg; rw [show (2 : Nat) ^ f64.f = 4503599627370496 by decide]
theorem ex64 (m : Nat) : f64.ex m = if m < 4503599627370496 then (-1074 : Int) else ((m / 4503599627370496 : Nat) : Int) - 1 + (-1074) := by
  unfold Fmt.ex; rw [show (2 : Nat) ^ f64.f = 4503599627370496 by decide]; rfl
theorem join32 (s : Bool) (e fr : Nat) (he : e ≤ 255) (hf : fr < 8388608) : shape_format_join.f 8 23 s e fr = some ((mkN 32 (e * 8388608 + fr) s : Nat) : Int) := by
  unfold shape_format_join.f
  have hs : shape_format_sign.f 8 23 s = some ((((if s then 1 else 0) * 2 ^ 31 : Nat) : Int)) := by cases s <;> decide +kernel
  rw [hs, Option.bind_some, if_pos (by decide)]
  have e1 : shl .u64 (e : Int) 23 = ((e * 8388608 : Nat) : Int) := by
    unfold shl; rw [show min (23 : Int).toNat IntKind.u64.bits = 23 by decide, show (2 : Int) ^ 23 = 8388608 by decide, IntKind.wrap_u64]; omega
  rw [e1]
  have hc : (if s then 1 else 0) ≤ 1 := by cases s <;> decide
  have h2 : mkN 32 (e * 8388608 + fr) s = e * 8388608 + fr + (if s then 1 else 0) * 2147483648 := by
    unfold mkN; rw [show sb 32 = 2147483648 by decide]; cases s <;> simp
  rw [h2]
  generalize (if s then 1 else 0) = c at *
  rw [show (2 : Nat) ^ 31 = 2147483648 by decide, u64_or_nat _ _ (by omega) (by omega)]
  have h3 := or_pow (e * 8388608) c 31 (by rw [show (2 : Nat) ^ 31 = 2147483648 by decide]; omega)
  rw [show (2 : Nat) ^ 31 = 2147483648 by decide, Nat.or_comm] at h3
  rw [h3, u64_or_nat _ _ (by omega) (by omega)]
  have h4 := or_pow fr (e + c * 256) 23 (by rw [show (2 : Nat) ^ 23 = 8388608 by decide]; exact hf)
  rw [show (2 : Nat) ^ 23 = 8388608 by decide, Nat.or_comm, show (e + c * 256) * 8388608 = e * 8388608 + c * 2147483648 by omega] at h4
  rw [h4]
  congr 2
  omega
theorem shInf32 (s : Bool) : shape_Inf.f 32 s = some ((mkN 32 f32.inf s : Nat) : Int) := by
  unfold shape_Inf.f
  rw [show shape_of.f 32 = some (8, 23, true) by decide, Option.bind_some, if_pos rfl, ones32, Option.bind_some]
  have e2 := join32 s 255 0 (by decide) (by decide)
  simp only
  rw [show (255 : Int) = ((255 : Nat) : Int) from rfl, show (0 : Int) = ((0 : Nat) : Int) from rfl, e2, Option.bind_some, inf32]
theorem shZero32 (s : Bool) : shape_Zero.f 32 s = some ((mkN 32 0 s : Nat) : Int) := by
  cases s <;> decide +kernel
theorem fin32 (s : Bool) (kd : Int) (m : Nat) (h0 : 0 < m) (hm : m < f32.inf) : Ev (fun k => shape_format_finite.f k 8 23 s kd (f32.ex m) (f32.sg m : Nat)) (((mkN 32 m s : Nat) : Int), true) := by
  rw [inf32] at hm
  rw [sg32, ex32]
  unfold shape_format_finite.f
  have e2 : shl .u64 2 23 = ((16777216 : Nat) : Int) := by decide +kernel
  have e3 : shl .u64 1 23 = ((8388608 : Nat) : Int) := by decide +kernel
  have e4 : IntKind.u64.wrap (((8388608 : Nat) : Int) - 1) = ((8388607 : Nat) : Int) := by decide +kernel
  have hmod : m % 8388608 < 8388608 := Nat.mod_lt _ (by decide)
  refine Ev.bs low32 ?_
  by_cases h1 : m < 8388608
  · rw [if_pos h1, if_pos h1]
    refine Ev.neg (by omega) (Ev.pos (by decide) (Ev.neg (by rw [e2]; omega) ?_))
    refine Ev.step (fun _ => shape_format_finite.j0.eq_2 ..) ?_
    refine Ev.neg (by simp) (Ev.pos (by decide) (Ev.pos (by rw [e3]; omega) ?_))
    have h2 := join32 s 0 m (by decide) h1
    rw [Nat.zero_mul, Nat.zero_add] at h2
    exact Ev.bs h2 (Ev.out (by simp))
  · rw [if_neg h1, if_neg h1]
    refine Ev.neg (by omega) (Ev.pos (by decide) (Ev.neg (by rw [e2]; omega) ?_))
    refine Ev.step (fun _ => shape_format_finite.j0.eq_2 ..) ?_
    refine Ev.neg (by simp; omega) (Ev.pos (by decide) (Ev.neg (by rw [e3]; omega) (Ev.bs ones32 ?_)))
    have hq : m / 8388608 ≤ 254 := by omega
    have hq0 : 1 ≤ m / 8388608 := by omega
    have hmm : m = m / 8388608 * 8388608 + m % 8388608 := by omega
    have h2 := join32 s (m / 8388608) (m % 8388608) (by omega) hmod
    rw [← hmm] at h2
    generalize m / 8388608 = e at *
    generalize m % 8388608 = fr at *
    rw [show ((e : Nat) : Int) - 1 + (-149) - (-149) = ((e - 1 : Nat) : Int) by omega, w64_id (n := ((e - 1 : Nat) : Int)) (by omega) (by omega), w64_id (n := (255 : Int)) (by decide) (by decide), show wrap64 ((255 : Int) - 2) = 253 by decide +kernel]
    refine Ev.neg (by omega) ?_
    rw [u64_id (n := ((e - 1 : Nat) : Int)) (by omega) (by omega), u64_id (n := ((e - 1 : Nat) : Int) + 1) (by omega) (by omega), show ((e - 1 : Nat) : Int) + 1 = (e : Int) by omega, e3, e4, u64_and_nat _ _ (by omega) (by decide)]
    have h5 := and_low (8388608 + fr) 23
    rw [show (2 : Nat) ^ 23 - 1 = 8388607 by decide, show (2 : Nat) ^ 23 = 8388608 by decide] at h5
    rw [h5, show (8388608 + fr) % 8388608 = fr by omega]
    exact Ev.bs h2 (Ev.out rfl)
theorem close32 (s : Bool) (m : Nat) (h0 : 0 < m) (hm : m < f32.inf) : Ev (fun k => shape_Close.f k 32 s 1 (f32.ex m) (f32.sg m : Nat)) (((mkN 32 m s : Nat) : Int), 0) := by
  unfold shape_Close.f
  refine Ev.bs (show shape_of.f 32 = some (8, 23, true) by decide) (Ev.pos rfl (Ev.pos rfl (Ev.bind (fin32 s 1 m h0 hm) (Ev.pos rfl (Ev.out rfl)))))
theorem join64 (s : Bool) (e fr : Nat) (he : e ≤ 2047) (hf : fr < 4503599627370496) : shape_format_join.f 11 52 s e fr = some ((mkN 64 (e * 4503599627370496 + fr) s : Nat) : Int) := by
  unfold shape_format_join.f
  have hs : shape_format_sign.f 11 52 s = some ((((if s then 1 else 0) * 2 ^ 63 : Nat) : Int)) := by cases s <;> decide +kernel
  rw [hs, Option.bind_some, if_pos (by decide)]
  have e1 : shl .u64 (e : Int) 52 = ((e * 4503599627370496 : Nat) : Int) := by
    unfold shl; rw [show min (52 : Int).toNat IntKind.u64.bits = 52 by decide, show (2 : Int) ^ 52 = 4503599627370496 by decide, IntKind.wrap_u64]; omega
  rw [e1]
  have hc : (if s then 1 else 0) ≤ 1 := by cases s <;> decide
  have h2 : mkN 64 (e * 4503599627370496 + fr) s = e * 4503599627370496 + fr + (if s then 1 else 0) * 9223372036854775808 := by
    unfold mkN; rw [show sb 64 = 9223372036854775808 by decide]; cases s <;> simp
  rw [h2]
  generalize (if s then 1 else 0) = c at *
  rw [show (2 : Nat) ^ 63 = 9223372036854775808 by decide, u64_or_nat _ _ (by omega) (by omega)]
  have h3 := or_pow (e * 4503599627370496) c 63 (by rw [show (2 : Nat) ^ 63 = 9223372036854775808 by decide]; omega)
  rw [show (2 : Nat) ^ 63 = 9223372036854775808 by decide, Nat.or_comm] at h3
  rw [h3, u64_or_nat _ _ (by omega) (by omega)]
  have h4 := or_pow fr (e + c * 2048) 52 (by rw [show (2 : Nat) ^ 52 = 4503599627370496 by decide]; exact hf)
  rw [show (2 : Nat) ^ 52 = 4503599627370496 by decide, Nat.or_comm, show (e + c * 2048) * 4503599627370496 = e * 4503599627370496 + c * 9223372036854775808 by omega] at h4
  rw [h4]
  congr 2
  omega
theorem shInf64 (s : Bool) : shape_Inf.f 64 s = some ((mkN 64 f64.inf s : Nat) : Int) := by
  unfold shape_Inf.f
  rw [show shape_of.f 64 = some (11, 52, true) by decide, Option.bind_some, if_pos rfl, ones64, Option.bind_some]
  have e2 := join64 s 2047 0 (by decide) (by decide)
  simp only
  rw [show (2047 : Int) = ((2047 : Nat) : Int) from rfl, show (0 : Int) = ((0 : Nat) : Int) from rfl, e2, Option.bind_some, inf64]
theorem shZero64 (s : Bool) : shape_Zero.f 64 s = some ((mkN 64 0 s : Nat) : Int) := by
  cases s <;> decide +kernel
theorem fin64 (s : Bool) (kd : Int) (m : Nat) (h0 : 0 < m) (hm : m < f64.inf) : Ev (fun k => shape_format_finite.f k 11 52 s kd (f64.ex m) (f64.sg m : Nat)) (((mkN 64 m s : Nat) : Int), true) := by
  rw [inf64] at hm
  rw [sg64, ex64]
  unfold shape_format_finite.f
  have e2 : shl .u64 2 52 = ((9007199254740992 : Nat) : Int) := by decide +kernel
  have e3 : shl .u64 1 52 = ((4503599627370496 : Nat) : Int) := by decide +kernel
  have e4 : IntKind.u64.wrap (((4503599627370496 : Nat) : Int) - 1) = ((4503599627370495 : Nat) : Int) := by decide +kernel
  have hmod : m % 4503599627370496 < 4503599627370496 := Nat.mod_lt _ (by decide)
  refine Ev.bs low64 ?_
  by_cases h1 : m < 4503599627370496
  · rw [if_pos h1, if_pos h1]
    refine Ev.neg (by omega) (Ev.pos (by decide) (Ev.neg (by rw [e2]; omega) ?_))
    refine Ev.step (fun _ => shape_format_finite.j0.eq_2 ..) ?_
    refine Ev.neg (by simp) (Ev.pos (by decide) (Ev.pos (by rw [e3]; omega) ?_))
    have h2 := join64 s 0 m (by decide) h1
    rw [Nat.zero_mul, Nat.zero_add] at h2
    exact Ev.bs h2 (Ev.out (by simp))
  · rw [if_neg h1, if_neg h1]
    refine Ev.neg (by omega) (Ev.pos (by decide) (Ev.neg (by rw [e2]; omega) ?_))
    refine Ev.step (fun _ => shape_format_finite.j0.eq_2 ..) ?_
    refine Ev.neg (by simp; omega) (Ev.pos (by decide) (Ev.neg (by rw [e3]; omega) (Ev.bs ones64 ?_)))
    have hq : m / 4503599627370496 ≤ 2046 := by omega
    have hq0 : 1 ≤ m / 4503599627370496 := by omega
    have hmm : m = m / 4503599627370496 * 4503599627370496 + m % 4503599627370496 := by omega
    have h2 := join64 s (m / 4503599627370496) (m % 4503599627370496) (by omega) hmod
    rw [← hmm] at h2
    generalize m / 4503599627370496 = e at *
    generalize m % 4503599627370496 = fr at *
    rw [show ((e : Nat) : Int) - 1 + (-1074) - (-1074) = ((e - 1 : Nat) : Int) by omega, w64_id (n := ((e - 1 : Nat) : Int)) (by omega) (by omega), w64_id (n := (2047 : Int)) (by decide) (by decide), show wrap64 ((2047 : Int) - 2) = 2045 by decide +kernel]
    refine Ev.neg (by omega) ?_
    rw [u64_id (n := ((e - 1 : Nat) : Int)) (by omega) (by omega), u64_id (n := ((e - 1 : Nat) : Int) + 1) (by omega) (by omega), show ((e - 1 : Nat) : Int) + 1 = (e : Int) by omega, e3, e4, u64_and_nat _ _ (by omega) (by decide)]
    have h5 := and_low (4503599627370496 + fr) 52
    rw [show (2 : Nat) ^ 52 - 1 = 4503599627370495 by decide, show (2 : Nat) ^ 52 = 4503599627370496 by decide] at h5
    rw [h5, show (4503599627370496 + fr) % 4503599627370496 = fr by omega]
    exact Ev.bs h2 (Ev.out rfl)
theorem close64 (s : Bool) (m : Nat) (h0 : 0 < m) (hm : m < f64.inf) : Ev (fun k => shape_Close.f k 64 s 1 (f64.ex m) (f64.sg m : Nat)) (((mkN 64 m s : Nat) : Int), 0) := by
  unfold shape_Close.f
  refine Ev.bs (show shape_of.f 64 = some (11, 52, true) by decide) (Ev.pos rfl (Ev.pos rfl (Ev.bind (fin64 s 1 m h0 hm) (Ev.pos rfl (Ev.out rfl)))))
end Go.Proofs.YtnmlmgmljoncoaaGreatDoor.Th
end
namespace Go.Proofs.YtnmlmgmljoncoaaGreatDoor.PA
open Go.RowKit Go.Proofs.YtnmlmgmljoncoaaGreatDoorW.PrintWords Go.Proofs.YtnmlmgmljoncoaaGreatDoorW.PrintLast Go.Proofs.YtnmlmgmljoncoaaGreatDoorW.PrintMore
attribute [local go_sem] max2_int min2_int max_two min_two max_three min_three max_four min_four   -- for this text's walks alone
set_option linter.unusedVariables false
set_option linter.unusedSimpArgs false
set_option maxHeartbeats 8000000
set_option maxRecDepth 100000
-- IMPORT Derived.Test.YtnmlmgmljoncoaaGreatDoorShelf
def bits_Mul64.f (a0 : Int) (a1 : Int) : Option (Int × Int) := if (0 ≤ a0 ∧ a0 < 18446744073709551616) ∧ (0 ≤ a1 ∧ a1 < 18446744073709551616) then some (((a0.toNat * a1.toNat / 18446744073709551616 : Nat) : Int), ((a0.toNat * a1.toNat % 18446744073709551616 : Nat) : Int)) else none
theorem bits_Mul64.calls (a0 : Int) (a1 : Int) (r1 : Int) (r2 : Int) (w : World) (h : bits_Mul64.f a0 a1 = some (r1, r2)) :
  Calls Tryz.prog 249 #[.int .u64 a0, .int .u64 a1] w fun e w' => e = .returned (.tuple #[.int .u64 r1, .int .u64 r2]) ∧ Drawn0 w w' := by
 unfold bits_Mul64.f at h
 split at h
 ·rename_i hr
  obtain ⟨⟨h0, h1⟩, h2, h3⟩ := hr
  obtain ⟨rfl, rfl⟩ := Prod.mk.inj (Option.some.inj h)
  obtain ⟨x, rfl⟩ := Int.eq_ofNat_of_zero_le h0
  obtain ⟨y, rfl⟩ := Int.eq_ofNat_of_zero_le h2
  refine (Tryz.bits_Mul64 x y (by omega) (by omega) w).mono ?_
  rintro e w' ⟨rfl, rfl⟩
  exact ⟨rfl, Drawn0.refl _⟩
 ·cases h
def wide_order.f (a0 : Int) (a1 : Int) : Option (Int) := if a0 < a1 then (some (-1)) else (if a0 > a1 then (some 1) else (some 0))
theorem wide_order.calls (a0 : Int) (a1 : Int) (r : Int) (w : World) (h : wide_order.f a0 a1 = some r) :
  Calls Tryz.prog 260 #[.int .u64 a0, .int .u64 a1] w fun e w' => e = .returned (.int .i64 r) ∧ Drawn0 w w' := by
 have H : (if a0 < a1 then (some (-1)) else (if a0 > a1 then (some 1) else (some 0))) = some r := h
 clear h
 by_cases c3 : a0 < a1
 ·rw [if_pos c3] at H
  have c3b0 : decide (a0 < a1) = true := decide_eq_true c3
  clear c3
  obtain rfl := Option.some.inj H
  go_enter Tryz.func260, Tryz.ntmps260
  go_wp2
  go_ret
  exact ⟨sm_, by repeat (first | exact Drawn0.refl _ | apply Drawn0.step)⟩
 ·rw [if_neg c3] at H
  have c3b0 : decide (a0 < a1) = false := decide_eq_false c3
  clear c3
  by_cases c4 : a0 > a1
  ·rw [if_pos c4] at H
   have c4b0 : decide (a1 < a0) = true := decide_eq_true c4
   clear c4
   obtain rfl := Option.some.inj H
   go_enter Tryz.func260, Tryz.ntmps260
   go_wp2
   go_ret
   exact ⟨sm_, by repeat (first | exact Drawn0.refl _ | apply Drawn0.step)⟩
  ·rw [if_neg c4] at H
   have c4b0 : decide (a1 < a0) = false := decide_eq_false c4
   clear c4
   obtain rfl := Option.some.inj H
   go_enter Tryz.func260, Tryz.ntmps260
   go_wp2
   go_ret
   exact ⟨sm_, by repeat (first | exact Drawn0.refl _ | apply Drawn0.step)⟩
def wide_Cmp.f (a0_0 : Int) (a0_1 : Int) (a1_0 : Int) (a1_1 : Int) : Option (Int) := if a0_0 = a1_0 then ((wide_order.f a0_1 a1_1).bind fun t338 => (some t338)) else ((wide_order.f a0_0 a1_0).bind fun t339 => (some t339))
theorem wide_Cmp.calls (a0_0 : Int) (a0_1 : Int) (a1_0 : Int) (a1_1 : Int) (r : Int) (w : World) (h : wide_Cmp.f a0_0 a0_1 a1_0 a1_1 = some r) :
  Calls Tryz.prog 246 #[.agg #[.int .u64 a0_0, .int .u64 a0_1], .agg #[.int .u64 a1_0, .int .u64 a1_1]] w fun e w' => e = .returned (.int .i64 r) ∧ Below w.heap.size w w' := by
 have hu166 := Tryz.underlying166
 have HB := A_ (Below.refl w.heap.size w)
 have H : (if a0_0 = a1_0 then ((wide_order.f a0_1 a1_1).bind fun t338 => (some t338)) else ((wide_order.f a0_0 a1_0).bind fun t339 => (some t339))) = some r := h
 clear h
 by_cases c3 : a0_0 = a1_0
 ·rw [if_pos c3] at H
  have c3b0 : (a0_0 == a1_0) = true := beq_iff_eq.mpr c3
  have c3b1 : (a0_0 != a1_0) = false := bne_eq_false_iff_eq.mpr c3
  clear c3
  replace H := ob_ H
  obtain ⟨t338, A40, H⟩ := H
  replace H : (some t338) = some r := H
  have A4 := A_ A40;clear A40
  obtain rfl := Option.some.inj H
  go_enter Tryz.func246, Tryz.ntmps246
  go_wp2_with (first | ((with_reducible refine gate_dst (N := 2) rfl ?_); refine be_ 2 #[.int .u64 a0_0, .int .u64 a0_1] 166 ?_; intro gb336 hg w5 hbox hb; have BK336 := A_ (hbox); have GW336 := A_ (sz_ hg (hb_ HB.out)); have GE336 := A_ (sz_ hg (hb_ HB.out)); replace HB := A_ (below_step (hb_ HB.out) hb); clear hb hbox hg) | ((with_reducible refine gate_dst (N := 3) rfl ?_); refine be_ 3 #[.int .u64 a1_0, .int .u64 a1_1] 166 ?_; intro gb337 hg w6 hbox hb; have BK337 := A_ (hbox); have GW337 := A_ (sz_ hg (hb1_ HB.out GE336.out)); have GE337 := A_ (sz_ hg (hb1_ HB.out GE336.out)); have NB336_337 := A_ (nl_ hg BK336.out); have NB337_336 := A_ (ng_ hg BK336.out); replace BK336 := A_ (bb_ BK336.out hb); replace HB := A_ (below_step (hb1_ HB.out GE336.out) hb); clear hb hbox hg; have hnb7 := NB336_337.out; have hnc7 := NB337_336.out; have hcz8_0 := bv_ BK336.out 0; have hcz8_1 := bv_ BK336.out 1; have hfz8_0 := blk_frozen BK336.out 0; have hfz8_1 := blk_frozen BK336.out 1; have hcz9_0 := bv_ BK337.out 0; have hcz9_1 := bv_ BK337.out 1; have hfz9_0 := blk_frozen BK337.out 0; have hfz9_1 := blk_frozen BK337.out 1) | ((with_reducible refine gate_callee (f := 260) rfl ?_); refine goesL_ (some 19) rfl rfl Tryz.func260 (by kernel_rfl) rfl #[.int .u64 a0_1, .int .u64 a1_1] rfl mp_ ?_; (with_reducible refine (wide_order.calls a0_1 a1_1 t338 _ A4.out).mono ?_); rintro e w' ⟨rfl, ⟨nd, rfl⟩⟩; refine ⟨_, rfl, ?_⟩))
  go_ret
  exact ⟨er_, hb2_ HB.out GE336.out GE337.out⟩
 ·rw [if_neg c3] at H
  have c3b0 : (a0_0 == a1_0) = false := beq_eq_false_iff_ne.mpr c3
  have c3b1 : (a0_0 != a1_0) = true := bne_iff_ne.mpr c3
  replace H := ob_ H
  obtain ⟨t339, A100, H⟩ := H
  replace H : (some t339) = some r := H
  have A10 := A_ A100;clear A100
  obtain rfl := Option.some.inj H
  go_enter Tryz.func246, Tryz.ntmps246
  go_wp2_with (first | ((with_reducible refine gate_dst (N := 2) rfl ?_); refine be_ 2 #[.int .u64 a0_0, .int .u64 a0_1] 166 ?_; intro gb336 hg w11 hbox hb; have BK336 := A_ (hbox); have GW336 := A_ (sz_ hg (hb_ HB.out)); have GE336 := A_ (sz_ hg (hb_ HB.out)); replace HB := A_ (below_step (hb_ HB.out) hb); clear hb hbox hg) | ((with_reducible refine gate_dst (N := 3) rfl ?_); refine be_ 3 #[.int .u64 a1_0, .int .u64 a1_1] 166 ?_; intro gb337 hg w12 hbox hb; have BK337 := A_ (hbox); have GW337 := A_ (sz_ hg (hb1_ HB.out GE336.out)); have GE337 := A_ (sz_ hg (hb1_ HB.out GE336.out)); have NB336_337 := A_ (nl_ hg BK336.out); have NB337_336 := A_ (ng_ hg BK336.out); replace BK336 := A_ (bb_ BK336.out hb); replace HB := A_ (below_step (hb1_ HB.out GE336.out) hb); clear hb hbox hg; have hnb13 := NB336_337.out; have hnc13 := NB337_336.out; have hcz14_0 := bv_ BK336.out 0; have hcz14_1 := bv_ BK336.out 1; have hfz14_0 := blk_frozen BK336.out 0; have hfz14_1 := blk_frozen BK336.out 1; have hcz15_0 := bv_ BK337.out 0; have hcz15_1 := bv_ BK337.out 1; have hfz15_0 := blk_frozen BK337.out 0; have hfz15_1 := blk_frozen BK337.out 1) | ((with_reducible refine gate_callee (f := 260) rfl ?_); refine goesL_ (some 14) rfl rfl Tryz.func260 (by kernel_rfl) rfl #[.int .u64 a0_0, .int .u64 a1_0] rfl mp_ ?_; (with_reducible refine (wide_order.calls a0_0 a1_0 t339 _ A10.out).mono ?_); rintro e w' ⟨rfl, ⟨nd, rfl⟩⟩; refine ⟨_, rfl, ?_⟩))
  go_ret
  exact ⟨er_, hb2_ HB.out GE336.out GE337.out⟩
end Go.Proofs.YtnmlmgmljoncoaaGreatDoor.PA
