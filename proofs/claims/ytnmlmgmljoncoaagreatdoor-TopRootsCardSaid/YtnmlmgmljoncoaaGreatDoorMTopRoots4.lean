/- What the Go functions that the statement TopRoots reaches compute, and the mathematics on it, in the order in which one leans on the other; for every input. -/
import Derived.Test.YtnmlmgmljoncoaaGreatDoorVTopRoots1
import Derived.Test.YtnmlmgmljoncoaaGreatDoorMTopRoots0
import Derived.Test.YtnmlmgmljoncoaaGreatDoorMTopRoots3
import Derived.Deep.RegionHeld3
import Derived.Deep.DeepCutAuto
import Derived.BigRegion
import Derived.Test.YtnmlmgmljoncoaaGreatDoorMTopRoots2
import Derived.Test.YtnmlmgmljoncoaaGreatDoorMTopRoots1
import Derived.Laws.BitsAllLaws
namespace Go.Proofs.YtnmlmgmljoncoaaGreatDoor.PA
open Go.RowKit Go.Proofs.YtnmlmgmljoncoaaGreatDoorW.PrintWords Go.Proofs.YtnmlmgmljoncoaaGreatDoorW.PrintLast Go.Proofs.YtnmlmgmljoncoaaGreatDoorW.PrintMore
attribute [local go_sem] max2_int min2_int max_two min_two max_three min_three max_four min_four   -- for this text's walks alone
set_option linter.unusedVariables false
set_option linter.unusedSimpArgs false
set_option maxHeartbeats 8000000
set_option maxRecDepth 100000
def round_aim.f (a0 : Int) (a1 : Bool) (a2_0 : Int) (a2_1 : Int) (a2_2 : Int) (a2_3 : Bool) : Option (Int × Int × Int × Bool × Int × Int × Int × Int × Bool × Bool) := (shape_Fields.f a0).bind fun bt275 => (if bt275.1 = 0 then (some (0, 0, 0, false, 0, 0, 0, 0, false, false)) else (if 0 ≤ (wrap64 (bt275.1 - 1)) then (if 0 ≤ bt275.1 then (some (a2_0, a2_1, a2_2, a2_3, a0, bt275.2, wrap64 ((wrap64 (2 - (shl .i64 1 (wrap64 (bt275.1 - 1))))) - bt275.2), wrap64 ((wrap64 ((wrap64 ((wrap64 (2 - (shl .i64 1 (wrap64 (bt275.1 - 1))))) - bt275.2)) + (shl .i64 1 bt275.1))) - 3), a1, true)) else (none)) else (none)))
def round_aim.T5 : Bool × List (List Nat × List Nat) := (true, [([], []), ([], []), ([], []), ([], []), ([], []), ([], []), ([5], [5]), ([4, 6], [4, 6]), ([7], [7]), ([], []), ([0, 1, 2, 3, 8, 9], [0, 1, 2, 3, 8, 9]), ([10, 0, 1, 2, 3, 4, 5, 6, 7, 8, 9, 10], [10]), ([11, 0, 1, 2, 3, 4, 5, 6, 7, 8, 9, 10, 11], [])])
def round_aim.B5 : List Nat := [0, 0, 0, 0, 0, 0, 32, 112, 240, 0, 1023, 2047, 4095]
theorem round_aim.tab5 : rtab .any (opsOf Tryz.f239 5) = round_aim.T5 := by kernel_rfl
theorem round_aim.bits5 : waitsOk round_aim.T5.2 round_aim.B5 = true := by kernel_rfl
theorem round_aim.calls (a0 : Int) (a1 : Bool) (a2_0 : Int) (a2_1 : Int) (a2_2 : Int) (a2_3 : Bool) (r1 : Int) (r2 : Int) (r3 : Int) (r4 : Bool) (r5 : Int) (r6 : Int) (r7 : Int) (r8 : Int) (r9 : Bool) (r10 : Bool) (w : World) (h : round_aim.f a0 a1 a2_0 a2_1 a2_2 a2_3 = some (r1, r2, r3, r4, r5, r6, r7, r8, r9, r10)) :
  Calls Tryz.prog 239 #[.int .i64 a0, .bool a1, .agg #[.int .u64 a2_0, .int .u64 a2_1, .int .i64 a2_2, .bool a2_3]] w fun e w' => e = .returned (.tuple #[.agg #[.int .u64 r1, .int .u64 r2, .int .i64 r3, .bool r4, .int .i64 r5, .int .i64 r6, .int .i64 r7, .int .i64 r8, .bool r9], .bool r10]) ∧ Below w.heap.size w w' := by
 have hu191 := Tryz.underlying191
 have hu193 := Tryz.underlying193
 have HB := A_ (Below.refl w.heap.size w)
 have H : ((shape_Fields.f a0).bind fun bt275 => (if bt275.1 = 0 then (some (0, 0, 0, false, 0, 0, 0, 0, false, false)) else (if 0 ≤ (wrap64 (bt275.1 - 1)) then (if 0 ≤ bt275.1 then (some (a2_0, a2_1, a2_2, a2_3, a0, bt275.2, wrap64 ((wrap64 (2 - (shl .i64 1 (wrap64 (bt275.1 - 1))))) - bt275.2), wrap64 ((wrap64 ((wrap64 ((wrap64 (2 - (shl .i64 1 (wrap64 (bt275.1 - 1))))) - bt275.2)) + (shl .i64 1 bt275.1))) - 3), a1, true)) else (none)) else (none)))) = some (r1, r2, r3, r4, r5, r6, r7, r8, r9, r10) := h
 clear h
 replace H := ob_ H
 obtain ⟨⟨t275, t276⟩, A40, H⟩ := H
 replace H : (if t275 = 0 then (some (0, 0, 0, false, 0, 0, 0, 0, false, false)) else (if 0 ≤ (wrap64 (t275 - 1)) then (if 0 ≤ t275 then (some (a2_0, a2_1, a2_2, a2_3, a0, t276, wrap64 ((wrap64 (2 - (shl .i64 1 (wrap64 (t275 - 1))))) - t276), wrap64 ((wrap64 ((wrap64 ((wrap64 (2 - (shl .i64 1 (wrap64 (t275 - 1))))) - t276)) + (shl .i64 1 t275))) - 3), a1, true)) else (none)) else (none))) = some (r1, r2, r3, r4, r5, r6, r7, r8, r9, r10) := H
 have A4 := A_ A40;clear A40
 by_cases c5 : t275 = 0
 ·rw [if_pos c5] at H
  have c5b0 : (t275 == 0) = true := beq_iff_eq.mpr c5
  have c5b1 : (t275 != 0) = false := bne_eq_false_iff_eq.mpr c5
  clear c5
  simp only [Option.some.injEq, Prod.mk.injEq] at H
  obtain ⟨rfl, rfl, rfl, rfl, rfl, rfl, rfl, rfl, rfl, rfl⟩ := H
  go_enter Tryz.func239, Tryz.ntmps239
  go_wp2_with (first | ((with_reducible refine gate_dst (N := 5) rfl ?_); refine be_ 5 #[.int .u64 a2_0, .int .u64 a2_1, .int .i64 a2_2, .bool a2_3] 191 ?_; intro gb273 hg w6 hbox hb; have BK273 := A_ (hbox); have GW273 := A_ (sz_ hg (hb_ HB.out)); have GE273 := A_ (sz_ hg (hb_ HB.out)); replace HB := A_ (below_step (hb_ HB.out) hb); clear hb hbox hg) | ((with_reducible refine gate_dst (N := 6) rfl ?_); refine be_ 6 #[.int .u64 0, .int .u64 0, .int .i64 0, .bool false, .int .i64 0, .int .i64 0, .int .i64 0, .int .i64 0, .bool false] 193 ?_; intro gb274 hg w7 hbox hb; have BK274 := A_ (hbox); have GW274 := A_ (sz_ hg (hb1_ HB.out GE273.out)); have GE274 := A_ (sz_ hg (hb1_ HB.out GE273.out)); have NB273_274 := A_ (nl_ hg BK273.out); have NB274_273 := A_ (ng_ hg BK273.out); replace BK273 := A_ (bb_ BK273.out hb); replace HB := A_ (below_step (hb1_ HB.out GE273.out) hb); clear hb hbox hg) | ((with_reducible refine gate_callee (f := 15) rfl ?_); refine goesL_ (some 13) rfl rfl Tryz.func15 (by kernel_rfl) rfl #[.int .i64 a0] rfl mp_ ?_; (with_reducible refine (shape_Fields.calls a0 t275 t276 _ A4.out).mono ?_); rintro e w8 ⟨rfl, hb⟩; refine ⟨_, rfl, ?_⟩; replace BK273 := A_ (bb_ BK273.out hb); replace BK274 := A_ (bb_ BK274.out hb); replace HB := A_ (below_step (hb2_ HB.out GE273.out GE274.out) hb); (try clear hb); (try clear hb2); (try clear hk); (try clear hi); have hnb9 := NB274_273.out; have hnc9 := NB273_274.out; have hcz10_0 := bv_ BK274.out 0; have hcz10_1 := bv_ BK274.out 1; have hcz10_2 := bv_ BK274.out 2; have hcz10_3 := bv_ BK274.out 3; have hcz10_4 := bv_ BK274.out 4; have hcz10_5 := bv_ BK274.out 5; have hcz10_6 := bv_ BK274.out 6; have hcz10_7 := bv_ BK274.out 7; have hcz10_8 := bv_ BK274.out 8; have hfz10_0 := blk_frozen BK274.out 0; have hfz10_1 := blk_frozen BK274.out 1; have hfz10_2 := blk_frozen BK274.out 2; have hfz10_3 := blk_frozen BK274.out 3; have hfz10_4 := blk_frozen BK274.out 4; have hfz10_5 := blk_frozen BK274.out 5; have hfz10_6 := blk_frozen BK274.out 6; have hfz10_7 := blk_frozen BK274.out 7; have hfz10_8 := blk_frozen BK274.out 8))
  refine bodyPost_ret (results_ct rfl _ _ gb274 193 #[.int .u64 0, .int .u64 0, .int .i64 0, .bool false, .int .i64 0, .int .i64 0, .int .i64 0, .int .i64 0, .bool false] (0, 0) _ rfl (by (with_reducible repeat (first | refine blk_drewN ?_ _ | refine blk_drew ?_ | refine blk_alloc ?_ _)); refine blk_put (cs := #[.int .u64 0, .int .u64 0, .int .i64 0, .bool false, .int .i64 0, .int .i64 0, .int .i64 0, .int .i64 0, .bool false]) ?_ 8 _ rfl; (with_reducible repeat (first | refine blk_drewN ?_ _ | refine blk_drew ?_ | refine blk_alloc ?_ _)); refine blk_put (cs := #[.int .u64 0, .int .u64 0, .int .i64 0, .bool false, .int .i64 0, .int .i64 0, .int .i64 0, .int .i64 0, .bool false]) ?_ 7 _ rfl; (with_reducible repeat (first | refine blk_drewN ?_ _ | refine blk_drew ?_ | refine blk_alloc ?_ _)); refine blk_put (cs := #[.int .u64 0, .int .u64 0, .int .i64 0, .bool false, .int .i64 0, .int .i64 0, .int .i64 0, .int .i64 0, .bool false]) ?_ 6 _ rfl; (with_reducible repeat (first | refine blk_drewN ?_ _ | refine blk_drew ?_ | refine blk_alloc ?_ _)); refine blk_put (cs := #[.int .u64 0, .int .u64 0, .int .i64 0, .bool false, .int .i64 0, .int .i64 0, .int .i64 0, .int .i64 0, .bool false]) ?_ 5 _ rfl; (with_reducible repeat (first | refine blk_drewN ?_ _ | refine blk_drew ?_ | refine blk_alloc ?_ _)); refine blk_put (cs := #[.int .u64 0, .int .u64 0, .int .i64 0, .bool false, .int .i64 0, .int .i64 0, .int .i64 0, .int .i64 0, .bool false]) ?_ 4 _ rfl; (with_reducible repeat (first | refine blk_drewN ?_ _ | refine blk_drew ?_ | refine blk_alloc ?_ _)); refine blk_put (cs := #[.int .u64 0, .int .u64 0, .int .i64 0, .bool false, .int .i64 0, .int .i64 0, .int .i64 0, .int .i64 0, .bool false]) ?_ 3 _ rfl; (with_reducible repeat (first | refine blk_drewN ?_ _ | refine blk_drew ?_ | refine blk_alloc ?_ _)); refine blk_put (cs := #[.int .u64 0, .int .u64 0, .int .i64 0, .bool false, .int .i64 0, .int .i64 0, .int .i64 0, .int .i64 0, .bool false]) ?_ 2 _ rfl; (with_reducible repeat (first | refine blk_drewN ?_ _ | refine blk_drew ?_ | refine blk_alloc ?_ _)); refine blk_put (cs := #[.int .u64 0, .int .u64 0, .int .i64 0, .bool false, .int .i64 0, .int .i64 0, .int .i64 0, .int .i64 0, .bool false]) ?_ 1 _ rfl; (with_reducible repeat (first | refine blk_drewN ?_ _ | refine blk_drew ?_ | refine blk_alloc ?_ _)); refine blk_put (cs := #[.int .u64 0, .int .u64 0, .int .i64 0, .bool false, .int .i64 0, .int .i64 0, .int .i64 0, .int .i64 0, .bool false]) ?_ 0 _ rfl; (with_reducible repeat (first | refine blk_drewN ?_ _ | refine blk_drew ?_ | refine blk_alloc ?_ _)); exact BK274.out) Tryz.underlying193 rfl (by kernel_rfl)) rfl ?_
  exact ⟨er_, hb2_ HB.out GE273.out GE274.out⟩
 ·rw [if_neg c5] at H
  have c5b0 : (t275 == 0) = false := beq_eq_false_iff_ne.mpr c5
  have c5b1 : (t275 != 0) = true := bne_iff_ne.mpr c5
  obtain ⟨ji11, hji11⟩ : ∃ j_ : Int, (wrap64 (t275 - 1)) = j_ := ⟨_, rfl⟩
  replace H : (if 0 ≤ (ji11) then (if 0 ≤ t275 then (some (a2_0, a2_1, a2_2, a2_3, a0, t276, wrap64 ((wrap64 (2 - (shl .i64 1 (ji11)))) - t276), wrap64 ((wrap64 ((wrap64 ((wrap64 (2 - (shl .i64 1 (ji11)))) - t276)) + (shl .i64 1 t275))) - 3), a1, true)) else (none)) else (none)) = some (r1, r2, r3, r4, r5, r6, r7, r8, r9, r10) := by first | (rw [hji11] at H; exact H) | (simp only [hji11] at H ⊢; exact H)
  (try rw [hji11] at A4)
  have hji11w : (IntKind.i64.wrap (t275 - 1)) = ji11 := (i64_w _).trans hji11
  by_cases c12 : 0 ≤ (ji11)
  ·rw [if_pos c12] at H
   have c12b0 := eq_true c12
   have c12b1 : decide (0 ≤ (ji11)) = true := decide_eq_true c12
   clear c12
   obtain ⟨ji13, hji13⟩ : ∃ j_ : Int, (shl .i64 1 (ji11)) = j_ := ⟨_, rfl⟩
   replace H : (if 0 ≤ t275 then (some (a2_0, a2_1, a2_2, a2_3, a0, t276, wrap64 ((wrap64 (2 - (ji13))) - t276), wrap64 ((wrap64 ((wrap64 ((wrap64 (2 - (ji13))) - t276)) + (shl .i64 1 t275))) - 3), a1, true)) else (none)) = some (r1, r2, r3, r4, r5, r6, r7, r8, r9, r10) := by first | (rw [hji13] at H; exact H) | (simp only [hji13] at H ⊢; exact H)
   (try rw [hji13] at A4)
   have hji13_ : (IntKind.i64.wrap (1 * 2 ^ min (ji11).toNat 64)) = ji13 := hji13
   have hji13z : (ji11) ≤ 64 → (IntKind.i64.wrap (1 * 2 ^ (ji11).toNat)) = ji13 := shl_small hji13
   have hji13u : (IntKind.i64.wrap (2 ^ min (ji11).toNat 64)) = ji13 := by have h_ := hji13_; rw [Int.one_mul] at h_; exact h_
   have hji13v : (ji11) ≤ 64 → (IntKind.i64.wrap (2 ^ (ji11).toNat)) = ji13 := fun hle_ => by have h_ := hji13z hle_; rw [Int.one_mul] at h_; exact h_
   have hji13y : (wrap64 (1 * 2 ^ min (ji11).toNat 64)) = ji13 := (i64_w _).symm.trans hji13_
   have hji13x : (ji11) ≤ 64 → (wrap64 (1 * 2 ^ (ji11).toNat)) = ji13 := fun h_ => (i64_w _).symm.trans (hji13z h_)
   by_cases c14 : 0 ≤ t275
   ·rw [if_pos c14] at H
    have c14b0 := eq_true c14
    have c14b1 : decide (0 ≤ t275) = true := decide_eq_true c14
    clear c14
    obtain ⟨ji15, hji15⟩ : ∃ j_ : Int, (shl .i64 1 t275) = j_ := ⟨_, rfl⟩
    replace H : (some (a2_0, a2_1, a2_2, a2_3, a0, t276, wrap64 ((wrap64 (2 - (ji13))) - t276), wrap64 ((wrap64 ((wrap64 ((wrap64 (2 - (ji13))) - t276)) + (ji15))) - 3), a1, true)) = some (r1, r2, r3, r4, r5, r6, r7, r8, r9, r10) := by first | (rw [hji15] at H; exact H) | (simp only [hji15] at H ⊢; exact H)
    (try rw [hji15] at A4)
    have hji15_ : (IntKind.i64.wrap (1 * 2 ^ min t275.toNat 64)) = ji15 := hji15
    have hji15z : t275 ≤ 64 → (IntKind.i64.wrap (1 * 2 ^ t275.toNat)) = ji15 := shl_small hji15
    have hji15u : (IntKind.i64.wrap (2 ^ min t275.toNat 64)) = ji15 := by have h_ := hji15_; rw [Int.one_mul] at h_; exact h_
    have hji15v : t275 ≤ 64 → (IntKind.i64.wrap (2 ^ t275.toNat)) = ji15 := fun hle_ => by have h_ := hji15z hle_; rw [Int.one_mul] at h_; exact h_
    have hji15y : (wrap64 (1 * 2 ^ min t275.toNat 64)) = ji15 := (i64_w _).symm.trans hji15_
    have hji15x : t275 ≤ 64 → (wrap64 (1 * 2 ^ t275.toNat)) = ji15 := fun h_ => (i64_w _).symm.trans (hji15z h_)
    simp only [Option.some.injEq, Prod.mk.injEq] at H
    obtain ⟨rfl, rfl, rfl, rfl, rfl, rfl, rfl, rfl, rfl, rfl⟩ := H
    go_enter Tryz.func239, Tryz.ntmps239
    try go_wp2_with (first | ((with_reducible refine gate_dst (N := 5) rfl ?_); refine be_ 5 #[.int .u64 a2_0, .int .u64 a2_1, .int .i64 a2_2, .bool a2_3] 191 ?_; intro gb273 hg w16 hbox hb; have BK273 := A_ (hbox); have GW273 := A_ (sz_ hg (hb_ HB.out)); have GE273 := A_ (sz_ hg (hb_ HB.out)); replace HB := A_ (below_step (hb_ HB.out) hb); clear hb hbox hg) | ((with_reducible refine gate_dst (N := 6) rfl ?_); refine be_ 6 #[.int .u64 0, .int .u64 0, .int .i64 0, .bool false, .int .i64 0, .int .i64 0, .int .i64 0, .int .i64 0, .bool false] 193 ?_; intro gb274 hg w17 hbox hb; have BK274 := A_ (hbox); have GW274 := A_ (sz_ hg (hb1_ HB.out GE273.out)); have GE274 := A_ (sz_ hg (hb1_ HB.out GE273.out)); have NB273_274 := A_ (nl_ hg BK273.out); have NB274_273 := A_ (ng_ hg BK273.out); replace BK273 := A_ (bb_ BK273.out hb); replace HB := A_ (below_step (hb1_ HB.out GE273.out) hb); clear hb hbox hg) | ((with_reducible refine gate_callee (f := 15) rfl ?_); refine goesL_ (some 13) rfl rfl Tryz.func15 (by kernel_rfl) rfl #[.int .i64 a0] rfl mp_ ?_; (with_reducible refine (shape_Fields.calls a0 t275 t276 _ A4.out).mono ?_); rintro e w18 ⟨rfl, hb⟩; refine ⟨_, rfl, ?_⟩; replace BK273 := A_ (bb_ BK273.out hb); replace BK274 := A_ (bb_ BK274.out hb); replace HB := A_ (below_step (hb2_ HB.out GE273.out GE274.out) hb); (try clear hb); (try clear hb2); (try clear hk); (try clear hi)))
    replace BK273 := A_ (blk_drew BK273.out)
    replace BK274 := A_ (blk_drew BK274.out)
    replace HB := A_ (below_drew1 HB.out)
    refine start_ (n := 13) (S := fun w' => w'.cell? ⟨gb273, 0, none⟩ = some (.int .u64 a2_0) ∧ w'.cell? ⟨gb273, 1, none⟩ = some (.int .u64 a2_1) ∧ w'.cell? ⟨gb273, 2, none⟩ = some (.int .i64 a2_2) ∧ w'.cell? ⟨gb273, 3, none⟩ = some (.bool a2_3)) (ds := []) #[false, false, false, false, false, false, false, false, false, false, false, false, false] (by kernel_rfl) rfl rfl ⟨bc_ BK273.out 0, bc_ BK273.out 1, bc_ BK273.out 2, bc_ BK273.out 3⟩ (fun hHeld => ?_); refine with_tabW round_aim.tab5 round_aim.bits5 (fun HT_ HW_ => ?_)
    generalize w18.drew = w19 at BK273 BK274 HB hHeld ⊢
    refine pu_ 1 (some 26) #[false, true, false, false, false, false, false, false, false, false, false, false, false] rfl rfl (any_of HT_.out (by kernel_rfl)) ?_
    refine pu_ 2 (some 27) #[false, true, true, false, false, false, false, false, false, false, false, false, false] rfl rfl (any_of HT_.out (by kernel_rfl)) ?_
    refine pu_ 3 (some 28) #[false, true, true, true, false, false, false, false, false, false, false, false, false] rfl rfl (any_of HT_.out (by kernel_rfl)) ?_
    refine pu_ 4 (some 29) #[false, true, true, true, true, false, false, false, false, false, false, false, false] rfl rfl (any_of HT_.out (by kernel_rfl)) ?_
    refine pu_ 5 (some 30) #[false, true, true, true, true, true, false, false, false, false, false, false, false] rfl rfl (any_of HT_.out (by kernel_rfl)) ?_
    refine pu_ 6 (some 31) #[false, true, true, true, true, true, true, false, false, false, false, false, false] rfl rfl (any_of HT_.out (by kernel_rfl)) ?_
    refine pu_ 7 (some 32) #[false, true, true, true, true, true, true, true, false, false, false, false, false] rfl rfl (any_of HT_.out (by kernel_rfl)) ?_
    refine pu_ 8 (some 33) #[false, true, true, true, true, true, true, true, true, false, false, false, false] rfl rfl (any_of HT_.out (by kernel_rfl)) ?_
    refine pu_ 9 (some 34) #[false, true, true, true, true, true, true, true, true, true, false, false, false] rfl rfl (any_of HT_.out (by kernel_rfl)) ?_
    refine tk4_ 0 (some 25) #[true, true, true, true, true, true, true, true, true, true, false, false, false] rfl rfl (take_ofW HT_.out HW_.out (by kernel_rfl)) hHeld ?_
    refine pu_ 10 (some 35) #[true, true, true, true, true, true, true, true, true, true, true, false, false] rfl rfl (any_of HT_.out (by kernel_rfl)) ?_
    refine one_ (i := 11) (N := none) #[true, true, true, true, true, true, true, true, true, true, true, true, false] rfl rfl (one_of HT_.out (by kernel_rfl)) (by decide) (fun K hK => ?_)
    have hs20 : w19.cell? ⟨gb274, 0, none⟩ = some (.int .u64 0) := bc_ BK274.out 0
    have hfs20 := blk_frozen BK274.out 0
    have hns20_0 := NB273_274.out
    have hms20_0 := NB274_273.out
    have hs21 : w19.cell? ⟨gb274, 1, none⟩ = some (.int .u64 0) := bc_ BK274.out 1
    have hfs21 := blk_frozen BK274.out 1
    have hns21_0 := NB273_274.out
    have hms21_0 := NB274_273.out
    have hs22 : w19.cell? ⟨gb274, 2, none⟩ = some (.int .i64 0) := bc_ BK274.out 2
    have hfs22 := blk_frozen BK274.out 2
    have hns22_0 := NB273_274.out
    have hms22_0 := NB274_273.out
    have hs23 : w19.cell? ⟨gb274, 3, none⟩ = some (.bool false) := bc_ BK274.out 3
    have hfs23 := blk_frozen BK274.out 3
    have hns23_0 := NB273_274.out
    have hms23_0 := NB274_273.out
    have hs24 : w19.cell? ⟨gb274, 4, none⟩ = some (.int .i64 0) := bc_ BK274.out 4
    have hfs24 := blk_frozen BK274.out 4
    have hns24_0 := NB273_274.out
    have hms24_0 := NB274_273.out
    have hs25 : w19.cell? ⟨gb274, 5, none⟩ = some (.int .i64 0) := bc_ BK274.out 5
    have hfs25 := blk_frozen BK274.out 5
    have hns25_0 := NB273_274.out
    have hms25_0 := NB274_273.out
    have hs26 : w19.cell? ⟨gb274, 6, none⟩ = some (.int .i64 0) := bc_ BK274.out 6
    have hfs26 := blk_frozen BK274.out 6
    have hns26_0 := NB273_274.out
    have hms26_0 := NB274_273.out
    have hs27 : w19.cell? ⟨gb274, 7, none⟩ = some (.int .i64 0) := bc_ BK274.out 7
    have hfs27 := blk_frozen BK274.out 7
    have hns27_0 := NB273_274.out
    have hms27_0 := NB274_273.out
    have hs28 : w19.cell? ⟨gb274, 8, none⟩ = some (.bool false) := bc_ BK274.out 8
    have hfs28 := blk_frozen BK274.out 8
    have hns28_0 := NB273_274.out
    have hms28_0 := NB274_273.out
    refine skip_ (w1 := ?_) (by rfl) rfl ?_ ?_
    rotate_left
    ·go_simp
     rfl
    refine hK.out _ _ ⟨((cell_far (p := ⟨gb274, _, none⟩) NB273_274.out _).trans (((cell_far (p := ⟨gb274, _, none⟩) NB273_274.out _).trans (((cell_far (p := ⟨gb274, _, none⟩) NB273_274.out _).trans (((cell_far (p := ⟨gb274, _, none⟩) NB273_274.out _).trans (((cell_far (p := ⟨gb274, _, none⟩) NB273_274.out _).trans (((cell_far (p := ⟨gb274, _, none⟩) NB273_274.out _).trans (((cell_far (p := ⟨gb274, _, none⟩) NB273_274.out _).trans (((cell_far (p := ⟨gb274, _, none⟩) NB273_274.out _).trans (((cell_far (p := ⟨gb274, _, none⟩) NB273_274.out _).trans (hHeld.1)))))))))))))))))), ((cell_far (p := ⟨gb274, _, none⟩) NB273_274.out _).trans (((cell_far (p := ⟨gb274, _, none⟩) NB273_274.out _).trans (((cell_far (p := ⟨gb274, _, none⟩) NB273_274.out _).trans (((cell_far (p := ⟨gb274, _, none⟩) NB273_274.out _).trans (((cell_far (p := ⟨gb274, _, none⟩) NB273_274.out _).trans (((cell_far (p := ⟨gb274, _, none⟩) NB273_274.out _).trans (((cell_far (p := ⟨gb274, _, none⟩) NB273_274.out _).trans (((cell_far (p := ⟨gb274, _, none⟩) NB273_274.out _).trans (((cell_far (p := ⟨gb274, _, none⟩) NB273_274.out _).trans (hHeld.2.1)))))))))))))))))), ((cell_far (p := ⟨gb274, _, none⟩) NB273_274.out _).trans (((cell_far (p := ⟨gb274, _, none⟩) NB273_274.out _).trans (((cell_far (p := ⟨gb274, _, none⟩) NB273_274.out _).trans (((cell_far (p := ⟨gb274, _, none⟩) NB273_274.out _).trans (((cell_far (p := ⟨gb274, _, none⟩) NB273_274.out _).trans (((cell_far (p := ⟨gb274, _, none⟩) NB273_274.out _).trans (((cell_far (p := ⟨gb274, _, none⟩) NB273_274.out _).trans (((cell_far (p := ⟨gb274, _, none⟩) NB273_274.out _).trans (((cell_far (p := ⟨gb274, _, none⟩) NB273_274.out _).trans (hHeld.2.2.1)))))))))))))))))), ((cell_far (p := ⟨gb274, _, none⟩) NB273_274.out _).trans (((cell_far (p := ⟨gb274, _, none⟩) NB273_274.out _).trans (((cell_far (p := ⟨gb274, _, none⟩) NB273_274.out _).trans (((cell_far (p := ⟨gb274, _, none⟩) NB273_274.out _).trans (((cell_far (p := ⟨gb274, _, none⟩) NB273_274.out _).trans (((cell_far (p := ⟨gb274, _, none⟩) NB273_274.out _).trans (((cell_far (p := ⟨gb274, _, none⟩) NB273_274.out _).trans (((cell_far (p := ⟨gb274, _, none⟩) NB273_274.out _).trans (((cell_far (p := ⟨gb274, _, none⟩) NB273_274.out _).trans (hHeld.2.2.2))))))))))))))))))⟩ (fun hHeld => ?_)
    clear hK K
    refine pu_ 12 (some 7) #[true, true, true, true, true, true, true, true, true, true, true, true, true] rfl rfl (any_of HT_.out (by kernel_rfl)) ?_
    refine done_ (done_of HT_.out (by kernel_rfl)) ?_
    try go_wp2
    refine bodyPost_ret (results_ct rfl _ _ gb274 193 #[.int .u64 a2_0, .int .u64 a2_1, .int .i64 a2_2, .bool a2_3, .int .i64 a0, .int .i64 t276, .int .i64 (wrap64 ((wrap64 (2 - (ji13))) - t276)), .int .i64 (wrap64 ((wrap64 ((wrap64 ((wrap64 (2 - (ji13))) - t276)) + (ji15))) - 3)), .bool a1] (0, 0) _ rfl (by (with_reducible repeat (first | refine blk_drewN ?_ _ | refine blk_drew ?_ | refine blk_alloc ?_ _)); refine blk_put (cs := #[.int .u64 a2_0, .int .u64 a2_1, .int .i64 a2_2, .bool a2_3, .int .i64 a0, .int .i64 t276, .int .i64 (wrap64 ((wrap64 (2 - (ji13))) - t276)), .int .i64 (wrap64 ((wrap64 ((wrap64 ((wrap64 (2 - (ji13))) - t276)) + (ji15))) - 3)), .bool false]) ?_ 8 _ rfl; (with_reducible repeat (first | refine blk_drewN ?_ _ | refine blk_drew ?_ | refine blk_alloc ?_ _)); refine blk_put (cs := #[.int .u64 a2_0, .int .u64 a2_1, .int .i64 a2_2, .bool a2_3, .int .i64 a0, .int .i64 t276, .int .i64 (wrap64 ((wrap64 (2 - (ji13))) - t276)), .int .i64 0, .bool false]) ?_ 7 _ rfl; (with_reducible repeat (first | refine blk_drewN ?_ _ | refine blk_drew ?_ | refine blk_alloc ?_ _)); refine blk_put (cs := #[.int .u64 a2_0, .int .u64 a2_1, .int .i64 a2_2, .bool a2_3, .int .i64 a0, .int .i64 t276, .int .i64 0, .int .i64 0, .bool false]) ?_ 6 _ rfl; (with_reducible repeat (first | refine blk_drewN ?_ _ | refine blk_drew ?_ | refine blk_alloc ?_ _)); refine blk_put (cs := #[.int .u64 a2_0, .int .u64 a2_1, .int .i64 a2_2, .bool a2_3, .int .i64 a0, .int .i64 0, .int .i64 0, .int .i64 0, .bool false]) ?_ 5 _ rfl; (with_reducible repeat (first | refine blk_drewN ?_ _ | refine blk_drew ?_ | refine blk_alloc ?_ _)); refine blk_put (cs := #[.int .u64 a2_0, .int .u64 a2_1, .int .i64 a2_2, .bool a2_3, .int .i64 0, .int .i64 0, .int .i64 0, .int .i64 0, .bool false]) ?_ 4 _ rfl; (with_reducible repeat (first | refine blk_drewN ?_ _ | refine blk_drew ?_ | refine blk_alloc ?_ _)); refine blk_put (cs := #[.int .u64 a2_0, .int .u64 a2_1, .int .i64 a2_2, .bool false, .int .i64 0, .int .i64 0, .int .i64 0, .int .i64 0, .bool false]) ?_ 3 _ rfl; (with_reducible repeat (first | refine blk_drewN ?_ _ | refine blk_drew ?_ | refine blk_alloc ?_ _)); refine blk_put (cs := #[.int .u64 a2_0, .int .u64 a2_1, .int .i64 0, .bool false, .int .i64 0, .int .i64 0, .int .i64 0, .int .i64 0, .bool false]) ?_ 2 _ rfl; (with_reducible repeat (first | refine blk_drewN ?_ _ | refine blk_drew ?_ | refine blk_alloc ?_ _)); refine blk_put (cs := #[.int .u64 a2_0, .int .u64 0, .int .i64 0, .bool false, .int .i64 0, .int .i64 0, .int .i64 0, .int .i64 0, .bool false]) ?_ 1 _ rfl; (with_reducible repeat (first | refine blk_drewN ?_ _ | refine blk_drew ?_ | refine blk_alloc ?_ _)); refine blk_put (cs := #[.int .u64 0, .int .u64 0, .int .i64 0, .bool false, .int .i64 0, .int .i64 0, .int .i64 0, .int .i64 0, .bool false]) ?_ 0 _ rfl; (with_reducible repeat (first | refine blk_drewN ?_ _ | refine blk_drew ?_ | refine blk_alloc ?_ _)); exact BK274.out) Tryz.underlying193 rfl (by kernel_rfl)) rfl ?_
    exact ⟨by first | rfl | (simp [errW_none, errW_some] <;> rfl) | (simp only [← hji11, ← hji13, ← hji15]; first | rfl | (simp [errW_none, errW_some] <;> rfl)) | (simp [*, errW_none, errW_some] <;> rfl), hb2_ HB.out GE273.out GE274.out⟩
   ·rw [if_neg c14] at H
    exact absurd H (by simp)
  ·rw [if_neg c12] at H
   exact absurd H (by simp)
end Go.Proofs.YtnmlmgmljoncoaaGreatDoor.PA
/- What round.Pack does in its main way, told by what its callees answer; for every input in their bounds. -/
namespace Go.Proofs.YtnmlmgmljoncoaaGreatDoor.PA
open Go.RowKit Go.Proofs.YtnmlmgmljoncoaaGreatDoorW.PrintWords Go.Proofs.YtnmlmgmljoncoaaGreatDoorW.PrintLast Go.Proofs.YtnmlmgmljoncoaaGreatDoorW.PrintMore
attribute [local go_sem] max2_int min2_int max_two min_two max_three min_three max_four min_four   -- for this text's walks alone
set_option linter.unusedVariables false
set_option linter.unusedSimpArgs false
attribute [local go_sem high] eqA166
def rp_N (h l e n : Int) (m : Bool) (s0 s1 e2 : Int) : Prop :=
  (n ≤ 0 ∧ m = false ∧ s0 = h ∧ s1 = l ∧ e2 = e) ∨ (0 < n ∧ e2 = e + n ∧ ∃ (k0 k1 q0 q1 : Int) (lost x up : Bool), wide_Right.f h l (n - 1) = some (k0, k1, lost) ∧ wide_Right.f k0 k1 1 = some (q0, q1, x) ∧
    ((Go.bits .and .u64 k1 1 == 1) && ((lost || m) || (Go.bits .and .u64 q1 1 == 1))) = up ∧ (up = true → wide_Add.f q0 q1 0 1 = some (s0, s1)) ∧ (up = false → s0 = q0 ∧ s1 = q1))
theorem rp_near (b : Nat) (h l e n s0 s1 e2 : Int) (m : Bool) (w : World) (P : rp_PK b h l e m w w)
    (f : ∀ i, w.frozen? ⟨b, i, none⟩ = false) (h1 : n < 1099511627776) (e0 : -1099511627776 < e) (e1 : e < 1099511627776) (X : rp_N h l e n m s0 s1 e2) :
    Calls Tryz.prog 243 #[.pointer (some ⟨b, 0, none⟩), .int .i64 n] w fun en w' => en = .returned (.tuple #[]) ∧ rp_PK b s0 s1 e2 false w w' := by
  rcases X with ⟨h0, rfl, rfl, rfl, rfl⟩ | ⟨h0, rfl, k0, k1, q0, q1, lost, x, up, R1, R2, U, A1, A0⟩
  · refine (rp_near0 b s0 s1 e2 n w P.c0 P.c1 P.c2 P.c3 (f 3) h0).mono ?_
    rintro en w' ⟨rfl, rfl⟩
    exact ⟨rfl, P.put3 false⟩
  · exact rp_near1 b h l e n k0 k1 q0 q1 s0 s1 m lost x up w P.c0 P.c1 P.c2 P.c3 (f 0) (f 1) (f 2) (f 3) h0 h1 e0 e1 R1 R2 U A1 A0
set_option maxHeartbeats 8000000 in
set_option maxRecDepth 100000 in
theorem rp_pack (W f t2 t1 lo hi : Int) (hW : (W = 32 ∧ f = 23 ∧ t2 = 16777216 ∧ t1 = 8388608) ∨ (W = 64 ∧ f = 52 ∧ t2 = 9007199254740992 ∧ t1 = 4503599627370496)) (hlo : -10000 < lo ∧ lo < 10000) (h l e h1 l1 e1 n1 n s0 s1 e2 n2 u r0 r1 e3 r : Int) (m m1 ng : Bool) (w : World)
    (AIM : round_aim.f W ng h l e m = some (h, l, e, m, W, f, lo, hi, ng, true))
    (Z : (h == 0 && l == 0) = false ∨ m = true) (E1 : e ≤ 1048576) (E2 : -1048576 ≤ e)
    (T : (m = true ∧ (∃ n0, wide_Len.f h l = some n0 ∧ n0 < 127) ∧ (∃ x0 x1, wide_Left.f h l 1 = some (x0, x1) ∧ wide_Add.f x0 x1 0 1 = some (h1, l1)) ∧ e - 1 = e1 ∧ m1 = false) ∨ ((m = false ∨ ∃ n0, wide_Len.f h l = some n0 ∧ 127 ≤ n0) ∧ h1 = h ∧ l1 = l ∧ e1 = e ∧ m1 = m))
    (L1 : wide_Len.f h1 l1 = some n1) (b1 : 0 ≤ n1 ∧ n1 ≤ 128) (NB : mx (n1 - f - 1) (lo - e1) = n) (NX : rp_N h1 l1 e1 n m1 s0 s1 e2)
    (L2 : wide_Len.f s0 s1 = some n2) (b2 : 0 ≤ n2 ∧ n2 ≤ 128) (U : mn (f + 1 - n2) (e2 - lo) = u) (RX : (0 < u ∧ wide_Left.f s0 s1 u = some (r0, r1) ∧ e2 - u = e3) ∨ (u ≤ 0 ∧ r0 = s0 ∧ r1 = s1 ∧ e2 = e3))
    (FX : (hi < e3 ∧ shape_Inf.f W ng = some r) ∨ (e3 ≤ hi ∧ r0 = 0 ∧ ∃ l4 e4, ((r1 = t2 ∧ t1 = l4 ∧ e3 + 1 = e4) ∨ (r1 ≠ t2 ∧ r1 = l4 ∧ e3 = e4)) ∧
      ((l4 = 0 ∧ shape_Zero.f W ng = some r) ∨ (l4 ≠ 0 ∧ hi < e4 ∧ shape_Inf.f W ng = some r) ∨ (l4 ≠ 0 ∧ e4 ≤ hi ∧ ∃ k z, shape_Close.f k W ng 1 e4 l4 = some (r, z))))) :
    Calls Tryz.prog 214 #[.int .i64 W, .bool ng, .agg #[.int .u64 h, .int .u64 l], .int .i64 e, .bool m] w fun en w' => en = .returned (.int .u64 r) ∧ Below w.heap.size w w' := by
  have hu41 := Tryz.underlying166
  have hu95 := Tryz.underlying191
  have hu97 := Tryz.underlying193
  have A_ := Aside0.mk AIM
  have D1 : decide (1048576 < e) = false := decide_eq_false (by omega)
  have D2 : decide (e < -1048576) = false := decide_eq_false (by omega)
  clear AIM
  go_enter Tryz.func214, Tryz.ntmps214
  go_upto_region 4 with (first | (go_at_call 239; (with_reducible refine (round_aim.calls W ng h l e m h l e m W f lo hi ng true _ A_.out).mono ?_); rintro en w1 ⟨rfl, hb⟩))
  have HW := Aside0.mk (below_alloc (below_step (below_alloc (Below.refl _ w) _) hb) (.cells #[.int .u64 h, .int .u64 l, .int .i64 e, .bool m, .int .i64 W, .int .i64 f, .int .i64 lo, .int .i64 hi, .bool ng] 193 (0, 0)))
  have hag : w.heap.size < w1.heap.size := by have := hb.size; simp at this; omega
  have sa := ((Nr.bcell hb).1 w.heap.size 0 (by simp)).trans (show _ = some (Value.int .u64 h) by simp [go_sem])
  have sb := ((Nr.bcell hb).1 w.heap.size 1 (by simp)).trans (show _ = some (Value.int .u64 l) by simp [go_sem])
  have P : rp_PK w1.heap.size h l e m (w1.alloc (.cells #[.int .u64 h, .int .u64 l, .int .i64 e, .bool m, .int .i64 W, .int .i64 f, .int .i64 lo, .int .i64 hi, .bool ng] 193 (0, 0))) _ := rp_PK.start (by simp [go_sem]) (by simp [go_sem]) (by simp [go_sem]) (by simp [go_sem])
  have C : (w1.alloc (.cells #[.int .u64 h, .int .u64 l, .int .i64 e, .bool m, .int .i64 W, .int .i64 f, .int .i64 lo, .int .i64 hi, .bool ng] 193 (0, 0))).cell? ⟨w1.heap.size, 4, none⟩ = some (.int .i64 W) ∧ (w1.alloc (.cells #[.int .u64 h, .int .u64 l, .int .i64 e, .bool m, .int .i64 W, .int .i64 f, .int .i64 lo, .int .i64 hi, .bool ng] 193 (0, 0))).cell? ⟨w1.heap.size, 5, none⟩ = some (.int .i64 f) ∧
      (w1.alloc (.cells #[.int .u64 h, .int .u64 l, .int .i64 e, .bool m, .int .i64 W, .int .i64 f, .int .i64 lo, .int .i64 hi, .bool ng] 193 (0, 0))).cell? ⟨w1.heap.size, 6, none⟩ = some (.int .i64 lo) ∧ (w1.alloc (.cells #[.int .u64 h, .int .u64 l, .int .i64 e, .bool m, .int .i64 W, .int .i64 f, .int .i64 lo, .int .i64 hi, .bool ng] 193 (0, 0))).cell? ⟨w1.heap.size, 7, none⟩ = some (.int .i64 hi) ∧ (w1.alloc (.cells #[.int .u64 h, .int .u64 l, .int .i64 e, .bool m, .int .i64 W, .int .i64 f, .int .i64 lo, .int .i64 hi, .bool ng] 193 (0, 0))).cell? ⟨w1.heap.size, 8, none⟩ = some (.bool ng) ∧
      ∀ i, (w1.alloc (.cells #[.int .u64 h, .int .u64 l, .int .i64 e, .bool m, .int .i64 W, .int .i64 f, .int .i64 lo, .int .i64 hi, .bool ng] 193 (0, 0))).frozen? ⟨w1.heap.size, i, none⟩ = false := ⟨by simp [go_sem], by simp [go_sem], by simp [go_sem], by simp [go_sem], by simp [go_sem], fun i => by simp [go_sem]⟩
  have S : (w1.alloc (.cells #[.int .u64 h, .int .u64 l, .int .i64 e, .bool m, .int .i64 W, .int .i64 f, .int .i64 lo, .int .i64 hi, .bool ng] 193 (0, 0))).cell? ⟨w.heap.size, 0, none⟩ = some (.int .u64 h) ∧ (w1.alloc (.cells #[.int .u64 h, .int .u64 l, .int .i64 e, .bool m, .int .i64 W, .int .i64 f, .int .i64 lo, .int .i64 hi, .bool ng] 193 (0, 0))).cell? ⟨w.heap.size, 1, none⟩ = some (.int .u64 l) := ⟨(Nr.al hag 0 _).trans sa, (Nr.al hag 1 _).trans sb⟩
  generalize w1.alloc (.cells #[.int .u64 h, .int .u64 l, .int .i64 e, .bool m, .int .i64 W, .int .i64 f, .int .i64 lo, .int .i64 hi, .bool ng] 193 (0, 0)) = w2 at *
  clear hb sa sb
  obtain ⟨g, hg⟩ : ∃ g, w1.heap.size = g := ⟨_, rfl⟩
  rw [hg] at P C hag ⊢
  have C' := Aside0.mk C
  have S' := Aside0.mk S
  have P' := Aside0.mk P
  have N1 := Aside0.mk L1
  have N2 := Aside0.mk L2
  have NN := Aside0.mk NX
  have RR := Aside0.mk RX
  have FF := Aside0.mk FX
  have q0 : -1048578 < e1 ∧ e1 < 1048578 := by
    rcases T with ⟨_, _, _, hh, _⟩ | ⟨_, _, _, hh, _⟩ <;> omega
  have q1 : -1099511627776 < n ∧ n < 1099511627776 := by unfold mx at NB; rcases hW with ⟨_, hf, _⟩ | ⟨_, hf, _⟩ <;> split at NB <;> omega
  have q2 : -1099511627776 < e2 ∧ e2 < 1099511627776 := by
    unfold mx at NB
    rcases NX with ⟨_, _, _, _, hh⟩ | ⟨_, hh, _⟩
    · omega
    · rcases hW with ⟨_, hf, _⟩ | ⟨_, hf, _⟩ <;> split at NB <;> omega
  have q3 : -1099511627776 < e3 ∧ e3 < 1099511627776 := by
    rcases RX with ⟨_, _, hh⟩ | ⟨_, _, _, hh⟩
    · unfold mn at U; rcases hW with ⟨_, hf, _⟩ | ⟨_, hf, _⟩ <;> split at U <;> omega
    · omega
  have hf : f = 23 ∨ f = 52 := by rcases hW with ⟨_, hf, _⟩ | ⟨_, hf, _⟩ <;> omega
  have UU := Aside0.mk (show mn (f + 1 - n2) (e2 - lo) = u from U)
  have V1 := Aside0.mk (show IntKind.i64.wrap (n1 - f) = n1 - f by rw [i64_w]; unfold wrap64; omega)
  have V2 := Aside0.mk (show IntKind.i64.wrap (n1 - f - 1) = n1 - f - 1 by rw [i64_w]; unfold wrap64; omega)
  have V3 := Aside0.mk (show IntKind.i64.wrap (lo - e1) = lo - e1 by rw [i64_w]; unfold wrap64; omega)
  have V4 := Aside0.mk (show (if n1 - f - 1 < lo - e1 then lo - e1 else n1 - f - 1) = n from NB)
  have V5 := Aside0.mk (show IntKind.i64.wrap (e - 1) = e - 1 by rw [i64_w]; unfold wrap64; omega)
  have HH := Aside0.mk (show -10000 < lo ∧ lo < 10000 ∧ 0 ≤ n2 ∧ n2 ≤ 128 ∧ (0 ≤ f ∧ f < 1000) from ⟨hlo.1, hlo.2, b2.1, b2.2, by omega, by omega⟩)
  have QQ := Aside0.mk (And.intro q0 (And.intro q1 (And.intro q2 q3)))
  have WW := Aside0.mk hW
  have sa := S.1; have sb := S.2
  have c0 := P.c0; have c1 := P.c1; have c2 := P.c2; have c3 := P.c3; have f0 := C.2.2.2.2.2 0; have f1 := C.2.2.2.2.2 1; have f2 := C.2.2.2.2.2 2; have f3 := C.2.2.2.2.2 3
  clear S P C L1 L2 NX RX FX q0 q1 q2 q3 U NB hW hlo b1 b2 hf E1 E2 A_ hg
  go_cut [26] (fun s26 wx => s26 = .bool false ∧ wx = w2)
  case first =>
    clear T c0 c1 c2 c3 f0 f1 f2 f3 D1 D2
    obtain ⟨bh, hh⟩ : ∃ y, (h == 0) = y := ⟨_, rfl⟩
    obtain ⟨bl_, hl⟩ : ∃ y, (l == 0) = y := ⟨_, rfl⟩
    rw [hh, hl] at Z
    cases bh <;> cases bl_ <;> cases m <;> first
      | (exfalso; simp at Z; done)
      | (clear Z; go_wp2_with fail; go_meet; exact ⟨rfl, rfl⟩)
  case rest =>
    obtain ⟨rfl, hwx⟩ := hcut
    subst wc
    clear Z
    have hlt := Nat.lt_trans hag P'.out.lt
    obtain ⟨tb, T'⟩ : ∃ tb, Aside0 ((tb = true ∧ m = true ∧ (∃ n0, wide_Len.f h l = some n0 ∧ n0 < 127) ∧ (∃ x0 x1, wide_Left.f h l 1 = some (x0, x1) ∧ wide_Add.f x0 x1 0 1 = some (h1, l1)) ∧ e - 1 = e1 ∧ m1 = false) ∨ (tb = false ∧ (m = false ∨ m = true ∧ ∃ n0, wide_Len.f h l = some n0 ∧ 127 ≤ n0) ∧ h1 = h ∧ l1 = l ∧ e1 = e ∧ m1 = m)) := by
      rcases T with h | ⟨h1, h2⟩
      · exact ⟨true, ⟨.inl ⟨rfl, h⟩⟩⟩
      · refine ⟨false, ⟨.inr ⟨rfl, ?_, h2⟩⟩⟩
        rcases h1 with h1 | h1
        · exact .inl h1
        · cases m
          · exact .inl rfl
          · exact .inr ⟨rfl, h1⟩
    clear T
    go_step
    go_upto_region 10 with fail
    clear c0 c1 c2 c3
    go_cut [54] (fun s54 wy => s54 = .bool tb ∧ rp_PK g h l e m w2 wy)
    case first =>
      rcases T'.out with ⟨rfl, rfl, ⟨n0, T1, T2⟩, _⟩ | ⟨rfl, rfl | ⟨rfl, n0, T1, T2⟩, _⟩
      · have B1 := Aside0.mk T1
        have d3 : decide (n0 < 127) = true := decide_eq_true T2
        clear T1 T2
        go_wp2_with (go_at_call 240; (with_reducible refine (wide_Len.calls h l n0 _ B1.out).mono ?_); rintro en w3 ⟨rfl, hb⟩; replace P' := Aside0.mk (P'.out.below hb); clear hb)
        go_meet
        exact ⟨rfl, P'.out⟩
      · go_wp2_with fail
        go_meet
        exact ⟨rfl, P'.out⟩
      · have B1 := Aside0.mk T1
        have d3 : decide (n0 < 127) = false := decide_eq_false (by omega)
        clear T1 T2
        go_wp2_with (go_at_call 240; (with_reducible refine (wide_Len.calls h l n0 _ B1.out).mono ?_); rintro en w3 ⟨rfl, hb⟩; replace P' := Aside0.mk (P'.out.below hb); clear hb)
        go_meet
        exact ⟨rfl, P'.out⟩
    case rest =>
    obtain ⟨rfl, PA_⟩ := hcut
    have PA2 := Aside0.mk PA_
    have sa := (PA_.bl.cell (p := ⟨w.heap.size, 0, none⟩) hag).trans S'.out.1
    have sb := (PA_.bl.cell (p := ⟨w.heap.size, 1, none⟩) hag).trans S'.out.2
    clear PA_ P' D1 D2 f0 f1 f2 f3
    go_upto_if 54 with fail
    go_cut [] (fun wy => rp_PK g h1 l1 e1 m1 w2 wy)
    case first =>
      rcases T'.out with ⟨rfl, rfl, _, ⟨x0, x1, T3, T4⟩, rfl, rfl⟩ | ⟨rfl, _, rfl, rfl, rfl, rfl⟩
      · have B3 := Aside0.mk T3
        have B4 := Aside0.mk T4
        have V6 := V5.out
        clear T3 T4
        go_wp2_with (first
          | (go_at_call 242; (with_reducible refine (wide_Left.calls h l 1 x0 x1 _ B3.out).mono ?_); rintro en w4 ⟨rfl, hb⟩; replace PA2 := Aside0.mk (PA2.out.below hb); clear hb)
          | (go_at_call 215; (with_reducible refine (wide_Of.calls 1 0 1 _ rfl).mono ?_); rintro en w5 ⟨rfl, hb⟩; replace PA2 := Aside0.mk (PA2.out.below hb); clear hb)
          | (go_at_call 241; (with_reducible refine (wide_Add.calls x0 x1 0 1 h1 l1 _ B4.out).mono ?_); rintro en w6 ⟨rfl, hb⟩; replace PA2 := Aside0.mk (PA2.out.below hb); clear hb; have c0 := PA2.out.c0; have c1 := PA2.out.c1; have c2 := PA2.out.c2; have c3 := PA2.out.c3; have f0 := (PA2.out.fs 0).trans (C'.out.2.2.2.2.2 0); have f1 := (PA2.out.fs 1).trans (C'.out.2.2.2.2.2 1); have f2 := (PA2.out.fs 2).trans (C'.out.2.2.2.2.2 2); have f3 := (PA2.out.fs 3).trans (C'.out.2.2.2.2.2 3)))
        go_meet
        exact (((PA2.out.put0 h1).put1 l1).put2 (e - 1)).put3 false
      · go_wp2_with fail
        go_meet
        exact PA2.out
    case rest =>
    have P3 := hcut
    clear hcut T' V5 PA2 sa sb
    have PX := Aside0.mk P3
    have c0 := P3.c0; have c1 := P3.c1; have c2 := P3.c2; have c5 := (P3.cs 5 (by decide)).trans C'.out.2.1; have c6 := (P3.cs 6 (by decide)).trans C'.out.2.2.1
    have v1 := V1.out; have v2 := V2.out; have v3 := V3.out; have v4 := V4.out
    clear P3
    go_upto_region 12 with fail
    go_cut [] (fun wy => rp_PK g s0 s1 e2 false w2 wy)
    case first =>
      refine Reg.start (fun w' => w'.cell? ⟨g, 0, none⟩ = some (.int .u64 h1) ∧ w'.cell? ⟨g, 1, none⟩ = some (.int .u64 l1) ∧ w'.cell? ⟨g, 2, none⟩ = some (.int .i64 e1) ∧ w'.cell? ⟨g, 5, none⟩ = some (.int .i64 f) ∧ w'.cell? ⟨g, 6, none⟩ = some (.int .i64 lo) ∧ rp_PK g h1 l1 e1 m1 w2 w') 16 (by kernel_rfl) (by decide) ⟨c0, c1, c2, c5, c6, PX.out.drew⟩ ?_
      refine Reg.take (i := 0) rfl (by kernel_rfl) (fun _ _ _ h => h) (Or.inl ⟨by rfl, by intro w' hS; obtain ⟨k0, k1, k2, k5, k6, k7⟩ := hS; first | (go_simp; done) | (go_simp; with_reducible rfl)⟩) ?_
      simp only [Act.put, List.setIfInBounds_toArray, List.set_cons_zero, List.set_cons_succ]
      refine Reg.take (i := 1) rfl (by kernel_rfl) (fun _ _ _ h => h) (Or.inl ⟨by rfl, by intro w' hS; obtain ⟨k0, k1, k2, k5, k6, k7⟩ := hS; first | (go_simp; done) | (go_simp; with_reducible rfl)⟩) ?_
      simp only [Act.put, List.setIfInBounds_toArray, List.set_cons_zero, List.set_cons_succ]
      refine Reg.take (i := 2) rfl (by kernel_rfl) (fun _ _ _ h => h) (Or.inl ⟨by rfl, by intro w' hS; obtain ⟨k0, k1, k2, k5, k6, k7⟩ := hS; first | (go_simp; done) | (go_simp; with_reducible rfl)⟩) ?_
      simp only [Act.put, List.setIfInBounds_toArray, List.set_cons_zero, List.set_cons_succ]
      refine Reg.take (i := 3) rfl (by kernel_rfl) (fun _ _ _ h => h) (Or.inl ⟨by rfl, by intro w' hS; obtain ⟨k0, k1, k2, k5, k6, k7⟩ := hS; first | (go_simp; done) | (go_simp; with_reducible rfl)⟩) ?_
      simp only [Act.put, List.setIfInBounds_toArray, List.set_cons_zero, List.set_cons_succ]
      refine Reg.take (i := 5) rfl (by kernel_rfl) (fun _ _ _ h => h) (Or.inl ⟨by rfl, by intro w' hS; obtain ⟨k0, k1, k2, k5, k6, k7⟩ := hS; first | (go_simp; done) | (go_simp; with_reducible rfl)⟩) ?_
      simp only [Act.put, List.setIfInBounds_toArray, List.set_cons_zero, List.set_cons_succ]
      refine Reg.take (i := 6) rfl (by kernel_rfl) (fun _ _ _ h => h) (Or.inl ⟨by rfl, by intro w' hS; obtain ⟨k0, k1, k2, k5, k6, k7⟩ := hS; first | (go_simp; done) | (go_simp; with_reducible rfl)⟩) ?_
      simp only [Act.put, List.setIfInBounds_toArray, List.set_cons_zero, List.set_cons_succ]
      refine Reg.take (i := 9) rfl (by kernel_rfl) (fun _ _ _ h => h) (Or.inl ⟨by rfl, by intro w' hS; obtain ⟨k0, k1, k2, k5, k6, k7⟩ := hS; first | (go_simp; done) | (go_simp; with_reducible rfl)⟩) ?_
      simp only [Act.put, List.setIfInBounds_toArray, List.set_cons_zero, List.set_cons_succ]
      refine Reg.take (i := 10) rfl (by kernel_rfl) (fun _ _ _ h => h) (Or.inl ⟨by rfl, by intro w' hS; obtain ⟨k0, k1, k2, k5, k6, k7⟩ := hS; first | (go_simp; done) | (go_simp; with_reducible rfl)⟩) ?_
      simp only [Act.put, List.setIfInBounds_toArray, List.set_cons_zero, List.set_cons_succ]
      refine Reg.take (i := 11) rfl (by kernel_rfl) (fun _ _ _ h => h) (Or.inl ⟨by rfl, by intro w' hS; obtain ⟨k0, k1, k2, k5, k6, k7⟩ := hS; first | (go_simp; done) | (go_simp; with_reducible rfl)⟩) ?_
      simp only [Act.put, List.setIfInBounds_toArray, List.set_cons_zero, List.set_cons_succ]
      refine Reg.take (i := 12) rfl (by kernel_rfl) (fun _ _ _ h => h) (Or.inl ⟨by rfl, by intro w' hS; obtain ⟨k0, k1, k2, k5, k6, k7⟩ := hS; first | (go_simp; done) | (go_simp; with_reducible rfl)⟩) ?_
      simp only [Act.put, List.setIfInBounds_toArray, List.set_cons_zero, List.set_cons_succ]
      refine Reg.take (i := 13) rfl (by kernel_rfl) (fun _ _ _ h => h) (Or.inl ⟨by rfl, by intro w' hS; obtain ⟨k0, k1, k2, k5, k6, k7⟩ := hS; first | (go_simp; done) | (go_simp; with_reducible rfl)⟩) ?_
      simp only [Act.put, List.setIfInBounds_toArray, List.set_cons_zero, List.set_cons_succ]
      refine Reg.take (i := 14) rfl (by kernel_rfl) (fun _ _ _ h => h) (Or.inl ⟨by rfl, by intro w' hS; have v := v3; first | (go_simp; done) | (go_simp; with_reducible rfl)⟩) ?_
      simp only [Act.put, List.setIfInBounds_toArray, List.set_cons_zero, List.set_cons_succ]
      refine Reg.one (i := 4) rfl (by kernel_rfl) (fun K hK => ?_)
      go_simp
      refine (wide_Len.calls h1 l1 n1 _ N1.out).mono ?_
      rintro en w7 ⟨rfl, hb⟩
      have PW := PX.out.drew.below hb
      refine hK _ _ ⟨PW.c0, PW.c1, PW.c2, (PW.cs 5 (by decide)).trans C'.out.2.1, (PW.cs 6 (by decide)).trans C'.out.2.2.1, PW⟩ ?_
      clear hK K hb PX
      have PX := Aside0.mk PW
      clear PW
      try simp only [Act.put, List.setIfInBounds_toArray, List.set_cons_zero, List.set_cons_succ]
      refine Reg.take (i := 7) rfl (by kernel_rfl) (fun _ _ _ h => h) (Or.inl ⟨by rfl, by intro w' hS; have v := v1; first | (go_simp; done) | (go_simp; with_reducible rfl)⟩) ?_
      simp only [Act.put, List.setIfInBounds_toArray, List.set_cons_zero, List.set_cons_succ]
      refine Reg.take (i := 8) rfl (by kernel_rfl) (fun _ _ _ h => h) (Or.inl ⟨by rfl, by intro w' hS; first | (go_simp; done) | (go_simp; with_reducible rfl)⟩) ?_
      simp only [Act.put, List.setIfInBounds_toArray, List.set_cons_zero, List.set_cons_succ]
      refine Reg.take (i := 15) rfl (by kernel_rfl) (fun _ _ _ h => h) (Or.inl ⟨by rfl, by intro w' hS; first | (go_simp; done) | (go_simp; with_reducible rfl)⟩) ?_
      simp only [Act.put, List.setIfInBounds_toArray, List.set_cons_zero, List.set_cons_succ]
      refine Reg.last rfl (by kernel_rfl) (fun K hK => ?_)
      go_simp
      refine (rp_near g h1 l1 e1 n s0 s1 e2 m1 _ (rp_PK.start PX.out.c0 PX.out.c1 PX.out.c2 PX.out.c3) (fun i => (PX.out.fs i).trans (C'.out.2.2.2.2.2 i)) QQ.out.2.1.2 (by have := QQ.out.1; omega) (by have := QQ.out.1; omega) NN.out).mono ?_
      rintro en w8 ⟨rfl, PY⟩
      refine hK _ _ ?_
      have PZ := PX.out.trans PY
      clear hK K PY PX
      go_wp2_with fail
      go_meet
      exact PZ
    case rest =>
    have P3 := hcut
    clear hcut PX c0 c1 c2 c5 c6 v1 v2 v3 v4 V1 V2 V3 V4 N1 NN
    have PP := Aside0.mk P3
    have RC := Aside0.mk (rp_raise g s0 s1 e2 e3 u f lo hi r0 r1 false wc P3.c0 P3.c1 P3.c2 P3.c3 ((P3.cs 5 (by decide)).trans C'.out.2.1) ((P3.cs 6 (by decide)).trans C'.out.2.2.1) ((P3.cs 7 (by decide)).trans C'.out.2.2.2.1)
      ((P3.fs 0).trans (C'.out.2.2.2.2.2 0)) ((P3.fs 1).trans (C'.out.2.2.2.2.2 1)) ((P3.fs 2).trans (C'.out.2.2.2.2.2 2)) QQ.out.2.2.1.1 QQ.out.2.2.1.2 HH.out.2.2.2.2.1 HH.out.2.2.2.2.2 HH.out.1 HH.out.2.1 n2 HH.out.2.2.1 HH.out.2.2.2.1 N2.out UU.out RR.out)
    clear P3
    rcases FF.out with ⟨x1, x2⟩ | ⟨x1, x2, l4, e4, x3, x4⟩
    · have d4 : decide (e3 ≤ hi) = false := decide_eq_false (by omega)
      have B := Aside0.mk x2
      clear x1 x2 FF
      go_step
      go_wp2_with (first
        | (go_at_call 244; refine RC.out.mono ?_; rintro en w9 ⟨rfl, PR⟩; have PS := Aside0.mk (PP.out.trans PR); clear PR)
        | (go_at_call 147; (with_reducible refine (shape_Inf.calls W ng r _ B.out).mono ?_); rintro en wa ⟨rfl, hb⟩; replace PS := Aside0.mk (PS.out.below hb); clear hb))
      go_ret
      exact ⟨rfl, HW.out.trans (PS.out.bl.mono (Nat.le_of_lt hag))⟩
    · have d4 : decide (e3 ≤ hi) = true := decide_eq_true x1
      subst x2
      have X3 := Aside0.mk x3
      have X4 := Aside0.mk x4
      clear x1 x3 x4 FF
      go_step
      go_wp2_with (first
        | (go_at_call 244; refine RC.out.mono ?_; rintro en w9 ⟨rfl, PR⟩; have PS := Aside0.mk (PP.out.trans PR); clear PR)
        | (go_at_call 245; refine (rp_close g W f t2 t1 hi r1 l4 e3 e4 r false ng _ WW.out PS.out.c0 PS.out.c1 PS.out.c2 PS.out.c3 ((PS.out.cs 4 (by decide)).trans C'.out.1) ((PS.out.cs 5 (by decide)).trans C'.out.2.1) ((PS.out.cs 7 (by decide)).trans C'.out.2.2.2.1) ((PS.out.cs 8 (by decide)).trans C'.out.2.2.2.2.1) ((PS.out.fs 1).trans (C'.out.2.2.2.2.2 1)) ((PS.out.fs 2).trans (C'.out.2.2.2.2.2 2)) QQ.out.2.2.2.1 QQ.out.2.2.2.2 X3.out X4.out).mono ?_; rintro en wa ⟨rfl, hb⟩))
      go_ret
      exact ⟨rfl, HW.out.trans ((PS.out.bl.trans hb).mono (Nat.le_of_lt hag))⟩
end Go.Proofs.YtnmlmgmljoncoaaGreatDoor.PA
namespace Flo

def tw (k : Int) : Rat := (2 : Rat) ^ k
theorem tw_pos (k : Int) : 0 < tw k := Rat.zpow_pos (by decide)
theorem tw_add (a b : Int) : tw (a + b) = tw a * tw b := Rat.zpow_add (by decide) a b
theorem tw_zero : tw 0 = 1 := Rat.zpow_zero ..
theorem tw_one : tw 1 = 2 := Rat.zpow_one ..
theorem tw_succ (a : Int) : tw (a + 1) = 2 * tw a := by rw [tw_add, tw_one, Rat.mul_comm]
theorem tw_pred (a : Int) : tw a = 2 * tw (a - 1) := by
  have := tw_succ (a - 1); rwa [Int.sub_add_cancel] at this
theorem tw_nat (n : Nat) : tw n = ((2 ^ n : Nat) : Rat) := by
  unfold tw; rw [Rat.zpow_natCast]; simp
theorem tw_sub_nat (a b : Int) (h : b ≤ a) : tw a = ((2 ^ (a - b).toNat : Nat) : Rat) * tw b := by
  rw [← tw_nat, ← tw_add]; congr 1; omega
theorem tw_lt {a b : Int} (h : a < b) : tw a < tw b := by
  rw [tw_sub_nat b a (by omega)]
  have h2 : 2 ≤ 2 ^ (b - a).toNat := by
    have : 2 ^ 1 ≤ 2 ^ (b - a).toNat := Nat.pow_le_pow_right (by decide) (by omega)
    simpa using this
  have h3 : (2 : Rat) ≤ ((2 ^ (b - a).toNat : Nat) : Rat) := by exact_mod_cast h2
  have := Rat.mul_le_mul_of_nonneg_right h3 (Rat.le_of_lt (tw_pos a))
  have := tw_pos a
  grind
theorem tw_le {a b : Int} (h : a ≤ b) : tw a ≤ tw b := by
  rcases Int.lt_or_eq_of_le h with h | h
  · exact Rat.le_of_lt (tw_lt h)
  · subst h; exact Rat.le_refl
theorem mul_lt {a b t : Rat} (h : a < b) (ht : 0 < t) : a * t < b * t := Rat.mul_lt_mul_of_pos_right h ht
theorem mul_le {a b t : Rat} (h : a ≤ b) (ht : 0 < t) : a * t ≤ b * t := Rat.mul_le_mul_of_nonneg_right h (Rat.le_of_lt ht)
theorem lt_of_mul {a b t : Rat} (h : a * t < b * t) (ht : 0 < t) : a < b := Rat.lt_of_mul_lt_mul_right h (Rat.le_of_lt ht)
theorem le_of_mul {a b t : Rat} (h : a * t ≤ b * t) (ht : 0 < t) : a ≤ b := Rat.le_of_mul_le_mul_right h ht
theorem nat_lt {a b : Nat} : ((a : Nat) : Rat) < (b : Rat) ↔ a < b := Rat.natCast_lt_natCast
theorem nat_le {a b : Nat} : ((a : Nat) : Rat) ≤ (b : Rat) ↔ a ≤ b := Rat.natCast_le_natCast

structure Fmt where
  f : Nat
  low : Int
  top : Nat
  hf : 1 ≤ f
  ht : 2 ≤ top
namespace Fmt
variable (F : Fmt)
def inf : Nat := F.top * 2 ^ F.f
def sg (m : Nat) : Nat := if m < 2 ^ F.f then m else 2 ^ F.f + m % 2 ^ F.f
def ex (m : Nat) : Int := if m < 2 ^ F.f then F.low else (m / 2 ^ F.f : Nat) - 1 + F.low
def val (m : Nat) : Rat := (F.sg m : Rat) * tw (F.ex m)
def mid (m : Nat) : Rat := ((2 * F.sg m + 1 : Nat) : Rat) * tw (F.ex m - 1)
theorem pow_pos : 0 < 2 ^ F.f := Nat.pow_pos (by decide)
theorem sg_mk (q n : Nat) (h : n < 2 ^ (F.f + 1)) (hq : 0 < q → 2 ^ F.f ≤ n) : F.sg (q * 2 ^ F.f + n) = n ∧ F.ex (q * 2 ^ F.f + n) = q + F.low := by
  have hp := F.pow_pos
  rw [Nat.pow_succ] at h
  unfold sg ex
  by_cases h1 : n < 2 ^ F.f
  · have : q = 0 := by
      rcases Nat.eq_zero_or_pos q with h | h
      · exact h
      · have := hq h; omega
    subst this
    simp [h1]
  · have e : q * 2 ^ F.f + n = (n - 2 ^ F.f) + 2 ^ F.f * (q + 1) := by
      rw [Nat.mul_add, Nat.mul_comm q]; omega
    have h2 : ¬ (q * 2 ^ F.f + n < 2 ^ F.f) := by
      have := Nat.zero_le (q * 2 ^ F.f); omega
    rw [if_neg h2, if_neg h2, e, Nat.add_mul_mod_self_left, Nat.add_mul_div_left _ _ hp, Nat.mod_eq_of_lt (by omega), Nat.div_eq_of_lt (by omega)]
    constructor
    · omega
    · omega
theorem sg_ex (m : Nat) : ∃ q n, m = q * 2 ^ F.f + n ∧ n < 2 ^ (F.f + 1) ∧ (0 < q → 2 ^ F.f ≤ n) ∧ F.sg m = n ∧ F.ex m = q + F.low := by
  have hp := F.pow_pos
  by_cases h : m < 2 ^ F.f
  · refine ⟨0, m, by simp, by rw [Nat.pow_succ]; omega, by simp, ?_, ?_⟩ <;> simp [sg, ex, h]
  · have h3 := Nat.div_add_mod m (2 ^ F.f)
    have h4 : 1 ≤ m / 2 ^ F.f := (Nat.le_div_iff_mul_le hp).2 (by omega)
    have h5 := Nat.mod_lt m hp
    have h6 : m = (m / 2 ^ F.f - 1) * 2 ^ F.f + (2 ^ F.f + m % 2 ^ F.f) := by
      rw [Nat.sub_mul, Nat.one_mul, Nat.mul_comm (m / 2 ^ F.f)]
      have : 2 ^ F.f ≤ 2 ^ F.f * (m / 2 ^ F.f) := Nat.le_mul_of_pos_right _ h4
      omega
    have h7 : 2 ^ F.f + m % 2 ^ F.f < 2 ^ (F.f + 1) := by rw [Nat.pow_succ]; omega
    have := F.sg_mk (m / 2 ^ F.f - 1) (2 ^ F.f + m % 2 ^ F.f) h7 (by omega)
    rw [← h6] at this
    exact ⟨_, _, h6, h7, by omega, this.1, this.2⟩
theorem sg_lt (m : Nat) : F.sg m < 2 ^ (F.f + 1) := by
  obtain ⟨q, n, _, h, _, h1, _⟩ := F.sg_ex m
  rw [h1]; exact h
theorem val_succ (m : Nat) : F.val (m + 1) = F.val m + tw (F.ex m) := by
  obtain ⟨q, n, e, hn, hq, h1, h2⟩ := F.sg_ex m
  have hp := F.pow_pos
  by_cases h : n + 1 < 2 ^ (F.f + 1)
  · obtain ⟨h3, h4⟩ := F.sg_mk q (n + 1) h (fun h => by have := hq h; omega)
    unfold val
    rw [h1, h2, e, Nat.add_assoc, h3, h4]
    push_cast
    grind
  · have hn1 : n + 1 = 2 ^ F.f + 2 ^ F.f := by rw [Nat.pow_succ] at h hn; omega
    have e2 : m + 1 = (q + 1) * 2 ^ F.f + 2 ^ F.f := by rw [e, Nat.add_mul]; omega
    obtain ⟨h3, h4⟩ := F.sg_mk (q + 1) (2 ^ F.f) (by rw [Nat.pow_succ]; omega) (fun _ => Nat.le_refl _)
    unfold val
    rw [h1, h2, e2, h3, h4]
    have : (((q + 1 : Nat) : Int) + F.low) = (q + F.low) + 1 := by omega
    rw [this, tw_succ]
    have h5 : ((n : Nat) : Rat) + 1 = ((2 ^ F.f : Nat) : Rat) + ((2 ^ F.f : Nat) : Rat) := by exact_mod_cast hn1
    grind
theorem mid_eq (m : Nat) : F.mid m = F.val m + tw (F.ex m - 1) := by
  unfold mid val
  rw [tw_pred (F.ex m)]
  push_cast
  grind
theorem mid_lt_succ (m : Nat) : F.mid m < F.val (m + 1) := by
  rw [mid_eq, val_succ, tw_pred (F.ex m)]
  have := tw_pos (F.ex m - 1)
  grind
theorem lt_mid (m : Nat) : F.val m < F.mid m := by
  rw [mid_eq]
  have := tw_pos (F.ex m - 1)
  grind
theorem val_lt_succ (m : Nat) : F.val m < F.val (m + 1) := by
  rw [val_succ]
  have := tw_pos (F.ex m)
  grind
theorem val_mono {a b : Nat} (h : a ≤ b) : F.val a ≤ F.val b := by
  induction b with
  | zero => obtain rfl : a = 0 := by omega
            exact Rat.le_refl
  | succ b ih =>
    rcases Nat.lt_or_ge b a with h1 | h1
    · obtain rfl : a = b + 1 := by omega
      exact Rat.le_refl
    · have := ih h1
      have := F.val_lt_succ b
      grind
theorem val_lt {a b : Nat} (h : a < b) : F.val a < F.val b := by
  have := F.val_mono (show a + 1 ≤ b by omega)
  have := F.val_lt_succ a
  grind
theorem val_lt_iff {a b : Nat} : F.val a < F.val b ↔ a < b := by
  constructor
  · intro h
    rcases Nat.lt_or_ge a b with h1 | h1
    · exact h1
    · have := F.val_mono h1; grind
  · exact F.val_lt
theorem mid_lt {a b : Nat} (h : a < b) : F.mid a < F.mid b := by
  have h1 := F.mid_lt_succ a
  have h2 := F.val_mono (show a + 1 ≤ b by omega)
  have h3 := F.lt_mid b
  grind
theorem val_zero : F.val 0 = 0 := by
  have hp := F.pow_pos
  simp [val, sg, hp]
theorem val_nonneg (m : Nat) : 0 ≤ F.val m := by rw [← F.val_zero]; exact F.val_mono (Nat.zero_le _)

def Up (x : Rat) (m : Nat) : Prop := F.mid m < x ∨ F.mid m = x ∧ m % 2 = 1
def Rnd (U : Nat → Prop) (r : Nat) : Prop := r ≤ F.inf ∧ (∀ m, m < r → U m) ∧ (r < F.inf → ¬ U r)
theorem Rnd.mono' {U V : Nat → Prop} {r s : Nat} (h : F.Rnd U r) (k : F.Rnd V s) (i : ∀ m, U m → V m) : r ≤ s := by
  rcases Nat.lt_or_ge s r with h1 | h1
  · exact absurd (i s (h.2.1 s h1)) (k.2.2 (Nat.lt_of_lt_of_le h1 h.1))
  · exact h1
theorem Rnd.unique {U V : Nat → Prop} {r s : Nat} (h : F.Rnd U r) (k : F.Rnd V s) (i : ∀ m, U m ↔ V m) : r = s :=
  Nat.le_antisymm (Rnd.mono' F h k fun m => (i m).1) (Rnd.mono' F k h fun m => (i m).2)
theorem Up.mono' {x y : Rat} (h : x ≤ y) (m : Nat) (u : F.Up x m) : F.Up y m := by
  rcases u with u | ⟨u, v⟩
  · exact .inl (by grind)
  · rcases (Rat.le_iff_lt_or_eq).1 h with h | h
    · exact .inl (by grind)
    · exact .inr ⟨by grind, v⟩
theorem Rnd.eq {x : Rat} {r s : Nat} (h : F.Rnd (F.Up x) r) (k : F.Rnd (F.Up x) s) : r = s := Rnd.unique F h k fun _ => Iff.rfl
theorem Rnd.exact {m : Nat} (h : m ≤ F.inf) : F.Rnd (F.Up (F.val m)) m := by
  refine ⟨h, fun k hk => .inl ?_, fun _ u => ?_⟩
  · have h1 := F.mid_lt_succ k
    have h2 := F.val_mono (show k + 1 ≤ m by omega)
    grind
  · have h1 := F.lt_mid m
    rcases u with u | ⟨u, _⟩ <;> grind
theorem Rnd.exists (U : Nat → Prop) : ∃ r, F.Rnd U r := by
  have key : ∀ n, n ≤ F.inf → (∃ r, F.Rnd U r) ∨ ∀ m, m < n → U m := by
    intro n
    induction n with
    | zero => intro _; exact .inr (fun m h => by omega)
    | succ n ih =>
      intro h
      rcases ih (by omega) with h1 | h1
      · exact .inl h1
      · by_cases hu : U n
        · refine .inr fun m hm => ?_
          rcases Nat.lt_or_ge m n with h2 | h2
          · exact h1 m h2
          · obtain rfl : m = n := by omega
            exact hu
        · exact .inl ⟨n, by omega, h1, fun _ => hu⟩
  rcases key F.inf (Nat.le_refl _) with h | h
  · exact h
  · exact ⟨F.inf, Nat.le_refl _, h, fun h => by omega⟩
theorem Rnd.make {x : Rat} {q n : Nat} (hx : x < tw (q + F.low + F.f + 1)) (hq : 0 < q → tw (q + F.low + F.f) ≤ x)
    (hd : 0 < n → ((2 * n - 1 : Nat) : Rat) * tw (q + F.low - 1) < x ∨ ((2 * n - 1 : Nat) : Rat) * tw (q + F.low - 1) = x ∧ n % 2 = 0)
    (hu : x < ((2 * n + 1 : Nat) : Rat) * tw (q + F.low - 1) ∨ x = ((2 * n + 1 : Nat) : Rat) * tw (q + F.low - 1) ∧ n % 2 = 0) :
    F.Rnd (F.Up x) (min F.inf (q * 2 ^ F.f + n)) := by
  have hp := F.pow_pos
  have T := tw_pos (q + F.low - 1)
  -- n is at most 2^(f+1), and at least 2^f where q is not 0
  have e1 : tw (q + F.low + F.f + 1) = ((2 ^ (F.f + 2) : Nat) : Rat) * tw (q + F.low - 1) := by
    rw [← tw_nat, ← tw_add]; congr 1; omega
  have e2 : tw (q + F.low + F.f) = ((2 ^ (F.f + 1) : Nat) : Rat) * tw (q + F.low - 1) := by
    rw [← tw_nat, ← tw_add]; congr 1; omega
  have hn : n ≤ 2 ^ (F.f + 1) := by
    rcases Nat.eq_zero_or_pos n with h | h
    · omega
    · have h1 : ((2 * n - 1 : Nat) : Rat) * tw (q + F.low - 1) < ((2 ^ (F.f + 2) : Nat) : Rat) * tw (q + F.low - 1) := by
        rw [← e1]
        rcases hd h with h | ⟨h, _⟩ <;> grind
      have h2 := nat_lt.1 (lt_of_mul h1 T)
      rw [Nat.pow_succ] at h2
      omega
  have hl : 0 < q → 2 ^ F.f ≤ n := by
    intro h
    have h1 := hq h
    have h2 : ((2 ^ (F.f + 1) : Nat) : Rat) * tw (q + F.low - 1) ≤ ((2 * n + 1 : Nat) : Rat) * tw (q + F.low - 1) := by
      rw [← e2]
      rcases hu with h | ⟨h, _⟩ <;> grind
    have h3 := nat_le.1 (le_of_mul h2 T)
    rw [Nat.pow_succ] at h3
    omega
  have par : (q * 2 ^ F.f + n) % 2 = n % 2 := by
    obtain ⟨g, hg⟩ : ∃ g, F.f = g + 1 := ⟨F.f - 1, by have := F.hf; omega⟩
    rw [hg, Nat.pow_succ, ← Nat.mul_assoc]; omega
  -- what is below the answer is above its middle
  have hbelow : ∀ m, m < q * 2 ^ F.f + n → F.Up x m := by
    intro m hm
    have hlast : F.Up x (q * 2 ^ F.f + n - 1) := by
      by_cases h : n ≤ 2 ^ F.f ∧ 0 < q
      · obtain ⟨h, h0⟩ := h
        have h1 : n = 2 ^ F.f := Nat.le_antisymm h (hl h0)
        have e3 : q * 2 ^ F.f + n - 1 = (q - 1) * 2 ^ F.f + (2 ^ (F.f + 1) - 1) := by
          rw [h1, Nat.pow_succ]
          have : q * 2 ^ F.f = (q - 1) * 2 ^ F.f + 2 ^ F.f := by rw [← Nat.succ_mul]; congr 1; omega
          omega
        obtain ⟨h3, h4⟩ := F.sg_mk (q - 1) (2 ^ (F.f + 1) - 1) (by have := Nat.pow_pos (n := F.f + 1) (show 0 < 2 by decide); omega) (by intro _; rw [Nat.pow_succ]; omega)
        refine .inl ?_
        unfold mid
        rw [e3, h3, h4]
        have h5 := hq h0
        have e4 : tw (q + F.low + F.f) = ((2 ^ (F.f + 2) : Nat) : Rat) * tw ((q - 1 : Nat) + F.low - 1) := by
          rw [← tw_nat, ← tw_add]; congr 1; omega
        have h6 : 2 * (2 ^ (F.f + 1) - 1) + 1 < 2 ^ (F.f + 2) := by
          have h7 : 2 ^ (F.f + 2) = 2 ^ (F.f + 1) * 2 := Nat.pow_succ ..
          have h8 := Nat.pow_pos (n := F.f + 1) (show 0 < 2 by decide)
          omega
        have h7 := mul_lt (nat_lt.2 h6) (tw_pos ((q - 1 : Nat) + F.low - 1))
        grind
      · have hn0 : 0 < n := by
          rcases Nat.eq_zero_or_pos n with h0 | h0
          · subst h0
            rcases Nat.eq_zero_or_pos q with h1 | h1
            · subst h1; omega
            · exact absurd ⟨by omega, h1⟩ h
          · exact h0
        have h1 : 0 < q → 2 ^ F.f ≤ n - 1 := by
          intro h0
          have := hl h0
          have : ¬ n ≤ 2 ^ F.f := fun h' => h ⟨h', h0⟩
          omega
        obtain ⟨h3, h4⟩ := F.sg_mk q (n - 1) (by omega) h1
        have e3 : q * 2 ^ F.f + n - 1 = q * 2 ^ F.f + (n - 1) := by omega
        have e4 : 2 * (n - 1) + 1 = 2 * n - 1 := by omega
        unfold Up mid
        rw [e3, h3, h4, e4]
        rcases hd hn0 with h5 | ⟨h5, h6⟩
        · exact .inl h5
        · refine .inr ⟨h5, ?_⟩
          rw [← e3]; omega
    rcases Nat.lt_or_ge m (q * 2 ^ F.f + n - 1) with h1 | h1
    · have h2 := F.mid_lt h1
      rcases hlast with h3 | ⟨h3, _⟩ <;> exact .inl (by grind)
    · obtain rfl : m = q * 2 ^ F.f + n - 1 := by omega
      exact hlast
  refine ⟨Nat.min_le_left _ _, fun m hm => hbelow m (by omega), fun h => ?_⟩
  have hm : min F.inf (q * 2 ^ F.f + n) = q * 2 ^ F.f + n := by omega
  rw [hm]
  by_cases h1 : n < 2 ^ (F.f + 1)
  · obtain ⟨h3, h4⟩ := F.sg_mk q n h1 hl
    unfold Up mid
    rw [h3, h4, par]
    rintro (h5 | ⟨h5, h6⟩) <;> rcases hu with h7 | ⟨h7, h8⟩
    · grind
    · grind
    · grind
    · omega
  · have h1 : n = 2 ^ (F.f + 1) := by omega
    have e3 : q * 2 ^ F.f + n = (q + 1) * 2 ^ F.f + 2 ^ F.f := by rw [h1, Nat.pow_succ, Nat.add_mul]; omega
    obtain ⟨h3, h4⟩ := F.sg_mk (q + 1) (2 ^ F.f) (by rw [Nat.pow_succ]; omega) (fun _ => Nat.le_refl _)
    have h9 := F.lt_mid (q * 2 ^ F.f + n)
    have h10 : F.val (q * 2 ^ F.f + n) = tw (q + F.low + F.f + 1) := by
      unfold val
      rw [e3, h3, h4, ← tw_nat, ← tw_add]; congr 1; omega
    rintro (h5 | ⟨h5, h6⟩) <;> grind
end Fmt
end Flo
set_option linter.unusedVariables false
set_option linter.unusedSimpArgs false
namespace Flo
def rne (a b : Nat) : Nat := if b < 2 * (a % b) ∨ (2 * (a % b) = b ∧ a / b % 2 = 1) then a / b + 1 else a / b
theorem rne_lo (a b : Nat) (hb : 0 < b) (h : 0 < rne a b) : (2 * rne a b - 1) * b < 2 * a ∨ (2 * rne a b - 1) * b = 2 * a ∧ rne a b % 2 = 0 := by
  have h1 := Nat.div_add_mod a b
  have h2 := Nat.mod_lt a hb
  unfold rne at *
  generalize a / b = q at *
  generalize a % b = r at *
  subst h1
  have e1 : (2 * (q + 1) - 1) * b = 2 * (b * q) + b := by
    rw [show 2 * (q + 1) - 1 = 2 * q + 1 by omega, Nat.add_mul, Nat.one_mul, Nat.mul_assoc, Nat.mul_comm q b]
  have e2 : 0 < q → (2 * q - 1) * b + b = 2 * (b * q) := by
    intro h0
    rw [← Nat.succ_mul, show (2 * q - 1).succ = 2 * q by omega, Nat.mul_assoc, Nat.mul_comm q b]
  generalize b * q = t at *
  by_cases h3 : b < 2 * r ∨ 2 * r = b ∧ q % 2 = 1
  · rw [if_pos h3] at h ⊢
    rw [e1]
    omega
  · rw [if_neg h3] at h ⊢
    have := e2 h
    omega
theorem rne_hi (a b : Nat) (hb : 0 < b) : 2 * a < (2 * rne a b + 1) * b ∨ 2 * a = (2 * rne a b + 1) * b ∧ rne a b % 2 = 0 := by
  have h1 := Nat.div_add_mod a b
  have h2 := Nat.mod_lt a hb
  unfold rne
  generalize a / b = q at *
  generalize a % b = r at *
  subst h1
  have e1 : (2 * (q + 1) + 1) * b = 2 * (b * q) + 3 * b := by
    rw [show 2 * (q + 1) + 1 = 2 * q + 3 by omega, Nat.add_mul, Nat.mul_assoc, Nat.mul_comm q b]
  have e2 : (2 * q + 1) * b = 2 * (b * q) + b := by rw [Nat.add_mul, Nat.one_mul, Nat.mul_assoc, Nat.mul_comm q b]
  generalize b * q = t at *
  by_cases h3 : b < 2 * r ∨ 2 * r = b ∧ q % 2 = 1
  · rw [if_pos h3, e1]; omega
  · rw [if_neg h3, e2]; omega
theorem rne_exact (n b : Nat) (hb : 0 < b) : rne (n * b) b = n := by
  unfold rne
  rw [Nat.mul_mod_left, Nat.mul_div_cancel _ hb, if_neg (by omega)]
namespace Fmt
variable (F : Fmt)
theorem Rnd.near {A B q : Nat} (hB : 0 < B) {x : Rat} (hxe : x * (B : Rat) = (A : Rat) * tw (q + F.low)) (hx : x < tw (q + F.low + F.f + 1)) (hq : 0 < q → tw (q + F.low + F.f) ≤ x) :
    F.Rnd (F.Up x) (min F.inf (q * 2 ^ F.f + rne A B)) := by
  have T := tw_pos (q + F.low - 1)
  have hB' : (0 : Rat) < (B : Rat) := by exact_mod_cast hB
  have e := tw_pred (q + F.low)
  rw [e] at hxe
  refine Rnd.make F hx hq ?_ ?_
  · intro h
    have key := rne_lo A B hB h
    generalize 2 * rne A B - 1 = m at *
    rcases key with h1 | ⟨h1, h2⟩
    · left
      have h3 : ((m * B : Nat) : Rat) < ((2 * A : Nat) : Rat) := nat_lt.2 h1
      have h4 := mul_lt h3 T
      refine lt_of_mul (t := (B : Rat)) ?_ hB'
      push_cast at h4
      grind
    · right
      refine ⟨?_, h2⟩
      have h3 : ((m * B : Nat) : Rat) = ((2 * A : Nat) : Rat) := by exact_mod_cast h1
      push_cast at h3
      have h5 : ((m : Rat) * tw (q + F.low - 1)) * B = x * B := by grind
      have h6 : ¬ ((m : Rat) * tw (q + F.low - 1)) < x := fun h => by have := mul_lt h hB'; grind
      have h7 : ¬ x < ((m : Rat) * tw (q + F.low - 1)) := fun h => by have := mul_lt h hB'; grind
      grind
  · have key := rne_hi A B hB
    generalize 2 * rne A B + 1 = m at *
    rcases key with h1 | ⟨h1, h2⟩
    · left
      have h3 : ((2 * A : Nat) : Rat) < ((m * B : Nat) : Rat) := nat_lt.2 h1
      have h4 := mul_lt h3 T
      refine lt_of_mul (t := (B : Rat)) ?_ hB'
      push_cast at h4
      grind
    · right
      refine ⟨?_, h2⟩
      have h3 : ((2 * A : Nat) : Rat) = ((m * B : Nat) : Rat) := by exact_mod_cast h1
      push_cast at h3
      have h5 : ((m : Rat) * tw (q + F.low - 1)) * B = x * B := by grind
      have h6 : ¬ ((m : Rat) * tw (q + F.low - 1)) < x := fun h => by have := mul_lt h hB'; grind
      have h7 : ¬ x < ((m : Rat) * tw (q + F.low - 1)) := fun h => by have := mul_lt h hB'; grind
      grind
theorem Rnd.big {x : Rat} (h : ∀ m, m < F.inf → F.mid m < x) : F.Rnd (F.Up x) F.inf := ⟨Nat.le_refl _, fun m hm => .inl (h m hm), fun h => by omega⟩
theorem mid_big {m : Nat} (h : m < F.inf) : F.mid m < tw (F.top - 1 + F.low + F.f) := by
  have hp := F.pow_pos
  have ht := F.ht
  have h1 := F.mid_lt_succ m
  have h2 := F.val_mono (show m + 1 ≤ F.inf by omega)
  have h3 : F.val F.inf = tw (F.top - 1 + F.low + F.f) := by
    unfold inf val
    have e : F.top * 2 ^ F.f = (F.top - 1) * 2 ^ F.f + 2 ^ F.f := by
      rw [← Nat.succ_mul]; congr 1; omega
    obtain ⟨h3, h4⟩ := F.sg_mk (F.top - 1) (2 ^ F.f) (by rw [Nat.pow_succ]; omega) (fun _ => Nat.le_refl _)
    rw [e, h3, h4, ← tw_nat, ← tw_add]; congr 1; omega
  grind
theorem val_inf : F.val F.inf = tw (F.top - 1 + F.low + F.f) := by
  have hp := F.pow_pos
  have ht := F.ht
  unfold inf val
  have e : F.top * 2 ^ F.f = (F.top - 1) * 2 ^ F.f + 2 ^ F.f := by
    rw [← Nat.succ_mul]; congr 1; omega
  obtain ⟨h3, h4⟩ := F.sg_mk (F.top - 1) (2 ^ F.f) (by rw [Nat.pow_succ]; omega) (fun _ => Nat.le_refl _)
  rw [e, h3, h4, ← tw_nat, ← tw_add]; congr 1; omega
theorem Rnd.huge {x : Rat} (h : tw (F.top - 1 + F.low + F.f) ≤ x) : F.Rnd (F.Up x) F.inf := Rnd.big F fun m hm => by have := F.mid_big hm; grind
theorem mid_zero : F.mid 0 = tw (F.low - 1) := by
  have hp := F.pow_pos
  unfold mid sg ex
  rw [if_pos hp, if_pos hp]
  simp
theorem Rnd.tiny {x : Rat} (h : x < tw (F.low - 1)) : F.Rnd (F.Up x) 0 := by
  refine ⟨Nat.zero_le _, fun m hm => by omega, fun _ u => ?_⟩
  rcases u with u | ⟨_, u⟩
  · rw [mid_zero] at u; grind
  · omega
theorem Up.sticky {U : Nat → Prop} {S : Nat} {e : Int} (hd : ∀ m, F.mid m ≤ (S : Rat) * tw e → U m) (hu : ∀ m, ((S + 1 : Nat) : Rat) * tw e ≤ F.mid m → ¬ U m)
    (hS : 2 ^ (F.f + 1) ≤ S ∨ e ≤ F.low - 1) (m : Nat) : U m ↔ F.Up (((2 * S + 1 : Nat) : Rat) * tw (e - 1)) m := by
  have T := tw_pos e
  have T1 := tw_pos (e - 1)
  have e0 := tw_pred e
  -- a middle is so many of 2^e, or below S of it
  have key : F.mid m ≤ (S : Rat) * tw e ∨ ((S + 1 : Nat) : Rat) * tw e ≤ F.mid m := by
    by_cases h : e ≤ F.ex m - 1
    · have h1 : F.mid m = (((2 * F.sg m + 1) * 2 ^ (F.ex m - 1 - e).toNat : Nat) : Rat) * tw e := by
        unfold mid
        rw [tw_sub_nat (F.ex m - 1) e h]
        push_cast
        grind
      rw [h1]
      rcases Nat.lt_or_ge S ((2 * F.sg m + 1) * 2 ^ (F.ex m - 1 - e).toNat) with h2 | h2
      · exact .inr (mul_le (nat_le.2 h2) T)
      · exact .inl (mul_le (nat_le.2 h2) T)
    · rcases hS with hS | hS
      · left
        have h1 := F.sg_lt m
        have h2 : F.mid m = ((2 * F.sg m + 1 : Nat) : Rat) * tw (F.ex m - 1) := rfl
        have h3 : tw (F.ex m - 1) ≤ tw (e - 1) := tw_le (by omega)
        have h4 : ((2 * F.sg m + 1 : Nat) : Rat) * tw (F.ex m - 1) ≤ ((2 * F.sg m + 1 : Nat) : Rat) * tw (e - 1) := Rat.mul_le_mul_of_nonneg_left h3 (by exact_mod_cast Nat.zero_le _)
        have h5 : ((2 * F.sg m + 1 : Nat) : Rat) ≤ ((2 * S : Nat) : Rat) := nat_le.2 (by omega)
        have h6 := mul_le h5 T1
        push_cast at h4 h6 h2
        have h8 : (S : Rat) * tw e = 2 * S * tw (e - 1) := by rw [e0]; generalize tw (e - 1) = t; grind
        rw [h2, h8]
        exact Rat.le_trans h4 h6
      · exfalso
        have : F.low ≤ F.ex m := by
          obtain ⟨q, n, _, _, _, _, h⟩ := F.sg_ex m
          omega
        omega
  have hm : ((2 * S + 1 : Nat) : Rat) * tw (e - 1) = (S : Rat) * tw e + tw (e - 1) := by push_cast; grind
  have hm2 : ((S + 1 : Nat) : Rat) * tw e = (S : Rat) * tw e + tw (e - 1) + tw (e - 1) := by push_cast; grind
  rw [hm]
  rcases key with h | h
  · exact ⟨fun _ => .inl (by grind), fun _ => hd m h⟩
  · refine ⟨fun u => absurd u (hu m h), fun u => ?_⟩
    rw [hm2] at h
    rcases u with u | ⟨u, _⟩ <;> grind
end Fmt
end Flo
set_option linter.unusedVariables false
set_option linter.unusedSimpArgs false
namespace Flo
namespace Fmt
variable (F : Fmt)
theorem make_bd {x : Rat} {q n : Nat} (hx : x < tw (q + F.low + F.f + 1)) (hq : 0 < q → tw (q + F.low + F.f) ≤ x)
    (hd : 0 < n → ((2 * n - 1 : Nat) : Rat) * tw (q + F.low - 1) < x ∨ ((2 * n - 1 : Nat) : Rat) * tw (q + F.low - 1) = x ∧ n % 2 = 0)
    (hu : x < ((2 * n + 1 : Nat) : Rat) * tw (q + F.low - 1) ∨ x = ((2 * n + 1 : Nat) : Rat) * tw (q + F.low - 1) ∧ n % 2 = 0) :
    n ≤ 2 ^ (F.f + 1) ∧ (0 < q → 2 ^ F.f ≤ n) := by
  have T := tw_pos (q + F.low - 1)
  have e1 : tw (q + F.low + F.f + 1) = ((2 ^ (F.f + 2) : Nat) : Rat) * tw (q + F.low - 1) := by
    rw [← tw_nat, ← tw_add]; congr 1; omega
  have e2 : tw (q + F.low + F.f) = ((2 ^ (F.f + 1) : Nat) : Rat) * tw (q + F.low - 1) := by
    rw [← tw_nat, ← tw_add]; congr 1; omega
  constructor
  · rcases Nat.eq_zero_or_pos n with h | h
    · rw [h]; exact Nat.zero_le _
    · have h1 : ((2 * n - 1 : Nat) : Rat) * tw (q + F.low - 1) < ((2 ^ (F.f + 2) : Nat) : Rat) * tw (q + F.low - 1) := by
        rw [← e1]
        rcases hd h with h | ⟨h, _⟩ <;> grind
      have h2 := nat_lt.1 (lt_of_mul h1 T)
      rw [Nat.pow_succ] at h2
      omega
  · intro h
    have h1 := hq h
    have h2 : ((2 ^ (F.f + 1) : Nat) : Rat) * tw (q + F.low - 1) ≤ ((2 * n + 1 : Nat) : Rat) * tw (q + F.low - 1) := by
      rw [← e2]
      rcases hu with h | ⟨h, _⟩ <;> grind
    have h3 := nat_le.1 (le_of_mul h2 T)
    rw [Nat.pow_succ] at h3
    omega
theorem near_lo {A B q : Nat} (hB : 0 < B) {x : Rat} (hxe : x * (B : Rat) = (A : Rat) * tw (q + F.low)) (h : 0 < rne A B) :
    ((2 * rne A B - 1 : Nat) : Rat) * tw (q + F.low - 1) < x ∨ ((2 * rne A B - 1 : Nat) : Rat) * tw (q + F.low - 1) = x ∧ rne A B % 2 = 0 := by
  have T := tw_pos (q + F.low - 1)
  have hB' : (0 : Rat) < (B : Rat) := by exact_mod_cast hB
  have e := tw_pred (q + F.low)
  rw [e] at hxe
  have key := rne_lo A B hB h
  generalize 2 * rne A B - 1 = m at *
  rcases key with h1 | ⟨h1, h2⟩
  · left
    have h3 : ((m * B : Nat) : Rat) < ((2 * A : Nat) : Rat) := nat_lt.2 h1
    have h4 := mul_lt h3 T
    refine lt_of_mul (t := (B : Rat)) ?_ hB'
    push_cast at h4
    grind
  · right
    refine ⟨?_, h2⟩
    have h3 : ((m * B : Nat) : Rat) = ((2 * A : Nat) : Rat) := by exact_mod_cast h1
    push_cast at h3
    have h5 : ((m : Rat) * tw (q + F.low - 1)) * B = x * B := by generalize tw (q + F.low - 1) = t at *; grind
    have h6 : ¬ ((m : Rat) * tw (q + F.low - 1)) < x := fun h => by have := mul_lt h hB'; grind
    have h7 : ¬ x < ((m : Rat) * tw (q + F.low - 1)) := fun h => by have := mul_lt h hB'; grind
    grind
theorem near_hi {A B q : Nat} (hB : 0 < B) {x : Rat} (hxe : x * (B : Rat) = (A : Rat) * tw (q + F.low)) :
    x < ((2 * rne A B + 1 : Nat) : Rat) * tw (q + F.low - 1) ∨ x = ((2 * rne A B + 1 : Nat) : Rat) * tw (q + F.low - 1) ∧ rne A B % 2 = 0 := by
  have T := tw_pos (q + F.low - 1)
  have hB' : (0 : Rat) < (B : Rat) := by exact_mod_cast hB
  have e := tw_pred (q + F.low)
  rw [e] at hxe
  have key := rne_hi A B hB
  generalize 2 * rne A B + 1 = m at *
  rcases key with h1 | ⟨h1, h2⟩
  · left
    have h3 : ((2 * A : Nat) : Rat) < ((m * B : Nat) : Rat) := nat_lt.2 h1
    have h4 := mul_lt h3 T
    refine lt_of_mul (t := (B : Rat)) ?_ hB'
    push_cast at h4
    grind
  · right
    refine ⟨?_, h2⟩
    have h3 : ((2 * A : Nat) : Rat) = ((m * B : Nat) : Rat) := by exact_mod_cast h1
    push_cast at h3
    have h5 : ((m : Rat) * tw (q + F.low - 1)) * B = x * B := by generalize tw (q + F.low - 1) = t at *; grind
    have h6 : ¬ ((m : Rat) * tw (q + F.low - 1)) < x := fun h => by have := mul_lt h hB'; grind
    have h7 : ¬ x < ((m : Rat) * tw (q + F.low - 1)) := fun h => by have := mul_lt h hB'; grind
    grind
def fin (q n : Nat) : Nat :=
  if n = 2 ^ (F.f + 1) then (if F.top < q + 3 then F.inf else (q + 2) * 2 ^ F.f)
  else if F.top < q + 2 then F.inf else if n < 2 ^ F.f then n else (q + 1) * 2 ^ F.f + (n - 2 ^ F.f)
theorem fin_eq {q n : Nat} (hn : n ≤ 2 ^ (F.f + 1)) (hl : 0 < q → 2 ^ F.f ≤ n) : F.fin q n = min F.inf (q * 2 ^ F.f + n) := by
  have hp := F.pow_pos
  have ht := F.ht
  unfold fin inf
  rw [Nat.pow_succ] at hn ⊢
  have m1 : ∀ a b : Nat, a ≤ b → a * 2 ^ F.f ≤ b * 2 ^ F.f := fun a b h => Nat.mul_le_mul_right _ h
  have e2 : (q + 2) * 2 ^ F.f = q * 2 ^ F.f + 2 ^ F.f * 2 := by rw [Nat.add_mul, Nat.mul_comm 2]
  have e1 : (q + 1) * 2 ^ F.f = q * 2 ^ F.f + 2 ^ F.f := by rw [Nat.add_mul, Nat.one_mul]
  by_cases h : n = 2 ^ F.f * 2
  · rw [if_pos h, h, ← e2]
    split
    · rename_i h2
      have := m1 F.top (q + 2) (by omega)
      omega
    · rename_i h2
      have := m1 (q + 2) F.top (by omega)
      omega
  · rw [if_neg h]
    by_cases h3 : n < 2 ^ F.f
    · have hq : q = 0 := by
        rcases Nat.eq_zero_or_pos q with h4 | h4
        · exact h4
        · have := hl h4; omega
      subst hq
      have := m1 1 F.top (by omega)
      rw [if_neg (by omega), if_pos h3]
      omega
    · split
      · have := m1 F.top (q + 1) (by omega)
        omega
      · have := m1 (q + 2) F.top (by omega)
        omega
end Fmt
end Flo
set_option linter.unusedVariables false
set_option linter.unusedSimpArgs false
namespace Flo
theorem rne_bits (S j m : Nat) (hm : m ≤ 1) :
    rne (2 * S + m) (2 ^ (j + 2)) = if S / 2 ^ j % 2 = 1 ∧ (S % 2 ^ j ≠ 0 ∨ m = 1 ∨ S / 2 ^ j / 2 % 2 = 1) then S / 2 ^ j / 2 + 1 else S / 2 ^ j / 2 := by
  have hp : 0 < 2 ^ j := Nat.pow_pos (by decide)
  have h0 := Nat.div_add_mod S (2 ^ j)
  have h1 := Nat.mod_lt S hp
  generalize S / 2 ^ j = c at *
  generalize S % 2 ^ j = l at *
  generalize hP : 2 ^ j = P at *
  have e4 : 2 ^ (j + 2) = 4 * P := by rw [Nat.pow_add, hP, Nat.mul_comm]
  rw [e4]
  have hc := Nat.div_add_mod c 2
  have hc2 := Nat.mod_lt c (show 0 < 2 by decide)
  generalize c / 2 = n at *
  generalize c % 2 = h at *
  have eP : P * c = P * (2 * n) + P * h := by rw [← Nat.mul_add, hc]
  have e2 : P * (2 * n) = 2 * (P * n) := by rw [Nat.mul_left_comm]
  have e5 : 4 * P * n = 4 * (P * n) := Nat.mul_assoc ..
  have hPh : P * h = if h = 1 then P else 0 := by
    rcases (show h = 0 ∨ h = 1 by omega) with h3 | h3 <;> subst h3 <;> simp
  have hd : (2 * S + m) / (4 * P) = n := by
    rw [Nat.div_eq_iff (by omega)]
    rw [Nat.mul_comm n]
    split at hPh <;> omega
  have hr : (2 * S + m) % (4 * P) = 2 * (P * h) + 2 * l + m := by
    have := Nat.div_add_mod (2 * S + m) (4 * P)
    rw [hd, e5] at this
    omega
  unfold rne
  rw [hd, hr]
  have hmod : n % 2 < 2 := Nat.mod_lt _ (by decide)
  rcases (show h = 0 ∨ h = 1 by omega) with h3 | h3
  · subst h3
    rw [if_neg (by rw [Nat.mul_zero]; omega), if_neg (by omega)]
  · subst h3
    rw [Nat.mul_one]
    by_cases h4 : l ≠ 0 ∨ m = 1 ∨ n % 2 = 1
    · rw [if_pos (show 4 * P < 2 * (2 * P + 2 * l + m) ∨ 2 * (2 * P + 2 * l + m) = 4 * P ∧ n % 2 = 1 by omega), if_pos ⟨rfl, h4⟩]
    · rw [if_neg (show ¬ (4 * P < 2 * (2 * P + 2 * l + m) ∨ 2 * (2 * P + 2 * l + m) = 4 * P ∧ n % 2 = 1) by omega), if_neg (fun h => h4 h.2)]
namespace Fmt
variable (F : Fmt)
theorem Rnd.congr {U V : Nat → Prop} {r : Nat} (h : F.Rnd U r) (i : ∀ m, U m ↔ V m) : F.Rnd V r := ⟨h.1, fun m hm => (i m).1 (h.2.1 m hm), fun hr u => h.2.2 hr ((i r).2 u)⟩
theorem Rnd.sticky {U : Nat → Prop} {S r : Nat} {e : Int} (h : F.Rnd (F.Up (((2 * S + 1 : Nat) : Rat) * tw (e - 1))) r) (hd : ∀ m, F.mid m ≤ (S : Rat) * tw e → U m) (hu : ∀ m, ((S + 1 : Nat) : Rat) * tw e ≤ F.mid m → ¬ U m)
    (hS : 2 ^ (F.f + 1) ≤ S ∨ e ≤ F.low - 1) : F.Rnd U r := Rnd.congr F h fun m => (Up.sticky F hd hu hS m).symm
theorem Rnd.between {x : Rat} {S r : Nat} {e : Int} (h : F.Rnd (F.Up (((2 * S + 1 : Nat) : Rat) * tw (e - 1))) r) (h1 : (S : Rat) * tw e < x) (h2 : x < ((S + 1 : Nat) : Rat) * tw e)
    (hS : 2 ^ (F.f + 1) ≤ S ∨ e ≤ F.low - 1) : F.Rnd (F.Up x) r :=
  Rnd.sticky F h (fun m hm => .inl (by grind)) (fun m hm u => by rcases u with u | ⟨u, _⟩ <;> grind) hS
theorem Rnd.pack_dn {S la j m : Nat} {e : Int} {q : Nat} (hm : m ≤ 1) (h1 : 2 ^ la ≤ 2 * S) (h2 : S < 2 ^ la) (hj : ((j + 1 : Nat) : Int) = max ((la : Int) - F.f - 1) (F.low - e)) (hq : (q : Int) = e + (j + 1 : Nat) - F.low) :
    F.Rnd (F.Up (((2 * S + m : Nat) : Rat) * tw (e - 1))) (F.fin q (rne (2 * S + m) (2 ^ (j + 2)))) ∧ rne (2 * S + m) (2 ^ (j + 2)) ≤ 2 ^ (F.f + 1) ∧ (0 < q → 2 ^ F.f ≤ rne (2 * S + m) (2 ^ (j + 2))) := by
  have hB : 0 < 2 ^ (j + 2) := Nat.pow_pos (by decide)
  have T := tw_pos (e - 1)
  have hxe : ((2 * S + m : Nat) : Rat) * tw (e - 1) * ((2 ^ (j + 2) : Nat) : Rat) = ((2 * S + m : Nat) : Rat) * tw (q + F.low) := by
    rw [← tw_nat, Rat.mul_assoc, ← tw_add]; congr 2; omega
  have hx : ((2 * S + m : Nat) : Rat) * tw (e - 1) < tw (q + F.low + F.f + 1) := by
    have h3 : ((2 * S + m : Nat) : Rat) < ((2 ^ (la + 1) : Nat) : Rat) := nat_lt.2 (by rw [Nat.pow_succ]; omega)
    have h4 := mul_lt h3 T
    rw [← tw_nat, ← tw_add] at h4
    have h5 : tw ((la + 1 : Nat) + (e - 1)) ≤ tw (q + F.low + F.f + 1) := tw_le (by omega)
    grind
  have hl : 0 < q → tw (q + F.low + F.f) ≤ ((2 * S + m : Nat) : Rat) * tw (e - 1) := by
    intro h
    have h3 : ((2 ^ la : Nat) : Rat) ≤ ((2 * S + m : Nat) : Rat) := nat_le.2 (by omega)
    have h4 := mul_le h3 T
    rw [← tw_nat, ← tw_add] at h4
    have h5 : tw (q + F.low + F.f) ≤ tw (la + (e - 1)) := tw_le (by omega)
    grind
  have bd := F.make_bd hx hl (fun h => F.near_lo hB hxe h) (F.near_hi hB hxe)
  refine ⟨?_, bd⟩
  rw [F.fin_eq bd.1 bd.2]
  exact Rnd.near F hB hxe hx hl
theorem Rnd.pack_up {S la u : Nat} {e : Int} {q : Nat} (h1 : 2 ^ la ≤ 2 * S) (h2 : S < 2 ^ la) (hla : la ≤ F.f + 1) (he : F.low ≤ e) (hu : (u : Int) = min ((F.f : Int) + 1 - la) (e - F.low)) (hq : (q : Int) = e - u - F.low) :
    F.Rnd (F.Up ((S : Rat) * tw e)) (F.fin q (S * 2 ^ u)) ∧ S * 2 ^ u ≤ 2 ^ (F.f + 1) ∧ (0 < q → 2 ^ F.f ≤ S * 2 ^ u) := by
  have T := tw_pos e
  have e0 : rne (S * 2 ^ u) 1 = S * 2 ^ u := by have := rne_exact (S * 2 ^ u) 1 (by decide); rwa [Nat.mul_one] at this
  have hxe : (S : Rat) * tw e * ((1 : Nat) : Rat) = ((S * 2 ^ u : Nat) : Rat) * tw (q + F.low) := by
    rw [tw_sub_nat e (q + F.low) (by omega), show (e - (q + F.low)).toNat = u by omega]
    push_cast
    grind
  have hx : (S : Rat) * tw e < tw (q + F.low + F.f + 1) := by
    have h3 : (S : Rat) < ((2 ^ la : Nat) : Rat) := nat_lt.2 h2
    have h4 := mul_lt h3 T
    rw [← tw_nat, ← tw_add] at h4
    have h5 : tw (la + e) ≤ tw (q + F.low + F.f + 1) := tw_le (by omega)
    grind
  have hl : 0 < q → tw (q + F.low + F.f) ≤ (S : Rat) * tw e := by
    intro h
    have h3 : ((2 ^ la : Nat) : Rat) ≤ ((2 * S : Nat) : Rat) := nat_le.2 h1
    have h4 := mul_le h3 (tw_pos (e - 1))
    rw [← tw_nat, ← tw_add] at h4
    have h5 : tw (q + F.low + F.f) ≤ tw (la + (e - 1)) := tw_le (by omega)
    have h6 := tw_pred e
    push_cast at h4
    rw [h6]
    generalize tw (e - 1) = t at *
    grind
  have hB : 0 < 1 := by decide
  have bd := F.make_bd hx hl (fun h => F.near_lo hB hxe h) (F.near_hi hB hxe)
  have R := Rnd.near F hB hxe hx hl
  rw [e0] at bd R
  refine ⟨?_, bd⟩
  rw [F.fin_eq bd.1 bd.2]
  exact R
end Fmt
end Flo
set_option linter.unusedVariables false
set_option linter.unusedSimpArgs false
namespace Flo
namespace Fmt
variable (F : Fmt)
noncomputable def rnd (x : Rat) : Nat := Classical.choose (Rnd.exists F (F.Up x))
theorem rnd_spec (x : Rat) : F.Rnd (F.Up x) (F.rnd x) := Classical.choose_spec (Rnd.exists F (F.Up x))
theorem rnd_of {x : Rat} {r : Nat} (h : F.Rnd (F.Up x) r) : F.rnd x = r := Rnd.eq F (F.rnd_spec x) h
theorem rnd_val {m : Nat} (h : m ≤ F.inf) : F.rnd (F.val m) = m := F.rnd_of (Rnd.exact F h)
theorem rnd_zero : F.rnd 0 = 0 := by
  have := F.rnd_val (Nat.zero_le F.inf)
  rwa [val_zero] at this
theorem inf_pos : 0 < F.inf := Nat.mul_pos (by have := F.ht; omega) F.pow_pos
theorem val_one : F.val 1 = tw F.low := by
  have h := F.val_succ 0
  have hp := F.pow_pos
  rw [val_zero] at h
  have e : F.ex 0 = F.low := by unfold ex; rw [if_pos hp]
  rw [h, e]; grind
theorem val_pos {m : Nat} : 0 < F.val m ↔ 0 < m := by rw [← F.val_zero]; exact F.val_lt_iff
theorem rnd_inf {x : Rat} (h : F.val F.inf ≤ x) : F.rnd x = F.inf := F.rnd_of (Rnd.huge F (by rw [← val_inf]; exact h))
end Fmt
end Flo
namespace Bit
theorem or_pow (x c k : Nat) (hx : x < 2 ^ k) : x ||| c * 2 ^ k = x + c * 2 ^ k := by
  rw [Nat.mul_comm, Nat.or_comm, ← Nat.two_pow_add_eq_or_of_lt hx, Nat.add_comm]
theorem and_low (a k : Nat) : a &&& (2 ^ k - 1) = a % 2 ^ k := Nat.and_two_pow_sub_one_eq_mod a k
end Bit
namespace Go.Proofs.YtnmlmgmljoncoaaGreatDoor.PA
open Go.RowKit Go.Proofs.YtnmlmgmljoncoaaGreatDoorW.PrintWords Go.Proofs.YtnmlmgmljoncoaaGreatDoorW.PrintLast Go.Proofs.YtnmlmgmljoncoaaGreatDoorW.PrintMore
attribute [local go_sem] max2_int min2_int max_two min_two max_three min_three max_four min_four   -- for this text's walks alone
set_option linter.unusedVariables false
set_option linter.unusedSimpArgs false
set_option maxHeartbeats 8000000
set_option maxRecDepth 100000
def shape_Cut.f (a0 : Int) (a1 : Int) : Option (Int) := if a0 = 32 then (some (Go.bits .and .u64 a1 4294967295)) else (if a0 = 64 then (some a1) else (some 0))
theorem shape_Cut.calls (a0 : Int) (a1 : Int) (r : Int) (w : World) (h : shape_Cut.f a0 a1 = some r) :
  Calls Tryz.prog 17 #[.int .i64 a0, .int .u64 a1] w fun e w' => e = .returned (.int .u64 r) ∧ Drawn0 w w' := by
 have H : (if a0 = 32 then (some (Go.bits .and .u64 a1 4294967295)) else (if a0 = 64 then (some a1) else (some 0))) = some r := h
 clear h
 by_cases c3 : a0 = 32
 ·rw [if_pos c3] at H
  have c3b0 : (a0 == 32) = true := beq_iff_eq.mpr c3
  have c3b1 : (a0 != 32) = false := bne_eq_false_iff_eq.mpr c3
  clear c3
  obtain rfl := Option.some.inj H
  go_enter Tryz.func17, Tryz.ntmps17
  go_wp2
  go_ret
  exact ⟨sm_, by repeat (first | exact Drawn0.refl _ | apply Drawn0.step)⟩
 ·rw [if_neg c3] at H
  have c3b0 : (a0 == 32) = false := beq_eq_false_iff_ne.mpr c3
  have c3b1 : (a0 != 32) = true := bne_iff_ne.mpr c3
  by_cases c4 : a0 = 64
  ·rw [if_pos c4] at H
   have c4b0 : (a0 == 64) = true := beq_iff_eq.mpr c4
   have c4b1 : (a0 != 64) = false := bne_eq_false_iff_eq.mpr c4
   clear c4
   obtain rfl := Option.some.inj H
   go_enter Tryz.func17, Tryz.ntmps17
   go_wp2
   go_ret
   exact ⟨sm_, by repeat (first | exact Drawn0.refl _ | apply Drawn0.step)⟩
  ·rw [if_neg c4] at H
   have c4b0 : (a0 == 64) = false := beq_eq_false_iff_ne.mpr c4
   have c4b1 : (a0 != 64) = true := bne_iff_ne.mpr c4
   obtain rfl := Option.some.inj H
   go_enter Tryz.func17, Tryz.ntmps17
   go_wp2
   go_ret
   exact ⟨sm_, by repeat (first | exact Drawn0.refl _ | apply Drawn0.step)⟩
def sign_bit.f (a0 : Int) : Option (Int) := if a0 = 32 then (some 2147483648) else (if a0 = 64 then (some 9223372036854775808) else (some 0))
theorem sign_bit.calls (a0 : Int) (r : Int) (w : World) (h : sign_bit.f a0 = some r) :
  Calls Tryz.prog 139 #[.int .i64 a0] w fun e w' => e = .returned (.int .u64 r) ∧ Below w.heap.size w w' := by
 have hu162 := Tryz.underlying162
 have HB := A_ (Below.refl w.heap.size w)
 have H : (if a0 = 32 then (some 2147483648) else (if a0 = 64 then (some 9223372036854775808) else (some 0))) = some r := h
 clear h
 by_cases c2 : a0 = 32
 ·rw [if_pos c2] at H
  have c2b0 : (a0 == 32) = true := beq_iff_eq.mpr c2
  have c2b1 : (a0 != 32) = false := bne_eq_false_iff_eq.mpr c2
  clear c2
  obtain rfl := Option.some.inj H
  go_enter Tryz.func139, Tryz.ntmps139
  go_wp2_with (first | ((with_reducible refine gate_dst (N := 3) rfl ?_); refine be_ 3 #[.int .u64 0, .int .u64 0] 162 ?_; intro gb234 hg w3 hbox hb; have BK234 := A_ (hbox); have GW234 := A_ (sz_ hg (hb_ HB.out)); have GE234 := A_ (sz_ hg (hb_ HB.out)); replace HB := A_ (below_step (hb_ HB.out) hb); clear hb hbox hg; have hcz4_0 := bv_ BK234.out 0; have hcz4_1 := bv_ BK234.out 1; have hfz4_0 := blk_frozen BK234.out 0; have hfz4_1 := blk_frozen BK234.out 1))
  go_ret
  exact ⟨er_, hb1_ HB.out GE234.out⟩
 ·rw [if_neg c2] at H
  have c2b0 : (a0 == 32) = false := beq_eq_false_iff_ne.mpr c2
  have c2b1 : (a0 != 32) = true := bne_iff_ne.mpr c2
  by_cases c5 : a0 = 64
  ·rw [if_pos c5] at H
   have c5b0 : (a0 == 64) = true := beq_iff_eq.mpr c5
   have c5b1 : (a0 != 64) = false := bne_eq_false_iff_eq.mpr c5
   clear c5
   obtain rfl := Option.some.inj H
   go_enter Tryz.func139, Tryz.ntmps139
   go_wp2_with (first | ((with_reducible refine gate_dst (N := 3) rfl ?_); refine be_ 3 #[.int .u64 0, .int .u64 0] 162 ?_; intro gb234 hg w6 hbox hb; have BK234 := A_ (hbox); have GW234 := A_ (sz_ hg (hb_ HB.out)); have GE234 := A_ (sz_ hg (hb_ HB.out)); replace HB := A_ (below_step (hb_ HB.out) hb); clear hb hbox hg; have hcz7_0 := bv_ BK234.out 0; have hcz7_1 := bv_ BK234.out 1; have hfz7_0 := blk_frozen BK234.out 0; have hfz7_1 := blk_frozen BK234.out 1))
   go_ret
   exact ⟨er_, hb1_ HB.out GE234.out⟩
  ·rw [if_neg c5] at H
   have c5b0 : (a0 == 64) = false := beq_eq_false_iff_ne.mpr c5
   have c5b1 : (a0 != 64) = true := bne_iff_ne.mpr c5
   obtain rfl := Option.some.inj H
   go_enter Tryz.func139, Tryz.ntmps139
   go_wp2_with (first | ((with_reducible refine gate_dst (N := 3) rfl ?_); refine be_ 3 #[.int .u64 0, .int .u64 0] 162 ?_; intro gb234 hg w8 hbox hb; have BK234 := A_ (hbox); have GW234 := A_ (sz_ hg (hb_ HB.out)); have GE234 := A_ (sz_ hg (hb_ HB.out)); replace HB := A_ (below_step (hb_ HB.out) hb); clear hb hbox hg; have hcz9_0 := bv_ BK234.out 0; have hcz9_1 := bv_ BK234.out 1; have hfz9_0 := blk_frozen BK234.out 0; have hfz9_1 := blk_frozen BK234.out 1))
   go_ret
   exact ⟨er_, hb1_ HB.out GE234.out⟩
def sign_Abs.f (a0 : Int) (a1 : Int) : Option (Int) := (shape_Cut.f a0 a1).bind fun t235 => ((sign_bit.f a0).bind fun t236 => (some (Go.bits .andNot .u64 t235 t236)))
theorem sign_Abs.calls (a0 : Int) (a1 : Int) (r : Int) (w : World) (h : sign_Abs.f a0 a1 = some r) :
  Calls Tryz.prog 76 #[.int .i64 a0, .int .u64 a1] w fun e w' => e = .returned (.int .u64 r) ∧ Below w.heap.size w w' := by
 have HB := A_ (Below.refl w.heap.size w)
 have H : ((shape_Cut.f a0 a1).bind fun t235 => ((sign_bit.f a0).bind fun t236 => (some (Go.bits .andNot .u64 t235 t236)))) = some r := h
 clear h
 replace H := ob_ H
 obtain ⟨t235, A30, H⟩ := H
 replace H : ((sign_bit.f a0).bind fun t236 => (some (Go.bits .andNot .u64 t235 t236))) = some r := H
 have A3 := A_ A30;clear A30
 replace H := ob_ H
 obtain ⟨t236, A40, H⟩ := H
 replace H : (some (Go.bits .andNot .u64 t235 t236)) = some r := H
 have A4 := A_ A40;clear A40
 obtain rfl := Option.some.inj H
 go_enter Tryz.func76, Tryz.ntmps76
 go_wp2_with (first | ((with_reducible refine gate_callee (f := 17) rfl ?_); refine goesL_ (some 7) rfl rfl Tryz.func17 (by kernel_rfl) rfl #[.int .i64 a0, .int .u64 a1] rfl mp_ ?_; (with_reducible refine (shape_Cut.calls a0 a1 t235 _ A3.out).mono ?_); rintro e w' ⟨rfl, ⟨nd, rfl⟩⟩; refine ⟨_, rfl, ?_⟩) | ((with_reducible refine gate_callee (f := 139) rfl ?_); refine goesL_ (some 9) rfl rfl Tryz.func139 (by kernel_rfl) rfl #[.int .i64 a0] rfl mp_ ?_; (with_reducible refine (sign_bit.calls a0 t236 _ A4.out).mono ?_); rintro e w5 ⟨rfl, hb⟩; refine ⟨_, rfl, ?_⟩; replace HB := A_ (below_step (hb_ HB.out) hb); (try clear hb); (try clear hb2); (try clear hk); (try clear hi)))
 go_ret
 exact ⟨er_, hb_ HB.out⟩
def sign_Neg.f (a0 : Int) (a1 : Int) : Option (Int) := (shape_Cut.f a0 a1).bind fun t237 => ((sign_bit.f a0).bind fun t238 => (some (Go.bits .xor .u64 t237 t238)))
theorem sign_Neg.calls (a0 : Int) (a1 : Int) (r : Int) (w : World) (h : sign_Neg.f a0 a1 = some r) :
  Calls Tryz.prog 77 #[.int .i64 a0, .int .u64 a1] w fun e w' => e = .returned (.int .u64 r) ∧ Below w.heap.size w w' := by
 have HB := A_ (Below.refl w.heap.size w)
 have H : ((shape_Cut.f a0 a1).bind fun t237 => ((sign_bit.f a0).bind fun t238 => (some (Go.bits .xor .u64 t237 t238)))) = some r := h
 clear h
 replace H := ob_ H
 obtain ⟨t237, A30, H⟩ := H
 replace H : ((sign_bit.f a0).bind fun t238 => (some (Go.bits .xor .u64 t237 t238))) = some r := H
 have A3 := A_ A30;clear A30
 replace H := ob_ H
 obtain ⟨t238, A40, H⟩ := H
 replace H : (some (Go.bits .xor .u64 t237 t238)) = some r := H
 have A4 := A_ A40;clear A40
 obtain rfl := Option.some.inj H
 go_enter Tryz.func77, Tryz.ntmps77
 go_wp2_with (first | ((with_reducible refine gate_callee (f := 17) rfl ?_); refine goesL_ (some 7) rfl rfl Tryz.func17 (by kernel_rfl) rfl #[.int .i64 a0, .int .u64 a1] rfl mp_ ?_; (with_reducible refine (shape_Cut.calls a0 a1 t237 _ A3.out).mono ?_); rintro e w' ⟨rfl, ⟨nd, rfl⟩⟩; refine ⟨_, rfl, ?_⟩) | ((with_reducible refine gate_callee (f := 139) rfl ?_); refine goesL_ (some 9) rfl rfl Tryz.func139 (by kernel_rfl) rfl #[.int .i64 a0] rfl mp_ ?_; (with_reducible refine (sign_bit.calls a0 t238 _ A4.out).mono ?_); rintro e w5 ⟨rfl, hb⟩; refine ⟨_, rfl, ?_⟩; replace HB := A_ (below_step (hb_ HB.out) hb); (try clear hb); (try clear hb2); (try clear hk); (try clear hi)))
 go_ret
 exact ⟨er_, hb_ HB.out⟩
end Go.Proofs.YtnmlmgmljoncoaaGreatDoor.PA
section
set_option linter.unusedVariables false
set_option linter.unusedSimpArgs false
namespace Go.Proofs.YtnmlmgmljoncoaaGreatDoor.Th
open Go.RowKit Go.Proofs.YtnmlmgmljoncoaaGreatDoorW.PrintWords Go.Proofs.YtnmlmgmljoncoaaGreatDoorW.PrintLast Go.Proofs.YtnmlmgmljoncoaaGreatDoorW.PrintMore Go.Proofs.YtnmlmgmljoncoaaGreatDoor.PA Bit
theorem wf_u64 {a : Int} (h : (Lit.int .u64 a).wf = true) : 0 ≤ a ∧ a < 18446744073709551616 := by
  simp [Lit.wf, IntKind.min, IntKind.max, IntKind.signed, IntKind.bits] at h; omega
def cutN (w : Int) (a : Nat) : Nat := if w = 32 then a % 4294967296 else if w = 64 then a else 0
theorem shCut (w : Int) (a : Nat) (ha : a < 18446744073709551616) : shape_Cut.f w a = some ((cutN w a : Nat) : Int) := by
  unfold shape_Cut.f cutN
  by_cases h : w = 32
  · rw [if_pos h, if_pos h, show (4294967295 : Int) = ((4294967295 : Nat) : Int) from rfl, u64_and_nat a _ ha (by decide)]
    rw [show (4294967295 : Nat) = 2 ^ 32 - 1 by decide, and_low]
  · rw [if_neg h, if_neg h]
    by_cases h2 : w = 64
    · rw [if_pos h2, if_pos h2]
    · rw [if_neg h2, if_neg h2]; rfl
def sb (w : Int) : Nat := if w = 32 then 2147483648 else 9223372036854775808
def sgB (w : Int) (a : Nat) : Bool := decide (a / sb w % 2 = 1)
def magN (w : Int) (a : Nat) : Nat := a % sb w
theorem cutN_eq (w : Int) (hw : w = 32 ∨ w = 64) (a : Nat) (ha : a < 18446744073709551616) : cutN w a = magN w a + (if sgB w a then sb w else 0) := by
  unfold magN sgB
  rcases hw with rfl | rfl
  · simp only [cutN, sb, if_true, decide_eq_true_eq]; split <;> omega
  · simp only [cutN, sb, show ¬ ((64 : Int) = 32) by decide, if_false, if_true, decide_eq_true_eq]; split <;> omega
theorem magN_lt (w : Int) (hw : w = 32 ∨ w = 64) (a : Nat) : magN w a < sb w := by
  unfold magN sb; rcases hw with rfl | rfl <;> exact Nat.mod_lt _ (by decide)
def mkN (w : Int) (m : Nat) (s : Bool) : Nat := m + if s then sb w else 0
theorem mkN_lt (w : Int) (hw : w = 32 ∨ w = 64) (m : Nat) (s : Bool) (h : m < sb w) : mkN w m s < 18446744073709551616 := by
  unfold mkN; revert h; unfold sb; rcases hw with rfl | rfl <;> cases s <;> simp <;> omega
theorem sg_mk (w : Int) (hw : w = 32 ∨ w = 64) (m : Nat) (s : Bool) (h : m < sb w) : sgB w (mkN w m s) = s := by
  unfold sgB mkN; revert h; unfold sb; rcases hw with rfl | rfl <;> cases s <;> simp <;> omega
theorem mag_mk (w : Int) (hw : w = 32 ∨ w = 64) (m : Nat) (s : Bool) (h : m < sb w) : magN w (mkN w m s) = m := by
  unfold magN mkN; revert h; unfold sb; rcases hw with rfl | rfl <;> cases s <;> simp <;> omega
theorem Ev.pos {α : Type} {c : Prop} [Decidable c] {f g : Nat → Option α} {r : α} (h : c) (k : Ev f r) : Ev (fun n => if c then f n else g n) r := Ev.congr (fun _ => if_pos h) k
theorem Ev.neg {α : Type} {c : Prop} [Decidable c] {f g : Nat → Option α} {r : α} (h : ¬ c) (k : Ev g r) : Ev (fun n => if c then f n else g n) r := Ev.congr (fun _ => if_neg h) k
theorem Ev.bs {α β : Type} {g : Option α} {a : α} {f : Nat → α → Option β} {r : β} (h : g = some a) (k : Ev (fun n => f n a) r) : Ev (fun n => g.bind (f n)) r := by subst h; exact k
theorem Ev.out {α : Type} {r s : α} (h : r = s) : Ev (fun _ => some r) s := by subst h; exact Ev.now _
theorem u64_id {n : Int} (h : 0 ≤ n) (h2 : n < 18446744073709551616) : IntKind.u64.wrap n = n := by rw [IntKind.wrap_u64]; omega
theorem w64_id {n : Int} (h : -9223372036854775808 ≤ n) (h2 : n < 9223372036854775808) : wrap64 n = n := by unfold wrap64; omega
theorem cutN_lt (w : Int) (a : Nat) (ha : a < 18446744073709551616) : cutN w a < 18446744073709551616 := by unfold cutN; split; (have : a % 4294967296 < 4294967296 := Nat.mod_lt _ (by decide)); omega; split <;> omega
end Go.Proofs.YtnmlmgmljoncoaaGreatDoor.Th
end
namespace Go.Proofs.YtnmlmgmljoncoaaGreatDoor.PA
open Go.RowKit Go.Proofs.YtnmlmgmljoncoaaGreatDoorW.PrintWords Go.Proofs.YtnmlmgmljoncoaaGreatDoorW.PrintLast Go.Proofs.YtnmlmgmljoncoaaGreatDoorW.PrintMore
attribute [local go_sem] max2_int min2_int max_two min_two max_three min_three max_four min_four   -- for this text's walks alone
set_option linter.unusedVariables false
set_option linter.unusedSimpArgs false
set_option maxHeartbeats 8000000
set_option maxRecDepth 100000
def r1_at.f (l0 : List Int) (a1 : Int) : Option (Int) := if a1 < (l0.length : Int) then (if 0 ≤ a1 then (some (rd l0 a1)) else (none)) else (some 0)
theorem r1_at.calls (A0 : Option Addr) (c0 : Nat) (l0 : List Int) (a1 : Int) (r : Int) (w : World) (hr0 : Kd.C (Kd.int .u64) w A0 l0.length l0) (hc0 : l0.length ≤ c0) (h : r1_at.f l0 a1 = some r) :
  Calls Tryz.prog 39 #[.slice A0 l0.length c0, .int .i64 a1] w fun e w' => e = .returned (.int .u64 r) ∧ Drawn0 w w' := by
 have HR0 := A_ hr0;have HC0 := A_ hc0;clear hr0 hc0
 have H : (if a1 < (l0.length : Int) then (if 0 ≤ a1 then (some (rd l0 a1)) else (none)) else (some 0)) = some r := h
 clear h
 by_cases c3 : a1 < (l0.length : Int)
 ·rw [if_pos c3] at H
  have c3b0 : decide (a1 < (l0.length : Int)) = true := decide_eq_true c3
  clear c3
  by_cases c4 : 0 ≤ a1
  ·rw [if_pos c4] at H
   have c4b0 : decide (0 ≤ a1) = true := decide_eq_true c4
   clear c4
   obtain rfl := Option.some.inj H
   have p626 : 0 ≤ (a1 : Int) := of_decide_eq_true (by first | (with_reducible assumption) | assumption)
   have q626 : a1 < (l0.length : Int) := of_decide_eq_true (by first | (with_reducible assumption) | assumption)
   obtain ⟨ad626, e626, hx626_0⟩ := Kd.at_int HR0.out a1 p626 q626
   cases e626
   replace p626 := eq_true p626
   replace q626 := eq_true q626
   go_enter Tryz.func39, Tryz.ntmps39
   go_wp2
   go_ret
   exact ⟨sm_, by repeat (first | exact Drawn0.refl _ | apply Drawn0.step)⟩
  ·rw [if_neg c4] at H
   exact absurd H (by simp)
 ·rw [if_neg c3] at H
  have c3b0 : decide (a1 < (l0.length : Int)) = false := decide_eq_false c3
  clear c3
  obtain rfl := Option.some.inj H
  go_enter Tryz.func39, Tryz.ntmps39
  go_wp2
  go_ret
  exact ⟨sm_, by repeat (first | exact Drawn0.refl _ | apply Drawn0.step)⟩
end Go.Proofs.YtnmlmgmljoncoaaGreatDoor.PA
