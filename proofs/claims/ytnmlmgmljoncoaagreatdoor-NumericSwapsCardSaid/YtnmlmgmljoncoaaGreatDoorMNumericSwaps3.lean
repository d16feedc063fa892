/- What the Go functions that the statement NumericSwaps reaches compute, and the mathematics on it, in the order in which one leans on the other; for every input. -/
import Derived.Test.YtnmlmgmljoncoaaGreatDoorVNumericSwaps0
import Derived.Test.YtnmlmgmljoncoaaGreatDoorMNumericSwaps0
import Derived.Test.YtnmlmgmljoncoaaGreatDoorMNumericSwaps2
import Derived.Test.YtnmlmgmljoncoaaGreatDoorMNumericSwaps1
import Derived.Deep.RegionHeld3
import Derived.Shelf.Spec.BitsCarry
import Derived.Deep.DeepCutAuto
namespace Go.Proofs.YtnmlmgmljoncoaaGreatDoor.PA
open Go.RowKit Go.Proofs.YtnmlmgmljoncoaaGreatDoorW.PrintWords Go.Proofs.YtnmlmgmljoncoaaGreatDoorW.PrintLast Go.Proofs.YtnmlmgmljoncoaaGreatDoorW.PrintMore
attribute [local go_sem] max2_int min2_int max_two min_two max_three min_three max_four min_four   -- for this text's walks alone
set_option linter.unusedVariables false
set_option linter.unusedSimpArgs false
set_option maxHeartbeats 8000000
set_option maxRecDepth 100000
def order_Ne.f (k : Nat) (a0 : Int) (a1 : Int) (a2 : Int) : Option (Bool) := (order_known.f a0).bind fun t198 => (if t198 = true then ((order_Eq.f k a0 a1 a2).bind fun t199 => (some (!t199))) else (some false))
theorem order_Ne.mono : ∀ a0 a1 a2 k, LeO (order_Ne.f k a0 a1 a2) (order_Ne.f (k + 1) a0 a1 a2) := by
 intro a0 a1 a2 k
 unfold order_Ne.f
 repeat' first
   | (with_reducible exact order_Eq.mono _ _ _ _)
   | (with_reducible exact LeO.refl _)
   | (with_reducible exact LeO.none _)
   | (with_reducible refine LeO.ite ?_ ?_)
   | (with_reducible refine LeO.bind ?_ (fun _ => ?_))
   | exact order_Eq.mono _ _ _ _
   | exact LeO.none _
   | refine LeO.ite ?_ ?_
   | refine LeO.bind ?_ (fun _ => ?_)
theorem order_Ne.calls (k : Nat) (a0 : Int) (a1 : Int) (a2 : Int) (r : Bool) (w : World) (h : order_Ne.f k a0 a1 a2 = some r) :
  Calls Tryz.prog 63 #[.int .i64 a0, .int .u64 a1, .int .u64 a2] w fun e w' => e = .returned (.bool r) ∧ Below w.heap.size w w' := by
 have HB := A_ (Below.refl w.heap.size w)
 have H : ((order_known.f a0).bind fun t198 => (if t198 = true then ((order_Eq.f k a0 a1 a2).bind fun t199 => (some (!t199))) else (some false))) = some r := h
 clear h
 replace H := ob_ H
 obtain ⟨t198, A40, H⟩ := H
 replace H : (if t198 = true then ((order_Eq.f k a0 a1 a2).bind fun t199 => (some (!t199))) else (some false)) = some r := H
 have A4 := A_ A40;clear A40
 by_cases c5 : t198 = true
 ·subst c5
  have H1 : ((order_Eq.f k a0 a1 a2).bind fun t199 => (some (!t199))) = some r := by rw [if_pos rfl] at H; exact H
  clear H;have H := H1;clear H1
  replace H := ob_ H
  obtain ⟨t199, A60, H⟩ := H
  replace H : (some (!t199)) = some r := H
  have A6 := A_ A60;clear A60
  obtain rfl := Option.some.inj H
  go_enter Tryz.func63, Tryz.ntmps63
  go_wp2_with (first | ((with_reducible refine gate_callee (f := 125) rfl ?_); refine goesL_ (some 8) rfl rfl Tryz.func125 (by kernel_rfl) rfl #[.int .i64 a0] rfl mp_ ?_; (with_reducible refine (order_known.calls a0 true _ A4.out).mono ?_); rintro e w' ⟨rfl, ⟨nd, rfl⟩⟩; refine ⟨_, rfl, ?_⟩) | (go_at_call 62; (with_reducible refine (order_Eq.calls k a0 a1 a2 t199 _ A6.out).mono ?_); rintro e w7 ⟨rfl, hb⟩; replace HB := A_ (below_step (hb_ HB.out) hb); (try clear hb); (try clear hb2); (try clear hk); (try clear hi)))
  go_ret
  exact ⟨er_, hb_ HB.out⟩
 ·replace c5 := Bool.eq_false_iff.mpr c5
  subst c5
  have H1 : (some false) = some r := by rw [if_neg (show ¬ (false = true) by decide)] at H; exact H
  clear H;have H := H1;clear H1
  obtain rfl := Option.some.inj H
  go_enter Tryz.func63, Tryz.ntmps63
  go_wp2_with (first | ((with_reducible refine gate_callee (f := 125) rfl ?_); refine goesL_ (some 8) rfl rfl Tryz.func125 (by kernel_rfl) rfl #[.int .i64 a0] rfl mp_ ?_; (with_reducible refine (order_known.calls a0 false _ A4.out).mono ?_); rintro e w' ⟨rfl, ⟨nd, rfl⟩⟩; refine ⟨_, rfl, ?_⟩))
  go_ret
  exact ⟨er_, hb_ HB.out⟩
def numeric_compared.f (k : Nat) (a0 : Int) (a1 : Int) (a2 : Int) (a3 : Int) : Option (Bool) := if a0 = 0 then ((order_Eq.f k a1 a2 a3).bind fun t202 => (some t202)) else (if a0 = 1 then ((order_Ne.f k a1 a2 a3).bind fun t203 => (some t203)) else (if a0 = 2 then ((order_Lt.f k a1 a2 a3).bind fun t204 => (some t204)) else (if a0 = 3 then ((order_Gt.f k a1 a2 a3).bind fun t205 => (some t205)) else (if a0 = 4 then ((order_Le.f k a1 a2 a3).bind fun t206 => (some t206)) else ((order_Ge.f k a1 a2 a3).bind fun t207 => (some t207))))))
theorem numeric_compared.mono : ∀ a0 a1 a2 a3 k, LeO (numeric_compared.f k a0 a1 a2 a3) (numeric_compared.f (k + 1) a0 a1 a2 a3) := by
 intro a0 a1 a2 a3 k
 unfold numeric_compared.f
 repeat' first
   | (with_reducible exact order_Eq.mono _ _ _ _)
   | (with_reducible exact order_Ge.mono _ _ _ _)
   | (with_reducible exact order_Gt.mono _ _ _ _)
   | (with_reducible exact order_Le.mono _ _ _ _)
   | (with_reducible exact order_Lt.mono _ _ _ _)
   | (with_reducible exact order_Ne.mono _ _ _ _)
   | (with_reducible exact LeO.refl _)
   | (with_reducible exact LeO.none _)
   | (with_reducible refine LeO.ite ?_ ?_)
   | (with_reducible refine LeO.bind ?_ (fun _ => ?_))
   | exact order_Eq.mono _ _ _ _
   | exact order_Ge.mono _ _ _ _
   | exact order_Gt.mono _ _ _ _
   | exact order_Le.mono _ _ _ _
   | exact order_Lt.mono _ _ _ _
   | exact order_Ne.mono _ _ _ _
   | exact LeO.none _
   | refine LeO.ite ?_ ?_
   | refine LeO.bind ?_ (fun _ => ?_)
theorem numeric_compared.calls (k : Nat) (a0 : Int) (a1 : Int) (a2 : Int) (a3 : Int) (r : Bool) (w : World) (h : numeric_compared.f k a0 a1 a2 a3 = some r) :
  Calls Tryz.prog 28 #[.int .i64 a0, .int .i64 a1, .int .u64 a2, .int .u64 a3] w fun e w' => e = .returned (.bool r) ∧ Below w.heap.size w w' := by
 have HB := A_ (Below.refl w.heap.size w)
 have H : (if a0 = 0 then ((order_Eq.f k a1 a2 a3).bind fun t202 => (some t202)) else (if a0 = 1 then ((order_Ne.f k a1 a2 a3).bind fun t203 => (some t203)) else (if a0 = 2 then ((order_Lt.f k a1 a2 a3).bind fun t204 => (some t204)) else (if a0 = 3 then ((order_Gt.f k a1 a2 a3).bind fun t205 => (some t205)) else (if a0 = 4 then ((order_Le.f k a1 a2 a3).bind fun t206 => (some t206)) else ((order_Ge.f k a1 a2 a3).bind fun t207 => (some t207))))))) = some r := h
 clear h
 by_cases c5 : a0 = 0
 ·rw [if_pos c5] at H
  have c5b0 : (a0 == 0) = true := beq_iff_eq.mpr c5
  have c5b1 : (a0 != 0) = false := bne_eq_false_iff_eq.mpr c5
  clear c5
  replace H := ob_ H
  obtain ⟨t202, A60, H⟩ := H
  replace H : (some t202) = some r := H
  have A6 := A_ A60;clear A60
  obtain rfl := Option.some.inj H
  go_enter Tryz.func28, Tryz.ntmps28
  go_wp2_with (first | ((with_reducible refine gate_callee (f := 62) rfl ?_); refine goesL_ (some 15) rfl rfl Tryz.func62 (by kernel_rfl) rfl #[.int .i64 a1, .int .u64 a2, .int .u64 a3] rfl mp_ ?_; (with_reducible refine (order_Eq.calls k a1 a2 a3 t202 _ A6.out).mono ?_); rintro e w7 ⟨rfl, hb⟩; refine ⟨_, rfl, ?_⟩; replace HB := A_ (below_step (hb_ HB.out) hb); (try clear hb); (try clear hb2); (try clear hk); (try clear hi)))
  go_ret
  exact ⟨er_, hb_ HB.out⟩
 ·rw [if_neg c5] at H
  have c5b0 : (a0 == 0) = false := beq_eq_false_iff_ne.mpr c5
  have c5b1 : (a0 != 0) = true := bne_iff_ne.mpr c5
  by_cases c8 : a0 = 1
  ·rw [if_pos c8] at H
   have c8b0 : (a0 == 1) = true := beq_iff_eq.mpr c8
   have c8b1 : (a0 != 1) = false := bne_eq_false_iff_eq.mpr c8
   clear c8
   replace H := ob_ H
   obtain ⟨t203, A90, H⟩ := H
   replace H : (some t203) = some r := H
   have A9 := A_ A90;clear A90
   obtain rfl := Option.some.inj H
   go_enter Tryz.func28, Tryz.ntmps28
   go_wp2_with (first | ((with_reducible refine gate_callee (f := 63) rfl ?_); refine goesL_ (some 21) rfl rfl Tryz.func63 (by kernel_rfl) rfl #[.int .i64 a1, .int .u64 a2, .int .u64 a3] rfl mp_ ?_; (with_reducible refine (order_Ne.calls k a1 a2 a3 t203 _ A9.out).mono ?_); rintro e w10 ⟨rfl, hb⟩; refine ⟨_, rfl, ?_⟩; replace HB := A_ (below_step (hb_ HB.out) hb); (try clear hb); (try clear hb2); (try clear hk); (try clear hi)))
   go_ret
   exact ⟨er_, hb_ HB.out⟩
  ·rw [if_neg c8] at H
   have c8b0 : (a0 == 1) = false := beq_eq_false_iff_ne.mpr c8
   have c8b1 : (a0 != 1) = true := bne_iff_ne.mpr c8
   by_cases c11 : a0 = 2
   ·rw [if_pos c11] at H
    have c11b0 : (a0 == 2) = true := beq_iff_eq.mpr c11
    have c11b1 : (a0 != 2) = false := bne_eq_false_iff_eq.mpr c11
    clear c11
    replace H := ob_ H
    obtain ⟨t204, A120, H⟩ := H
    replace H : (some t204) = some r := H
    have A12 := A_ A120;clear A120
    obtain rfl := Option.some.inj H
    go_enter Tryz.func28, Tryz.ntmps28
    go_wp2_with (first | ((with_reducible refine gate_callee (f := 64) rfl ?_); refine goesL_ (some 27) rfl rfl Tryz.func64 (by kernel_rfl) rfl #[.int .i64 a1, .int .u64 a2, .int .u64 a3] rfl mp_ ?_; (with_reducible refine (order_Lt.calls k a1 a2 a3 t204 _ A12.out).mono ?_); rintro e w13 ⟨rfl, hb⟩; refine ⟨_, rfl, ?_⟩; replace HB := A_ (below_step (hb_ HB.out) hb); (try clear hb); (try clear hb2); (try clear hk); (try clear hi)))
    go_ret
    exact ⟨er_, hb_ HB.out⟩
   ·rw [if_neg c11] at H
    have c11b0 : (a0 == 2) = false := beq_eq_false_iff_ne.mpr c11
    have c11b1 : (a0 != 2) = true := bne_iff_ne.mpr c11
    by_cases c14 : a0 = 3
    ·rw [if_pos c14] at H
     have c14b0 : (a0 == 3) = true := beq_iff_eq.mpr c14
     have c14b1 : (a0 != 3) = false := bne_eq_false_iff_eq.mpr c14
     clear c14
     replace H := ob_ H
     obtain ⟨t205, A150, H⟩ := H
     replace H : (some t205) = some r := H
     have A15 := A_ A150;clear A150
     obtain rfl := Option.some.inj H
     go_enter Tryz.func28, Tryz.ntmps28
     go_wp2_with (first | ((with_reducible refine gate_callee (f := 65) rfl ?_); refine goesL_ (some 33) rfl rfl Tryz.func65 (by kernel_rfl) rfl #[.int .i64 a1, .int .u64 a2, .int .u64 a3] rfl mp_ ?_; (with_reducible refine (order_Gt.calls k a1 a2 a3 t205 _ A15.out).mono ?_); rintro e w16 ⟨rfl, hb⟩; refine ⟨_, rfl, ?_⟩; replace HB := A_ (below_step (hb_ HB.out) hb); (try clear hb); (try clear hb2); (try clear hk); (try clear hi)))
     go_ret
     exact ⟨er_, hb_ HB.out⟩
    ·rw [if_neg c14] at H
     have c14b0 : (a0 == 3) = false := beq_eq_false_iff_ne.mpr c14
     have c14b1 : (a0 != 3) = true := bne_iff_ne.mpr c14
     by_cases c17 : a0 = 4
     ·rw [if_pos c17] at H
      have c17b0 : (a0 == 4) = true := beq_iff_eq.mpr c17
      have c17b1 : (a0 != 4) = false := bne_eq_false_iff_eq.mpr c17
      clear c17
      replace H := ob_ H
      obtain ⟨t206, A180, H⟩ := H
      replace H : (some t206) = some r := H
      have A18 := A_ A180;clear A180
      obtain rfl := Option.some.inj H
      go_enter Tryz.func28, Tryz.ntmps28
      go_wp2_with (first | ((with_reducible refine gate_callee (f := 66) rfl ?_); refine goesL_ (some 39) rfl rfl Tryz.func66 (by kernel_rfl) rfl #[.int .i64 a1, .int .u64 a2, .int .u64 a3] rfl mp_ ?_; (with_reducible refine (order_Le.calls k a1 a2 a3 t206 _ A18.out).mono ?_); rintro e w19 ⟨rfl, hb⟩; refine ⟨_, rfl, ?_⟩; replace HB := A_ (below_step (hb_ HB.out) hb); (try clear hb); (try clear hb2); (try clear hk); (try clear hi)))
      go_ret
      exact ⟨er_, hb_ HB.out⟩
     ·rw [if_neg c17] at H
      have c17b0 : (a0 == 4) = false := beq_eq_false_iff_ne.mpr c17
      have c17b1 : (a0 != 4) = true := bne_iff_ne.mpr c17
      replace H := ob_ H
      obtain ⟨t207, A200, H⟩ := H
      replace H : (some t207) = some r := H
      have A20 := A_ A200;clear A200
      obtain rfl := Option.some.inj H
      go_enter Tryz.func28, Tryz.ntmps28
      go_wp2_with (first | ((with_reducible refine gate_callee (f := 67) rfl ?_); refine goesL_ (some 43) rfl rfl Tryz.func67 (by kernel_rfl) rfl #[.int .i64 a1, .int .u64 a2, .int .u64 a3] rfl mp_ ?_; (with_reducible refine (order_Ge.calls k a1 a2 a3 t207 _ A20.out).mono ?_); rintro e w21 ⟨rfl, hb⟩; refine ⟨_, rfl, ?_⟩; replace HB := A_ (below_step (hb_ HB.out) hb); (try clear hb); (try clear hb2); (try clear hk); (try clear hi)))
      go_ret
      exact ⟨er_, hb_ HB.out⟩
def numeric_counted.f (a0 : Int) (a1 : Int) (a2 : Int) : Option (Int) := none
theorem numeric_counted.calls (a0 : Int) (a1 : Int) (a2 : Int) (r : Int) (w : World) (h : numeric_counted.f a0 a1 a2 = some r) :
  Calls Tryz.prog 29 #[.int .i64 a0, .int .i64 a1, .int .u64 a2] w fun e w' => e = .returned (.int .u64 r) ∧ Below w.heap.size w w' := by
 cases h
def shape_IsNan.f (k : Nat) (a0 : Int) (a1 : Int) : Option (Bool) := (shape_Open.f k a0 a1).bind fun bt506 => (some (bt506.2.1 == 3))
theorem shape_IsNan.mono : ∀ a0 a1 k, LeO (shape_IsNan.f k a0 a1) (shape_IsNan.f (k + 1) a0 a1) := by
 intro a0 a1 k
 unfold shape_IsNan.f
 repeat' first
   | (with_reducible exact shape_Open.mono _ _ _)
   | (with_reducible exact LeO.refl _)
   | (with_reducible exact LeO.none _)
   | (with_reducible refine LeO.ite ?_ ?_)
   | (with_reducible refine LeO.bind ?_ (fun _ => ?_))
   | exact shape_Open.mono _ _ _
   | exact LeO.none _
   | refine LeO.ite ?_ ?_
   | refine LeO.bind ?_ (fun _ => ?_)
theorem shape_IsNan.calls (k : Nat) (a0 : Int) (a1 : Int) (r : Bool) (w : World) (h : shape_IsNan.f k a0 a1 = some r) :
  Calls Tryz.prog 222 #[.int .i64 a0, .int .u64 a1] w fun e w' => e = .returned (.bool r) ∧ Below w.heap.size w w' := by
 have hfl27_1 : ∀ (v0_ v1_ v2_ v3_ : Value) (W : World), (Instr.field 27 (.agg #[v0_, v1_, v2_, v3_]) 1).run Tryz.prog W = .ok v1_ W := fun _ _ _ _ _ => by rfl
 have HB := A_ (Below.refl w.heap.size w)
 have H : ((shape_Open.f k a0 a1).bind fun bt506 => (some (bt506.2.1 == 3))) = some r := h
 clear h
 replace H := ob_ H
 obtain ⟨⟨t506, t507, t508, t509⟩, A30, H⟩ := H
 replace H : (some (t507 == 3)) = some r := H
 have A3 := A_ A30;clear A30
 obtain rfl := Option.some.inj H
 go_enter Tryz.func222, Tryz.ntmps222
 go_wp2_with (first | ((with_reducible refine gate_callee (f := 10) rfl ?_); refine goesL_ (some 7) rfl rfl Tryz.func10 (by kernel_rfl) rfl #[.int .i64 a0, .int .u64 a1] rfl mp_ ?_; (with_reducible refine (shape_Open.calls k a0 a1 t506 t507 t508 t509 _ A3.out).mono ?_); rintro e w4 ⟨rfl, hb⟩; refine ⟨_, rfl, ?_⟩; replace HB := A_ (below_step (hb_ HB.out) hb); (try clear hb); (try clear hb2); (try clear hk); (try clear hi)))
 go_ret
 exact ⟨er_, hb_ HB.out⟩
def shape_format_join.f (a0_0 : Int) (a0_1 : Int) (a1 : Bool) (a2 : Int) (a3 : Int) : Option (Int) := (shape_format_sign.f a0_0 a0_1 a1).bind fun t263 => (if 0 ≤ a0_1 then (some (Go.bits .or .u64 (Go.bits .or .u64 t263 (shl .u64 a2 a0_1)) a3)) else (none))
def shape_format_join.T1 : Bool × List (List Nat × List Nat) := (true, [([], []), ([], []), ([0, 1], [0, 1]), ([], []), ([], []), ([4], [4]), ([3, 5], [3, 5]), ([2, 6], [2, 6]), ([], []), ([7, 8], [7, 8]), ([9, 2, 0, 1, 2, 3, 4, 5, 6, 7, 8, 9], [9])])
def shape_format_join.B1 : List Nat := [0, 0, 3, 0, 0, 16, 56, 127, 0, 511, 1023]
theorem shape_format_join.tab1 : rtab .any (opsOf Tryz.f99 1) = shape_format_join.T1 := by kernel_rfl
theorem shape_format_join.bits1 : waitsOk shape_format_join.T1.2 shape_format_join.B1 = true := by kernel_rfl
theorem shape_format_join.calls (a0_0 : Int) (a0_1 : Int) (a1 : Bool) (a2 : Int) (a3 : Int) (r : Int) (w : World) (h : shape_format_join.f a0_0 a0_1 a1 a2 a3 = some r) :
  Calls Tryz.prog 99 #[.agg #[.int .i64 a0_0, .int .i64 a0_1], .bool a1, .int .u64 a2, .int .u64 a3] w fun e w' => e = .returned (.int .u64 r) ∧ Below w.heap.size w w' := by
 have hu65 := Tryz.underlying65
 have HB := A_ (Below.refl w.heap.size w)
 have H : ((shape_format_sign.f a0_0 a0_1 a1).bind fun t263 => (if 0 ≤ a0_1 then (some (Go.bits .or .u64 (Go.bits .or .u64 t263 (shl .u64 a2 a0_1)) a3)) else (none))) = some r := h
 clear h
 replace H := ob_ H
 obtain ⟨t263, A50, H⟩ := H
 replace H : (if 0 ≤ a0_1 then (some (Go.bits .or .u64 (Go.bits .or .u64 t263 (shl .u64 a2 a0_1)) a3)) else (none)) = some r := H
 have A5 := A_ A50;clear A50
 by_cases c6 : 0 ≤ a0_1
 ·rw [if_pos c6] at H
  have c6b0 := eq_true c6
  have c6b1 : decide (0 ≤ a0_1) = true := decide_eq_true c6
  clear c6
  obtain ⟨ji7, hji7⟩ : ∃ j_ : Int, (shl .u64 a2 a0_1) = j_ := ⟨_, rfl⟩
  replace H : (some (Go.bits .or .u64 (Go.bits .or .u64 t263 (ji7)) a3)) = some r := by first | (rw [hji7] at H; exact H) | (simp only [hji7] at H ⊢; exact H)
  (try rw [hji7] at A5)
  have hji7_ : (IntKind.u64.wrap (a2 * 2 ^ min a0_1.toNat 64)) = ji7 := hji7
  have hji7z : a0_1 ≤ 64 → (IntKind.u64.wrap (a2 * 2 ^ a0_1.toNat)) = ji7 := shl_small hji7
  obtain rfl := Option.some.inj H
  go_enter Tryz.func99, Tryz.ntmps99
  try go_wp2_with (first | ((with_reducible refine gate_dst (N := 4) rfl ?_); refine be_ 4 #[.int .i64 a0_0, .int .i64 a0_1] 65 ?_; intro gb262 hg w8 hbox hb; have BK262 := A_ (hbox); have GW262 := A_ (sz_ hg (hb_ HB.out)); have GE262 := A_ (sz_ hg (hb_ HB.out)); replace HB := A_ (below_step (hb_ HB.out) hb); clear hb hbox hg))
  replace BK262 := A_ (blk_drew BK262.out)
  replace HB := A_ (below_drew1 HB.out)
  refine start_ (n := 11) (S := fun w' => w'.cell? ⟨gb262, 0, none⟩ = some (.int .i64 a0_0) ∧ w'.cell? ⟨gb262, 1, none⟩ = some (.int .i64 a0_1)) (ds := []) #[false, false, false, false, false, false, false, false, false, false, false] (by kernel_rfl) rfl rfl ⟨bc_ BK262.out 0, bc_ BK262.out 1⟩ (fun hHeld => ?_); refine with_tabW shape_format_join.tab1 shape_format_join.bits1 (fun HT_ HW_ => ?_)
  generalize w8.drew = w9 at BK262 HB hHeld ⊢
  refine pu_ 1 (some 10) #[false, true, false, false, false, false, false, false, false, false, false] rfl rfl (any_of HT_.out (by kernel_rfl)) ?_
  refine pu_ 3 (some 12) #[false, true, false, true, false, false, false, false, false, false, false] rfl rfl (any_of HT_.out (by kernel_rfl)) ?_
  refine pu_ 4 (some 13) #[false, true, false, true, true, false, false, false, false, false, false] rfl rfl (any_of HT_.out (by kernel_rfl)) ?_
  refine pu_ 8 (some 17) #[false, true, false, true, true, false, false, false, true, false, false] rfl rfl (any_of HT_.out (by kernel_rfl)) ?_
  refine tk2_ 0 (some 9) #[true, true, false, true, true, false, false, false, true, false, false] rfl rfl (take_ofW HT_.out HW_.out (by kernel_rfl)) hHeld ?_
  refine tk2_ 5 (some 14) #[true, true, false, true, true, true, false, false, true, false, false] rfl rfl (take_ofW HT_.out HW_.out (by kernel_rfl)) hHeld ?_
  refine pu_ 6 (some 15) #[true, true, false, true, true, true, true, false, true, false, false] rfl rfl (any_of HT_.out (by kernel_rfl)) ?_
  refine one_ (i := 2) (N := some 11) #[true, true, true, true, true, true, true, false, true, false, false] rfl rfl (one_of HT_.out (by kernel_rfl)) (by decide) (fun K hK => ?_)
  refine goes_ Tryz.func160 (by kernel_rfl) rfl #[.agg #[.int .i64 a0_0, .int .i64 a0_1], .bool a1] (by rfl) rfl rfl mp_ ?_
  with_reducible refine (shape_format_sign.calls a0_0 a0_1 a1 t263 _ A5.out).mono ?_
  rintro e w10 ⟨rfl, hb⟩
  refine ⟨_, rfl, ?_⟩
  replace BK262 := A_ (bb_ BK262.out hb)
  replace HB := A_ (below_step (hb1_ HB.out GE262.out) hb);(try clear hb);(try clear hb2);(try clear hk);(try clear hi)
  refine hK.out _ _ ⟨bc_ BK262.out 0, bc_ BK262.out 1⟩ (fun hHeld => ?_)
  clear hK K
  refine norm_ (a' := ?_) ?_ ?_
  rotate_left
  ·show Act.put _ (some 11) _ = _
   simp only [Act.put, lI_, l0_, lS_, i64_w, i32_w]
   rfl
  refine pu_ 7 (some 16) #[true, true, true, true, true, true, true, true, true, false, false] rfl rfl (any_of HT_.out (by kernel_rfl)) ?_
  refine pu_ 9 (some 18) #[true, true, true, true, true, true, true, true, true, true, false] rfl rfl (any_of HT_.out (by kernel_rfl)) ?_
  refine pu_ 10 (some 8) #[true, true, true, true, true, true, true, true, true, true, true] rfl rfl (any_of HT_.out (by kernel_rfl)) ?_
  refine done_ (done_of HT_.out (by kernel_rfl)) ?_
  try go_wp2
  go_ret
  exact ⟨by first | rfl | (simp [errW_none, errW_some] <;> rfl) | (simp only [← hji7]; first | rfl | (simp [errW_none, errW_some] <;> rfl)) | (simp [*, errW_none, errW_some] <;> rfl), hb1_ HB.out GE262.out⟩
 ·rw [if_neg c6] at H
  exact absurd H (by simp)
def shape_Nan.f (a0 : Int) : Option (Int) := (shape_of.f a0).bind fun bt264 => (if bt264.2.2 = true then ((shape_format_ones.f bt264.1 bt264.2.1).bind fun t268 => (if 0 ≤ (wrap64 (bt264.2.1 - 1)) then ((shape_format_join.f bt264.1 bt264.2.1 false t268 (shl .u64 1 (wrap64 (bt264.2.1 - 1)))).bind fun t269 => (some t269)) else (none))) else (some 0))
def shape_Nan.T4 : Bool × List (List Nat × List Nat) := (true, [([], []), ([], []), ([1], [1]), ([], []), ([3], [3]), ([4], [4]), ([5], [5]), ([0, 2, 6, 2], [0, 2, 6]), ([7, 7, 0, 1, 2, 3, 4, 5, 6, 7], [7])])
def shape_Nan.B4 : List Nat := [0, 0, 2, 0, 8, 24, 56, 127, 255]
theorem shape_Nan.tab4 : rtab .any (opsOf Tryz.f146 4) = shape_Nan.T4 := by kernel_rfl
theorem shape_Nan.bits4 : waitsOk shape_Nan.T4.2 shape_Nan.B4 = true := by kernel_rfl
theorem shape_Nan.calls (a0 : Int) (r : Int) (w : World) (h : shape_Nan.f a0 = some r) :
  Calls Tryz.prog 146 #[.int .i64 a0] w fun e w' => e = .returned (.int .u64 r) ∧ Below w.heap.size w w' := by
 have hu65 := Tryz.underlying65
 have HB := A_ (Below.refl w.heap.size w)
 have H : ((shape_of.f a0).bind fun bt264 => (if bt264.2.2 = true then ((shape_format_ones.f bt264.1 bt264.2.1).bind fun t268 => (if 0 ≤ (wrap64 (bt264.2.1 - 1)) then ((shape_format_join.f bt264.1 bt264.2.1 false t268 (shl .u64 1 (wrap64 (bt264.2.1 - 1)))).bind fun t269 => (some t269)) else (none))) else (some 0))) = some r := h
 clear h
 replace H := ob_ H
 obtain ⟨⟨t264, t265, t266⟩, A20, H⟩ := H
 replace H : (if t266 = true then ((shape_format_ones.f t264 t265).bind fun t268 => (if 0 ≤ (wrap64 (t265 - 1)) then ((shape_format_join.f t264 t265 false t268 (shl .u64 1 (wrap64 (t265 - 1)))).bind fun t269 => (some t269)) else (none))) else (some 0)) = some r := H
 have A2 := A_ A20;clear A20
 by_cases c3 : t266 = true
 ·subst c3
  have H1 : ((shape_format_ones.f t264 t265).bind fun t268 => (if 0 ≤ (wrap64 (t265 - 1)) then ((shape_format_join.f t264 t265 false t268 (shl .u64 1 (wrap64 (t265 - 1)))).bind fun t269 => (some t269)) else (none))) = some r := by rw [if_pos rfl] at H; exact H
  clear H;have H := H1;clear H1
  replace H := ob_ H
  obtain ⟨t268, A40, H⟩ := H
  replace H : (if 0 ≤ (wrap64 (t265 - 1)) then ((shape_format_join.f t264 t265 false t268 (shl .u64 1 (wrap64 (t265 - 1)))).bind fun t269 => (some t269)) else (none)) = some r := H
  have A4 := A_ A40;clear A40
  obtain ⟨ji5, hji5⟩ : ∃ j_ : Int, (wrap64 (t265 - 1)) = j_ := ⟨_, rfl⟩
  replace H : (if 0 ≤ (ji5) then ((shape_format_join.f t264 t265 false t268 (shl .u64 1 (ji5))).bind fun t269 => (some t269)) else (none)) = some r := by first | (rw [hji5] at H; exact H) | (simp only [hji5] at H ⊢; exact H)
  (try rw [hji5] at A2)
  (try rw [hji5] at A4)
  have hji5w : (IntKind.i64.wrap (t265 - 1)) = ji5 := (i64_w _).trans hji5
  by_cases c6 : 0 ≤ (ji5)
  ·rw [if_pos c6] at H
   have c6b0 := eq_true c6
   have c6b1 : decide (0 ≤ (ji5)) = true := decide_eq_true c6
   clear c6
   obtain ⟨ji7, hji7⟩ : ∃ j_ : Int, (shl .u64 1 (ji5)) = j_ := ⟨_, rfl⟩
   replace H : ((shape_format_join.f t264 t265 false t268 (ji7)).bind fun t269 => (some t269)) = some r := by first | (rw [hji7] at H; exact H) | (simp only [hji7] at H ⊢; exact H)
   (try rw [hji7] at A2)
   (try rw [hji7] at A4)
   have hji7_ : (IntKind.u64.wrap (1 * 2 ^ min (ji5).toNat 64)) = ji7 := hji7
   have hji7z : (ji5) ≤ 64 → (IntKind.u64.wrap (1 * 2 ^ (ji5).toNat)) = ji7 := shl_small hji7
   have hji7u : (IntKind.u64.wrap (2 ^ min (ji5).toNat 64)) = ji7 := by have h_ := hji7_; rw [Int.one_mul] at h_; exact h_
   have hji7v : (ji5) ≤ 64 → (IntKind.u64.wrap (2 ^ (ji5).toNat)) = ji7 := fun hle_ => by have h_ := hji7z hle_; rw [Int.one_mul] at h_; exact h_
   replace H := ob_ H
   obtain ⟨t269, A80, H⟩ := H
   replace H : (some t269) = some r := H
   have A8 := A_ A80;clear A80
   obtain rfl := Option.some.inj H
   go_enter Tryz.func146, Tryz.ntmps146
   try go_wp2_with (first | ((with_reducible refine gate_callee (f := 35) rfl ?_); refine goesL_ (some 7) rfl rfl Tryz.func35 (by kernel_rfl) rfl #[.int .i64 a0] rfl mp_ ?_; (with_reducible refine (shape_of.calls a0 t264 t265 true _ A2.out).mono ?_); rintro e w9 ⟨rfl, hb⟩; refine ⟨_, rfl, ?_⟩; replace HB := A_ (below_step (hb_ HB.out) hb); (try clear hb); (try clear hb2); (try clear hk); (try clear hi)) | ((with_reducible refine gate_dst (N := 3) rfl ?_); refine be_ 3 #[.int .i64 0, .int .i64 0] 65 ?_; intro gb267 hg w10 hbox hb; have BK267 := A_ (hbox); have GW267 := A_ (sz_ hg (hb_ HB.out)); have GE267 := A_ (sz_ hg (hb_ HB.out)); replace HB := A_ (below_step (hb_ HB.out) hb); clear hb hbox hg; have hcz11_0 := bv_ BK267.out 0; have hcz11_1 := bv_ BK267.out 1; have hfz11_0 := blk_frozen BK267.out 0; have hfz11_1 := blk_frozen BK267.out 1))
   have n0_ : Aside0 (((w10.setCell ⟨gb267, 0, none⟩ (.int .i64 t264)).setCell ⟨gb267, 1, none⟩ (.int .i64 t265)).heap[gb267]? = some (.cells #[.int .i64 t264, .int .i64 t265] 65 (0, 0))) := ⟨by (with_reducible repeat (first | refine blk_drewN ?_ _ | refine blk_drew ?_ | refine blk_alloc ?_ _)); refine blk_put (cs := #[.int .i64 t264, .int .i64 0]) ?_ 1 _ rfl; (with_reducible repeat (first | refine blk_drewN ?_ _ | refine blk_drew ?_ | refine blk_alloc ?_ _)); refine blk_put (cs := #[.int .i64 0, .int .i64 0]) ?_ 0 _ rfl; (with_reducible repeat (first | refine blk_drewN ?_ _ | refine blk_drew ?_ | refine blk_alloc ?_ _)); exact BK267.out⟩
   have n1_ : Aside0 (Below w.heap.size w ((w10.setCell ⟨gb267, 0, none⟩ (.int .i64 t264)).setCell ⟨gb267, 1, none⟩ (.int .i64 t265))) := ⟨hb1_ HB.out GE267.out⟩
   (try clear BK267);(try clear HB)
   generalize ((w10.setCell ⟨gb267, 0, none⟩ (.int .i64 t264)).setCell ⟨gb267, 1, none⟩ (.int .i64 t265)) = w12 at n0_ n1_ ⊢
   have BK267 := n0_;have HB := n1_;clear n0_ n1_
   replace BK267 := A_ (blk_drew BK267.out)
   replace HB := A_ (below_drew1 HB.out)
   refine start_ (n := 9) (S := fun w' => w'.cell? ⟨gb267, 0, none⟩ = some (.int .i64 t264) ∧ w'.cell? ⟨gb267, 1, none⟩ = some (.int .i64 t265)) (ds := []) #[false, false, false, false, false, false, false, false, false] (by kernel_rfl) rfl rfl ⟨bc_ BK267.out 0, bc_ BK267.out 1⟩ (fun hHeld => ?_); refine with_tabW shape_Nan.tab4 shape_Nan.bits4 (fun HT_ HW_ => ?_)
   generalize w12.drew = w13 at BK267 HB hHeld ⊢
   refine pu_ 3 (some 15) #[false, false, false, true, false, false, false, false, false] rfl rfl (any_of HT_.out (by kernel_rfl)) ?_
   refine tk2_ 0 (some 12) #[true, false, false, true, false, false, false, false, false] rfl rfl (take_ofW HT_.out HW_.out (by kernel_rfl)) hHeld ?_
   refine tk2_ 1 (some 13) #[true, true, false, true, false, false, false, false, false] rfl rfl (take_ofW HT_.out HW_.out (by kernel_rfl)) hHeld ?_
   refine tk2_ 4 (some 16) #[true, true, false, true, true, false, false, false, false] rfl rfl (take_ofW HT_.out HW_.out (by kernel_rfl)) hHeld ?_
   refine pu_ 5 (some 17) #[true, true, false, true, true, true, false, false, false] rfl rfl (any_of HT_.out (by kernel_rfl)) ?_
   refine pu_ 6 (some 18) #[true, true, false, true, true, true, true, false, false] rfl rfl (any_of HT_.out (by kernel_rfl)) ?_
   refine one_ (i := 2) (N := some 14) #[true, true, true, true, true, true, true, false, false] rfl rfl (one_of HT_.out (by kernel_rfl)) (by decide) (fun K hK => ?_)
   refine goes_ Tryz.func37 (by kernel_rfl) rfl #[.agg #[.int .i64 t264, .int .i64 t265]] (by rfl) rfl rfl mp_ ?_
   with_reducible refine (shape_format_ones.calls t264 t265 t268 _ A4.out).mono ?_
   rintro e w14 ⟨rfl, hb⟩
   refine ⟨_, rfl, ?_⟩
   replace BK267 := A_ (bb_ BK267.out hb)
   replace HB := A_ (below_step (hb1_ HB.out GE267.out) hb);(try clear hb);(try clear hb2);(try clear hk);(try clear hi)
   refine hK.out _ _ ⟨bc_ BK267.out 0, bc_ BK267.out 1⟩ (fun hHeld => ?_)
   clear hK K
   refine norm_ (a' := ?_) ?_ ?_
   rotate_left
   ·show Act.put _ (some 14) _ = _
    simp only [Act.put, lI_, l0_, lS_, i64_w, i32_w]
    rfl
   refine one_ (i := 7) (N := some 19) #[true, true, true, true, true, true, true, true, false] rfl rfl (one_of HT_.out (by kernel_rfl)) (by decide) (fun K hK => ?_)
   refine goes_ Tryz.func99 (by kernel_rfl) rfl #[.agg #[.int .i64 t264, .int .i64 t265], .bool false, .int .u64 t268, .int .u64 ji7] (by rfl) rfl rfl (by (try simp only [List.map_toArray, List.map_cons, List.map_nil]); first | done | (simp only [hji7]; rfl) | rfl | (simp only [List.length_drop, List.length_take]; rfl)) ?_
   with_reducible refine (shape_format_join.calls t264 t265 false t268 ji7 t269 _ A8.out).mono ?_
   rintro e w15 ⟨rfl, hb⟩
   refine ⟨_, rfl, ?_⟩
   replace BK267 := A_ (bb_ BK267.out hb)
   replace HB := A_ (below_step (hb1_ HB.out GE267.out) hb);(try clear hb);(try clear hb2);(try clear hk);(try clear hi)
   refine hK.out _ _ ⟨bc_ BK267.out 0, bc_ BK267.out 1⟩ (fun hHeld => ?_)
   clear hK K
   refine norm_ (a' := ?_) ?_ ?_
   rotate_left
   ·show Act.put _ (some 19) _ = _
    simp only [Act.put, lI_, l0_, lS_, i64_w, i32_w]
    rfl
   refine pu_ 8 (some 2) #[true, true, true, true, true, true, true, true, true] rfl rfl (any_of HT_.out (by kernel_rfl)) ?_
   refine done_ (done_of HT_.out (by kernel_rfl)) ?_
   try go_wp2
   go_ret
   exact ⟨by first | rfl | (simp [errW_none, errW_some] <;> rfl) | (simp only [← hji5, ← hji7]; first | rfl | (simp [errW_none, errW_some] <;> rfl)) | (simp [*, errW_none, errW_some] <;> rfl), hb1_ HB.out GE267.out⟩
  ·rw [if_neg c6] at H
   exact absurd H (by simp)
 ·replace c3 := Bool.eq_false_iff.mpr c3
  subst c3
  have H1 : (some 0) = some r := by rw [if_neg (show ¬ (false = true) by decide)] at H; exact H
  clear H;have H := H1;clear H1
  obtain rfl := Option.some.inj H
  go_enter Tryz.func146, Tryz.ntmps146
  go_wp2_with (first | ((with_reducible refine gate_callee (f := 35) rfl ?_); refine goesL_ (some 7) rfl rfl Tryz.func35 (by kernel_rfl) rfl #[.int .i64 a0] rfl mp_ ?_; (with_reducible refine (shape_of.calls a0 t264 t265 false _ A2.out).mono ?_); rintro e w16 ⟨rfl, hb⟩; refine ⟨_, rfl, ?_⟩; replace HB := A_ (below_step (hb_ HB.out) hb); (try clear hb); (try clear hb2); (try clear hk); (try clear hi)) | ((with_reducible refine gate_dst (N := 3) rfl ?_); refine be_ 3 #[.int .i64 0, .int .i64 0] 65 ?_; intro gb267 hg w17 hbox hb; have BK267 := A_ (hbox); have GW267 := A_ (sz_ hg (hb_ HB.out)); have GE267 := A_ (sz_ hg (hb_ HB.out)); replace HB := A_ (below_step (hb_ HB.out) hb); clear hb hbox hg; have hcz18_0 := bv_ BK267.out 0; have hcz18_1 := bv_ BK267.out 1; have hfz18_0 := blk_frozen BK267.out 0; have hfz18_1 := blk_frozen BK267.out 1))
  go_ret
  exact ⟨er_, hb1_ HB.out GE267.out⟩
def order_pick.j0 : Nat → Int → Int → Int → Bool → Bool → Bool → Option (Int)
 | 0, _, _, _, _, _, _ => none
 | k + 1, x0, x1, x2, x3, x4, x21 => if x21 = true then ((shape_Nan.f x0).bind fun t515 => (some t515)) else ((order_Eq.f k x0 x1 x2).bind fun t516 => (if t516 = true then ((shape_Open.f k x0 x1).bind fun bt517 => (if (bt517.1 == x3) = true then (some x1) else (some x2))) else (if x4 = true then (some x1) else (some x2))))
def order_pick.f (k : Nat) (a0 : Int) (a1 : Int) (a2 : Int) (a3 : Bool) (a4 : Bool) : Option (Int) := (shape_Cut.f a0 a1).bind fun t510 => ((shape_Cut.f a0 a2).bind fun t511 => ((order_known.f a0).bind fun t512 => (if t512 = true then ((shape_IsNan.f k a0 t510).bind fun t513 => (if t513 = true then (order_pick.j0 k a0 t510 t511 a3 a4 true) else ((shape_IsNan.f k a0 t511).bind fun t514 => (order_pick.j0 k a0 t510 t511 a3 a4 t514)))) else (some 0))))
theorem order_pick.mono_l : ∀ k, (∀ y0 y1 y2 y3 y4 y5, LeO (order_pick.j0 k y0 y1 y2 y3 y4 y5) (order_pick.j0 (k + 1) y0 y1 y2 y3 y4 y5))
 | 0 => fun _ _ _ _ _ _ r h => by simp [order_pick.j0] at h
 | k + 1 => by
  have ih0 := order_pick.mono_l k
  ·intro y0 y1 y2 y3 y4 y5
   unfold order_pick.j0
   repeat' first
   | (with_reducible exact ih0 _ _ _ _ _ _)
   | (with_reducible exact order_Eq.mono _ _ _ _)
   | (with_reducible exact shape_IsNan.mono _ _ _)
   | (with_reducible exact shape_Open.mono _ _ _)
   | (with_reducible exact LeO.refl _)
   | (with_reducible exact LeO.none _)
   | (with_reducible refine LeO.ite ?_ ?_)
   | (with_reducible refine LeO.bind ?_ (fun _ => ?_))
   | exact ih0 _ _ _ _ _ _
   | exact order_Eq.mono _ _ _ _
   | exact shape_IsNan.mono _ _ _
   | exact shape_Open.mono _ _ _
   | exact LeO.none _
   | refine LeO.ite ?_ ?_
   | refine LeO.bind ?_ (fun _ => ?_)
theorem order_pick.mono : ∀ a0 a1 a2 a3 a4 k, LeO (order_pick.f k a0 a1 a2 a3 a4) (order_pick.f (k + 1) a0 a1 a2 a3 a4) := by
 intro a0 a1 a2 a3 a4 k
 have ih0 := order_pick.mono_l k
 unfold order_pick.f
 repeat' first
   | (with_reducible exact ih0 _ _ _ _ _ _)
   | (with_reducible exact order_Eq.mono _ _ _ _)
   | (with_reducible exact shape_IsNan.mono _ _ _)
   | (with_reducible exact shape_Open.mono _ _ _)
   | (with_reducible exact LeO.refl _)
   | (with_reducible exact LeO.none _)
   | (with_reducible refine LeO.ite ?_ ?_)
   | (with_reducible refine LeO.bind ?_ (fun _ => ?_))
   | exact ih0 _ _ _ _ _ _
   | exact order_Eq.mono _ _ _ _
   | exact shape_IsNan.mono _ _ _
   | exact shape_Open.mono _ _ _
   | exact LeO.none _
   | refine LeO.ite ?_ ?_
   | refine LeO.bind ?_ (fun _ => ?_)
theorem order_pick.calls (k : Nat) (a0 : Int) (a1 : Int) (a2 : Int) (a3 : Bool) (a4 : Bool) (r : Int) (w : World) (h : order_pick.f k a0 a1 a2 a3 a4 = some r) :
  Calls Tryz.prog 154 #[.int .i64 a0, .int .u64 a1, .int .u64 a2, .bool a3, .bool a4] w fun e w' => e = .returned (.int .u64 r) ∧ Below w.heap.size w w' := by
 have hfl27_0 : ∀ (v0_ v1_ v2_ v3_ : Value) (W : World), (Instr.field 27 (.agg #[v0_, v1_, v2_, v3_]) 0).run Tryz.prog W = .ok v0_ W := fun _ _ _ _ _ => by rfl
 have HB := A_ (Below.refl w.heap.size w)
 have H : ((shape_Cut.f a0 a1).bind fun t510 => ((shape_Cut.f a0 a2).bind fun t511 => ((order_known.f a0).bind fun t512 => (if t512 = true then ((shape_IsNan.f k a0 t510).bind fun t513 => (if t513 = true then (order_pick.j0 k a0 t510 t511 a3 a4 true) else ((shape_IsNan.f k a0 t511).bind fun t514 => (order_pick.j0 k a0 t510 t511 a3 a4 t514)))) else (some 0))))) = some r := h
 clear h
 replace H := ob_ H
 obtain ⟨t510, A60, H⟩ := H
 replace H : ((shape_Cut.f a0 a2).bind fun t511 => ((order_known.f a0).bind fun t512 => (if t512 = true then ((shape_IsNan.f k a0 t510).bind fun t513 => (if t513 = true then (order_pick.j0 k a0 t510 t511 a3 a4 true) else ((shape_IsNan.f k a0 t511).bind fun t514 => (order_pick.j0 k a0 t510 t511 a3 a4 t514)))) else (some 0)))) = some r := H
 have A6 := A_ A60;clear A60
 replace H := ob_ H
 obtain ⟨t511, A70, H⟩ := H
 replace H : ((order_known.f a0).bind fun t512 => (if t512 = true then ((shape_IsNan.f k a0 t510).bind fun t513 => (if t513 = true then (order_pick.j0 k a0 t510 t511 a3 a4 true) else ((shape_IsNan.f k a0 t511).bind fun t514 => (order_pick.j0 k a0 t510 t511 a3 a4 t514)))) else (some 0))) = some r := H
 have A7 := A_ A70;clear A70
 replace H := ob_ H
 obtain ⟨t512, A80, H⟩ := H
 replace H : (if t512 = true then ((shape_IsNan.f k a0 t510).bind fun t513 => (if t513 = true then (order_pick.j0 k a0 t510 t511 a3 a4 true) else ((shape_IsNan.f k a0 t511).bind fun t514 => (order_pick.j0 k a0 t510 t511 a3 a4 t514)))) else (some 0)) = some r := H
 have A8 := A_ A80;clear A80
 by_cases c9 : t512 = true
 ·subst c9
  have H1 : ((shape_IsNan.f k a0 t510).bind fun t513 => (if t513 = true then (order_pick.j0 k a0 t510 t511 a3 a4 true) else ((shape_IsNan.f k a0 t511).bind fun t514 => (order_pick.j0 k a0 t510 t511 a3 a4 t514)))) = some r := by rw [if_pos rfl] at H; exact H
  clear H;have H := H1;clear H1;have HC10 := A_ H;clear H
  go_enter Tryz.func154, Tryz.ntmps154
  go_upto_region 4 with (first | ((with_reducible refine gate_callee (f := 17) rfl ?_); refine goesL_ (some 13) rfl rfl Tryz.func17 (by kernel_rfl) rfl #[.int .i64 a0, .int .u64 a1] rfl mp_ ?_; (with_reducible refine (shape_Cut.calls a0 a1 t510 _ A6.out).mono ?_); rintro e w' ⟨rfl, ⟨nd, rfl⟩⟩; refine ⟨_, rfl, ?_⟩) | ((with_reducible refine gate_callee (f := 17) rfl ?_); refine goesL_ (some 16) rfl rfl Tryz.func17 (by kernel_rfl) rfl #[.int .i64 a0, .int .u64 a2] rfl mp_ ?_; (with_reducible refine (shape_Cut.calls a0 a2 t511 _ A7.out).mono ?_); rintro e w' ⟨rfl, ⟨nd, rfl⟩⟩; refine ⟨_, rfl, ?_⟩) | ((with_reducible refine gate_callee (f := 125) rfl ?_); refine goesL_ (some 19) rfl rfl Tryz.func125 (by kernel_rfl) rfl #[.int .i64 a0] rfl mp_ ?_; (with_reducible refine (order_known.calls a0 true _ A8.out).mono ?_); rintro e w' ⟨rfl, ⟨nd, rfl⟩⟩; refine ⟨_, rfl, ?_⟩))
  (try simp only [Act.put, lI_, l0_, lS_])
  go_cut [21] (fun v21 wc => ∃ (kq : Nat) (x21_9 : Bool), v21 = .bool x21_9 ∧ Aside0 (order_pick.j0 kq a0 t510 t511 a3 a4 x21_9 = some r) ∧ Aside0 (kq ≤ k) ∧ Aside0 (Below w.heap.size w wc))
  case first =>
   have H := HC10.out
   clear HC10
   replace H := ob_ H
   obtain ⟨t513, A110, H⟩ := H
   replace H : (if t513 = true then (order_pick.j0 k a0 t510 t511 a3 a4 true) else ((shape_IsNan.f k a0 t511).bind fun t514 => (order_pick.j0 k a0 t510 t511 a3 a4 t514))) = some r := H
   have A11 := A_ A110;clear A110
   by_cases c12 : t513 = true
   ·subst c12
    have H1 : (order_pick.j0 k a0 t510 t511 a3 a4 true) = some r := by rw [if_pos rfl] at H; exact H
    clear H;have H := H1;clear H1
    have H' := A_ H
    clear H
    go_wp2_with (first | ((with_reducible refine gate_callee (f := 222) rfl ?_); refine goesL_ (some 24) rfl rfl Tryz.func222 (by kernel_rfl) rfl #[.int .i64 a0, .int .u64 t510] rfl mp_ ?_; (with_reducible refine (shape_IsNan.calls k a0 t510 true _ A11.out).mono ?_); rintro e w13 ⟨rfl, hb⟩; refine ⟨_, rfl, ?_⟩; replace HB := A_ (below_step (hb_ HB.out) hb); (try clear hb); (try clear hb2); (try clear hk); (try clear hi)))
    go_meet
    case rel => exact ⟨_, (true), sm_, H', ⟨by first | omega | exact Nat.le_refl _⟩, ⟨hb_ HB.out⟩⟩
   ·replace c12 := Bool.eq_false_iff.mpr c12
    subst c12
    have H1 : ((shape_IsNan.f k a0 t511).bind fun t514 => (order_pick.j0 k a0 t510 t511 a3 a4 t514)) = some r := by rw [if_neg (show ¬ (false = true) by decide)] at H; exact H
    clear H;have H := H1;clear H1
    replace H := ob_ H
    obtain ⟨t514, A140, H⟩ := H
    replace H : (order_pick.j0 k a0 t510 t511 a3 a4 t514) = some r := H
    have A14 := A_ A140;clear A140
    have H' := A_ H
    clear H
    go_wp2_with (first | ((with_reducible refine gate_callee (f := 222) rfl ?_); refine goesL_ (some 24) rfl rfl Tryz.func222 (by kernel_rfl) rfl #[.int .i64 a0, .int .u64 t510] rfl mp_ ?_; (with_reducible refine (shape_IsNan.calls k a0 t510 false _ A11.out).mono ?_); rintro e w15 ⟨rfl, hb⟩; refine ⟨_, rfl, ?_⟩; replace HB := A_ (below_step (hb_ HB.out) hb); (try clear hb); (try clear hb2); (try clear hk); (try clear hi)) | (go_at_call 222; (with_reducible refine (shape_IsNan.calls k a0 t511 t514 _ A14.out).mono ?_); rintro e w16 ⟨rfl, hb⟩; replace HB := A_ (below_step (hb_ HB.out) hb); (try clear hb); (try clear hb2); (try clear hk); (try clear hi)))
    go_meet
    case rel => exact ⟨_, (t514), sm_, H', ⟨by first | omega | exact Nat.le_refl _⟩, ⟨hb_ HB.out⟩⟩
  case rest =>
   clear HC10
   try clear c1
   try clear c2
   try clear p2
   try clear c9
   try clear c12
   try clear c15
   obtain ⟨kq, x21_9, rfl, HA, HJ9, HB⟩ := hcut
   cases kq with
   | zero => exact absurd HA.out (by simp [order_pick.j0])
   | succ kj9 =>
    have H := HA.out
    clear HA
    simp only [order_pick.j0] at H
    by_cases c17 : x21_9 = true
    ·subst c17
     have H1 : ((shape_Nan.f a0).bind fun t515 => (some t515)) = some r := by rw [if_pos rfl] at H; exact H
     clear H;have H := H1;clear H1
     replace H := ob_ H
     obtain ⟨t515, A180, H⟩ := H
     replace H : (some t515) = some r := H
     have A18 := A_ A180;clear A180
     obtain rfl := Option.some.inj H
     go_wp2_with (first | ((with_reducible refine gate_callee (f := 146) rfl ?_); refine goesL_ (some 31) rfl rfl Tryz.func146 (by kernel_rfl) rfl #[.int .i64 a0] rfl mp_ ?_; (with_reducible refine (shape_Nan.calls a0 t515 _ A18.out).mono ?_); rintro e w19 ⟨rfl, hb⟩; refine ⟨_, rfl, ?_⟩; replace HB := A_ (below_step (hb_ HB.out) hb); (try clear hb); (try clear hb2); (try clear hk); (try clear hi)))
     go_ret
     exact ⟨er_, hb_ HB.out⟩
    ·replace c17 := Bool.eq_false_iff.mpr c17
     subst c17
     have H1 : ((order_Eq.f kj9 a0 t510 t511).bind fun t516 => (if t516 = true then ((shape_Open.f kj9 a0 t510).bind fun bt517 => (if (bt517.1 == a3) = true then (some t510) else (some t511))) else (if a4 = true then (some t510) else (some t511)))) = some r := by rw [if_neg (show ¬ (false = true) by decide)] at H; exact H
     clear H;have H := H1;clear H1
     replace H := ob_ H
     obtain ⟨t516, A200, H⟩ := H
     replace H : (if t516 = true then ((shape_Open.f kj9 a0 t510).bind fun bt517 => (if (bt517.1 == a3) = true then (some t510) else (some t511))) else (if a4 = true then (some t510) else (some t511))) = some r := H
     have A20 := A_ A200;clear A200
     by_cases c21 : t516 = true
     ·subst c21
      have H1 : ((shape_Open.f kj9 a0 t510).bind fun bt517 => (if (bt517.1 == a3) = true then (some t510) else (some t511))) = some r := by rw [if_pos rfl] at H; exact H
      clear H;have H := H1;clear H1
      replace H := ob_ H
      obtain ⟨⟨t517, t518, t519, t520⟩, A220, H⟩ := H
      replace H : (if (t517 == a3) = true then (some t510) else (some t511)) = some r := H
      have A22 := A_ A220;clear A220
      by_cases c23 : (t517 == a3) = true
      ·rw [if_pos c23] at H
       have c23b0 : (t517 == a3) = true := c23
       (try (have c23b1 : decide (t517 = a3) = true := by simpa using c23))
       (try (have c23b2 : (t517 == a3) = true := by simpa using c23))
       clear c23
       obtain rfl := Option.some.inj H
       go_wp2_with (first | ((with_reducible refine gate_callee (f := 62) rfl ?_); refine goesL_ (some 36) rfl rfl Tryz.func62 (by kernel_rfl) rfl #[.int .i64 a0, .int .u64 t510, .int .u64 t511] rfl mp_ ?_; (with_reducible refine (order_Eq.calls kj9 a0 t510 t511 true _ A20.out).mono ?_); rintro e w24 ⟨rfl, hb⟩; refine ⟨_, rfl, ?_⟩; replace HB := A_ (below_step (hb_ HB.out) hb); (try clear hb); (try clear hb2); (try clear hk); (try clear hi)) | ((with_reducible refine gate_callee (f := 10) rfl ?_); refine goesL_ (some 39) rfl rfl Tryz.func10 (by kernel_rfl) rfl #[.int .i64 a0, .int .u64 t510] rfl mp_ ?_; (with_reducible refine (shape_Open.calls kj9 a0 t510 t517 t518 t519 t520 _ A22.out).mono ?_); rintro e w25 ⟨rfl, hb⟩; refine ⟨_, rfl, ?_⟩; replace HB := A_ (below_step (hb_ HB.out) hb); (try clear hb); (try clear hb2); (try clear hk); (try clear hi)))
       go_ret
       exact ⟨er_, hb_ HB.out⟩
      ·rw [if_neg c23] at H
       have c23b0 : (t517 == a3) = false := by simpa using c23
       (try (have c23b1 : decide (t517 = a3) = false := by simpa using c23))
       (try (have c23b2 : (t517 == a3) = false := by simpa using c23))
       (try (have c23b3 : ¬ (t517 = a3) := by simpa using c23))
       clear c23
       obtain rfl := Option.some.inj H
       go_wp2_with (first | ((with_reducible refine gate_callee (f := 62) rfl ?_); refine goesL_ (some 36) rfl rfl Tryz.func62 (by kernel_rfl) rfl #[.int .i64 a0, .int .u64 t510, .int .u64 t511] rfl mp_ ?_; (with_reducible refine (order_Eq.calls kj9 a0 t510 t511 true _ A20.out).mono ?_); rintro e w26 ⟨rfl, hb⟩; refine ⟨_, rfl, ?_⟩; replace HB := A_ (below_step (hb_ HB.out) hb); (try clear hb); (try clear hb2); (try clear hk); (try clear hi)) | ((with_reducible refine gate_callee (f := 10) rfl ?_); refine goesL_ (some 39) rfl rfl Tryz.func10 (by kernel_rfl) rfl #[.int .i64 a0, .int .u64 t510] rfl mp_ ?_; (with_reducible refine (shape_Open.calls kj9 a0 t510 t517 t518 t519 t520 _ A22.out).mono ?_); rintro e w27 ⟨rfl, hb⟩; refine ⟨_, rfl, ?_⟩; replace HB := A_ (below_step (hb_ HB.out) hb); (try clear hb); (try clear hb2); (try clear hk); (try clear hi)))
       go_ret
       exact ⟨er_, hb_ HB.out⟩
     ·replace c21 := Bool.eq_false_iff.mpr c21
      subst c21
      have H1 : (if a4 = true then (some t510) else (some t511)) = some r := by rw [if_neg (show ¬ (false = true) by decide)] at H; exact H
      clear H;have H := H1;clear H1
      by_cases c28 : a4 = true
      ·subst c28
       have H1 : (some t510) = some r := by rw [if_pos rfl] at H; exact H
       clear H;have H := H1;clear H1
       obtain rfl := Option.some.inj H
       go_wp2_with (first | ((with_reducible refine gate_callee (f := 62) rfl ?_); refine goesL_ (some 36) rfl rfl Tryz.func62 (by kernel_rfl) rfl #[.int .i64 a0, .int .u64 t510, .int .u64 t511] rfl mp_ ?_; (with_reducible refine (order_Eq.calls kj9 a0 t510 t511 false _ A20.out).mono ?_); rintro e w29 ⟨rfl, hb⟩; refine ⟨_, rfl, ?_⟩; replace HB := A_ (below_step (hb_ HB.out) hb); (try clear hb); (try clear hb2); (try clear hk); (try clear hi)))
       go_ret
       exact ⟨er_, hb_ HB.out⟩
      ·replace c28 := Bool.eq_false_iff.mpr c28
       subst c28
       have H1 : (some t511) = some r := by rw [if_neg (show ¬ (false = true) by decide)] at H; exact H
       clear H;have H := H1;clear H1
       obtain rfl := Option.some.inj H
       go_wp2_with (first | ((with_reducible refine gate_callee (f := 62) rfl ?_); refine goesL_ (some 36) rfl rfl Tryz.func62 (by kernel_rfl) rfl #[.int .i64 a0, .int .u64 t510, .int .u64 t511] rfl mp_ ?_; (with_reducible refine (order_Eq.calls kj9 a0 t510 t511 false _ A20.out).mono ?_); rintro e w30 ⟨rfl, hb⟩; refine ⟨_, rfl, ?_⟩; replace HB := A_ (below_step (hb_ HB.out) hb); (try clear hb); (try clear hb2); (try clear hk); (try clear hi)))
       go_ret
       exact ⟨er_, hb_ HB.out⟩
 ·replace c9 := Bool.eq_false_iff.mpr c9
  subst c9
  have H1 : (some 0) = some r := by rw [if_neg (show ¬ (false = true) by decide)] at H; exact H
  clear H;have H := H1;clear H1
  obtain rfl := Option.some.inj H
  go_enter Tryz.func154, Tryz.ntmps154
  go_wp2_with (first | ((with_reducible refine gate_callee (f := 17) rfl ?_); refine goesL_ (some 13) rfl rfl Tryz.func17 (by kernel_rfl) rfl #[.int .i64 a0, .int .u64 a1] rfl mp_ ?_; (with_reducible refine (shape_Cut.calls a0 a1 t510 _ A6.out).mono ?_); rintro e w' ⟨rfl, ⟨nd, rfl⟩⟩; refine ⟨_, rfl, ?_⟩) | ((with_reducible refine gate_callee (f := 17) rfl ?_); refine goesL_ (some 16) rfl rfl Tryz.func17 (by kernel_rfl) rfl #[.int .i64 a0, .int .u64 a2] rfl mp_ ?_; (with_reducible refine (shape_Cut.calls a0 a2 t511 _ A7.out).mono ?_); rintro e w' ⟨rfl, ⟨nd, rfl⟩⟩; refine ⟨_, rfl, ?_⟩) | ((with_reducible refine gate_callee (f := 125) rfl ?_); refine goesL_ (some 19) rfl rfl Tryz.func125 (by kernel_rfl) rfl #[.int .i64 a0] rfl mp_ ?_; (with_reducible refine (order_known.calls a0 false _ A8.out).mono ?_); rintro e w' ⟨rfl, ⟨nd, rfl⟩⟩; refine ⟨_, rfl, ?_⟩))
  go_ret
  exact ⟨er_, hb_ HB.out⟩
def order_Max.f (k : Nat) (a0 : Int) (a1 : Int) (a2 : Int) : Option (Int) := (order_Gt.f k a0 a1 a2).bind fun t523 => ((order_pick.f k a0 a1 a2 false t523).bind fun t524 => (some t524))
theorem order_Max.mono : ∀ a0 a1 a2 k, LeO (order_Max.f k a0 a1 a2) (order_Max.f (k + 1) a0 a1 a2) := by
 intro a0 a1 a2 k
 unfold order_Max.f
 repeat' first
   | (with_reducible exact order_Gt.mono _ _ _ _)
   | (with_reducible exact order_pick.mono _ _ _ _ _ _)
   | (with_reducible exact LeO.refl _)
   | (with_reducible exact LeO.none _)
   | (with_reducible refine LeO.ite ?_ ?_)
   | (with_reducible refine LeO.bind ?_ (fun _ => ?_))
   | exact order_Gt.mono _ _ _ _
   | exact order_pick.mono _ _ _ _ _ _
   | exact LeO.none _
   | refine LeO.ite ?_ ?_
   | refine LeO.bind ?_ (fun _ => ?_)
theorem order_Max.calls (k : Nat) (a0 : Int) (a1 : Int) (a2 : Int) (r : Int) (w : World) (h : order_Max.f k a0 a1 a2 = some r) :
  Calls Tryz.prog 88 #[.int .i64 a0, .int .u64 a1, .int .u64 a2] w fun e w' => e = .returned (.int .u64 r) ∧ Below w.heap.size w w' := by
 have HB := A_ (Below.refl w.heap.size w)
 have H : ((order_Gt.f k a0 a1 a2).bind fun t523 => ((order_pick.f k a0 a1 a2 false t523).bind fun t524 => (some t524))) = some r := h
 clear h
 replace H := ob_ H
 obtain ⟨t523, A40, H⟩ := H
 replace H : ((order_pick.f k a0 a1 a2 false t523).bind fun t524 => (some t524)) = some r := H
 have A4 := A_ A40;clear A40
 replace H := ob_ H
 obtain ⟨t524, A50, H⟩ := H
 replace H : (some t524) = some r := H
 have A5 := A_ A50;clear A50
 obtain rfl := Option.some.inj H
 go_enter Tryz.func88, Tryz.ntmps88
 go_wp2_with (first | ((with_reducible refine gate_callee (f := 65) rfl ?_); refine goesL_ (some 13) rfl rfl Tryz.func65 (by kernel_rfl) rfl #[.int .i64 a0, .int .u64 a1, .int .u64 a2] rfl mp_ ?_; (with_reducible refine (order_Gt.calls k a0 a1 a2 t523 _ A4.out).mono ?_); rintro e w6 ⟨rfl, hb⟩; refine ⟨_, rfl, ?_⟩; replace HB := A_ (below_step (hb_ HB.out) hb); (try clear hb); (try clear hb2); (try clear hk); (try clear hi)) | ((with_reducible refine gate_callee (f := 154) rfl ?_); refine goesL_ (some 14) rfl rfl Tryz.func154 (by kernel_rfl) rfl #[.int .i64 a0, .int .u64 a1, .int .u64 a2, .bool false, .bool t523] rfl mp_ ?_; (with_reducible refine (order_pick.calls k a0 a1 a2 false t523 t524 _ A5.out).mono ?_); rintro e w7 ⟨rfl, hb⟩; refine ⟨_, rfl, ?_⟩; replace HB := A_ (below_step (hb_ HB.out) hb); (try clear hb); (try clear hb2); (try clear hk); (try clear hi)))
 go_ret
 exact ⟨er_, hb_ HB.out⟩
def order_Min.f (k : Nat) (a0 : Int) (a1 : Int) (a2 : Int) : Option (Int) := (order_Lt.f k a0 a1 a2).bind fun t521 => ((order_pick.f k a0 a1 a2 true t521).bind fun t522 => (some t522))
theorem order_Min.mono : ∀ a0 a1 a2 k, LeO (order_Min.f k a0 a1 a2) (order_Min.f (k + 1) a0 a1 a2) := by
 intro a0 a1 a2 k
 unfold order_Min.f
 repeat' first
   | (with_reducible exact order_Lt.mono _ _ _ _)
   | (with_reducible exact order_pick.mono _ _ _ _ _ _)
   | (with_reducible exact LeO.refl _)
   | (with_reducible exact LeO.none _)
   | (with_reducible refine LeO.ite ?_ ?_)
   | (with_reducible refine LeO.bind ?_ (fun _ => ?_))
   | exact order_Lt.mono _ _ _ _
   | exact order_pick.mono _ _ _ _ _ _
   | exact LeO.none _
   | refine LeO.ite ?_ ?_
   | refine LeO.bind ?_ (fun _ => ?_)
theorem order_Min.calls (k : Nat) (a0 : Int) (a1 : Int) (a2 : Int) (r : Int) (w : World) (h : order_Min.f k a0 a1 a2 = some r) :
  Calls Tryz.prog 87 #[.int .i64 a0, .int .u64 a1, .int .u64 a2] w fun e w' => e = .returned (.int .u64 r) ∧ Below w.heap.size w w' := by
 have HB := A_ (Below.refl w.heap.size w)
 have H : ((order_Lt.f k a0 a1 a2).bind fun t521 => ((order_pick.f k a0 a1 a2 true t521).bind fun t522 => (some t522))) = some r := h
 clear h
 replace H := ob_ H
 obtain ⟨t521, A40, H⟩ := H
 replace H : ((order_pick.f k a0 a1 a2 true t521).bind fun t522 => (some t522)) = some r := H
 have A4 := A_ A40;clear A40
 replace H := ob_ H
 obtain ⟨t522, A50, H⟩ := H
 replace H : (some t522) = some r := H
 have A5 := A_ A50;clear A50
 obtain rfl := Option.some.inj H
 go_enter Tryz.func87, Tryz.ntmps87
 go_wp2_with (first | ((with_reducible refine gate_callee (f := 64) rfl ?_); refine goesL_ (some 13) rfl rfl Tryz.func64 (by kernel_rfl) rfl #[.int .i64 a0, .int .u64 a1, .int .u64 a2] rfl mp_ ?_; (with_reducible refine (order_Lt.calls k a0 a1 a2 t521 _ A4.out).mono ?_); rintro e w6 ⟨rfl, hb⟩; refine ⟨_, rfl, ?_⟩; replace HB := A_ (below_step (hb_ HB.out) hb); (try clear hb); (try clear hb2); (try clear hk); (try clear hi)) | ((with_reducible refine gate_callee (f := 154) rfl ?_); refine goesL_ (some 14) rfl rfl Tryz.func154 (by kernel_rfl) rfl #[.int .i64 a0, .int .u64 a1, .int .u64 a2, .bool true, .bool t521] rfl mp_ ?_; (with_reducible refine (order_pick.calls k a0 a1 a2 true t521 t522 _ A5.out).mono ?_); rintro e w7 ⟨rfl, hb⟩; refine ⟨_, rfl, ?_⟩; replace HB := A_ (below_step (hb_ HB.out) hb); (try clear hb); (try clear hb2); (try clear hk); (try clear hi)))
 go_ret
 exact ⟨er_, hb_ HB.out⟩
def product_known.f (a0 : Int) : Option (Bool) := if a0 = 32 then (some true) else (some (a0 == 64))
theorem product_known.calls (a0 : Int) (r : Bool) (w : World) (h : product_known.f a0 = some r) :
  Calls Tryz.prog 151 #[.int .i64 a0] w fun e w' => e = .returned (.bool r) ∧ Drawn0 w w' := by
 have H : (if a0 = 32 then (some true) else (some (a0 == 64))) = some r := h
 clear h
 by_cases c2 : a0 = 32
 ·rw [if_pos c2] at H
  have c2b0 : (a0 == 32) = true := beq_iff_eq.mpr c2
  have c2b1 : (a0 != 32) = false := bne_eq_false_iff_eq.mpr c2
  clear c2
  obtain rfl := Option.some.inj H
  go_enter Tryz.func151, Tryz.ntmps151
  go_wp2
  go_ret
  exact ⟨sm_, by repeat (first | exact Drawn0.refl _ | apply Drawn0.step)⟩
 ·rw [if_neg c2] at H
  have c2b0 : (a0 == 32) = false := beq_eq_false_iff_ne.mpr c2
  have c2b1 : (a0 != 32) = true := bne_iff_ne.mpr c2
  obtain rfl := Option.some.inj H
  go_enter Tryz.func151, Tryz.ntmps151
  go_wp2
  go_ret
  exact ⟨sm_, by repeat (first | exact Drawn0.refl _ | apply Drawn0.step)⟩
end Go.Proofs.YtnmlmgmljoncoaaGreatDoor.PA
set_option linter.unusedVariables false
set_option linter.unusedSimpArgs false
namespace Go.Proofs.YtnmlmgmljoncoaaGreatDoor.Nr
open Go.RowKit Go.Proofs.YtnmlmgmljoncoaaGreatDoorW.PrintWords Go.Proofs.YtnmlmgmljoncoaaGreatDoorW.PrintLast Go.Proofs.YtnmlmgmljoncoaaGreatDoorW.PrintMore
def Nr (w : World) (v : Value) (l : List Int) : Prop := ∃ A c, v = .slice A l.length c ∧ l.length ≤ c ∧ Kd.C (Kd.int .u64) w A l.length l
def IsRow (v : Option Value) : Prop := ∃ A n c, v = some (.slice A n c)
theorem Nr.below {w w1 : World} {v : Value} {l : List Int} (h : Nr w v l) (hb : Below w.heap.size w w1) : Nr w1 v l := by
  obtain ⟨A, c, e, hc, h⟩ := h
  exact ⟨A, c, e, hc, Kd.C_below h hb⟩
theorem Nr.alloc {w : World} {v : Value} {l : List Int} (h : Nr w v l) (o : Obj) : Nr (w.alloc o) v l := h.below (below_alloc (Below.refl _ _) o)
theorem Nr.drew {w : World} {v : Value} {l : List Int} (h : Nr w v l) : Nr w.drew v l := h.below (below_drew1 (Below.refl _ _))
theorem Nr.drewN {w : World} {v : Value} {l : List Int} (h : Nr w v l) (n : Nat) : Nr (w.drewN n) v l := h.below (pw_below_drewN (Below.refl _ _) n)
theorem Nr.set {w : World} {v : Value} {l : List Int} (h : Nr w v l) {p : Addr} (x : Value) (hp : IsRow (w.cell? p)) : Nr (w.setCell p x) v l := by
  obtain ⟨A, c, e, hc, h1, h2, h3⟩ := h
  refine ⟨A, c, e, hc, h1, h2, fun hn => ?_⟩
  obtain ⟨ad, e1, h4⟩ := h3 hn
  refine ⟨ad, e1, fun j q hj => ?_⟩
  obtain ⟨cs, k1, k2, k3⟩ := h4 j q hj
  refine ⟨cs, k1, k2, fun i u hu => ?_⟩
  have k4 := k3 i u hu
  have k5 : u = .int .u64 q := by
    have k6 : cs = [Value.int .u64 q] := k2
    rw [k6] at hu
    rcases i with _ | i
    · simpa using hu.symm
    · simp at hu
  rw [World.cell?_setCell_other]
  · exact k4
  · intro e2
    obtain ⟨B, n, d, hp⟩ := hp
    rw [e2, k4, k5] at hp
    cases hp
theorem Nr.nil (w : World) : Nr w (.slice none 0 0) [] := ⟨none, 0, rfl, Nat.le_refl _, Kd.C_nil _ w⟩
theorem IsRow.slice (A : Option Addr) (n c : Nat) : IsRow (some (.slice A n c)) := ⟨A, n, c, rfl⟩
theorem bcell {W w1 : World} (hb : Below W.heap.size W w1) : (∀ b o, b < W.heap.size → w1.cell? ⟨b, o, none⟩ = W.cell? ⟨b, o, none⟩) ∧ (∀ b o, b < W.heap.size → w1.frozen? ⟨b, o, none⟩ = W.frozen? ⟨b, o, none⟩) :=
  ⟨fun b o h => hb.cell (p := ⟨b, o, none⟩) h, fun b o h => hb.frozen (p := ⟨b, o, none⟩) h⟩
theorem al {W : World} {b : Nat} (h : b < W.heap.size) (o : Nat) (x : Obj) : (W.alloc x).cell? ⟨b, o, none⟩ = W.cell? ⟨b, o, none⟩ := (bcell (below_alloc (Below.refl _ W) x)).1 b o h
theorem alf {W : World} {b : Nat} (h : b < W.heap.size) (o : Nat) (x : Obj) : (W.alloc x).frozen? ⟨b, o, none⟩ = W.frozen? ⟨b, o, none⟩ := (bcell (below_alloc (Below.refl _ W) x)).2 b o h
theorem lt_al {n : Nat} {W : World} {x : Obj} (h : n < W.heap.size) : n < (W.alloc x).heap.size := Nat.lt_of_lt_of_le h (below_alloc (Below.refl _ W) x).size
def At (ok : Nat → Prop) (v : Value) : Prop := ∀ ad n c, v = .slice (some ad) n c → 0 < n → ok ad.block
theorem At.mono {ok ok' : Nat → Prop} {v : Value} (h : At ok v) (i : ∀ k, ok k → ok' k) : At ok' v := fun ad n c e hn => i _ (h ad n c e hn)
theorem Rs {w : World} {e base : Nat} {ok : Nat → Prop} {v : Value} {l : List Int} (h : Kd.R (Kd.int .u64) e w base ok v l) {p : Addr} (hne : v.ownBlock ≠ some p.block) (x : Value) : Kd.R (Kd.int .u64) e (w.setCell p x) base ok v l :=
  Kd.R_mono (Kd.R_far (Kd.R_far1 h rfl (g := p.block) (fun e => hne e.symm)) (fun _ hk => hk.2) x) (fun _ hk => hk.1)
structure Ow (e base : Nat) (w : World) (v : Value) (l : List Int) : Prop where
  out : Kd.R (Kd.int .u64) e w base (fun k => base ≤ k) v l
theorem Ow.nil (e base : Nat) (w : World) : Ow e base w (.slice none 0 0) [] := ⟨Kd.R_nil _ _ _ _ _⟩
theorem Ow.below {e base : Nat} {w w1 : World} {v : Value} {l : List Int} (h : Ow e base w v l) (hb : Below w.heap.size w w1) : Ow e base w1 v l := ⟨Kd.R_below h.out hb⟩
theorem Ow.alloc {e base : Nat} {w : World} {v : Value} {l : List Int} (h : Ow e base w v l) (o : Obj) : Ow e base (w.alloc o) v l := ⟨Kd.R_alloc h.out o⟩
theorem Ow.drew {e base : Nat} {w : World} {v : Value} {l : List Int} (h : Ow e base w v l) : Ow e base w.drew v l := ⟨Kd.R_drew h.out⟩
theorem Ow.drewN {e base : Nat} {w : World} {v : Value} {l : List Int} (h : Ow e base w v l) (n : Nat) : Ow e base (w.drewN n) v l := ⟨Kd.R_drewN h.out n⟩
theorem Ow.set {e base : Nat} {w : World} {v : Value} {l : List Int} (h : Ow e base w v l) {p : Addr} (x : Value) (hne : v.ownBlock ≠ some p.block) : Ow e base (w.setCell p x) v l := ⟨Rs h.out hne x⟩
end Go.Proofs.YtnmlmgmljoncoaaGreatDoor.Nr
namespace Go.Proofs.YtnmlmgmljoncoaaGreatDoor.PA
open Go.RowKit Go.Proofs.YtnmlmgmljoncoaaGreatDoorW.PrintWords Go.Proofs.YtnmlmgmljoncoaaGreatDoorW.PrintLast Go.Proofs.YtnmlmgmljoncoaaGreatDoorW.PrintMore
attribute [local go_sem] max2_int min2_int max_two min_two max_three min_three max_four min_four   -- for this text's walks alone
set_option linter.unusedVariables false
set_option linter.unusedSimpArgs false
set_option maxHeartbeats 8000000
set_option maxRecDepth 100000
theorem eqA166 (d : Nat) (w : World) (x0 y0 : Int) (x1 y1 : Int) :
  (Op.equalIn (d + 2) 166 (.agg #[.int .u64 x0, .int .u64 x1]) (.agg #[.int .u64 y0, .int .u64 y1])).run Tryz.prog w = .ok (x0 == y0 && (x1 == y1)) w := by
 refine eqA_of Tryz.underlying166 (by kernel_rfl) ?_
 refine eqf_cons (by rfl) (by go_simp; rfl) (by go_simp; rfl) (by go_simp) ?_
 exact eqf_last (by rfl) (by go_simp; rfl) (by go_simp; rfl) (by go_simp)
def wide_Left.f (a0_0 : Int) (a0_1 : Int) (a1 : Int) : Option (Int × Int) := if a1 ≤ 0 then (some (a0_0, a0_1)) else (if a1 ≥ 128 then (some (0, 0)) else (if a1 ≥ 64 then (if 0 ≤ (wrap64 (a1 - 64)) then (some (shl .u64 a0_1 (wrap64 (a1 - 64)), 0)) else (none)) else (if 0 ≤ a1 then (if 0 ≤ (wrap64 (64 - a1)) then (some (Go.bits .or .u64 (shl .u64 a0_0 a1) (shr .u64 a0_1 (wrap64 (64 - a1))), shl .u64 a0_1 a1)) else (none)) else (none))))
def wide_Left.T7 : Bool × List (List Nat × List Nat) := (true, [([], []), ([0], [0]), ([], []), ([1, 2], [1, 2]), ([], []), ([4], [4]), ([], []), ([6], [6]), ([5, 7], [5, 7]), ([3, 8], [3, 8]), ([], []), ([10], [10]), ([], []), ([11, 12], [11, 12]), ([9, 13], [9, 13]), ([14, 0, 1, 2, 3, 4, 5, 6, 7, 8, 9, 10, 11, 12, 13, 14], [14])])
def wide_Left.B7 : List Nat := [0, 1, 0, 7, 0, 16, 0, 64, 240, 511, 0, 1024, 0, 7168, 16383, 32767]
theorem wide_Left.tab7 : rtab .any (opsOf Tryz.f242 7) = wide_Left.T7 := by kernel_rfl
theorem wide_Left.bits7 : waitsOk wide_Left.T7.2 wide_Left.B7 = true := by kernel_rfl
theorem wide_Left.calls (a0_0 : Int) (a0_1 : Int) (a1 : Int) (r1 : Int) (r2 : Int) (w : World) (h : wide_Left.f a0_0 a0_1 a1 = some (r1, r2)) :
  Calls Tryz.prog 242 #[.agg #[.int .u64 a0_0, .int .u64 a0_1], .int .i64 a1] w fun e w' => e = .returned (.agg #[.int .u64 r1, .int .u64 r2]) ∧ Below w.heap.size w w' := by
 have hu166 := Tryz.underlying166
 have HB := A_ (Below.refl w.heap.size w)
 have H : (if a1 ≤ 0 then (some (a0_0, a0_1)) else (if a1 ≥ 128 then (some (0, 0)) else (if a1 ≥ 64 then (if 0 ≤ (wrap64 (a1 - 64)) then (some (shl .u64 a0_1 (wrap64 (a1 - 64)), 0)) else (none)) else (if 0 ≤ a1 then (if 0 ≤ (wrap64 (64 - a1)) then (some (Go.bits .or .u64 (shl .u64 a0_0 a1) (shr .u64 a0_1 (wrap64 (64 - a1))), shl .u64 a0_1 a1)) else (none)) else (none))))) = some (r1, r2) := h
 clear h
 by_cases c3 : a1 ≤ 0
 ·rw [if_pos c3] at H
  have c3b0 : decide (a1 ≤ 0) = true := decide_eq_true c3
  clear c3
  simp only [Option.some.injEq, Prod.mk.injEq] at H
  obtain ⟨rfl, rfl⟩ := H
  go_enter Tryz.func242, Tryz.ntmps242
  go_wp2_with (first | ((with_reducible refine gate_dst (N := 2) rfl ?_); refine be_ 2 #[.int .u64 a0_0, .int .u64 a0_1] 166 ?_; intro gb271 hg w4 hbox hb; have BK271 := A_ (hbox); have GW271 := A_ (sz_ hg (hb_ HB.out)); have GE271 := A_ (sz_ hg (hb_ HB.out)); replace HB := A_ (below_step (hb_ HB.out) hb); clear hb hbox hg) | ((with_reducible refine gate_dst (N := 4) rfl ?_); refine be_ 4 #[.int .u64 0, .int .u64 0] 166 ?_; intro gb272 hg w5 hbox hb; have BK272 := A_ (hbox); have GW272 := A_ (sz_ hg (hb1_ HB.out GE271.out)); have GE272 := A_ (sz_ hg (hb1_ HB.out GE271.out)); have NB271_272 := A_ (nl_ hg BK271.out); have NB272_271 := A_ (ng_ hg BK271.out); replace BK271 := A_ (bb_ BK271.out hb); replace HB := A_ (below_step (hb1_ HB.out GE271.out) hb); clear hb hbox hg; have hnb6 := NB271_272.out; have hnc6 := NB272_271.out; have hcz7_0 := bv_ BK271.out 0; have hcz7_1 := bv_ BK271.out 1; have hfz7_0 := blk_frozen BK271.out 0; have hfz7_1 := blk_frozen BK271.out 1; have hcz8_0 := bv_ BK272.out 0; have hcz8_1 := bv_ BK272.out 1; have hfz8_0 := blk_frozen BK272.out 0; have hfz8_1 := blk_frozen BK272.out 1))
  refine bodyPost_ret (results_cell_row rfl _ _ gb272 166 #[.int .u64 a0_0, .int .u64 a0_1] (0, 0) _ rfl (by (with_reducible repeat (first | refine blk_drewN ?_ _ | refine blk_drew ?_ | refine blk_alloc ?_ _)); refine blk_put (cs := #[.int .u64 a0_0, .int .u64 0]) ?_ 1 _ rfl; (with_reducible repeat (first | refine blk_drewN ?_ _ | refine blk_drew ?_ | refine blk_alloc ?_ _)); refine blk_put (cs := #[.int .u64 0, .int .u64 0]) ?_ 0 _ rfl; (with_reducible repeat (first | refine blk_drewN ?_ _ | refine blk_drew ?_ | refine blk_alloc ?_ _)); exact BK272.out) Tryz.underlying166 rfl (by kernel_rfl)) rfl ?_
  exact ⟨er_, hb2_ HB.out GE271.out GE272.out⟩
 ·rw [if_neg c3] at H
  have c3b0 : decide (a1 ≤ 0) = false := decide_eq_false c3
  clear c3
  by_cases c9 : a1 ≥ 128
  ·rw [if_pos c9] at H
   have c9b0 : decide (128 ≤ a1) = true := decide_eq_true c9
   clear c9
   simp only [Option.some.injEq, Prod.mk.injEq] at H
   obtain ⟨rfl, rfl⟩ := H
   go_enter Tryz.func242, Tryz.ntmps242
   go_wp2_with (first | ((with_reducible refine gate_dst (N := 2) rfl ?_); refine be_ 2 #[.int .u64 a0_0, .int .u64 a0_1] 166 ?_; intro gb271 hg w10 hbox hb; have BK271 := A_ (hbox); have GW271 := A_ (sz_ hg (hb_ HB.out)); have GE271 := A_ (sz_ hg (hb_ HB.out)); replace HB := A_ (below_step (hb_ HB.out) hb); clear hb hbox hg) | ((with_reducible refine gate_dst (N := 4) rfl ?_); refine be_ 4 #[.int .u64 0, .int .u64 0] 166 ?_; intro gb272 hg w11 hbox hb; have BK272 := A_ (hbox); have GW272 := A_ (sz_ hg (hb1_ HB.out GE271.out)); have GE272 := A_ (sz_ hg (hb1_ HB.out GE271.out)); have NB271_272 := A_ (nl_ hg BK271.out); have NB272_271 := A_ (ng_ hg BK271.out); replace BK271 := A_ (bb_ BK271.out hb); replace HB := A_ (below_step (hb1_ HB.out GE271.out) hb); clear hb hbox hg; have hnb12 := NB272_271.out; have hnc12 := NB271_272.out; have hcz13_0 := bv_ BK272.out 0; have hcz13_1 := bv_ BK272.out 1; have hfz13_0 := blk_frozen BK272.out 0; have hfz13_1 := blk_frozen BK272.out 1))
   refine bodyPost_ret (results_cell_row rfl _ _ gb272 166 #[.int .u64 0, .int .u64 0] (0, 0) _ rfl (by (with_reducible repeat (first | refine blk_drewN ?_ _ | refine blk_drew ?_ | refine blk_alloc ?_ _)); refine blk_put (cs := #[.int .u64 0, .int .u64 0]) ?_ 1 _ rfl; (with_reducible repeat (first | refine blk_drewN ?_ _ | refine blk_drew ?_ | refine blk_alloc ?_ _)); refine blk_put (cs := #[.int .u64 0, .int .u64 0]) ?_ 0 _ rfl; (with_reducible repeat (first | refine blk_drewN ?_ _ | refine blk_drew ?_ | refine blk_alloc ?_ _)); exact BK272.out) Tryz.underlying166 rfl (by kernel_rfl)) rfl ?_
   exact ⟨er_, hb2_ HB.out GE271.out GE272.out⟩
  ·rw [if_neg c9] at H
   have c9b0 : decide (128 ≤ a1) = false := decide_eq_false c9
   clear c9
   by_cases c14 : a1 ≥ 64
   ·rw [if_pos c14] at H
    have c14b0 : decide (64 ≤ a1) = true := decide_eq_true c14
    clear c14
    obtain ⟨ji15, hji15⟩ : ∃ j_ : Int, (wrap64 (a1 - 64)) = j_ := ⟨_, rfl⟩
    replace H : (if 0 ≤ (ji15) then (some (shl .u64 a0_1 (ji15), 0)) else (none)) = some (r1, r2) := by first | (rw [hji15] at H; exact H) | (simp only [hji15] at H ⊢; exact H)
    have hji15w : (IntKind.i64.wrap (a1 - 64)) = ji15 := (i64_w _).trans hji15
    by_cases c16 : 0 ≤ (ji15)
    ·rw [if_pos c16] at H
     have c16b0 := eq_true c16
     have c16b1 : decide (0 ≤ (ji15)) = true := decide_eq_true c16
     clear c16
     obtain ⟨ji17, hji17⟩ : ∃ j_ : Int, (shl .u64 a0_1 (ji15)) = j_ := ⟨_, rfl⟩
     replace H : (some (ji17, 0)) = some (r1, r2) := by first | (rw [hji17] at H; exact H) | (simp only [hji17] at H ⊢; exact H)
     have hji17_ : (IntKind.u64.wrap (a0_1 * 2 ^ min (ji15).toNat 64)) = ji17 := hji17
     have hji17z : (ji15) ≤ 64 → (IntKind.u64.wrap (a0_1 * 2 ^ (ji15).toNat)) = ji17 := shl_small hji17
     simp only [Option.some.injEq, Prod.mk.injEq] at H
     obtain ⟨rfl, rfl⟩ := H
     go_enter Tryz.func242, Tryz.ntmps242
     go_wp2_with (first | ((with_reducible refine gate_dst (N := 2) rfl ?_); refine be_ 2 #[.int .u64 a0_0, .int .u64 a0_1] 166 ?_; intro gb271 hg w18 hbox hb; have BK271 := A_ (hbox); have GW271 := A_ (sz_ hg (hb_ HB.out)); have GE271 := A_ (sz_ hg (hb_ HB.out)); replace HB := A_ (below_step (hb_ HB.out) hb); clear hb hbox hg) | ((with_reducible refine gate_dst (N := 4) rfl ?_); refine be_ 4 #[.int .u64 0, .int .u64 0] 166 ?_; intro gb272 hg w19 hbox hb; have BK272 := A_ (hbox); have GW272 := A_ (sz_ hg (hb1_ HB.out GE271.out)); have GE272 := A_ (sz_ hg (hb1_ HB.out GE271.out)); have NB271_272 := A_ (nl_ hg BK271.out); have NB272_271 := A_ (ng_ hg BK271.out); replace BK271 := A_ (bb_ BK271.out hb); replace HB := A_ (below_step (hb1_ HB.out GE271.out) hb); clear hb hbox hg; have hnb20 := NB271_272.out; have hnc20 := NB272_271.out; have hcz21_0 := bv_ BK271.out 0; have hcz21_1 := bv_ BK271.out 1; have hfz21_0 := blk_frozen BK271.out 0; have hfz21_1 := blk_frozen BK271.out 1; have hcz22_0 := bv_ BK272.out 0; have hcz22_1 := bv_ BK272.out 1; have hfz22_0 := blk_frozen BK272.out 0; have hfz22_1 := blk_frozen BK272.out 1))
     refine bodyPost_ret (results_cell_row rfl _ _ gb272 166 #[.int .u64 ji17, .int .u64 0] (0, 0) _ rfl (by (with_reducible repeat (first | refine blk_drewN ?_ _ | refine blk_drew ?_ | refine blk_alloc ?_ _)); refine blk_put (cs := #[.int .u64 ji17, .int .u64 0]) ?_ 1 _ rfl; (with_reducible repeat (first | refine blk_drewN ?_ _ | refine blk_drew ?_ | refine blk_alloc ?_ _)); refine blk_put (cs := #[.int .u64 0, .int .u64 0]) ?_ 0 _ rfl; (with_reducible repeat (first | refine blk_drewN ?_ _ | refine blk_drew ?_ | refine blk_alloc ?_ _)); exact BK272.out) Tryz.underlying166 rfl (by kernel_rfl)) rfl ?_
     exact ⟨by first | rfl | (simp [errW_none, errW_some] <;> rfl) | (simp only [← hji15, ← hji17]; first | rfl | (simp [errW_none, errW_some] <;> rfl)) | (simp [*, errW_none, errW_some] <;> rfl), hb2_ HB.out GE271.out GE272.out⟩
    ·rw [if_neg c16] at H
     exact absurd H (by simp)
   ·rw [if_neg c14] at H
    have c14b0 : decide (64 ≤ a1) = false := decide_eq_false c14
    clear c14
    by_cases c23 : 0 ≤ a1
    ·rw [if_pos c23] at H
     have c23b0 := eq_true c23
     have c23b1 : decide (0 ≤ a1) = true := decide_eq_true c23
     clear c23
     obtain ⟨ji24, hji24⟩ : ∃ j_ : Int, (shl .u64 a0_0 a1) = j_ := ⟨_, rfl⟩
     replace H : (if 0 ≤ (wrap64 (64 - a1)) then (some (Go.bits .or .u64 (ji24) (shr .u64 a0_1 (wrap64 (64 - a1))), shl .u64 a0_1 a1)) else (none)) = some (r1, r2) := by first | (rw [hji24] at H; exact H) | (simp only [hji24] at H ⊢; exact H)
     have hji24_ : (IntKind.u64.wrap (a0_0 * 2 ^ min a1.toNat 64)) = ji24 := hji24
     have hji24z : a1 ≤ 64 → (IntKind.u64.wrap (a0_0 * 2 ^ a1.toNat)) = ji24 := shl_small hji24
     obtain ⟨ji25, hji25⟩ : ∃ j_ : Int, (wrap64 (64 - a1)) = j_ := ⟨_, rfl⟩
     replace H : (if 0 ≤ (ji25) then (some (Go.bits .or .u64 (ji24) (shr .u64 a0_1 (ji25)), shl .u64 a0_1 a1)) else (none)) = some (r1, r2) := by first | (rw [hji25] at H; exact H) | (simp only [hji25] at H ⊢; exact H)
     have hji25w : (IntKind.i64.wrap (64 - a1)) = ji25 := (i64_w _).trans hji25
     by_cases c26 : 0 ≤ (ji25)
     ·rw [if_pos c26] at H
      have c26b0 := eq_true c26
      have c26b1 : decide (0 ≤ (ji25)) = true := decide_eq_true c26
      clear c26
      obtain ⟨ji27, hji27⟩ : ∃ j_ : Int, (shr .u64 a0_1 (ji25)) = j_ := ⟨_, rfl⟩
      replace H : (some (Go.bits .or .u64 (ji24) (ji27), shl .u64 a0_1 a1)) = some (r1, r2) := by first | (rw [hji27] at H; exact H) | (simp only [hji27] at H ⊢; exact H)
      have hji27_ : (a0_1 / 2 ^ min (ji25).toNat 64) = ji27 := hji27
      have hji27z : (ji25) ≤ 64 → (a0_1 / 2 ^ (ji25).toNat) = ji27 := shr_small hji27
      have c28b0 := eq_true (of_decide_eq_true (by first | (with_reducible assumption) | assumption) : 0 ≤ a1)
      obtain ⟨ji29, hji29⟩ : ∃ j_ : Int, (shl .u64 a0_1 a1) = j_ := ⟨_, rfl⟩
      replace H : (some (Go.bits .or .u64 (ji24) (ji27), ji29)) = some (r1, r2) := by first | (rw [hji29] at H; exact H) | (simp only [hji29] at H ⊢; exact H)
      have hji29_ : (IntKind.u64.wrap (a0_1 * 2 ^ min a1.toNat 64)) = ji29 := hji29
      have hji29z : a1 ≤ 64 → (IntKind.u64.wrap (a0_1 * 2 ^ a1.toNat)) = ji29 := shl_small hji29
      simp only [Option.some.injEq, Prod.mk.injEq] at H
      obtain ⟨rfl, rfl⟩ := H
      go_enter Tryz.func242, Tryz.ntmps242
      try go_wp2_with (first | ((with_reducible refine gate_dst (N := 2) rfl ?_); refine be_ 2 #[.int .u64 a0_0, .int .u64 a0_1] 166 ?_; intro gb271 hg w30 hbox hb; have BK271 := A_ (hbox); have GW271 := A_ (sz_ hg (hb_ HB.out)); have GE271 := A_ (sz_ hg (hb_ HB.out)); replace HB := A_ (below_step (hb_ HB.out) hb); clear hb hbox hg) | ((with_reducible refine gate_dst (N := 4) rfl ?_); refine be_ 4 #[.int .u64 0, .int .u64 0] 166 ?_; intro gb272 hg w31 hbox hb; have BK272 := A_ (hbox); have GW272 := A_ (sz_ hg (hb1_ HB.out GE271.out)); have GE272 := A_ (sz_ hg (hb1_ HB.out GE271.out)); have NB271_272 := A_ (nl_ hg BK271.out); have NB272_271 := A_ (ng_ hg BK271.out); replace BK271 := A_ (bb_ BK271.out hb); replace HB := A_ (below_step (hb1_ HB.out GE271.out) hb); clear hb hbox hg))
      replace BK271 := A_ (blk_drew BK271.out)
      replace BK272 := A_ (blk_drew BK272.out)
      replace HB := A_ (below_drew1 HB.out)
      refine start_ (n := 16) (S := fun w' => w'.cell? ⟨gb271, 0, none⟩ = some (.int .u64 a0_0) ∧ w'.cell? ⟨gb271, 1, none⟩ = some (.int .u64 a0_1)) (ds := []) #[false, false, false, false, false, false, false, false, false, false, false, false, false, false, false, false] (by kernel_rfl) rfl rfl ⟨bc_ BK271.out 0, bc_ BK271.out 1⟩ (fun hHeld => ?_); refine with_tabW wide_Left.tab7 wide_Left.bits7 (fun HT_ HW_ => ?_)
      generalize w31.drew = w32 at BK271 BK272 HB hHeld ⊢
      refine pu_ 0 (some 22) #[true, false, false, false, false, false, false, false, false, false, false, false, false, false, false, false] rfl rfl (any_of HT_.out (by kernel_rfl)) ?_
      refine pu_ 2 (some 24) #[true, false, true, false, false, false, false, false, false, false, false, false, false, false, false, false] rfl rfl (any_of HT_.out (by kernel_rfl)) ?_
      refine pu_ 4 (some 26) #[true, false, true, false, true, false, false, false, false, false, false, false, false, false, false, false] rfl rfl (any_of HT_.out (by kernel_rfl)) ?_
      refine pu_ 6 (some 28) #[true, false, true, false, true, false, true, false, false, false, false, false, false, false, false, false] rfl rfl (any_of HT_.out (by kernel_rfl)) ?_
      refine pu_ 7 (some 29) #[true, false, true, false, true, false, true, true, false, false, false, false, false, false, false, false] rfl rfl (any_of HT_.out (by kernel_rfl)) ?_
      refine pu_ 10 (some 32) #[true, false, true, false, true, false, true, true, false, false, true, false, false, false, false, false] rfl rfl (any_of HT_.out (by kernel_rfl)) ?_
      refine pu_ 12 (some 34) #[true, false, true, false, true, false, true, true, false, false, true, false, true, false, false, false] rfl rfl (any_of HT_.out (by kernel_rfl)) ?_
      refine tk2_ 1 (some 23) #[true, true, true, false, true, false, true, true, false, false, true, false, true, false, false, false] rfl rfl (take_ofW HT_.out HW_.out (by kernel_rfl)) hHeld ?_
      refine pu_ 3 (some 25) #[true, true, true, true, true, false, true, true, false, false, true, false, true, false, false, false] rfl rfl (any_of HT_.out (by kernel_rfl)) ?_
      refine tk2_ 5 (some 27) #[true, true, true, true, true, true, true, true, false, false, true, false, true, false, false, false] rfl rfl (take_ofW HT_.out HW_.out (by kernel_rfl)) hHeld ?_
      refine pu_ 8 (some 30) #[true, true, true, true, true, true, true, true, true, false, true, false, true, false, false, false] rfl rfl (any_of HT_.out (by kernel_rfl)) ?_
      refine pu_ 9 (some 31) #[true, true, true, true, true, true, true, true, true, true, true, false, true, false, false, false] rfl rfl (any_of HT_.out (by kernel_rfl)) ?_
      refine tk2_ 11 (some 33) #[true, true, true, true, true, true, true, true, true, true, true, true, true, false, false, false] rfl rfl (take_ofW HT_.out HW_.out (by kernel_rfl)) hHeld ?_
      refine pu_ 13 (some 35) #[true, true, true, true, true, true, true, true, true, true, true, true, true, true, false, false] rfl rfl (any_of HT_.out (by kernel_rfl)) ?_
      refine pu_ 14 (some 36) #[true, true, true, true, true, true, true, true, true, true, true, true, true, true, true, false] rfl rfl (any_of HT_.out (by kernel_rfl)) ?_
      refine one_ (i := 15) (N := none) #[true, true, true, true, true, true, true, true, true, true, true, true, true, true, true, true] rfl rfl (one_of HT_.out (by kernel_rfl)) (by decide) (fun K hK => ?_)
      have hs33 : w32.cell? ⟨gb272, 0, none⟩ = some (.int .u64 0) := bc_ BK272.out 0
      have hfs33 := blk_frozen BK272.out 0
      have hns33_0 := NB271_272.out
      have hms33_0 := NB272_271.out
      have hs34 : w32.cell? ⟨gb272, 1, none⟩ = some (.int .u64 0) := bc_ BK272.out 1
      have hfs34 := blk_frozen BK272.out 1
      have hns34_0 := NB271_272.out
      have hms34_0 := NB272_271.out
      refine skip_ (w1 := ?_) (by rfl) rfl ?_ ?_
      rotate_left
      ·go_simp
       rfl
      refine hK.out _ _ ⟨((cell_far (p := ⟨gb272, _, none⟩) NB271_272.out _).trans (((cell_far (p := ⟨gb272, _, none⟩) NB271_272.out _).trans (hHeld.1)))), ((cell_far (p := ⟨gb272, _, none⟩) NB271_272.out _).trans (((cell_far (p := ⟨gb272, _, none⟩) NB271_272.out _).trans (hHeld.2))))⟩ (fun hHeld => ?_)
      clear hK K
      refine done_ (done_of HT_.out (by kernel_rfl)) ?_
      try go_wp2
      refine bodyPost_ret (results_cell_row rfl _ _ gb272 166 #[.int .u64 (Go.bits .or .u64 (ji24) (ji27)), .int .u64 ji29] (0, 0) _ rfl (by (with_reducible repeat (first | refine blk_drewN ?_ _ | refine blk_drew ?_ | refine blk_alloc ?_ _)); refine blk_put (cs := #[.int .u64 (Go.bits .or .u64 (ji24) (ji27)), .int .u64 0]) ?_ 1 _ rfl; (with_reducible repeat (first | refine blk_drewN ?_ _ | refine blk_drew ?_ | refine blk_alloc ?_ _)); refine blk_put (cs := #[.int .u64 0, .int .u64 0]) ?_ 0 _ rfl; (with_reducible repeat (first | refine blk_drewN ?_ _ | refine blk_drew ?_ | refine blk_alloc ?_ _)); exact BK272.out) Tryz.underlying166 rfl (by kernel_rfl)) rfl ?_
      exact ⟨by first | rfl | (simp [errW_none, errW_some] <;> rfl) | (simp only [← hji24, ← hji25, ← hji27, ← hji29]; first | rfl | (simp [errW_none, errW_some] <;> rfl)) | (simp [*, errW_none, errW_some] <;> rfl), hb2_ HB.out GE271.out GE272.out⟩
     ·rw [if_neg c26] at H
      exact absurd H (by simp)
    ·rw [if_neg c23] at H
     exact absurd H (by simp)
-- IMPORT Derived.Deep.RegionHeld3
-- IMPORT Derived.Test.YtnmlmgmljoncoaaGreatDoorPAEq166
def wide_Right.f (a0_0 : Int) (a0_1 : Int) (a1 : Int) : Option (Int × Int × Bool) :=
 if a1 ≤ 0 then some (a0_0, a0_1, false) else if a1 ≥ 128 then some (0, 0, (!(a0_0 == 0) || !(a0_1 == 0))) else
 if a1 ≥ 64 then (wide_Left.f 0 (shr .u64 a0_0 (wrap64 (a1 - 64))) a1).bind fun b => some (0, shr .u64 a0_0 (wrap64 (a1 - 64)), (!(b.1 == a0_0) || !(b.2 == a0_1)))
 else (wide_Left.f (shr .u64 a0_0 a1) (Go.bits .or .u64 (shr .u64 a0_1 a1) (shl .u64 a0_0 (wrap64 (64 - a1)))) a1).bind fun b => some (shr .u64 a0_0 a1, Go.bits .or .u64 (shr .u64 a0_1 a1) (shl .u64 a0_0 (wrap64 (64 - a1))), (!(b.1 == a0_0) || !(b.2 == a0_1)))
attribute [local go_sem high] eqA166
theorem wide_Right.bcell {W w1 : World} (hb : Below W.heap.size W w1) : (∀ b o, b < W.heap.size → w1.cell? ⟨b, o, none⟩ = W.cell? ⟨b, o, none⟩) ∧ (∀ b o, b < W.heap.size → w1.frozen? ⟨b, o, none⟩ = W.frozen? ⟨b, o, none⟩) :=
 ⟨fun b o h => hb.cell (p := ⟨b, o, none⟩) h, fun b o h => hb.frozen (p := ⟨b, o, none⟩) h⟩
theorem wide_Right.calls0 (a0_0 : Int) (a0_1 : Int) (a1 : Int) (w : World) (h : a1 ≤ 0) :
  Calls Tryz.prog 238 #[.agg #[.int .u64 a0_0, .int .u64 a0_1], .int .i64 a1] w fun e w' => e = .returned (.tuple #[.agg #[.int .u64 a0_0, .int .u64 a0_1], .bool false]) ∧ Below w.heap.size w w' := by
 have hu40 := Tryz.underlying166
 have c0 : decide (a1 ≤ 0) = true := decide_eq_true h
 clear h
 go_enter Tryz.func238, Tryz.ntmps238
 go_wp2
 exact bodyPost_ret (v := .tuple #[.agg #[.int .u64 a0_0, .int .u64 a0_1], .bool false]) (by simp [results, Tryz.results238, go_sem]) rfl ⟨rfl, below_alloc (below_alloc (Below.refl _ _) _) _⟩
theorem wide_Right.calls128 (a0_0 : Int) (a0_1 : Int) (a1 : Int) (w : World) (h : ¬ a1 ≤ 0) (h2 : a1 ≥ 128) :
  Calls Tryz.prog 238 #[.agg #[.int .u64 a0_0, .int .u64 a0_1], .int .i64 a1] w fun e w' => e = .returned (.tuple #[.agg #[.int .u64 0, .int .u64 0], .bool (!(a0_0 == 0) || !(a0_1 == 0))]) ∧ Below w.heap.size w w' := by
 have hu40 := Tryz.underlying166
 have c0 : decide (a1 ≤ 0) = false := decide_eq_false h
 have c1 : decide (128 ≤ a1) = true := decide_eq_true h2
 clear h h2
 go_enter Tryz.func238, Tryz.ntmps238
 go_wp2
 go_region
 go_wp2
 exact bodyPost_ret (v := .tuple #[.agg #[.int .u64 0, .int .u64 0], .bool (!(a0_0 == 0) || !(a0_1 == 0))]) (by simp [results, Tryz.results238, go_sem]) rfl ⟨rfl, below_drew (below_alloc (below_alloc (Below.refl _ _) _) _)⟩
theorem wide_Right.calls64 (a0_0 : Int) (a0_1 : Int) (a1 : Int) (x y : Int) (w : World) (h : ¬ a1 ≤ 0) (h2 : ¬ a1 ≥ 128) (h3 : a1 ≥ 64) (hl : wide_Left.f 0 (shr .u64 a0_0 (wrap64 (a1 - 64))) a1 = some (x, y)) :
  Calls Tryz.prog 238 #[.agg #[.int .u64 a0_0, .int .u64 a0_1], .int .i64 a1] w fun e w' => e = .returned (.tuple #[.agg #[.int .u64 0, .int .u64 (shr .u64 a0_0 (wrap64 (a1 - 64)))], .bool (!(x == a0_0) || !(y == a0_1))]) ∧ Below w.heap.size w w' := by
 have hu40 := Tryz.underlying166
 have c0 : decide (a1 ≤ 0) = false := decide_eq_false h
 have c1 : decide (128 ≤ a1) = false := decide_eq_false h2
 have c2 : decide (64 ≤ a1) = true := decide_eq_true h3
 have ew : wrap64 (a1 - 64) = a1 - 64 := by unfold wrap64; omega
 rw [ew] at hl ⊢
 have g0 := eq_true (show 64 ≤ a1 from h3)
 have g1 : a1 < 128 := by omega
 have es : shr .u64 a0_0 (a1 - 64) = a0_0 / 2 ^ (a1 - 64).toNat := by unfold shr; rw [show min (a1 - 64).toNat IntKind.u64.bits = (a1 - 64).toNat by rw [show IntKind.u64.bits = 64 by decide]; omega]
 rw [es] at hl ⊢
 clear es
 obtain ⟨s, hs⟩ : ∃ s, a0_0 / 2 ^ (a1 - 64).toNat = s := ⟨_, rfl⟩
 rw [hs] at hl ⊢
 have B0 := A_ hl;clear h h2 hl
 go_enter Tryz.func238, Tryz.ntmps238
 go_wp2
 go_region_held3 (fun w' => w'.cell? ⟨w.heap.size, 0, none⟩ = some (.int .u64 a0_0) ∧ w'.cell? ⟨w.heap.size, 1, none⟩ = some (.int .u64 a0_1) ∧ w'.cell? ⟨w.heap.size + 1, 0, none⟩ = some (.int .u64 0) ∧ w'.cell? ⟨w.heap.size + 1, 1, none⟩ = some (.int .u64 s) ∧ w'.frozen? ⟨w.heap.size + 1, 0, none⟩ = false ∧ w.heap.size + 1 < w'.heap.size ∧ Below w.heap.size w w')
  (((try go_split_ands); (try dsimp only); (repeat' apply And.intro) <;> first | assumption | (simp [go_sem, World.cell?_alloc_past]; done) | (simp [go_sem, World.cell?_alloc_past, *]; done) | (rw [hc _ _ (by omega)]; assumption) | (rw [hf _ _ (by omega)]; assumption) | (have := hb.size; omega) | (refine below_step ?_ hb; assumption) | (repeat (first | assumption | exact Below.refl _ _ | apply below_drew1 | apply below_alloc | (refine below_set ?_ (by omega))))))
  ((go_at_call 242; refine (wide_Left.calls 0 s a1 x y _ B0.out).mono ?_; rintro e w1 ⟨rfl, hb⟩; obtain ⟨hc, hf⟩ := wide_Right.bcell hb))
 rename_i hH
 obtain ⟨q0, q1, q2, q3, q4, q5, q6⟩ := hH
 go_wp2
 exact bodyPost_ret (v := .tuple #[.agg #[.int .u64 0, .int .u64 s], .bool (!(x == a0_0) || !(y == a0_1))]) (by simp [results, Tryz.results238, go_sem, q2, q3]) rfl ⟨rfl, q6⟩
theorem wide_Right.calls1 (a0_0 : Int) (a0_1 : Int) (a1 : Int) (x y : Int) (w : World) (h : ¬ a1 ≤ 0) (h2 : ¬ a1 ≥ 128) (h3 : ¬ a1 ≥ 64) (hl : wide_Left.f (shr .u64 a0_0 a1) (Go.bits .or .u64 (shr .u64 a0_1 a1) (shl .u64 a0_0 (wrap64 (64 - a1)))) a1 = some (x, y)) :
  Calls Tryz.prog 238 #[.agg #[.int .u64 a0_0, .int .u64 a0_1], .int .i64 a1] w fun e w' => e = .returned (.tuple #[.agg #[.int .u64 (shr .u64 a0_0 a1), .int .u64 (Go.bits .or .u64 (shr .u64 a0_1 a1) (shl .u64 a0_0 (wrap64 (64 - a1))))], .bool (!(x == a0_0) || !(y == a0_1))]) ∧ Below w.heap.size w w' := by
 have hu40 := Tryz.underlying166
 have c0 : decide (a1 ≤ 0) = false := decide_eq_false h
 have c1 : decide (128 ≤ a1) = false := decide_eq_false h2
 have c2 : decide (64 ≤ a1) = false := decide_eq_false h3
 have ew : wrap64 (64 - a1) = 64 - a1 := by unfold wrap64; omega
 rw [ew] at hl ⊢
 have gw : IntKind.i64.wrap (64 - a1) = 64 - a1 := by rw [i64_w]; unfold wrap64; omega
 have g0 := eq_true (show 0 ≤ a1 by omega)
 have g1 : a1 < 64 := by omega
 have g2 : 0 ≤ 64 - a1 := by omega
 have es : ∀ z : Int, shr .u64 z a1 = z / 2 ^ a1.toNat := fun z => by unfold shr; rw [show min a1.toNat IntKind.u64.bits = a1.toNat by rw [show IntKind.u64.bits = 64 by decide]; omega]
 have et : shl .u64 a0_0 (64 - a1) = IntKind.u64.wrap (a0_0 * 2 ^ min (64 - a1).toNat 64) := rfl
 rw [es, es, et] at hl ⊢
 clear es et
 obtain ⟨s, hs⟩ : ∃ s, a0_0 / 2 ^ a1.toNat = s := ⟨_, rfl⟩
 obtain ⟨s1, hs1⟩ : ∃ s, a0_1 / 2 ^ a1.toNat = s := ⟨_, rfl⟩
 obtain ⟨s2, hs2⟩ : ∃ s, IntKind.u64.wrap (a0_0 * 2 ^ min (64 - a1).toNat 64) = s := ⟨_, rfl⟩
 rw [hs, hs1, hs2] at hl ⊢
 obtain ⟨t, ht⟩ : ∃ t, Go.bits .or .u64 s1 s2 = t := ⟨_, rfl⟩
 rw [ht] at hl ⊢
 have B0 := A_ hl;clear h h2 h3 hl ew
 go_enter Tryz.func238, Tryz.ntmps238
 have g3 := eq_true (show a1 ≤ 64 by omega)
 go_wp2
 go_region_held3 (fun w' => w'.cell? ⟨w.heap.size, 0, none⟩ = some (.int .u64 a0_0) ∧ w'.cell? ⟨w.heap.size, 1, none⟩ = some (.int .u64 a0_1) ∧ w'.frozen? ⟨w.heap.size + 1, 0, none⟩ = false ∧ w.heap.size + 1 < w'.heap.size ∧ Below w.heap.size w w')
  (((try go_split_ands); (try dsimp only); (repeat' apply And.intro) <;> first | assumption | (simp [go_sem, World.cell?_alloc_past]; done) | (simp [go_sem, World.cell?_alloc_past, *]; done) | (rw [hc _ _ (by omega)]; assumption) | (rw [hf _ _ (by omega)]; assumption) | (have := hb.size; omega) | (refine below_step ?_ hb; assumption) | (repeat (first | assumption | exact Below.refl _ _ | apply below_drew1 | apply below_alloc | (refine below_set ?_ (by omega))))))
  (fail)
 rename_i hH0
 clear hH0
 go_wp2
 go_region_held3 (fun w' => w'.cell? ⟨w.heap.size, 0, none⟩ = some (.int .u64 a0_0) ∧ w'.cell? ⟨w.heap.size, 1, none⟩ = some (.int .u64 a0_1) ∧ w'.cell? ⟨w.heap.size + 1, 0, none⟩ = some (.int .u64 s) ∧ w'.cell? ⟨w.heap.size + 1, 1, none⟩ = some (.int .u64 t) ∧ w'.frozen? ⟨w.heap.size + 1, 0, none⟩ = false ∧ w.heap.size + 1 < w'.heap.size ∧ Below w.heap.size w w')
  (((try go_split_ands); (try dsimp only); (repeat' apply And.intro) <;> first | assumption | (simp [go_sem, World.cell?_alloc_past]; done) | (simp [go_sem, World.cell?_alloc_past, *]; done) | (rw [hc _ _ (by omega)]; assumption) | (rw [hf _ _ (by omega)]; assumption) | (have := hb.size; omega) | (refine below_step ?_ hb; assumption) | (repeat (first | assumption | exact Below.refl _ _ | apply below_drew1 | apply below_alloc | (refine below_set ?_ (by omega))))))
  ((go_at_call 242; refine (wide_Left.calls s t a1 x y _ B0.out).mono ?_; rintro e w1 ⟨rfl, hb⟩; obtain ⟨hc, hf⟩ := wide_Right.bcell hb))
 rename_i hH
 obtain ⟨q0, q1, q2, q3, q4, q5, q6⟩ := hH
 go_wp2
 exact bodyPost_ret (v := .tuple #[.agg #[.int .u64 s, .int .u64 t], .bool (!(x == a0_0) || !(y == a0_1))]) (by simp [results, Tryz.results238, go_sem, q2, q3]) rfl ⟨rfl, q6⟩
theorem wide_Right.calls (a0_0 : Int) (a0_1 : Int) (a1 : Int) (r1 : Int) (r2 : Int) (r3 : Bool) (w : World) (h : wide_Right.f a0_0 a0_1 a1 = some (r1, r2, r3)) :
  Calls Tryz.prog 238 #[.agg #[.int .u64 a0_0, .int .u64 a0_1], .int .i64 a1] w fun e w' => e = .returned (.tuple #[.agg #[.int .u64 r1, .int .u64 r2], .bool r3]) ∧ Below w.heap.size w w' := by
 unfold wide_Right.f at h
 by_cases h1 : a1 ≤ 0
 ·rw [if_pos h1] at h
  simp only [Option.some.injEq, Prod.mk.injEq] at h
  obtain ⟨rfl, rfl, rfl⟩ := h
  exact wide_Right.calls0 _ _ a1 w h1
 ·rw [if_neg h1] at h
  by_cases h2 : a1 ≥ 128
  ·rw [if_pos h2] at h
   simp only [Option.some.injEq, Prod.mk.injEq] at h
   obtain ⟨rfl, rfl, rfl⟩ := h
   exact wide_Right.calls128 _ _ a1 w h1 h2
  ·rw [if_neg h2] at h
   by_cases h3 : a1 ≥ 64
   ·rw [if_pos h3] at h
    obtain ⟨⟨x, y⟩, A0, H⟩ := ob_ h
    simp only [Option.some.injEq, Prod.mk.injEq] at H
    obtain ⟨rfl, rfl, rfl⟩ := H
    exact wide_Right.calls64 _ _ a1 x y w h1 h2 h3 A0
   ·rw [if_neg h3] at h
    obtain ⟨⟨x, y⟩, A0, H⟩ := ob_ h
    simp only [Option.some.injEq, Prod.mk.injEq] at H
    obtain ⟨rfl, rfl, rfl⟩ := H
    exact wide_Right.calls1 _ _ a1 x y w h1 h2 h3 A0
def wide_of.f (a0_0 : Int) (a0_1 : Int) : Option (Int × Int) := some (a0_1, a0_0)
theorem wide_of.calls (a0_0 : Int) (a0_1 : Int) (r1 : Int) (r2 : Int) (w : World) (h : wide_of.f a0_0 a0_1 = some (r1, r2)) :
  Calls Tryz.prog 257 #[.agg #[.int .u64 a0_0, .int .u64 a0_1]] w fun e w' => e = .returned (.agg #[.int .u64 r1, .int .u64 r2]) ∧ Below w.heap.size w w' := by
 have hu162 := Tryz.underlying162
 have hu166 := Tryz.underlying166
 have HB := A_ (Below.refl w.heap.size w)
 have H : (some (a0_1, a0_0)) = some (r1, r2) := h
 clear h
 simp only [Option.some.injEq, Prod.mk.injEq] at H
 obtain ⟨rfl, rfl⟩ := H
 go_enter Tryz.func257, Tryz.ntmps257
 go_wp2_with (first | ((with_reducible refine gate_dst (N := 1) rfl ?_); refine be_ 1 #[.int .u64 a0_0, .int .u64 a0_1] 162 ?_; intro gb305 hg w2 hbox hb; have BK305 := A_ (hbox); have GW305 := A_ (sz_ hg (hb_ HB.out)); have GE305 := A_ (sz_ hg (hb_ HB.out)); replace HB := A_ (below_step (hb_ HB.out) hb); clear hb hbox hg) | ((with_reducible refine gate_dst (N := 2) rfl ?_); refine be_ 2 #[.int .u64 0, .int .u64 0] 166 ?_; intro gb306 hg w3 hbox hb; have BK306 := A_ (hbox); have GW306 := A_ (sz_ hg (hb1_ HB.out GE305.out)); have GE306 := A_ (sz_ hg (hb1_ HB.out GE305.out)); have NB305_306 := A_ (nl_ hg BK305.out); have NB306_305 := A_ (ng_ hg BK305.out); replace BK305 := A_ (bb_ BK305.out hb); replace HB := A_ (below_step (hb1_ HB.out GE305.out) hb); clear hb hbox hg; have hnb4 := NB305_306.out; have hnc4 := NB306_305.out; have hcz5_0 := bv_ BK305.out 0; have hcz5_1 := bv_ BK305.out 1; have hfz5_0 := blk_frozen BK305.out 0; have hfz5_1 := blk_frozen BK305.out 1; have hcz6_0 := bv_ BK306.out 0; have hcz6_1 := bv_ BK306.out 1; have hfz6_0 := blk_frozen BK306.out 0; have hfz6_1 := blk_frozen BK306.out 1))
 refine bodyPost_ret (results_cell_row rfl _ _ gb306 166 #[.int .u64 a0_1, .int .u64 a0_0] (0, 0) _ rfl (by (with_reducible repeat (first | refine blk_drewN ?_ _ | refine blk_drew ?_ | refine blk_alloc ?_ _)); refine blk_put (cs := #[.int .u64 a0_1, .int .u64 0]) ?_ 1 _ rfl; (with_reducible repeat (first | refine blk_drewN ?_ _ | refine blk_drew ?_ | refine blk_alloc ?_ _)); refine blk_put (cs := #[.int .u64 0, .int .u64 0]) ?_ 0 _ rfl; (with_reducible repeat (first | refine blk_drewN ?_ _ | refine blk_drew ?_ | refine blk_alloc ?_ _)); exact BK306.out) Tryz.underlying166 rfl (by kernel_rfl)) rfl ?_
 exact ⟨er_, hb2_ HB.out GE305.out GE306.out⟩
-- IMPORT Derived.Deep.RegionHeld3
-- IMPORT Derived.Shelf.Spec.BitsCarry
-- IMPORT Derived.Test.YtnmlmgmljoncoaaGreatDoorNr
-- IMPORT Derived.Deep.DeepCutAuto
def wide_Add.f (a0_0 : Int) (a0_1 : Int) (a1_0 : Int) (a1_1 : Int) : Option (Int × Int) :=
 if (0 ≤ a0_0 ∧ a0_0 < 18446744073709551616) ∧ (0 ≤ a0_1 ∧ a0_1 < 18446744073709551616) ∧ (0 ≤ a1_0 ∧ a1_0 < 18446744073709551616) ∧ (0 ≤ a1_1 ∧ a1_1 < 18446744073709551616) then
  some ((a0_0 + a1_0 + (a0_1 + a1_1) / 18446744073709551616) % 18446744073709551616, (a0_1 + a1_1) % 18446744073709551616) else none
theorem wide_Add.add64 (x y c : Int) (hx : 0 ≤ x) (hy : 0 ≤ y) (hc0 : 0 ≤ c) (hc : c ≤ 1) (w : World) : (callFunc 256 #[.int .u64 x, .int .u64 y, .int .u64 c]).run Tryz.prog w =
  .ok (.value (.tuple #[.int .u64 ((x + y + c) % 18446744073709551616), .int .u64 ((x + y + c) / 18446744073709551616)])) w := by
 obtain ⟨x, rfl⟩ := Int.eq_ofNat_of_zero_le hx
 obtain ⟨y, rfl⟩ := Int.eq_ofNat_of_zero_le hy
 obtain ⟨c, rfl⟩ := Int.eq_ofNat_of_zero_le hc0
 rw [run_callFunc_extern Tryz.func256 (by kernel_rfl) (by kernel_rfl) (by kernel_rfl) (e := add64Entry) (by kernel_rfl), run_add64 x y c (by omega) (by omega) (by omega) (by omega)]
 simp only [Result.andThen]
 try (congr 5 <;> omega)
theorem wide_Add.add64_0 (x y : Int) (hx : 0 ≤ x) (hy : 0 ≤ y) (w : World) : (callFunc 256 #[.int .u64 x, .int .u64 y, .int .u64 0]).run Tryz.prog w =
  .ok (.value (.tuple #[.int .u64 ((x + y) % 18446744073709551616), .int .u64 ((x + y) / 18446744073709551616)])) w := by
 simpa using wide_Add.add64 x y 0 hx hy (Int.le_refl 0) (by decide) w
theorem wide_Add.words (a0 a1 : Int) (w : World) : Calls Tryz.prog 255 #[.agg #[.int .u64 a0, .int .u64 a1]] w fun e w' => e = .returned (.agg #[.int .u64 a1, .int .u64 a0]) ∧ ∃ o1 o2 : Obj, w' = (w.alloc o1).alloc o2 := by
 have hu40 := Tryz.underlying166
 go_enter Tryz.func255, Tryz.ntmps255
 go_wp2
 exact bodyPost_ret (v := .agg #[.int .u64 a1, .int .u64 a0]) (by simp [results, Tryz.results255, go_sem]) rfl ⟨rfl, _, _, rfl⟩
theorem wide_Add.calls (a0_0 : Int) (a0_1 : Int) (a1_0 : Int) (a1_1 : Int) (r1 : Int) (r2 : Int) (w : World) (h : wide_Add.f a0_0 a0_1 a1_0 a1_1 = some (r1, r2)) :
  Calls Tryz.prog 241 #[.agg #[.int .u64 a0_0, .int .u64 a0_1], .agg #[.int .u64 a1_0, .int .u64 a1_1]] w fun e w' => e = .returned (.agg #[.int .u64 r1, .int .u64 r2]) ∧ Below w.heap.size w w' := by
 unfold wide_Add.f at h
 split at h
 rotate_left
 ·cases h
 rename_i hr
 obtain ⟨⟨p1, p2⟩, ⟨p3, p4⟩, ⟨p5, p6⟩, ⟨p7, p8⟩⟩ := hr
 simp only [Option.some.injEq, Prod.mk.injEq] at h
 obtain ⟨hs1, hs0⟩ := h
 have k0 : 0 ≤ (a0_1 + a1_1) / 18446744073709551616 := by omega
 have k1 : (a0_1 + a1_1) / 18446744073709551616 ≤ 1 := by omega
 obtain ⟨c1, hc1⟩ : ∃ c, (a0_1 + a1_1) / 18446744073709551616 = c := ⟨_, rfl⟩
 rw [hc1] at k0 k1 hs1
 have A0 := A_ (fun w => wide_Add.add64_0 a0_1 a1_1 p3 p7 w)
 have A1 := A_ (fun w => wide_Add.add64 a0_0 a1_0 c1 p1 p5 k0 k1 w)
 rw [hs0, hc1] at A0
 rw [hs1] at A1
 clear p1 p2 p3 p4 p5 p6 p7 p8 k0 k1 hs0 hs1 hc1
 have hu40 := Tryz.underlying166
 go_enter Tryz.func241, Tryz.ntmps241
 go_upto_region 1 with fail
 go_cut [5, 6] (fun s5 s6 wx => ∃ g h : Nat, s5 = .pointer (some ⟨g, 0, none⟩) ∧ s6 = .pointer (some ⟨h, 0, none⟩) ∧ w.heap.size + 2 < g ∧ w.heap.size + 2 < h ∧ g ≠ h ∧ wx.cell? ⟨g, 0, none⟩ = some (.int .u64 a0_1) ∧ wx.cell? ⟨g, 1, none⟩ = some (.int .u64 a0_0) ∧ wx.cell? ⟨h, 0, none⟩ = some (.int .u64 a1_1) ∧ wx.cell? ⟨h, 1, none⟩ = some (.int .u64 a1_0) ∧ wx.cell? ⟨w.heap.size + 2, 0, none⟩ = some (.int .u64 0) ∧ wx.cell? ⟨w.heap.size + 2, 1, none⟩ = some (.int .u64 0) ∧ wx.frozen? ⟨g, 0, none⟩ = false ∧ wx.frozen? ⟨g, 1, none⟩ = false ∧ wx.frozen? ⟨w.heap.size + 2, 0, none⟩ = false ∧ wx.frozen? ⟨w.heap.size + 2, 1, none⟩ = false ∧ Below w.heap.size w wx)
 case first =>
  go_region_held3 (fun w' => w'.cell? ⟨w.heap.size, 0, none⟩ = some (.int .u64 a0_0) ∧ w'.cell? ⟨w.heap.size, 1, none⟩ = some (.int .u64 a0_1) ∧ w'.cell? ⟨w.heap.size + 1, 0, none⟩ = some (.int .u64 a1_0) ∧ w'.cell? ⟨w.heap.size + 1, 1, none⟩ = some (.int .u64 a1_1))
   (simp [go_sem, World.cell?_alloc_past])
   ((first | (go_at_call 255; refine (wide_Add.words a0_0 a0_1 _).mono ?_; rintro e w1 ⟨rfl, o1, o2, rfl⟩) | (go_at_call 255; refine (wide_Add.words a1_0 a1_1 _).mono ?_; rintro e w2 ⟨rfl, o3, o4, rfl⟩)))
  all_goals (go_wp2_with fail; go_meet)
  all_goals (
   refine ⟨_, _, rfl, rfl, by omega, by omega, by omega, ?_, ?_, ?_, ?_, ?_, ?_, ?_, ?_, ?_, ?_, ?_⟩
   all_goals first | (simp [go_sem, World.cell?_alloc_past]; done) | (repeat (first | assumption | exact Below.refl _ _ | apply below_drew1 | apply below_alloc | (refine below_set ?_ (by omega)))))
 case rest =>
  obtain ⟨g, h, rfl, rfl, hg, hh, hgh, x0, x1, y0, y1, z0, z1, f0, f1, f2, f3, bl⟩ := hcut
  go_step
  go_wp2
  go_loopg [7, 13] 2 (fun k v7 v13 w' => ∃ (j c u0 u1 : Int), v7 = .int .u64 c ∧ v13 = .int .i64 j ∧ Aside0 ((k = 2 ∧ j = 0 ∧ c = 0 ∧ u0 = a0_1 ∧ u1 = a0_0) ∨ (k = 1 ∧ j = 1 ∧ c = c1 ∧ u0 = r2 ∧ u1 = a0_0) ∨ (k = 0 ∧ j = 2 ∧ u0 = r2 ∧ u1 = r1)) ∧ w'.cell? ⟨g, 0, none⟩ = some (.int .u64 u0) ∧ w'.cell? ⟨g, 1, none⟩ = some (.int .u64 u1) ∧ w'.cell? ⟨h, 0, none⟩ = some (.int .u64 a1_1) ∧ w'.cell? ⟨h, 1, none⟩ = some (.int .u64 a1_0) ∧ w'.cell? ⟨w.heap.size + 2, 0, none⟩ = some (.int .u64 0) ∧ w'.cell? ⟨w.heap.size + 2, 1, none⟩ = some (.int .u64 0) ∧ w'.frozen? ⟨g, 0, none⟩ = false ∧ w'.frozen? ⟨g, 1, none⟩ = false ∧ w'.frozen? ⟨w.heap.size + 2, 0, none⟩ = false ∧ w'.frozen? ⟨w.heap.size + 2, 1, none⟩ = false ∧ Aside0 (Below w.heap.size w w'))
  case atStart => exact ⟨0, 0, a0_1, a0_0, rfl, rfl, ⟨.inl ⟨rfl, rfl, rfl, rfl, rfl⟩⟩, x0, x1, y0, y1, z0, z1, f0, f1, f2, f3, ⟨bl⟩⟩
  case round =>
   clear x0 x1 y0 y1 z0 z1 f0 f1 f2 f3 bl
   obtain ⟨j, c, u0, u1, rfl, rfl, hj, x0, x1, y0, y1, z0, z1, f0, f1, f2, f3, bl⟩ := hrel
   rcases hj.out with ⟨rfl, rfl, rfl, rfl, rfl⟩ | ⟨rfl, rfl, rfl, rfl, rfl⟩ | ⟨rfl, rfl, rfl, rfl⟩
   ·clear hj
    go_wp2
    have A := A0.out
    go_region
    all_goals go_wp2
    go_roundg 1
    case measure => omega
    case rel =>
     refine ⟨1, c1, r2, u1, rfl, rfl, ⟨.inr (.inl ⟨rfl, rfl, rfl, rfl, rfl⟩)⟩, ?_, ?_, ?_, ?_, ?_, ?_, ?_, ?_, ?_, ?_, ?_⟩
     all_goals first
      | exact World.cell?_setCell_same _ _ _ x0
      | exact World.cell?_setCell_same _ _ _ x1
      | exact (World.cell?_setCell_far _ _ _ _ (fun e => by have e' : g = h := e; exact hgh e')).trans (by assumption)
      | exact (World.cell?_setCell_far _ _ _ _ (fun e => by have e' : g = w.heap.size + 2 := e; omega)).trans (by assumption)
      | exact (World.frozen?_setCell _ _ _ _).trans (by assumption)
      | (refine Eq.trans (World.cell?_setCell_other _ _ _ _ ?_) (by assumption); intro e; cases e)
      | exact ⟨below_drew1 (below_set bl.out (by omega))⟩
   ·clear hj
    go_wp2
    have A := A1.out
    go_region
    all_goals go_wp2
    go_roundg 0
    case measure => omega
    case rel =>
     refine ⟨2, _, u0, r1, rfl, rfl, ⟨.inr (.inr ⟨rfl, rfl, rfl, rfl⟩)⟩, ?_, ?_, ?_, ?_, ?_, ?_, ?_, ?_, ?_, ?_, ?_⟩
     all_goals first
      | exact World.cell?_setCell_same _ _ _ x0
      | exact World.cell?_setCell_same _ _ _ x1
      | exact (World.cell?_setCell_far _ _ _ _ (fun e => by have e' : g = h := e; exact hgh e')).trans (by assumption)
      | exact (World.cell?_setCell_far _ _ _ _ (fun e => by have e' : g = w.heap.size + 2 := e; omega)).trans (by assumption)
      | exact (World.frozen?_setCell _ _ _ _).trans (by assumption)
      | (refine Eq.trans (World.cell?_setCell_other _ _ _ _ ?_) (by assumption); intro e; cases e)
      | exact ⟨below_drew1 (below_set bl.out (by omega))⟩
   ·clear hj
    go_wp2_with (first | (go_at_call 257; refine (wide_of.calls u0 u1 u1 u0 _ rfl).mono ?_; rintro e w1 ⟨rfl, hb⟩; obtain ⟨hc, hf⟩ := Nr.bcell hb; have hs := hb.size; have e0 := (hc _ 0 (World.block_lt_of_cell? wr _ z0)).trans z0; have e1 := (hc _ 1 (World.block_lt_of_cell? wr _ z0)).trans z1; have e2 := (hf _ 0 (World.block_lt_of_cell? wr _ z0)).trans f2; have e3 := (hf _ 1 (World.block_lt_of_cell? wr _ z0)).trans f3; replace bl := A_ (below_step bl.out hb); clear hc hf hb hs))
    exact bodyPost_ret (v := .agg #[.int .u64 u1, .int .u64 u0]) (by simp [results, Tryz.results241, go_sem, e0, e1]) rfl ⟨rfl, below_set (below_set bl.out (by omega)) (by omega)⟩
end Go.Proofs.YtnmlmgmljoncoaaGreatDoor.PA
