/- What the Go functions that the statement NumericSwaps reaches compute, and the mathematics on it, in the order in which one leans on the other; for every input. -/
import Derived.Test.YtnmlmgmljoncoaaGreatDoorVNumericSwaps0
import Derived.Test.YtnmlmgmljoncoaaGreatDoorMNumericSwaps0
namespace Go.Proofs.YtnmlmgmljoncoaaGreatDoor.PA
open Go.RowKit Go.Proofs.YtnmlmgmljoncoaaGreatDoorW.PrintWords Go.Proofs.YtnmlmgmljoncoaaGreatDoorW.PrintLast Go.Proofs.YtnmlmgmljoncoaaGreatDoorW.PrintMore
attribute [local go_sem] max2_int min2_int max_two min_two max_three min_three max_four min_four   -- for this text's walks alone
set_option linter.unusedVariables false
set_option linter.unusedSimpArgs false
set_option maxHeartbeats 8000000
set_option maxRecDepth 100000
def numeric_float.f (a0 : Int) : Option (Int) := if a0 = 32 then (some 125) else (some 124)
theorem numeric_float.calls (a0 : Int) (r : Int) (w : World) (h : numeric_float.f a0 = some r) :
  Calls Tryz.prog 53 #[.int .i64 a0] w fun e w' => e = .returned (.int .u8 r) ∧ Drawn0 w w' := by
 have H : (if a0 = 32 then (some 125) else (some 124)) = some r := h
 clear h
 by_cases c2 : a0 = 32
 ·rw [if_pos c2] at H
  have c2b0 : (a0 == 32) = true := beq_iff_eq.mpr c2
  have c2b1 : (a0 != 32) = false := bne_eq_false_iff_eq.mpr c2
  clear c2
  obtain rfl := Option.some.inj H
  go_enter Tryz.func53, Tryz.ntmps53
  go_wp2
  go_ret
  exact ⟨sm_, by repeat (first | exact Drawn0.refl _ | apply Drawn0.step)⟩
 ·rw [if_neg c2] at H
  have c2b0 : (a0 == 32) = false := beq_eq_false_iff_ne.mpr c2
  have c2b1 : (a0 != 32) = true := bne_iff_ne.mpr c2
  obtain rfl := Option.some.inj H
  go_enter Tryz.func53, Tryz.ntmps53
  go_wp2
  go_ret
  exact ⟨sm_, by repeat (first | exact Drawn0.refl _ | apply Drawn0.step)⟩
def numeric_integer.f (a0 : Int) : Option (Int) := if a0 = 32 then (some 127) else (some 126)
theorem numeric_integer.calls (a0 : Int) (r : Int) (w : World) (h : numeric_integer.f a0 = some r) :
  Calls Tryz.prog 52 #[.int .i64 a0] w fun e w' => e = .returned (.int .u8 r) ∧ Drawn0 w w' := by
 have H : (if a0 = 32 then (some 127) else (some 126)) = some r := h
 clear h
 by_cases c2 : a0 = 32
 ·rw [if_pos c2] at H
  have c2b0 : (a0 == 32) = true := beq_iff_eq.mpr c2
  have c2b1 : (a0 != 32) = false := bne_eq_false_iff_eq.mpr c2
  clear c2
  obtain rfl := Option.some.inj H
  go_enter Tryz.func52, Tryz.ntmps52
  go_wp2
  go_ret
  exact ⟨sm_, by repeat (first | exact Drawn0.refl _ | apply Drawn0.step)⟩
 ·rw [if_neg c2] at H
  have c2b0 : (a0 == 32) = false := beq_eq_false_iff_ne.mpr c2
  have c2b1 : (a0 != 32) = true := bne_iff_ne.mpr c2
  obtain rfl := Option.some.inj H
  go_enter Tryz.func52, Tryz.ntmps52
  go_wp2
  go_ret
  exact ⟨sm_, by repeat (first | exact Drawn0.refl _ | apply Drawn0.step)⟩
def numeric_turned.f (a0 : Int) : Option (Int × Int) := if a0 = 0 then (some (126, 127)) else (if a0 ≤ 4 then ((numeric_float.f (wrap64 (32 + (wrap64 ((wrap64 (Int.tdiv (wrap64 (a0 - 1)) 2)) * 32))))).bind fun t123 => (some (t123, 127))) else (if a0 ≤ 6 then (some (127, 126)) else (if a0 ≤ 10 then ((numeric_float.f (wrap64 (32 + (wrap64 ((wrap64 (Int.tdiv (wrap64 (a0 - 7)) 2)) * 32))))).bind fun t124 => (some (t124, 126))) else (if a0 = 15 then (some (124, 125)) else (if a0 = 20 then (some (125, 124)) else (if a0 ≤ 19 then ((numeric_integer.f (wrap64 (32 + (wrap64 ((wrap64 (Int.tdiv (Int.tmod (wrap64 (a0 - 11)) 5) 2)) * 32))))).bind fun t125 => ((numeric_float.f (wrap64 (32 + (wrap64 ((wrap64 (Int.tdiv (wrap64 (a0 - 11)) 5)) * 32))))).bind fun t126 => (some (t125, t126)))) else (if a0 ≤ 22 then ((numeric_float.f (wrap64 (32 + (wrap64 ((wrap64 (a0 - 21)) * 32))))).bind fun t127 => ((numeric_integer.f (wrap64 (32 + (wrap64 ((wrap64 (a0 - 21)) * 32))))).bind fun t128 => (some (t127, t128)))) else ((numeric_integer.f (wrap64 (32 + (wrap64 ((wrap64 (a0 - 23)) * 32))))).bind fun t129 => ((numeric_float.f (wrap64 (32 + (wrap64 ((wrap64 (a0 - 23)) * 32))))).bind fun t130 => (some (t129, t130)))))))))))
theorem numeric_turned.calls (a0 : Int) (r1 : Int) (r2 : Int) (w : World) (h : numeric_turned.f a0 = some (r1, r2)) :
  Calls Tryz.prog 54 #[.int .i64 a0] w fun e w' => e = .returned (.tuple #[.int .u8 r1, .int .u8 r2]) ∧ Drawn0 w w' := by
 have H : (if a0 = 0 then (some (126, 127)) else (if a0 ≤ 4 then ((numeric_float.f (wrap64 (32 + (wrap64 ((wrap64 (Int.tdiv (wrap64 (a0 - 1)) 2)) * 32))))).bind fun t123 => (some (t123, 127))) else (if a0 ≤ 6 then (some (127, 126)) else (if a0 ≤ 10 then ((numeric_float.f (wrap64 (32 + (wrap64 ((wrap64 (Int.tdiv (wrap64 (a0 - 7)) 2)) * 32))))).bind fun t124 => (some (t124, 126))) else (if a0 = 15 then (some (124, 125)) else (if a0 = 20 then (some (125, 124)) else (if a0 ≤ 19 then ((numeric_integer.f (wrap64 (32 + (wrap64 ((wrap64 (Int.tdiv (Int.tmod (wrap64 (a0 - 11)) 5) 2)) * 32))))).bind fun t125 => ((numeric_float.f (wrap64 (32 + (wrap64 ((wrap64 (Int.tdiv (wrap64 (a0 - 11)) 5)) * 32))))).bind fun t126 => (some (t125, t126)))) else (if a0 ≤ 22 then ((numeric_float.f (wrap64 (32 + (wrap64 ((wrap64 (a0 - 21)) * 32))))).bind fun t127 => ((numeric_integer.f (wrap64 (32 + (wrap64 ((wrap64 (a0 - 21)) * 32))))).bind fun t128 => (some (t127, t128)))) else ((numeric_integer.f (wrap64 (32 + (wrap64 ((wrap64 (a0 - 23)) * 32))))).bind fun t129 => ((numeric_float.f (wrap64 (32 + (wrap64 ((wrap64 (a0 - 23)) * 32))))).bind fun t130 => (some (t129, t130)))))))))))) = some (r1, r2) := h
 clear h
 by_cases c2 : a0 = 0
 ·rw [if_pos c2] at H
  have c2b0 : (a0 == 0) = true := beq_iff_eq.mpr c2
  have c2b1 : (a0 != 0) = false := bne_eq_false_iff_eq.mpr c2
  clear c2
  simp only [Option.some.injEq, Prod.mk.injEq] at H
  obtain ⟨rfl, rfl⟩ := H
  go_enter Tryz.func54, Tryz.ntmps54
  go_wp2
  go_ret2
  exact ⟨sm_, by repeat (first | exact Drawn0.refl _ | apply Drawn0.step)⟩
 ·rw [if_neg c2] at H
  have c2b0 : (a0 == 0) = false := beq_eq_false_iff_ne.mpr c2
  have c2b1 : (a0 != 0) = true := bne_iff_ne.mpr c2
  by_cases c3 : a0 ≤ 4
  ·rw [if_pos c3] at H
   have c3b0 : decide (a0 ≤ 4) = true := decide_eq_true c3
   clear c3
   replace H := ob_ H
   obtain ⟨t123, A40, H⟩ := H
   replace H : (some (t123, 127)) = some (r1, r2) := H
   have A4 := A_ A40;clear A40
   simp only [Option.some.injEq, Prod.mk.injEq] at H
   obtain ⟨rfl, rfl⟩ := H
   go_enter Tryz.func54, Tryz.ntmps54
   go_wp2_with (first | ((with_reducible refine gate_callee (f := 53) rfl ?_); refine goesL_ (some 15) rfl rfl Tryz.func53 (by kernel_rfl) rfl #[.int .i64 (wrap64 (32 + (wrap64 ((wrap64 (Int.tdiv (wrap64 (a0 - 1)) 2)) * 32))))] rfl mp_ ?_; (with_reducible refine (numeric_float.calls (wrap64 (32 + (wrap64 ((wrap64 (Int.tdiv (wrap64 (a0 - 1)) 2)) * 32)))) t123 _ A4.out).mono ?_); rintro e w' ⟨rfl, ⟨nd, rfl⟩⟩; refine ⟨_, rfl, ?_⟩))
   go_ret2
   exact ⟨sm_, by repeat (first | exact Drawn0.refl _ | apply Drawn0.step)⟩
  ·rw [if_neg c3] at H
   have c3b0 : decide (a0 ≤ 4) = false := decide_eq_false c3
   clear c3
   by_cases c5 : a0 ≤ 6
   ·rw [if_pos c5] at H
    have c5b0 : decide (a0 ≤ 6) = true := decide_eq_true c5
    clear c5
    simp only [Option.some.injEq, Prod.mk.injEq] at H
    obtain ⟨rfl, rfl⟩ := H
    go_enter Tryz.func54, Tryz.ntmps54
    go_wp2
    go_ret2
    exact ⟨sm_, by repeat (first | exact Drawn0.refl _ | apply Drawn0.step)⟩
   ·rw [if_neg c5] at H
    have c5b0 : decide (a0 ≤ 6) = false := decide_eq_false c5
    clear c5
    by_cases c6 : a0 ≤ 10
    ·rw [if_pos c6] at H
     have c6b0 : decide (a0 ≤ 10) = true := decide_eq_true c6
     clear c6
     replace H := ob_ H
     obtain ⟨t124, A70, H⟩ := H
     replace H : (some (t124, 126)) = some (r1, r2) := H
     have A7 := A_ A70;clear A70
     simp only [Option.some.injEq, Prod.mk.injEq] at H
     obtain ⟨rfl, rfl⟩ := H
     go_enter Tryz.func54, Tryz.ntmps54
     go_wp2_with (first | ((with_reducible refine gate_callee (f := 53) rfl ?_); refine goesL_ (some 27) rfl rfl Tryz.func53 (by kernel_rfl) rfl #[.int .i64 (wrap64 (32 + (wrap64 ((wrap64 (Int.tdiv (wrap64 (a0 - 7)) 2)) * 32))))] rfl mp_ ?_; (with_reducible refine (numeric_float.calls (wrap64 (32 + (wrap64 ((wrap64 (Int.tdiv (wrap64 (a0 - 7)) 2)) * 32)))) t124 _ A7.out).mono ?_); rintro e w' ⟨rfl, ⟨nd, rfl⟩⟩; refine ⟨_, rfl, ?_⟩))
     go_ret2
     exact ⟨sm_, by repeat (first | exact Drawn0.refl _ | apply Drawn0.step)⟩
    ·rw [if_neg c6] at H
     have c6b0 : decide (a0 ≤ 10) = false := decide_eq_false c6
     clear c6
     by_cases c8 : a0 = 15
     ·rw [if_pos c8] at H
      have c8b0 : (a0 == 15) = true := beq_iff_eq.mpr c8
      have c8b1 : (a0 != 15) = false := bne_eq_false_iff_eq.mpr c8
      clear c8
      simp only [Option.some.injEq, Prod.mk.injEq] at H
      obtain ⟨rfl, rfl⟩ := H
      go_enter Tryz.func54, Tryz.ntmps54
      go_wp2
      go_ret2
      exact ⟨sm_, by repeat (first | exact Drawn0.refl _ | apply Drawn0.step)⟩
     ·rw [if_neg c8] at H
      have c8b0 : (a0 == 15) = false := beq_eq_false_iff_ne.mpr c8
      have c8b1 : (a0 != 15) = true := bne_iff_ne.mpr c8
      by_cases c9 : a0 = 20
      ·rw [if_pos c9] at H
       have c9b0 : (a0 == 20) = true := beq_iff_eq.mpr c9
       have c9b1 : (a0 != 20) = false := bne_eq_false_iff_eq.mpr c9
       clear c9
       simp only [Option.some.injEq, Prod.mk.injEq] at H
       obtain ⟨rfl, rfl⟩ := H
       go_enter Tryz.func54, Tryz.ntmps54
       go_wp2
       go_ret2
       exact ⟨sm_, by repeat (first | exact Drawn0.refl _ | apply Drawn0.step)⟩
      ·rw [if_neg c9] at H
       have c9b0 : (a0 == 20) = false := beq_eq_false_iff_ne.mpr c9
       have c9b1 : (a0 != 20) = true := bne_iff_ne.mpr c9
       by_cases c10 : a0 ≤ 19
       ·rw [if_pos c10] at H
        have c10b0 : decide (a0 ≤ 19) = true := decide_eq_true c10
        clear c10
        replace H := ob_ H
        obtain ⟨t125, A110, H⟩ := H
        replace H : ((numeric_float.f (wrap64 (32 + (wrap64 ((wrap64 (Int.tdiv (wrap64 (a0 - 11)) 5)) * 32))))).bind fun t126 => (some (t125, t126))) = some (r1, r2) := H
        have A11 := A_ A110;clear A110
        replace H := ob_ H
        obtain ⟨t126, A120, H⟩ := H
        replace H : (some (t125, t126)) = some (r1, r2) := H
        have A12 := A_ A120;clear A120
        simp only [Option.some.injEq, Prod.mk.injEq] at H
        obtain ⟨rfl, rfl⟩ := H
        go_enter Tryz.func54, Tryz.ntmps54
        go_wp2_with (first | ((with_reducible refine gate_callee (f := 52) rfl ?_); refine goesL_ (some 43) rfl rfl Tryz.func52 (by kernel_rfl) rfl #[.int .i64 (wrap64 (32 + (wrap64 ((wrap64 (Int.tdiv (Int.tmod (wrap64 (a0 - 11)) 5) 2)) * 32))))] rfl mp_ ?_; (with_reducible refine (numeric_integer.calls (wrap64 (32 + (wrap64 ((wrap64 (Int.tdiv (Int.tmod (wrap64 (a0 - 11)) 5) 2)) * 32)))) t125 _ A11.out).mono ?_); rintro e w' ⟨rfl, ⟨nd, rfl⟩⟩; refine ⟨_, rfl, ?_⟩) | ((with_reducible refine gate_callee (f := 53) rfl ?_); refine goesL_ (some 49) rfl rfl Tryz.func53 (by kernel_rfl) rfl #[.int .i64 (wrap64 (32 + (wrap64 ((wrap64 (Int.tdiv (wrap64 (a0 - 11)) 5)) * 32))))] rfl mp_ ?_; (with_reducible refine (numeric_float.calls (wrap64 (32 + (wrap64 ((wrap64 (Int.tdiv (wrap64 (a0 - 11)) 5)) * 32)))) t126 _ A12.out).mono ?_); rintro e w' ⟨rfl, ⟨nd, rfl⟩⟩; refine ⟨_, rfl, ?_⟩))
        go_ret2
        exact ⟨sm_, by repeat (first | exact Drawn0.refl _ | apply Drawn0.step)⟩
       ·rw [if_neg c10] at H
        have c10b0 : decide (a0 ≤ 19) = false := decide_eq_false c10
        clear c10
        by_cases c13 : a0 ≤ 22
        ·rw [if_pos c13] at H
         have c13b0 : decide (a0 ≤ 22) = true := decide_eq_true c13
         clear c13
         replace H := ob_ H
         obtain ⟨t127, A140, H⟩ := H
         replace H : ((numeric_integer.f (wrap64 (32 + (wrap64 ((wrap64 (a0 - 21)) * 32))))).bind fun t128 => (some (t127, t128))) = some (r1, r2) := H
         have A14 := A_ A140;clear A140
         replace H := ob_ H
         obtain ⟨t128, A150, H⟩ := H
         replace H : (some (t127, t128)) = some (r1, r2) := H
         have A15 := A_ A150;clear A150
         simp only [Option.some.injEq, Prod.mk.injEq] at H
         obtain ⟨rfl, rfl⟩ := H
         go_enter Tryz.func54, Tryz.ntmps54
         go_wp2_with (first | ((with_reducible refine gate_callee (f := 53) rfl ?_); refine goesL_ (some 57) rfl rfl Tryz.func53 (by kernel_rfl) rfl #[.int .i64 (wrap64 (32 + (wrap64 ((wrap64 (a0 - 21)) * 32))))] rfl mp_ ?_; (with_reducible refine (numeric_float.calls (wrap64 (32 + (wrap64 ((wrap64 (a0 - 21)) * 32)))) t127 _ A14.out).mono ?_); rintro e w' ⟨rfl, ⟨nd, rfl⟩⟩; refine ⟨_, rfl, ?_⟩) | ((with_reducible refine gate_callee (f := 52) rfl ?_); refine goesL_ (some 62) rfl rfl Tryz.func52 (by kernel_rfl) rfl #[.int .i64 (wrap64 (32 + (wrap64 ((wrap64 (a0 - 21)) * 32))))] rfl mp_ ?_; (with_reducible refine (numeric_integer.calls (wrap64 (32 + (wrap64 ((wrap64 (a0 - 21)) * 32)))) t128 _ A15.out).mono ?_); rintro e w' ⟨rfl, ⟨nd, rfl⟩⟩; refine ⟨_, rfl, ?_⟩))
         go_ret2
         exact ⟨sm_, by repeat (first | exact Drawn0.refl _ | apply Drawn0.step)⟩
        ·rw [if_neg c13] at H
         have c13b0 : decide (a0 ≤ 22) = false := decide_eq_false c13
         clear c13
         replace H := ob_ H
         obtain ⟨t129, A160, H⟩ := H
         replace H : ((numeric_float.f (wrap64 (32 + (wrap64 ((wrap64 (a0 - 23)) * 32))))).bind fun t130 => (some (t129, t130))) = some (r1, r2) := H
         have A16 := A_ A160;clear A160
         replace H := ob_ H
         obtain ⟨t130, A170, H⟩ := H
         replace H : (some (t129, t130)) = some (r1, r2) := H
         have A17 := A_ A170;clear A170
         simp only [Option.some.injEq, Prod.mk.injEq] at H
         obtain ⟨rfl, rfl⟩ := H
         go_enter Tryz.func54, Tryz.ntmps54
         go_wp2_with (first | ((with_reducible refine gate_callee (f := 52) rfl ?_); refine goesL_ (some 67) rfl rfl Tryz.func52 (by kernel_rfl) rfl #[.int .i64 (wrap64 (32 + (wrap64 ((wrap64 (a0 - 23)) * 32))))] rfl mp_ ?_; (with_reducible refine (numeric_integer.calls (wrap64 (32 + (wrap64 ((wrap64 (a0 - 23)) * 32)))) t129 _ A16.out).mono ?_); rintro e w' ⟨rfl, ⟨nd, rfl⟩⟩; refine ⟨_, rfl, ?_⟩) | ((with_reducible refine gate_callee (f := 53) rfl ?_); refine goesL_ (some 72) rfl rfl Tryz.func53 (by kernel_rfl) rfl #[.int .i64 (wrap64 (32 + (wrap64 ((wrap64 (a0 - 23)) * 32))))] rfl mp_ ?_; (with_reducible refine (numeric_float.calls (wrap64 (32 + (wrap64 ((wrap64 (a0 - 23)) * 32)))) t130 _ A17.out).mono ?_); rintro e w' ⟨rfl, ⟨nd, rfl⟩⟩; refine ⟨_, rfl, ?_⟩))
         go_ret2
         exact ⟨sm_, by repeat (first | exact Drawn0.refl _ | apply Drawn0.step)⟩
def numeric_Kind.f (k : Nat) (a0 : Int) : Option (Int × Int × Int × Bool) := (numeric_find.f k a0).bind fun bt131 => (if bt131.1 = 1 then ((numeric_integer.f bt131.2.2).bind fun t135 => (some (t135, 1, 127, true))) else (if bt131.1 = 2 then ((numeric_integer.f bt131.2.2).bind fun t136 => (some (t136, 2, 127, true))) else (if bt131.1 = 3 then ((numeric_float.f bt131.2.2).bind fun t137 => (some (t137, 2, 127, true))) else (if bt131.1 = 4 then ((numeric_integer.f bt131.2.2).bind fun t138 => ((numeric_integer.f bt131.2.2).bind fun t139 => (some (t138, 1, t139, true)))) else (if bt131.1 = 5 then ((numeric_integer.f bt131.2.2).bind fun t140 => ((numeric_integer.f bt131.2.2).bind fun t141 => (some (t140, 2, t141, true)))) else (if bt131.1 = 6 then ((numeric_float.f bt131.2.2).bind fun t142 => ((numeric_float.f bt131.2.2).bind fun t143 => (some (t142, 1, t143, true)))) else (if bt131.1 = 7 then ((numeric_float.f bt131.2.2).bind fun t144 => ((numeric_float.f bt131.2.2).bind fun t145 => (some (t144, 2, t145, true)))) else (if bt131.1 = 8 then ((numeric_turned.f bt131.2.1).bind fun bt146 => (some (bt146.1, 1, bt146.2, true))) else (if bt131.1 = 9 then ((numeric_float.f (wrap64 (32 + (wrap64 ((Int.tmod (wrap64 (Int.tdiv bt131.2.1 2)) 2) * 32))))).bind fun t148 => ((numeric_integer.f (wrap64 (32 + (wrap64 ((wrap64 (Int.tdiv bt131.2.1 4)) * 32))))).bind fun t149 => (some (t148, 1, t149, true)))) else (some (0, 0, 0, false)))))))))))
theorem numeric_Kind.mono : ∀ a0 k, LeO (numeric_Kind.f k a0) (numeric_Kind.f (k + 1) a0) := by
 intro a0 k
 unfold numeric_Kind.f
 repeat' first
   | (with_reducible exact numeric_find.mono _ _)
   | (with_reducible exact LeO.refl _)
   | (with_reducible exact LeO.none _)
   | (with_reducible refine LeO.ite ?_ ?_)
   | (with_reducible refine LeO.bind ?_ (fun _ => ?_))
   | exact numeric_find.mono _ _
   | exact LeO.none _
   | refine LeO.ite ?_ ?_
   | refine LeO.bind ?_ (fun _ => ?_)
theorem numeric_Kind.calls (k : Nat) (a0 : Int) (r1 : Int) (r2 : Int) (r3 : Int) (r4 : Bool) (w : World) (h : numeric_Kind.f k a0 = some (r1, r2, r3, r4)) :
  Calls Tryz.prog 21 #[.int .i64 a0] w fun e w' => e = .returned (.tuple #[.int .u8 r1, .int .i64 r2, .int .u8 r3, .bool r4]) ∧ Below w.heap.size w w' := by
 have hu56 := Tryz.underlying56
 have HB := A_ (Below.refl w.heap.size w)
 have H : ((numeric_find.f k a0).bind fun bt131 => (if bt131.1 = 1 then ((numeric_integer.f bt131.2.2).bind fun t135 => (some (t135, 1, 127, true))) else (if bt131.1 = 2 then ((numeric_integer.f bt131.2.2).bind fun t136 => (some (t136, 2, 127, true))) else (if bt131.1 = 3 then ((numeric_float.f bt131.2.2).bind fun t137 => (some (t137, 2, 127, true))) else (if bt131.1 = 4 then ((numeric_integer.f bt131.2.2).bind fun t138 => ((numeric_integer.f bt131.2.2).bind fun t139 => (some (t138, 1, t139, true)))) else (if bt131.1 = 5 then ((numeric_integer.f bt131.2.2).bind fun t140 => ((numeric_integer.f bt131.2.2).bind fun t141 => (some (t140, 2, t141, true)))) else (if bt131.1 = 6 then ((numeric_float.f bt131.2.2).bind fun t142 => ((numeric_float.f bt131.2.2).bind fun t143 => (some (t142, 1, t143, true)))) else (if bt131.1 = 7 then ((numeric_float.f bt131.2.2).bind fun t144 => ((numeric_float.f bt131.2.2).bind fun t145 => (some (t144, 2, t145, true)))) else (if bt131.1 = 8 then ((numeric_turned.f bt131.2.1).bind fun bt146 => (some (bt146.1, 1, bt146.2, true))) else (if bt131.1 = 9 then ((numeric_float.f (wrap64 (32 + (wrap64 ((Int.tmod (wrap64 (Int.tdiv bt131.2.1 2)) 2) * 32))))).bind fun t148 => ((numeric_integer.f (wrap64 (32 + (wrap64 ((wrap64 (Int.tdiv bt131.2.1 4)) * 32))))).bind fun t149 => (some (t148, 1, t149, true)))) else (some (0, 0, 0, false)))))))))))) = some (r1, r2, r3, r4) := h
 clear h
 replace H := ob_ H
 obtain ⟨⟨t131, t132, t133⟩, A20, H⟩ := H
 replace H : (if t131 = 1 then ((numeric_integer.f t133).bind fun t135 => (some (t135, 1, 127, true))) else (if t131 = 2 then ((numeric_integer.f t133).bind fun t136 => (some (t136, 2, 127, true))) else (if t131 = 3 then ((numeric_float.f t133).bind fun t137 => (some (t137, 2, 127, true))) else (if t131 = 4 then ((numeric_integer.f t133).bind fun t138 => ((numeric_integer.f t133).bind fun t139 => (some (t138, 1, t139, true)))) else (if t131 = 5 then ((numeric_integer.f t133).bind fun t140 => ((numeric_integer.f t133).bind fun t141 => (some (t140, 2, t141, true)))) else (if t131 = 6 then ((numeric_float.f t133).bind fun t142 => ((numeric_float.f t133).bind fun t143 => (some (t142, 1, t143, true)))) else (if t131 = 7 then ((numeric_float.f t133).bind fun t144 => ((numeric_float.f t133).bind fun t145 => (some (t144, 2, t145, true)))) else (if t131 = 8 then ((numeric_turned.f t132).bind fun bt146 => (some (bt146.1, 1, bt146.2, true))) else (if t131 = 9 then ((numeric_float.f (wrap64 (32 + (wrap64 ((Int.tmod (wrap64 (Int.tdiv t132 2)) 2) * 32))))).bind fun t148 => ((numeric_integer.f (wrap64 (32 + (wrap64 ((wrap64 (Int.tdiv t132 4)) * 32))))).bind fun t149 => (some (t148, 1, t149, true)))) else (some (0, 0, 0, false))))))))))) = some (r1, r2, r3, r4) := H
 have A2 := A_ A20;clear A20
 by_cases c3 : t131 = 1
 ·rw [if_pos c3] at H
  have c3b0 : (t131 == 1) = true := beq_iff_eq.mpr c3
  have c3b1 : (t131 != 1) = false := bne_eq_false_iff_eq.mpr c3
  clear c3
  replace H := ob_ H
  obtain ⟨t135, A40, H⟩ := H
  replace H : (some (t135, 1, 127, true)) = some (r1, r2, r3, r4) := H
  have A4 := A_ A40;clear A40
  simp only [Option.some.injEq, Prod.mk.injEq] at H
  obtain ⟨rfl, rfl, rfl, rfl⟩ := H
  go_enter Tryz.func21, Tryz.ntmps21
  go_wp2_with (first | (go_at_call 25; (with_reducible refine (numeric_find.calls k a0 t131 t132 t133 _ A2.out).mono ?_); rintro e w5 ⟨rfl, hb⟩; replace HB := A_ (below_step (hb_ HB.out) hb); (try clear hb); (try clear hb2); (try clear hk); (try clear hi)) | ((with_reducible refine gate_dst (N := 6) rfl ?_); refine be_ 6 #[.int .i64 0, .int .i64 0, .int .i64 0] 56 ?_; intro gb134 hg w6 hbox hb; have BK134 := A_ (hbox); have GW134 := A_ (sz_ hg (hb_ HB.out)); have GE134 := A_ (sz_ hg (hb_ HB.out)); replace HB := A_ (below_step (hb_ HB.out) hb); clear hb hbox hg; have hcz7_0 := bv_ BK134.out 0; have hcz7_1 := bv_ BK134.out 1; have hcz7_2 := bv_ BK134.out 2; have hfz7_0 := blk_frozen BK134.out 0; have hfz7_1 := blk_frozen BK134.out 1; have hfz7_2 := blk_frozen BK134.out 2) | (go_at_call 52; (with_reducible refine (numeric_integer.calls t133 t135 _ A4.out).mono ?_); rintro e w' ⟨rfl, ⟨nd, rfl⟩⟩; (try first | exact ⟨rfl, _, World.drewN_drewN _ _ _⟩ | exact ⟨rfl, _, Eq.trans (World.drewN_drewN _ _ _) (congrArg (World.drewN _) (Nat.add_assoc _ _ _))⟩)))
  repeat (go_quiet (first | (go_at_call 25; (with_reducible refine (numeric_find.calls k a0 t131 t132 t133 _ A2.out).mono ?_); rintro e w5 ⟨rfl, hb⟩; replace HB := A_ (below_step (hb_ HB.out) hb); (try clear hb); (try clear hb2); (try clear hk); (try clear hi)) | ((with_reducible refine gate_dst (N := 6) rfl ?_); refine be_ 6 #[.int .i64 0, .int .i64 0, .int .i64 0] 56 ?_; intro gb134 hg w6 hbox hb; have BK134 := A_ (hbox); have GW134 := A_ (sz_ hg (hb_ HB.out)); have GE134 := A_ (sz_ hg (hb_ HB.out)); replace HB := A_ (below_step (hb_ HB.out) hb); clear hb hbox hg; have hcz7_0 := bv_ BK134.out 0; have hcz7_1 := bv_ BK134.out 1; have hcz7_2 := bv_ BK134.out 2; have hfz7_0 := blk_frozen BK134.out 0; have hfz7_1 := blk_frozen BK134.out 1; have hfz7_2 := blk_frozen BK134.out 2) | (go_at_call 52; (with_reducible refine (numeric_integer.calls t133 t135 _ A4.out).mono ?_); rintro e w' ⟨rfl, ⟨nd, rfl⟩⟩; (try first | exact ⟨rfl, _, World.drewN_drewN _ _ _⟩ | exact ⟨rfl, _, Eq.trans (World.drewN_drewN _ _ _) (congrArg (World.drewN _) (Nat.add_assoc _ _ _))⟩))); try go_wp2_with (first | (go_at_call 25; (with_reducible refine (numeric_find.calls k a0 t131 t132 t133 _ A2.out).mono ?_); rintro e w5 ⟨rfl, hb⟩; replace HB := A_ (below_step (hb_ HB.out) hb); (try clear hb); (try clear hb2); (try clear hk); (try clear hi)) | ((with_reducible refine gate_dst (N := 6) rfl ?_); refine be_ 6 #[.int .i64 0, .int .i64 0, .int .i64 0] 56 ?_; intro gb134 hg w6 hbox hb; have BK134 := A_ (hbox); have GW134 := A_ (sz_ hg (hb_ HB.out)); have GE134 := A_ (sz_ hg (hb_ HB.out)); replace HB := A_ (below_step (hb_ HB.out) hb); clear hb hbox hg; have hcz7_0 := bv_ BK134.out 0; have hcz7_1 := bv_ BK134.out 1; have hcz7_2 := bv_ BK134.out 2; have hfz7_0 := blk_frozen BK134.out 0; have hfz7_1 := blk_frozen BK134.out 1; have hfz7_2 := blk_frozen BK134.out 2) | (go_at_call 52; (with_reducible refine (numeric_integer.calls t133 t135 _ A4.out).mono ?_); rintro e w' ⟨rfl, ⟨nd, rfl⟩⟩; (try first | exact ⟨rfl, _, World.drewN_drewN _ _ _⟩ | exact ⟨rfl, _, Eq.trans (World.drewN_drewN _ _ _) (congrArg (World.drewN _) (Nat.add_assoc _ _ _))⟩))))
  refine bodyPost_ret (results_list (rs := [.tmp 2, .tmp 3, .tmp 4, .tmp 5]) rfl (by simp) (.tmp (.tmp (.tmp (.tmp .nil))))) rfl ?_
  exact ⟨er_, hb1_ HB.out GE134.out⟩
 ·rw [if_neg c3] at H
  have c3b0 : (t131 == 1) = false := beq_eq_false_iff_ne.mpr c3
  have c3b1 : (t131 != 1) = true := bne_iff_ne.mpr c3
  by_cases c8 : t131 = 2
  ·rw [if_pos c8] at H
   have c8b0 : (t131 == 2) = true := beq_iff_eq.mpr c8
   have c8b1 : (t131 != 2) = false := bne_eq_false_iff_eq.mpr c8
   clear c8
   replace H := ob_ H
   obtain ⟨t136, A90, H⟩ := H
   replace H : (some (t136, 2, 127, true)) = some (r1, r2, r3, r4) := H
   have A9 := A_ A90;clear A90
   simp only [Option.some.injEq, Prod.mk.injEq] at H
   obtain ⟨rfl, rfl, rfl, rfl⟩ := H
   go_enter Tryz.func21, Tryz.ntmps21
   go_wp2_with (first | (go_at_call 25; (with_reducible refine (numeric_find.calls k a0 t131 t132 t133 _ A2.out).mono ?_); rintro e w10 ⟨rfl, hb⟩; replace HB := A_ (below_step (hb_ HB.out) hb); (try clear hb); (try clear hb2); (try clear hk); (try clear hi)) | ((with_reducible refine gate_dst (N := 6) rfl ?_); refine be_ 6 #[.int .i64 0, .int .i64 0, .int .i64 0] 56 ?_; intro gb134 hg w11 hbox hb; have BK134 := A_ (hbox); have GW134 := A_ (sz_ hg (hb_ HB.out)); have GE134 := A_ (sz_ hg (hb_ HB.out)); replace HB := A_ (below_step (hb_ HB.out) hb); clear hb hbox hg; have hcz12_0 := bv_ BK134.out 0; have hcz12_1 := bv_ BK134.out 1; have hcz12_2 := bv_ BK134.out 2; have hfz12_0 := blk_frozen BK134.out 0; have hfz12_1 := blk_frozen BK134.out 1; have hfz12_2 := blk_frozen BK134.out 2) | (go_at_call 52; (with_reducible refine (numeric_integer.calls t133 t136 _ A9.out).mono ?_); rintro e w' ⟨rfl, ⟨nd, rfl⟩⟩; (try first | exact ⟨rfl, _, World.drewN_drewN _ _ _⟩ | exact ⟨rfl, _, Eq.trans (World.drewN_drewN _ _ _) (congrArg (World.drewN _) (Nat.add_assoc _ _ _))⟩)))
   repeat (go_quiet (first | (go_at_call 25; (with_reducible refine (numeric_find.calls k a0 t131 t132 t133 _ A2.out).mono ?_); rintro e w10 ⟨rfl, hb⟩; replace HB := A_ (below_step (hb_ HB.out) hb); (try clear hb); (try clear hb2); (try clear hk); (try clear hi)) | ((with_reducible refine gate_dst (N := 6) rfl ?_); refine be_ 6 #[.int .i64 0, .int .i64 0, .int .i64 0] 56 ?_; intro gb134 hg w11 hbox hb; have BK134 := A_ (hbox); have GW134 := A_ (sz_ hg (hb_ HB.out)); have GE134 := A_ (sz_ hg (hb_ HB.out)); replace HB := A_ (below_step (hb_ HB.out) hb); clear hb hbox hg; have hcz12_0 := bv_ BK134.out 0; have hcz12_1 := bv_ BK134.out 1; have hcz12_2 := bv_ BK134.out 2; have hfz12_0 := blk_frozen BK134.out 0; have hfz12_1 := blk_frozen BK134.out 1; have hfz12_2 := blk_frozen BK134.out 2) | (go_at_call 52; (with_reducible refine (numeric_integer.calls t133 t136 _ A9.out).mono ?_); rintro e w' ⟨rfl, ⟨nd, rfl⟩⟩; (try first | exact ⟨rfl, _, World.drewN_drewN _ _ _⟩ | exact ⟨rfl, _, Eq.trans (World.drewN_drewN _ _ _) (congrArg (World.drewN _) (Nat.add_assoc _ _ _))⟩))); try go_wp2_with (first | (go_at_call 25; (with_reducible refine (numeric_find.calls k a0 t131 t132 t133 _ A2.out).mono ?_); rintro e w10 ⟨rfl, hb⟩; replace HB := A_ (below_step (hb_ HB.out) hb); (try clear hb); (try clear hb2); (try clear hk); (try clear hi)) | ((with_reducible refine gate_dst (N := 6) rfl ?_); refine be_ 6 #[.int .i64 0, .int .i64 0, .int .i64 0] 56 ?_; intro gb134 hg w11 hbox hb; have BK134 := A_ (hbox); have GW134 := A_ (sz_ hg (hb_ HB.out)); have GE134 := A_ (sz_ hg (hb_ HB.out)); replace HB := A_ (below_step (hb_ HB.out) hb); clear hb hbox hg; have hcz12_0 := bv_ BK134.out 0; have hcz12_1 := bv_ BK134.out 1; have hcz12_2 := bv_ BK134.out 2; have hfz12_0 := blk_frozen BK134.out 0; have hfz12_1 := blk_frozen BK134.out 1; have hfz12_2 := blk_frozen BK134.out 2) | (go_at_call 52; (with_reducible refine (numeric_integer.calls t133 t136 _ A9.out).mono ?_); rintro e w' ⟨rfl, ⟨nd, rfl⟩⟩; (try first | exact ⟨rfl, _, World.drewN_drewN _ _ _⟩ | exact ⟨rfl, _, Eq.trans (World.drewN_drewN _ _ _) (congrArg (World.drewN _) (Nat.add_assoc _ _ _))⟩))))
   refine bodyPost_ret (results_list (rs := [.tmp 2, .tmp 3, .tmp 4, .tmp 5]) rfl (by simp) (.tmp (.tmp (.tmp (.tmp .nil))))) rfl ?_
   exact ⟨er_, hb1_ HB.out GE134.out⟩
  ·rw [if_neg c8] at H
   have c8b0 : (t131 == 2) = false := beq_eq_false_iff_ne.mpr c8
   have c8b1 : (t131 != 2) = true := bne_iff_ne.mpr c8
   by_cases c13 : t131 = 3
   ·rw [if_pos c13] at H
    have c13b0 : (t131 == 3) = true := beq_iff_eq.mpr c13
    have c13b1 : (t131 != 3) = false := bne_eq_false_iff_eq.mpr c13
    clear c13
    replace H := ob_ H
    obtain ⟨t137, A140, H⟩ := H
    replace H : (some (t137, 2, 127, true)) = some (r1, r2, r3, r4) := H
    have A14 := A_ A140;clear A140
    simp only [Option.some.injEq, Prod.mk.injEq] at H
    obtain ⟨rfl, rfl, rfl, rfl⟩ := H
    go_enter Tryz.func21, Tryz.ntmps21
    go_wp2_with (first | (go_at_call 25; (with_reducible refine (numeric_find.calls k a0 t131 t132 t133 _ A2.out).mono ?_); rintro e w15 ⟨rfl, hb⟩; replace HB := A_ (below_step (hb_ HB.out) hb); (try clear hb); (try clear hb2); (try clear hk); (try clear hi)) | ((with_reducible refine gate_dst (N := 6) rfl ?_); refine be_ 6 #[.int .i64 0, .int .i64 0, .int .i64 0] 56 ?_; intro gb134 hg w16 hbox hb; have BK134 := A_ (hbox); have GW134 := A_ (sz_ hg (hb_ HB.out)); have GE134 := A_ (sz_ hg (hb_ HB.out)); replace HB := A_ (below_step (hb_ HB.out) hb); clear hb hbox hg; have hcz17_0 := bv_ BK134.out 0; have hcz17_1 := bv_ BK134.out 1; have hcz17_2 := bv_ BK134.out 2; have hfz17_0 := blk_frozen BK134.out 0; have hfz17_1 := blk_frozen BK134.out 1; have hfz17_2 := blk_frozen BK134.out 2) | (go_at_call 53; (with_reducible refine (numeric_float.calls t133 t137 _ A14.out).mono ?_); rintro e w' ⟨rfl, ⟨nd, rfl⟩⟩; (try first | exact ⟨rfl, _, World.drewN_drewN _ _ _⟩ | exact ⟨rfl, _, Eq.trans (World.drewN_drewN _ _ _) (congrArg (World.drewN _) (Nat.add_assoc _ _ _))⟩)))
    repeat (go_quiet (first | (go_at_call 25; (with_reducible refine (numeric_find.calls k a0 t131 t132 t133 _ A2.out).mono ?_); rintro e w15 ⟨rfl, hb⟩; replace HB := A_ (below_step (hb_ HB.out) hb); (try clear hb); (try clear hb2); (try clear hk); (try clear hi)) | ((with_reducible refine gate_dst (N := 6) rfl ?_); refine be_ 6 #[.int .i64 0, .int .i64 0, .int .i64 0] 56 ?_; intro gb134 hg w16 hbox hb; have BK134 := A_ (hbox); have GW134 := A_ (sz_ hg (hb_ HB.out)); have GE134 := A_ (sz_ hg (hb_ HB.out)); replace HB := A_ (below_step (hb_ HB.out) hb); clear hb hbox hg; have hcz17_0 := bv_ BK134.out 0; have hcz17_1 := bv_ BK134.out 1; have hcz17_2 := bv_ BK134.out 2; have hfz17_0 := blk_frozen BK134.out 0; have hfz17_1 := blk_frozen BK134.out 1; have hfz17_2 := blk_frozen BK134.out 2) | (go_at_call 53; (with_reducible refine (numeric_float.calls t133 t137 _ A14.out).mono ?_); rintro e w' ⟨rfl, ⟨nd, rfl⟩⟩; (try first | exact ⟨rfl, _, World.drewN_drewN _ _ _⟩ | exact ⟨rfl, _, Eq.trans (World.drewN_drewN _ _ _) (congrArg (World.drewN _) (Nat.add_assoc _ _ _))⟩))); try go_wp2_with (first | (go_at_call 25; (with_reducible refine (numeric_find.calls k a0 t131 t132 t133 _ A2.out).mono ?_); rintro e w15 ⟨rfl, hb⟩; replace HB := A_ (below_step (hb_ HB.out) hb); (try clear hb); (try clear hb2); (try clear hk); (try clear hi)) | ((with_reducible refine gate_dst (N := 6) rfl ?_); refine be_ 6 #[.int .i64 0, .int .i64 0, .int .i64 0] 56 ?_; intro gb134 hg w16 hbox hb; have BK134 := A_ (hbox); have GW134 := A_ (sz_ hg (hb_ HB.out)); have GE134 := A_ (sz_ hg (hb_ HB.out)); replace HB := A_ (below_step (hb_ HB.out) hb); clear hb hbox hg; have hcz17_0 := bv_ BK134.out 0; have hcz17_1 := bv_ BK134.out 1; have hcz17_2 := bv_ BK134.out 2; have hfz17_0 := blk_frozen BK134.out 0; have hfz17_1 := blk_frozen BK134.out 1; have hfz17_2 := blk_frozen BK134.out 2) | (go_at_call 53; (with_reducible refine (numeric_float.calls t133 t137 _ A14.out).mono ?_); rintro e w' ⟨rfl, ⟨nd, rfl⟩⟩; (try first | exact ⟨rfl, _, World.drewN_drewN _ _ _⟩ | exact ⟨rfl, _, Eq.trans (World.drewN_drewN _ _ _) (congrArg (World.drewN _) (Nat.add_assoc _ _ _))⟩))))
    refine bodyPost_ret (results_list (rs := [.tmp 2, .tmp 3, .tmp 4, .tmp 5]) rfl (by simp) (.tmp (.tmp (.tmp (.tmp .nil))))) rfl ?_
    exact ⟨er_, hb1_ HB.out GE134.out⟩
   ·rw [if_neg c13] at H
    have c13b0 : (t131 == 3) = false := beq_eq_false_iff_ne.mpr c13
    have c13b1 : (t131 != 3) = true := bne_iff_ne.mpr c13
    by_cases c18 : t131 = 4
    ·rw [if_pos c18] at H
     have c18b0 : (t131 == 4) = true := beq_iff_eq.mpr c18
     have c18b1 : (t131 != 4) = false := bne_eq_false_iff_eq.mpr c18
     clear c18
     replace H := ob_ H
     obtain ⟨t138, A190, H⟩ := H
     replace H : ((numeric_integer.f t133).bind fun t139 => (some (t138, 1, t139, true))) = some (r1, r2, r3, r4) := H
     have A19 := A_ A190;clear A190
     replace H := ob_ H
     obtain ⟨t139, A200, H⟩ := H
     replace H : (some (t138, 1, t139, true)) = some (r1, r2, r3, r4) := H
     have A20 := A_ A200;clear A200
     have E2_ := Option.some.inj (A19.out.symm.trans A20.out)
     subst E2_
     simp only [Option.some.injEq, Prod.mk.injEq] at H
     obtain ⟨rfl, rfl, rfl, rfl⟩ := H
     go_enter Tryz.func21, Tryz.ntmps21
     go_wp2_with (first | (go_at_call 25; (with_reducible refine (numeric_find.calls k a0 t131 t132 t133 _ A2.out).mono ?_); rintro e w21 ⟨rfl, hb⟩; replace HB := A_ (below_step (hb_ HB.out) hb); (try clear hb); (try clear hb2); (try clear hk); (try clear hi)) | ((with_reducible refine gate_dst (N := 6) rfl ?_); refine be_ 6 #[.int .i64 0, .int .i64 0, .int .i64 0] 56 ?_; intro gb134 hg w22 hbox hb; have BK134 := A_ (hbox); have GW134 := A_ (sz_ hg (hb_ HB.out)); have GE134 := A_ (sz_ hg (hb_ HB.out)); replace HB := A_ (below_step (hb_ HB.out) hb); clear hb hbox hg; have hcz23_0 := bv_ BK134.out 0; have hcz23_1 := bv_ BK134.out 1; have hcz23_2 := bv_ BK134.out 2; have hfz23_0 := blk_frozen BK134.out 0; have hfz23_1 := blk_frozen BK134.out 1; have hfz23_2 := blk_frozen BK134.out 2) | (go_at_call 52; (with_reducible refine (numeric_integer.calls t133 t138 _ A19.out).mono ?_); rintro e w' ⟨rfl, ⟨nd, rfl⟩⟩; (try first | exact ⟨rfl, _, World.drewN_drewN _ _ _⟩ | exact ⟨rfl, _, Eq.trans (World.drewN_drewN _ _ _) (congrArg (World.drewN _) (Nat.add_assoc _ _ _))⟩)) | (go_at_call 52; (with_reducible refine (numeric_integer.calls t133 t139 _ A20.out).mono ?_); rintro e w' ⟨rfl, ⟨nd, rfl⟩⟩; (try first | exact ⟨rfl, _, World.drewN_drewN _ _ _⟩ | exact ⟨rfl, _, Eq.trans (World.drewN_drewN _ _ _) (congrArg (World.drewN _) (Nat.add_assoc _ _ _))⟩)))
     repeat (go_quiet (first | (go_at_call 25; (with_reducible refine (numeric_find.calls k a0 t131 t132 t133 _ A2.out).mono ?_); rintro e w21 ⟨rfl, hb⟩; replace HB := A_ (below_step (hb_ HB.out) hb); (try clear hb); (try clear hb2); (try clear hk); (try clear hi)) | ((with_reducible refine gate_dst (N := 6) rfl ?_); refine be_ 6 #[.int .i64 0, .int .i64 0, .int .i64 0] 56 ?_; intro gb134 hg w22 hbox hb; have BK134 := A_ (hbox); have GW134 := A_ (sz_ hg (hb_ HB.out)); have GE134 := A_ (sz_ hg (hb_ HB.out)); replace HB := A_ (below_step (hb_ HB.out) hb); clear hb hbox hg; have hcz23_0 := bv_ BK134.out 0; have hcz23_1 := bv_ BK134.out 1; have hcz23_2 := bv_ BK134.out 2; have hfz23_0 := blk_frozen BK134.out 0; have hfz23_1 := blk_frozen BK134.out 1; have hfz23_2 := blk_frozen BK134.out 2) | (go_at_call 52; (with_reducible refine (numeric_integer.calls t133 t138 _ A19.out).mono ?_); rintro e w' ⟨rfl, ⟨nd, rfl⟩⟩; (try first | exact ⟨rfl, _, World.drewN_drewN _ _ _⟩ | exact ⟨rfl, _, Eq.trans (World.drewN_drewN _ _ _) (congrArg (World.drewN _) (Nat.add_assoc _ _ _))⟩)) | (go_at_call 52; (with_reducible refine (numeric_integer.calls t133 t139 _ A20.out).mono ?_); rintro e w' ⟨rfl, ⟨nd, rfl⟩⟩; (try first | exact ⟨rfl, _, World.drewN_drewN _ _ _⟩ | exact ⟨rfl, _, Eq.trans (World.drewN_drewN _ _ _) (congrArg (World.drewN _) (Nat.add_assoc _ _ _))⟩))); try go_wp2_with (first | (go_at_call 25; (with_reducible refine (numeric_find.calls k a0 t131 t132 t133 _ A2.out).mono ?_); rintro e w21 ⟨rfl, hb⟩; replace HB := A_ (below_step (hb_ HB.out) hb); (try clear hb); (try clear hb2); (try clear hk); (try clear hi)) | ((with_reducible refine gate_dst (N := 6) rfl ?_); refine be_ 6 #[.int .i64 0, .int .i64 0, .int .i64 0] 56 ?_; intro gb134 hg w22 hbox hb; have BK134 := A_ (hbox); have GW134 := A_ (sz_ hg (hb_ HB.out)); have GE134 := A_ (sz_ hg (hb_ HB.out)); replace HB := A_ (below_step (hb_ HB.out) hb); clear hb hbox hg; have hcz23_0 := bv_ BK134.out 0; have hcz23_1 := bv_ BK134.out 1; have hcz23_2 := bv_ BK134.out 2; have hfz23_0 := blk_frozen BK134.out 0; have hfz23_1 := blk_frozen BK134.out 1; have hfz23_2 := blk_frozen BK134.out 2) | (go_at_call 52; (with_reducible refine (numeric_integer.calls t133 t138 _ A19.out).mono ?_); rintro e w' ⟨rfl, ⟨nd, rfl⟩⟩; (try first | exact ⟨rfl, _, World.drewN_drewN _ _ _⟩ | exact ⟨rfl, _, Eq.trans (World.drewN_drewN _ _ _) (congrArg (World.drewN _) (Nat.add_assoc _ _ _))⟩)) | (go_at_call 52; (with_reducible refine (numeric_integer.calls t133 t139 _ A20.out).mono ?_); rintro e w' ⟨rfl, ⟨nd, rfl⟩⟩; (try first | exact ⟨rfl, _, World.drewN_drewN _ _ _⟩ | exact ⟨rfl, _, Eq.trans (World.drewN_drewN _ _ _) (congrArg (World.drewN _) (Nat.add_assoc _ _ _))⟩))))
     refine bodyPost_ret (results_list (rs := [.tmp 2, .tmp 3, .tmp 4, .tmp 5]) rfl (by simp) (.tmp (.tmp (.tmp (.tmp .nil))))) rfl ?_
     exact ⟨er_, hb1_ HB.out GE134.out⟩
    ·rw [if_neg c18] at H
     have c18b0 : (t131 == 4) = false := beq_eq_false_iff_ne.mpr c18
     have c18b1 : (t131 != 4) = true := bne_iff_ne.mpr c18
     by_cases c24 : t131 = 5
     ·rw [if_pos c24] at H
      have c24b0 : (t131 == 5) = true := beq_iff_eq.mpr c24
      have c24b1 : (t131 != 5) = false := bne_eq_false_iff_eq.mpr c24
      clear c24
      replace H := ob_ H
      obtain ⟨t140, A250, H⟩ := H
      replace H : ((numeric_integer.f t133).bind fun t141 => (some (t140, 2, t141, true))) = some (r1, r2, r3, r4) := H
      have A25 := A_ A250;clear A250
      replace H := ob_ H
      obtain ⟨t141, A260, H⟩ := H
      replace H : (some (t140, 2, t141, true)) = some (r1, r2, r3, r4) := H
      have A26 := A_ A260;clear A260
      have E2_ := Option.some.inj (A25.out.symm.trans A26.out)
      subst E2_
      simp only [Option.some.injEq, Prod.mk.injEq] at H
      obtain ⟨rfl, rfl, rfl, rfl⟩ := H
      go_enter Tryz.func21, Tryz.ntmps21
      go_wp2_with (first | (go_at_call 25; (with_reducible refine (numeric_find.calls k a0 t131 t132 t133 _ A2.out).mono ?_); rintro e w27 ⟨rfl, hb⟩; replace HB := A_ (below_step (hb_ HB.out) hb); (try clear hb); (try clear hb2); (try clear hk); (try clear hi)) | ((with_reducible refine gate_dst (N := 6) rfl ?_); refine be_ 6 #[.int .i64 0, .int .i64 0, .int .i64 0] 56 ?_; intro gb134 hg w28 hbox hb; have BK134 := A_ (hbox); have GW134 := A_ (sz_ hg (hb_ HB.out)); have GE134 := A_ (sz_ hg (hb_ HB.out)); replace HB := A_ (below_step (hb_ HB.out) hb); clear hb hbox hg; have hcz29_0 := bv_ BK134.out 0; have hcz29_1 := bv_ BK134.out 1; have hcz29_2 := bv_ BK134.out 2; have hfz29_0 := blk_frozen BK134.out 0; have hfz29_1 := blk_frozen BK134.out 1; have hfz29_2 := blk_frozen BK134.out 2) | (go_at_call 52; (with_reducible refine (numeric_integer.calls t133 t140 _ A25.out).mono ?_); rintro e w' ⟨rfl, ⟨nd, rfl⟩⟩; (try first | exact ⟨rfl, _, World.drewN_drewN _ _ _⟩ | exact ⟨rfl, _, Eq.trans (World.drewN_drewN _ _ _) (congrArg (World.drewN _) (Nat.add_assoc _ _ _))⟩)) | (go_at_call 52; (with_reducible refine (numeric_integer.calls t133 t141 _ A26.out).mono ?_); rintro e w' ⟨rfl, ⟨nd, rfl⟩⟩; (try first | exact ⟨rfl, _, World.drewN_drewN _ _ _⟩ | exact ⟨rfl, _, Eq.trans (World.drewN_drewN _ _ _) (congrArg (World.drewN _) (Nat.add_assoc _ _ _))⟩)))
      repeat (go_quiet (first | (go_at_call 25; (with_reducible refine (numeric_find.calls k a0 t131 t132 t133 _ A2.out).mono ?_); rintro e w27 ⟨rfl, hb⟩; replace HB := A_ (below_step (hb_ HB.out) hb); (try clear hb); (try clear hb2); (try clear hk); (try clear hi)) | ((with_reducible refine gate_dst (N := 6) rfl ?_); refine be_ 6 #[.int .i64 0, .int .i64 0, .int .i64 0] 56 ?_; intro gb134 hg w28 hbox hb; have BK134 := A_ (hbox); have GW134 := A_ (sz_ hg (hb_ HB.out)); have GE134 := A_ (sz_ hg (hb_ HB.out)); replace HB := A_ (below_step (hb_ HB.out) hb); clear hb hbox hg; have hcz29_0 := bv_ BK134.out 0; have hcz29_1 := bv_ BK134.out 1; have hcz29_2 := bv_ BK134.out 2; have hfz29_0 := blk_frozen BK134.out 0; have hfz29_1 := blk_frozen BK134.out 1; have hfz29_2 := blk_frozen BK134.out 2) | (go_at_call 52; (with_reducible refine (numeric_integer.calls t133 t140 _ A25.out).mono ?_); rintro e w' ⟨rfl, ⟨nd, rfl⟩⟩; (try first | exact ⟨rfl, _, World.drewN_drewN _ _ _⟩ | exact ⟨rfl, _, Eq.trans (World.drewN_drewN _ _ _) (congrArg (World.drewN _) (Nat.add_assoc _ _ _))⟩)) | (go_at_call 52; (with_reducible refine (numeric_integer.calls t133 t141 _ A26.out).mono ?_); rintro e w' ⟨rfl, ⟨nd, rfl⟩⟩; (try first | exact ⟨rfl, _, World.drewN_drewN _ _ _⟩ | exact ⟨rfl, _, Eq.trans (World.drewN_drewN _ _ _) (congrArg (World.drewN _) (Nat.add_assoc _ _ _))⟩))); try go_wp2_with (first | (go_at_call 25; (with_reducible refine (numeric_find.calls k a0 t131 t132 t133 _ A2.out).mono ?_); rintro e w27 ⟨rfl, hb⟩; replace HB := A_ (below_step (hb_ HB.out) hb); (try clear hb); (try clear hb2); (try clear hk); (try clear hi)) | ((with_reducible refine gate_dst (N := 6) rfl ?_); refine be_ 6 #[.int .i64 0, .int .i64 0, .int .i64 0] 56 ?_; intro gb134 hg w28 hbox hb; have BK134 := A_ (hbox); have GW134 := A_ (sz_ hg (hb_ HB.out)); have GE134 := A_ (sz_ hg (hb_ HB.out)); replace HB := A_ (below_step (hb_ HB.out) hb); clear hb hbox hg; have hcz29_0 := bv_ BK134.out 0; have hcz29_1 := bv_ BK134.out 1; have hcz29_2 := bv_ BK134.out 2; have hfz29_0 := blk_frozen BK134.out 0; have hfz29_1 := blk_frozen BK134.out 1; have hfz29_2 := blk_frozen BK134.out 2) | (go_at_call 52; (with_reducible refine (numeric_integer.calls t133 t140 _ A25.out).mono ?_); rintro e w' ⟨rfl, ⟨nd, rfl⟩⟩; (try first | exact ⟨rfl, _, World.drewN_drewN _ _ _⟩ | exact ⟨rfl, _, Eq.trans (World.drewN_drewN _ _ _) (congrArg (World.drewN _) (Nat.add_assoc _ _ _))⟩)) | (go_at_call 52; (with_reducible refine (numeric_integer.calls t133 t141 _ A26.out).mono ?_); rintro e w' ⟨rfl, ⟨nd, rfl⟩⟩; (try first | exact ⟨rfl, _, World.drewN_drewN _ _ _⟩ | exact ⟨rfl, _, Eq.trans (World.drewN_drewN _ _ _) (congrArg (World.drewN _) (Nat.add_assoc _ _ _))⟩))))
      refine bodyPost_ret (results_list (rs := [.tmp 2, .tmp 3, .tmp 4, .tmp 5]) rfl (by simp) (.tmp (.tmp (.tmp (.tmp .nil))))) rfl ?_
      exact ⟨er_, hb1_ HB.out GE134.out⟩
     ·rw [if_neg c24] at H
      have c24b0 : (t131 == 5) = false := beq_eq_false_iff_ne.mpr c24
      have c24b1 : (t131 != 5) = true := bne_iff_ne.mpr c24
      by_cases c30 : t131 = 6
      ·rw [if_pos c30] at H
       have c30b0 : (t131 == 6) = true := beq_iff_eq.mpr c30
       have c30b1 : (t131 != 6) = false := bne_eq_false_iff_eq.mpr c30
       clear c30
       replace H := ob_ H
       obtain ⟨t142, A310, H⟩ := H
       replace H : ((numeric_float.f t133).bind fun t143 => (some (t142, 1, t143, true))) = some (r1, r2, r3, r4) := H
       have A31 := A_ A310;clear A310
       replace H := ob_ H
       obtain ⟨t143, A320, H⟩ := H
       replace H : (some (t142, 1, t143, true)) = some (r1, r2, r3, r4) := H
       have A32 := A_ A320;clear A320
       have E2_ := Option.some.inj (A31.out.symm.trans A32.out)
       subst E2_
       simp only [Option.some.injEq, Prod.mk.injEq] at H
       obtain ⟨rfl, rfl, rfl, rfl⟩ := H
       go_enter Tryz.func21, Tryz.ntmps21
       go_wp2_with (first | (go_at_call 25; (with_reducible refine (numeric_find.calls k a0 t131 t132 t133 _ A2.out).mono ?_); rintro e w33 ⟨rfl, hb⟩; replace HB := A_ (below_step (hb_ HB.out) hb); (try clear hb); (try clear hb2); (try clear hk); (try clear hi)) | ((with_reducible refine gate_dst (N := 6) rfl ?_); refine be_ 6 #[.int .i64 0, .int .i64 0, .int .i64 0] 56 ?_; intro gb134 hg w34 hbox hb; have BK134 := A_ (hbox); have GW134 := A_ (sz_ hg (hb_ HB.out)); have GE134 := A_ (sz_ hg (hb_ HB.out)); replace HB := A_ (below_step (hb_ HB.out) hb); clear hb hbox hg; have hcz35_0 := bv_ BK134.out 0; have hcz35_1 := bv_ BK134.out 1; have hcz35_2 := bv_ BK134.out 2; have hfz35_0 := blk_frozen BK134.out 0; have hfz35_1 := blk_frozen BK134.out 1; have hfz35_2 := blk_frozen BK134.out 2) | (go_at_call 53; (with_reducible refine (numeric_float.calls t133 t142 _ A31.out).mono ?_); rintro e w' ⟨rfl, ⟨nd, rfl⟩⟩; (try first | exact ⟨rfl, _, World.drewN_drewN _ _ _⟩ | exact ⟨rfl, _, Eq.trans (World.drewN_drewN _ _ _) (congrArg (World.drewN _) (Nat.add_assoc _ _ _))⟩)) | (go_at_call 53; (with_reducible refine (numeric_float.calls t133 t143 _ A32.out).mono ?_); rintro e w' ⟨rfl, ⟨nd, rfl⟩⟩; (try first | exact ⟨rfl, _, World.drewN_drewN _ _ _⟩ | exact ⟨rfl, _, Eq.trans (World.drewN_drewN _ _ _) (congrArg (World.drewN _) (Nat.add_assoc _ _ _))⟩)))
       repeat (go_quiet (first | (go_at_call 25; (with_reducible refine (numeric_find.calls k a0 t131 t132 t133 _ A2.out).mono ?_); rintro e w33 ⟨rfl, hb⟩; replace HB := A_ (below_step (hb_ HB.out) hb); (try clear hb); (try clear hb2); (try clear hk); (try clear hi)) | ((with_reducible refine gate_dst (N := 6) rfl ?_); refine be_ 6 #[.int .i64 0, .int .i64 0, .int .i64 0] 56 ?_; intro gb134 hg w34 hbox hb; have BK134 := A_ (hbox); have GW134 := A_ (sz_ hg (hb_ HB.out)); have GE134 := A_ (sz_ hg (hb_ HB.out)); replace HB := A_ (below_step (hb_ HB.out) hb); clear hb hbox hg; have hcz35_0 := bv_ BK134.out 0; have hcz35_1 := bv_ BK134.out 1; have hcz35_2 := bv_ BK134.out 2; have hfz35_0 := blk_frozen BK134.out 0; have hfz35_1 := blk_frozen BK134.out 1; have hfz35_2 := blk_frozen BK134.out 2) | (go_at_call 53; (with_reducible refine (numeric_float.calls t133 t142 _ A31.out).mono ?_); rintro e w' ⟨rfl, ⟨nd, rfl⟩⟩; (try first | exact ⟨rfl, _, World.drewN_drewN _ _ _⟩ | exact ⟨rfl, _, Eq.trans (World.drewN_drewN _ _ _) (congrArg (World.drewN _) (Nat.add_assoc _ _ _))⟩)) | (go_at_call 53; (with_reducible refine (numeric_float.calls t133 t143 _ A32.out).mono ?_); rintro e w' ⟨rfl, ⟨nd, rfl⟩⟩; (try first | exact ⟨rfl, _, World.drewN_drewN _ _ _⟩ | exact ⟨rfl, _, Eq.trans (World.drewN_drewN _ _ _) (congrArg (World.drewN _) (Nat.add_assoc _ _ _))⟩))); try go_wp2_with (first | (go_at_call 25; (with_reducible refine (numeric_find.calls k a0 t131 t132 t133 _ A2.out).mono ?_); rintro e w33 ⟨rfl, hb⟩; replace HB := A_ (below_step (hb_ HB.out) hb); (try clear hb); (try clear hb2); (try clear hk); (try clear hi)) | ((with_reducible refine gate_dst (N := 6) rfl ?_); refine be_ 6 #[.int .i64 0, .int .i64 0, .int .i64 0] 56 ?_; intro gb134 hg w34 hbox hb; have BK134 := A_ (hbox); have GW134 := A_ (sz_ hg (hb_ HB.out)); have GE134 := A_ (sz_ hg (hb_ HB.out)); replace HB := A_ (below_step (hb_ HB.out) hb); clear hb hbox hg; have hcz35_0 := bv_ BK134.out 0; have hcz35_1 := bv_ BK134.out 1; have hcz35_2 := bv_ BK134.out 2; have hfz35_0 := blk_frozen BK134.out 0; have hfz35_1 := blk_frozen BK134.out 1; have hfz35_2 := blk_frozen BK134.out 2) | (go_at_call 53; (with_reducible refine (numeric_float.calls t133 t142 _ A31.out).mono ?_); rintro e w' ⟨rfl, ⟨nd, rfl⟩⟩; (try first | exact ⟨rfl, _, World.drewN_drewN _ _ _⟩ | exact ⟨rfl, _, Eq.trans (World.drewN_drewN _ _ _) (congrArg (World.drewN _) (Nat.add_assoc _ _ _))⟩)) | (go_at_call 53; (with_reducible refine (numeric_float.calls t133 t143 _ A32.out).mono ?_); rintro e w' ⟨rfl, ⟨nd, rfl⟩⟩; (try first | exact ⟨rfl, _, World.drewN_drewN _ _ _⟩ | exact ⟨rfl, _, Eq.trans (World.drewN_drewN _ _ _) (congrArg (World.drewN _) (Nat.add_assoc _ _ _))⟩))))
       refine bodyPost_ret (results_list (rs := [.tmp 2, .tmp 3, .tmp 4, .tmp 5]) rfl (by simp) (.tmp (.tmp (.tmp (.tmp .nil))))) rfl ?_
       exact ⟨er_, hb1_ HB.out GE134.out⟩
      ·rw [if_neg c30] at H
       have c30b0 : (t131 == 6) = false := beq_eq_false_iff_ne.mpr c30
       have c30b1 : (t131 != 6) = true := bne_iff_ne.mpr c30
       by_cases c36 : t131 = 7
       ·rw [if_pos c36] at H
        have c36b0 : (t131 == 7) = true := beq_iff_eq.mpr c36
        have c36b1 : (t131 != 7) = false := bne_eq_false_iff_eq.mpr c36
        clear c36
        replace H := ob_ H
        obtain ⟨t144, A370, H⟩ := H
        replace H : ((numeric_float.f t133).bind fun t145 => (some (t144, 2, t145, true))) = some (r1, r2, r3, r4) := H
        have A37 := A_ A370;clear A370
        replace H := ob_ H
        obtain ⟨t145, A380, H⟩ := H
        replace H : (some (t144, 2, t145, true)) = some (r1, r2, r3, r4) := H
        have A38 := A_ A380;clear A380
        have E2_ := Option.some.inj (A37.out.symm.trans A38.out)
        subst E2_
        simp only [Option.some.injEq, Prod.mk.injEq] at H
        obtain ⟨rfl, rfl, rfl, rfl⟩ := H
        go_enter Tryz.func21, Tryz.ntmps21
        go_wp2_with (first | (go_at_call 25; (with_reducible refine (numeric_find.calls k a0 t131 t132 t133 _ A2.out).mono ?_); rintro e w39 ⟨rfl, hb⟩; replace HB := A_ (below_step (hb_ HB.out) hb); (try clear hb); (try clear hb2); (try clear hk); (try clear hi)) | ((with_reducible refine gate_dst (N := 6) rfl ?_); refine be_ 6 #[.int .i64 0, .int .i64 0, .int .i64 0] 56 ?_; intro gb134 hg w40 hbox hb; have BK134 := A_ (hbox); have GW134 := A_ (sz_ hg (hb_ HB.out)); have GE134 := A_ (sz_ hg (hb_ HB.out)); replace HB := A_ (below_step (hb_ HB.out) hb); clear hb hbox hg; have hcz41_0 := bv_ BK134.out 0; have hcz41_1 := bv_ BK134.out 1; have hcz41_2 := bv_ BK134.out 2; have hfz41_0 := blk_frozen BK134.out 0; have hfz41_1 := blk_frozen BK134.out 1; have hfz41_2 := blk_frozen BK134.out 2) | (go_at_call 53; (with_reducible refine (numeric_float.calls t133 t144 _ A37.out).mono ?_); rintro e w' ⟨rfl, ⟨nd, rfl⟩⟩; (try first | exact ⟨rfl, _, World.drewN_drewN _ _ _⟩ | exact ⟨rfl, _, Eq.trans (World.drewN_drewN _ _ _) (congrArg (World.drewN _) (Nat.add_assoc _ _ _))⟩)) | (go_at_call 53; (with_reducible refine (numeric_float.calls t133 t145 _ A38.out).mono ?_); rintro e w' ⟨rfl, ⟨nd, rfl⟩⟩; (try first | exact ⟨rfl, _, World.drewN_drewN _ _ _⟩ | exact ⟨rfl, _, Eq.trans (World.drewN_drewN _ _ _) (congrArg (World.drewN _) (Nat.add_assoc _ _ _))⟩)))
        repeat (go_quiet (first | (go_at_call 25; (with_reducible refine (numeric_find.calls k a0 t131 t132 t133 _ A2.out).mono ?_); rintro e w39 ⟨rfl, hb⟩; replace HB := A_ (below_step (hb_ HB.out) hb); (try clear hb); (try clear hb2); (try clear hk); (try clear hi)) | ((with_reducible refine gate_dst (N := 6) rfl ?_); refine be_ 6 #[.int .i64 0, .int .i64 0, .int .i64 0] 56 ?_; intro gb134 hg w40 hbox hb; have BK134 := A_ (hbox); have GW134 := A_ (sz_ hg (hb_ HB.out)); have GE134 := A_ (sz_ hg (hb_ HB.out)); replace HB := A_ (below_step (hb_ HB.out) hb); clear hb hbox hg; have hcz41_0 := bv_ BK134.out 0; have hcz41_1 := bv_ BK134.out 1; have hcz41_2 := bv_ BK134.out 2; have hfz41_0 := blk_frozen BK134.out 0; have hfz41_1 := blk_frozen BK134.out 1; have hfz41_2 := blk_frozen BK134.out 2) | (go_at_call 53; (with_reducible refine (numeric_float.calls t133 t144 _ A37.out).mono ?_); rintro e w' ⟨rfl, ⟨nd, rfl⟩⟩; (try first | exact ⟨rfl, _, World.drewN_drewN _ _ _⟩ | exact ⟨rfl, _, Eq.trans (World.drewN_drewN _ _ _) (congrArg (World.drewN _) (Nat.add_assoc _ _ _))⟩)) | (go_at_call 53; (with_reducible refine (numeric_float.calls t133 t145 _ A38.out).mono ?_); rintro e w' ⟨rfl, ⟨nd, rfl⟩⟩; (try first | exact ⟨rfl, _, World.drewN_drewN _ _ _⟩ | exact ⟨rfl, _, Eq.trans (World.drewN_drewN _ _ _) (congrArg (World.drewN _) (Nat.add_assoc _ _ _))⟩))); try go_wp2_with (first | (go_at_call 25; (with_reducible refine (numeric_find.calls k a0 t131 t132 t133 _ A2.out).mono ?_); rintro e w39 ⟨rfl, hb⟩; replace HB := A_ (below_step (hb_ HB.out) hb); (try clear hb); (try clear hb2); (try clear hk); (try clear hi)) | ((with_reducible refine gate_dst (N := 6) rfl ?_); refine be_ 6 #[.int .i64 0, .int .i64 0, .int .i64 0] 56 ?_; intro gb134 hg w40 hbox hb; have BK134 := A_ (hbox); have GW134 := A_ (sz_ hg (hb_ HB.out)); have GE134 := A_ (sz_ hg (hb_ HB.out)); replace HB := A_ (below_step (hb_ HB.out) hb); clear hb hbox hg; have hcz41_0 := bv_ BK134.out 0; have hcz41_1 := bv_ BK134.out 1; have hcz41_2 := bv_ BK134.out 2; have hfz41_0 := blk_frozen BK134.out 0; have hfz41_1 := blk_frozen BK134.out 1; have hfz41_2 := blk_frozen BK134.out 2) | (go_at_call 53; (with_reducible refine (numeric_float.calls t133 t144 _ A37.out).mono ?_); rintro e w' ⟨rfl, ⟨nd, rfl⟩⟩; (try first | exact ⟨rfl, _, World.drewN_drewN _ _ _⟩ | exact ⟨rfl, _, Eq.trans (World.drewN_drewN _ _ _) (congrArg (World.drewN _) (Nat.add_assoc _ _ _))⟩)) | (go_at_call 53; (with_reducible refine (numeric_float.calls t133 t145 _ A38.out).mono ?_); rintro e w' ⟨rfl, ⟨nd, rfl⟩⟩; (try first | exact ⟨rfl, _, World.drewN_drewN _ _ _⟩ | exact ⟨rfl, _, Eq.trans (World.drewN_drewN _ _ _) (congrArg (World.drewN _) (Nat.add_assoc _ _ _))⟩))))
        refine bodyPost_ret (results_list (rs := [.tmp 2, .tmp 3, .tmp 4, .tmp 5]) rfl (by simp) (.tmp (.tmp (.tmp (.tmp .nil))))) rfl ?_
        exact ⟨er_, hb1_ HB.out GE134.out⟩
       ·rw [if_neg c36] at H
        have c36b0 : (t131 == 7) = false := beq_eq_false_iff_ne.mpr c36
        have c36b1 : (t131 != 7) = true := bne_iff_ne.mpr c36
        by_cases c42 : t131 = 8
        ·rw [if_pos c42] at H
         have c42b0 : (t131 == 8) = true := beq_iff_eq.mpr c42
         have c42b1 : (t131 != 8) = false := bne_eq_false_iff_eq.mpr c42
         clear c42
         replace H := ob_ H
         obtain ⟨⟨t146, t147⟩, A430, H⟩ := H
         replace H : (some (t146, 1, t147, true)) = some (r1, r2, r3, r4) := H
         have A43 := A_ A430;clear A430
         simp only [Option.some.injEq, Prod.mk.injEq] at H
         obtain ⟨rfl, rfl, rfl, rfl⟩ := H
         go_enter Tryz.func21, Tryz.ntmps21
         go_wp2_with (first | (go_at_call 25; (with_reducible refine (numeric_find.calls k a0 t131 t132 t133 _ A2.out).mono ?_); rintro e w44 ⟨rfl, hb⟩; replace HB := A_ (below_step (hb_ HB.out) hb); (try clear hb); (try clear hb2); (try clear hk); (try clear hi)) | ((with_reducible refine gate_dst (N := 6) rfl ?_); refine be_ 6 #[.int .i64 0, .int .i64 0, .int .i64 0] 56 ?_; intro gb134 hg w45 hbox hb; have BK134 := A_ (hbox); have GW134 := A_ (sz_ hg (hb_ HB.out)); have GE134 := A_ (sz_ hg (hb_ HB.out)); replace HB := A_ (below_step (hb_ HB.out) hb); clear hb hbox hg; have hcz46_0 := bv_ BK134.out 0; have hcz46_1 := bv_ BK134.out 1; have hcz46_2 := bv_ BK134.out 2; have hfz46_0 := blk_frozen BK134.out 0; have hfz46_1 := blk_frozen BK134.out 1; have hfz46_2 := blk_frozen BK134.out 2) | (go_at_call 54; (with_reducible refine (numeric_turned.calls t132 t146 t147 _ A43.out).mono ?_); rintro e w' ⟨rfl, ⟨nd, rfl⟩⟩; (try first | exact ⟨rfl, _, World.drewN_drewN _ _ _⟩ | exact ⟨rfl, _, Eq.trans (World.drewN_drewN _ _ _) (congrArg (World.drewN _) (Nat.add_assoc _ _ _))⟩)))
         repeat (go_quiet (first | (go_at_call 25; (with_reducible refine (numeric_find.calls k a0 t131 t132 t133 _ A2.out).mono ?_); rintro e w44 ⟨rfl, hb⟩; replace HB := A_ (below_step (hb_ HB.out) hb); (try clear hb); (try clear hb2); (try clear hk); (try clear hi)) | ((with_reducible refine gate_dst (N := 6) rfl ?_); refine be_ 6 #[.int .i64 0, .int .i64 0, .int .i64 0] 56 ?_; intro gb134 hg w45 hbox hb; have BK134 := A_ (hbox); have GW134 := A_ (sz_ hg (hb_ HB.out)); have GE134 := A_ (sz_ hg (hb_ HB.out)); replace HB := A_ (below_step (hb_ HB.out) hb); clear hb hbox hg; have hcz46_0 := bv_ BK134.out 0; have hcz46_1 := bv_ BK134.out 1; have hcz46_2 := bv_ BK134.out 2; have hfz46_0 := blk_frozen BK134.out 0; have hfz46_1 := blk_frozen BK134.out 1; have hfz46_2 := blk_frozen BK134.out 2) | (go_at_call 54; (with_reducible refine (numeric_turned.calls t132 t146 t147 _ A43.out).mono ?_); rintro e w' ⟨rfl, ⟨nd, rfl⟩⟩; (try first | exact ⟨rfl, _, World.drewN_drewN _ _ _⟩ | exact ⟨rfl, _, Eq.trans (World.drewN_drewN _ _ _) (congrArg (World.drewN _) (Nat.add_assoc _ _ _))⟩))); try go_wp2_with (first | (go_at_call 25; (with_reducible refine (numeric_find.calls k a0 t131 t132 t133 _ A2.out).mono ?_); rintro e w44 ⟨rfl, hb⟩; replace HB := A_ (below_step (hb_ HB.out) hb); (try clear hb); (try clear hb2); (try clear hk); (try clear hi)) | ((with_reducible refine gate_dst (N := 6) rfl ?_); refine be_ 6 #[.int .i64 0, .int .i64 0, .int .i64 0] 56 ?_; intro gb134 hg w45 hbox hb; have BK134 := A_ (hbox); have GW134 := A_ (sz_ hg (hb_ HB.out)); have GE134 := A_ (sz_ hg (hb_ HB.out)); replace HB := A_ (below_step (hb_ HB.out) hb); clear hb hbox hg; have hcz46_0 := bv_ BK134.out 0; have hcz46_1 := bv_ BK134.out 1; have hcz46_2 := bv_ BK134.out 2; have hfz46_0 := blk_frozen BK134.out 0; have hfz46_1 := blk_frozen BK134.out 1; have hfz46_2 := blk_frozen BK134.out 2) | (go_at_call 54; (with_reducible refine (numeric_turned.calls t132 t146 t147 _ A43.out).mono ?_); rintro e w' ⟨rfl, ⟨nd, rfl⟩⟩; (try first | exact ⟨rfl, _, World.drewN_drewN _ _ _⟩ | exact ⟨rfl, _, Eq.trans (World.drewN_drewN _ _ _) (congrArg (World.drewN _) (Nat.add_assoc _ _ _))⟩))))
         refine bodyPost_ret (results_list (rs := [.tmp 2, .tmp 3, .tmp 4, .tmp 5]) rfl (by simp) (.tmp (.tmp (.tmp (.tmp .nil))))) rfl ?_
         exact ⟨er_, hb1_ HB.out GE134.out⟩
        ·rw [if_neg c42] at H
         have c42b0 : (t131 == 8) = false := beq_eq_false_iff_ne.mpr c42
         have c42b1 : (t131 != 8) = true := bne_iff_ne.mpr c42
         by_cases c47 : t131 = 9
         ·rw [if_pos c47] at H
          have c47b0 : (t131 == 9) = true := beq_iff_eq.mpr c47
          have c47b1 : (t131 != 9) = false := bne_eq_false_iff_eq.mpr c47
          clear c47
          replace H := ob_ H
          obtain ⟨t148, A480, H⟩ := H
          replace H : ((numeric_integer.f (wrap64 (32 + (wrap64 ((wrap64 (Int.tdiv t132 4)) * 32))))).bind fun t149 => (some (t148, 1, t149, true))) = some (r1, r2, r3, r4) := H
          have A48 := A_ A480;clear A480
          replace H := ob_ H
          obtain ⟨t149, A490, H⟩ := H
          replace H : (some (t148, 1, t149, true)) = some (r1, r2, r3, r4) := H
          have A49 := A_ A490;clear A490
          simp only [Option.some.injEq, Prod.mk.injEq] at H
          obtain ⟨rfl, rfl, rfl, rfl⟩ := H
          go_enter Tryz.func21, Tryz.ntmps21
          go_wp2_with (first | (go_at_call 25; (with_reducible refine (numeric_find.calls k a0 t131 t132 t133 _ A2.out).mono ?_); rintro e w50 ⟨rfl, hb⟩; replace HB := A_ (below_step (hb_ HB.out) hb); (try clear hb); (try clear hb2); (try clear hk); (try clear hi)) | ((with_reducible refine gate_dst (N := 6) rfl ?_); refine be_ 6 #[.int .i64 0, .int .i64 0, .int .i64 0] 56 ?_; intro gb134 hg w51 hbox hb; have BK134 := A_ (hbox); have GW134 := A_ (sz_ hg (hb_ HB.out)); have GE134 := A_ (sz_ hg (hb_ HB.out)); replace HB := A_ (below_step (hb_ HB.out) hb); clear hb hbox hg; have hcz52_0 := bv_ BK134.out 0; have hcz52_1 := bv_ BK134.out 1; have hcz52_2 := bv_ BK134.out 2; have hfz52_0 := blk_frozen BK134.out 0; have hfz52_1 := blk_frozen BK134.out 1; have hfz52_2 := blk_frozen BK134.out 2) | (go_at_call 53; (with_reducible refine (numeric_float.calls (wrap64 (32 + (wrap64 ((Int.tmod (wrap64 (Int.tdiv t132 2)) 2) * 32)))) t148 _ A48.out).mono ?_); rintro e w' ⟨rfl, ⟨nd, rfl⟩⟩; (try first | exact ⟨rfl, _, World.drewN_drewN _ _ _⟩ | exact ⟨rfl, _, Eq.trans (World.drewN_drewN _ _ _) (congrArg (World.drewN _) (Nat.add_assoc _ _ _))⟩)) | (go_at_call 52; (with_reducible refine (numeric_integer.calls (wrap64 (32 + (wrap64 ((wrap64 (Int.tdiv t132 4)) * 32)))) t149 _ A49.out).mono ?_); rintro e w' ⟨rfl, ⟨nd, rfl⟩⟩; (try first | exact ⟨rfl, _, World.drewN_drewN _ _ _⟩ | exact ⟨rfl, _, Eq.trans (World.drewN_drewN _ _ _) (congrArg (World.drewN _) (Nat.add_assoc _ _ _))⟩)))
          repeat (go_quiet (first | (go_at_call 25; (with_reducible refine (numeric_find.calls k a0 t131 t132 t133 _ A2.out).mono ?_); rintro e w50 ⟨rfl, hb⟩; replace HB := A_ (below_step (hb_ HB.out) hb); (try clear hb); (try clear hb2); (try clear hk); (try clear hi)) | ((with_reducible refine gate_dst (N := 6) rfl ?_); refine be_ 6 #[.int .i64 0, .int .i64 0, .int .i64 0] 56 ?_; intro gb134 hg w51 hbox hb; have BK134 := A_ (hbox); have GW134 := A_ (sz_ hg (hb_ HB.out)); have GE134 := A_ (sz_ hg (hb_ HB.out)); replace HB := A_ (below_step (hb_ HB.out) hb); clear hb hbox hg; have hcz52_0 := bv_ BK134.out 0; have hcz52_1 := bv_ BK134.out 1; have hcz52_2 := bv_ BK134.out 2; have hfz52_0 := blk_frozen BK134.out 0; have hfz52_1 := blk_frozen BK134.out 1; have hfz52_2 := blk_frozen BK134.out 2) | (go_at_call 53; (with_reducible refine (numeric_float.calls (wrap64 (32 + (wrap64 ((Int.tmod (wrap64 (Int.tdiv t132 2)) 2) * 32)))) t148 _ A48.out).mono ?_); rintro e w' ⟨rfl, ⟨nd, rfl⟩⟩; (try first | exact ⟨rfl, _, World.drewN_drewN _ _ _⟩ | exact ⟨rfl, _, Eq.trans (World.drewN_drewN _ _ _) (congrArg (World.drewN _) (Nat.add_assoc _ _ _))⟩)) | (go_at_call 52; (with_reducible refine (numeric_integer.calls (wrap64 (32 + (wrap64 ((wrap64 (Int.tdiv t132 4)) * 32)))) t149 _ A49.out).mono ?_); rintro e w' ⟨rfl, ⟨nd, rfl⟩⟩; (try first | exact ⟨rfl, _, World.drewN_drewN _ _ _⟩ | exact ⟨rfl, _, Eq.trans (World.drewN_drewN _ _ _) (congrArg (World.drewN _) (Nat.add_assoc _ _ _))⟩))); try go_wp2_with (first | (go_at_call 25; (with_reducible refine (numeric_find.calls k a0 t131 t132 t133 _ A2.out).mono ?_); rintro e w50 ⟨rfl, hb⟩; replace HB := A_ (below_step (hb_ HB.out) hb); (try clear hb); (try clear hb2); (try clear hk); (try clear hi)) | ((with_reducible refine gate_dst (N := 6) rfl ?_); refine be_ 6 #[.int .i64 0, .int .i64 0, .int .i64 0] 56 ?_; intro gb134 hg w51 hbox hb; have BK134 := A_ (hbox); have GW134 := A_ (sz_ hg (hb_ HB.out)); have GE134 := A_ (sz_ hg (hb_ HB.out)); replace HB := A_ (below_step (hb_ HB.out) hb); clear hb hbox hg; have hcz52_0 := bv_ BK134.out 0; have hcz52_1 := bv_ BK134.out 1; have hcz52_2 := bv_ BK134.out 2; have hfz52_0 := blk_frozen BK134.out 0; have hfz52_1 := blk_frozen BK134.out 1; have hfz52_2 := blk_frozen BK134.out 2) | (go_at_call 53; (with_reducible refine (numeric_float.calls (wrap64 (32 + (wrap64 ((Int.tmod (wrap64 (Int.tdiv t132 2)) 2) * 32)))) t148 _ A48.out).mono ?_); rintro e w' ⟨rfl, ⟨nd, rfl⟩⟩; (try first | exact ⟨rfl, _, World.drewN_drewN _ _ _⟩ | exact ⟨rfl, _, Eq.trans (World.drewN_drewN _ _ _) (congrArg (World.drewN _) (Nat.add_assoc _ _ _))⟩)) | (go_at_call 52; (with_reducible refine (numeric_integer.calls (wrap64 (32 + (wrap64 ((wrap64 (Int.tdiv t132 4)) * 32)))) t149 _ A49.out).mono ?_); rintro e w' ⟨rfl, ⟨nd, rfl⟩⟩; (try first | exact ⟨rfl, _, World.drewN_drewN _ _ _⟩ | exact ⟨rfl, _, Eq.trans (World.drewN_drewN _ _ _) (congrArg (World.drewN _) (Nat.add_assoc _ _ _))⟩))))
          refine bodyPost_ret (results_list (rs := [.tmp 2, .tmp 3, .tmp 4, .tmp 5]) rfl (by simp) (.tmp (.tmp (.tmp (.tmp .nil))))) rfl ?_
          exact ⟨er_, hb1_ HB.out GE134.out⟩
         ·rw [if_neg c47] at H
          have c47b0 : (t131 == 9) = false := beq_eq_false_iff_ne.mpr c47
          have c47b1 : (t131 != 9) = true := bne_iff_ne.mpr c47
          simp only [Option.some.injEq, Prod.mk.injEq] at H
          obtain ⟨rfl, rfl, rfl, rfl⟩ := H
          go_enter Tryz.func21, Tryz.ntmps21
          go_wp2_with (first | (go_at_call 25; (with_reducible refine (numeric_find.calls k a0 t131 t132 t133 _ A2.out).mono ?_); rintro e w53 ⟨rfl, hb⟩; replace HB := A_ (below_step (hb_ HB.out) hb); (try clear hb); (try clear hb2); (try clear hk); (try clear hi)) | ((with_reducible refine gate_dst (N := 6) rfl ?_); refine be_ 6 #[.int .i64 0, .int .i64 0, .int .i64 0] 56 ?_; intro gb134 hg w54 hbox hb; have BK134 := A_ (hbox); have GW134 := A_ (sz_ hg (hb_ HB.out)); have GE134 := A_ (sz_ hg (hb_ HB.out)); replace HB := A_ (below_step (hb_ HB.out) hb); clear hb hbox hg; have hcz55_0 := bv_ BK134.out 0; have hcz55_1 := bv_ BK134.out 1; have hcz55_2 := bv_ BK134.out 2; have hfz55_0 := blk_frozen BK134.out 0; have hfz55_1 := blk_frozen BK134.out 1; have hfz55_2 := blk_frozen BK134.out 2))
          repeat (go_quiet (first | (go_at_call 25; (with_reducible refine (numeric_find.calls k a0 t131 t132 t133 _ A2.out).mono ?_); rintro e w53 ⟨rfl, hb⟩; replace HB := A_ (below_step (hb_ HB.out) hb); (try clear hb); (try clear hb2); (try clear hk); (try clear hi)) | ((with_reducible refine gate_dst (N := 6) rfl ?_); refine be_ 6 #[.int .i64 0, .int .i64 0, .int .i64 0] 56 ?_; intro gb134 hg w54 hbox hb; have BK134 := A_ (hbox); have GW134 := A_ (sz_ hg (hb_ HB.out)); have GE134 := A_ (sz_ hg (hb_ HB.out)); replace HB := A_ (below_step (hb_ HB.out) hb); clear hb hbox hg; have hcz55_0 := bv_ BK134.out 0; have hcz55_1 := bv_ BK134.out 1; have hcz55_2 := bv_ BK134.out 2; have hfz55_0 := blk_frozen BK134.out 0; have hfz55_1 := blk_frozen BK134.out 1; have hfz55_2 := blk_frozen BK134.out 2)); try go_wp2_with (first | (go_at_call 25; (with_reducible refine (numeric_find.calls k a0 t131 t132 t133 _ A2.out).mono ?_); rintro e w53 ⟨rfl, hb⟩; replace HB := A_ (below_step (hb_ HB.out) hb); (try clear hb); (try clear hb2); (try clear hk); (try clear hi)) | ((with_reducible refine gate_dst (N := 6) rfl ?_); refine be_ 6 #[.int .i64 0, .int .i64 0, .int .i64 0] 56 ?_; intro gb134 hg w54 hbox hb; have BK134 := A_ (hbox); have GW134 := A_ (sz_ hg (hb_ HB.out)); have GE134 := A_ (sz_ hg (hb_ HB.out)); replace HB := A_ (below_step (hb_ HB.out) hb); clear hb hbox hg; have hcz55_0 := bv_ BK134.out 0; have hcz55_1 := bv_ BK134.out 1; have hcz55_2 := bv_ BK134.out 2; have hfz55_0 := blk_frozen BK134.out 0; have hfz55_1 := blk_frozen BK134.out 1; have hfz55_2 := blk_frozen BK134.out 2)))
          refine bodyPost_ret (results_list (rs := [.tmp 2, .tmp 3, .tmp 4, .tmp 5]) rfl (by simp) (.tmp (.tmp (.tmp (.tmp .nil))))) rfl ?_
          exact ⟨er_, hb1_ HB.out GE134.out⟩
def order_known.f (a0 : Int) : Option (Bool) := if a0 = 32 then (some true) else (some (a0 == 64))
theorem order_known.calls (a0 : Int) (r : Bool) (w : World) (h : order_known.f a0 = some r) :
  Calls Tryz.prog 125 #[.int .i64 a0] w fun e w' => e = .returned (.bool r) ∧ Drawn0 w w' := by
 have H : (if a0 = 32 then (some true) else (some (a0 == 64))) = some r := h
 clear h
 by_cases c2 : a0 = 32
 ·rw [if_pos c2] at H
  have c2b0 : (a0 == 32) = true := beq_iff_eq.mpr c2
  have c2b1 : (a0 != 32) = false := bne_eq_false_iff_eq.mpr c2
  clear c2
  obtain rfl := Option.some.inj H
  go_enter Tryz.func125, Tryz.ntmps125
  go_wp2
  go_ret
  exact ⟨sm_, by repeat (first | exact Drawn0.refl _ | apply Drawn0.step)⟩
 ·rw [if_neg c2] at H
  have c2b0 : (a0 == 32) = false := beq_eq_false_iff_ne.mpr c2
  have c2b1 : (a0 != 32) = true := bne_iff_ne.mpr c2
  obtain rfl := Option.some.inj H
  go_enter Tryz.func125, Tryz.ntmps125
  go_wp2
  go_ret
  exact ⟨sm_, by repeat (first | exact Drawn0.refl _ | apply Drawn0.step)⟩
def shape_Cut.f (a0 : Int) (a1 : Int) : Option (Int) := if a0 = 32 then (some (Go.bits .and .u64 a1 4294967295)) else (if a0 = 64 then (some a1) else (some 0))
theorem shape_Cut.calls (a0 : Int) (a1 : Int) (r : Int) (w : World) (h : shape_Cut.f a0 a1 = some r) :
  Calls Tryz.prog 17 #[.int .i64 a0, .int .u64 a1] w fun e w' => e = .returned (.int .u64 r) ∧ Drawn0 w w' := by
 have H : (if a0 = 32 then (some (Go.bits .and .u64 a1 4294967295)) else (if a0 = 64 then (some a1) else (some 0))) = some r := h
 clear h
 by_cases c3 : a0 = 32
 ·rw [if_pos c3] at H
  have c3b0 : (a0 == 32) = true := beq_iff_eq.mpr c3
  have c3b1 : (a0 != 32) = false := bne_eq_false_iff_eq.mpr c3
  clear c3
  obtain rfl := Option.some.inj H
  go_enter Tryz.func17, Tryz.ntmps17
  go_wp2
  go_ret
  exact ⟨sm_, by repeat (first | exact Drawn0.refl _ | apply Drawn0.step)⟩
 ·rw [if_neg c3] at H
  have c3b0 : (a0 == 32) = false := beq_eq_false_iff_ne.mpr c3
  have c3b1 : (a0 != 32) = true := bne_iff_ne.mpr c3
  by_cases c4 : a0 = 64
  ·rw [if_pos c4] at H
   have c4b0 : (a0 == 64) = true := beq_iff_eq.mpr c4
   have c4b1 : (a0 != 64) = false := bne_eq_false_iff_eq.mpr c4
   clear c4
   obtain rfl := Option.some.inj H
   go_enter Tryz.func17, Tryz.ntmps17
   go_wp2
   go_ret
   exact ⟨sm_, by repeat (first | exact Drawn0.refl _ | apply Drawn0.step)⟩
  ·rw [if_neg c4] at H
   have c4b0 : (a0 == 64) = false := beq_eq_false_iff_ne.mpr c4
   have c4b1 : (a0 != 64) = true := bne_iff_ne.mpr c4
   obtain rfl := Option.some.inj H
   go_enter Tryz.func17, Tryz.ntmps17
   go_wp2
   go_ret
   exact ⟨sm_, by repeat (first | exact Drawn0.refl _ | apply Drawn0.step)⟩
def shape_format_low.f (a0_0 : Int) (a0_1 : Int) : Option (Int) := if 0 ≤ (wrap64 (a0_0 - 1)) then (some (wrap64 ((wrap64 (2 - (shl .i64 1 (wrap64 (a0_0 - 1))))) - a0_1))) else (none)
theorem shape_format_low.calls (a0_0 : Int) (a0_1 : Int) (r : Int) (w : World) (h : shape_format_low.f a0_0 a0_1 = some r) :
  Calls Tryz.prog 38 #[.agg #[.int .i64 a0_0, .int .i64 a0_1]] w fun e w' => e = .returned (.int .i64 r) ∧ Below w.heap.size w w' := by
 have hu65 := Tryz.underlying65
 have HB := A_ (Below.refl w.heap.size w)
 have H : (if 0 ≤ (wrap64 (a0_0 - 1)) then (some (wrap64 ((wrap64 (2 - (shl .i64 1 (wrap64 (a0_0 - 1))))) - a0_1))) else (none)) = some r := h
 clear h
 obtain ⟨ji2, hji2⟩ : ∃ j_ : Int, (wrap64 (a0_0 - 1)) = j_ := ⟨_, rfl⟩
 replace H : (if 0 ≤ (ji2) then (some (wrap64 ((wrap64 (2 - (shl .i64 1 (ji2)))) - a0_1))) else (none)) = some r := by first | (rw [hji2] at H; exact H) | (simp only [hji2] at H ⊢; exact H)
 have hji2w : (IntKind.i64.wrap (a0_0 - 1)) = ji2 := (i64_w _).trans hji2
 by_cases c3 : 0 ≤ (ji2)
 ·rw [if_pos c3] at H
  have c3b0 := eq_true c3
  have c3b1 : decide (0 ≤ (ji2)) = true := decide_eq_true c3
  clear c3
  obtain ⟨ji4, hji4⟩ : ∃ j_ : Int, (shl .i64 1 (ji2)) = j_ := ⟨_, rfl⟩
  replace H : (some (wrap64 ((wrap64 (2 - (ji4))) - a0_1))) = some r := by first | (rw [hji4] at H; exact H) | (simp only [hji4] at H ⊢; exact H)
  have hji4_ : (IntKind.i64.wrap (1 * 2 ^ min (ji2).toNat 64)) = ji4 := hji4
  have hji4z : (ji2) ≤ 64 → (IntKind.i64.wrap (1 * 2 ^ (ji2).toNat)) = ji4 := shl_small hji4
  have hji4u : (IntKind.i64.wrap (2 ^ min (ji2).toNat 64)) = ji4 := by have h_ := hji4_; rw [Int.one_mul] at h_; exact h_
  have hji4v : (ji2) ≤ 64 → (IntKind.i64.wrap (2 ^ (ji2).toNat)) = ji4 := fun hle_ => by have h_ := hji4z hle_; rw [Int.one_mul] at h_; exact h_
  have hji4y : (wrap64 (1 * 2 ^ min (ji2).toNat 64)) = ji4 := (i64_w _).symm.trans hji4_
  have hji4x : (ji2) ≤ 64 → (wrap64 (1 * 2 ^ (ji2).toNat)) = ji4 := fun h_ => (i64_w _).symm.trans (hji4z h_)
  obtain rfl := Option.some.inj H
  go_enter Tryz.func38, Tryz.ntmps38
  go_wp2_with (first | ((with_reducible refine gate_dst (N := 1) rfl ?_); refine be_ 1 #[.int .i64 a0_0, .int .i64 a0_1] 65 ?_; intro gb168 hg w5 hbox hb; have BK168 := A_ (hbox); have GW168 := A_ (sz_ hg (hb_ HB.out)); have GE168 := A_ (sz_ hg (hb_ HB.out)); replace HB := A_ (below_step (hb_ HB.out) hb); clear hb hbox hg; have hcz6_0 := bv_ BK168.out 0; have hcz6_1 := bv_ BK168.out 1; have hfz6_0 := blk_frozen BK168.out 0; have hfz6_1 := blk_frozen BK168.out 1))
  repeat (go_quiet (first | ((with_reducible refine gate_dst (N := 1) rfl ?_); refine be_ 1 #[.int .i64 a0_0, .int .i64 a0_1] 65 ?_; intro gb168 hg w5 hbox hb; have BK168 := A_ (hbox); have GW168 := A_ (sz_ hg (hb_ HB.out)); have GE168 := A_ (sz_ hg (hb_ HB.out)); replace HB := A_ (below_step (hb_ HB.out) hb); clear hb hbox hg; have hcz6_0 := bv_ BK168.out 0; have hcz6_1 := bv_ BK168.out 1; have hfz6_0 := blk_frozen BK168.out 0; have hfz6_1 := blk_frozen BK168.out 1)); try go_wp2_with (first | ((with_reducible refine gate_dst (N := 1) rfl ?_); refine be_ 1 #[.int .i64 a0_0, .int .i64 a0_1] 65 ?_; intro gb168 hg w5 hbox hb; have BK168 := A_ (hbox); have GW168 := A_ (sz_ hg (hb_ HB.out)); have GE168 := A_ (sz_ hg (hb_ HB.out)); replace HB := A_ (below_step (hb_ HB.out) hb); clear hb hbox hg; have hcz6_0 := bv_ BK168.out 0; have hcz6_1 := bv_ BK168.out 1; have hfz6_0 := blk_frozen BK168.out 0; have hfz6_1 := blk_frozen BK168.out 1)))
  go_ret
  exact ⟨by first | rfl | (simp [errW_none, errW_some] <;> rfl) | (simp only [← hji2, ← hji4]; first | rfl | (simp [errW_none, errW_some] <;> rfl)) | (simp [*, errW_none, errW_some] <;> rfl), hb1_ HB.out GE168.out⟩
 ·rw [if_neg c3] at H
  exact absurd H (by simp)
def shape_format_ones.f (a0_0 : Int) (a0_1 : Int) : Option (Int) := if 0 ≤ a0_0 then (some (IntKind.u64.wrap ((shl .u64 1 a0_0) - 1))) else (none)
theorem shape_format_ones.calls (a0_0 : Int) (a0_1 : Int) (r : Int) (w : World) (h : shape_format_ones.f a0_0 a0_1 = some r) :
  Calls Tryz.prog 37 #[.agg #[.int .i64 a0_0, .int .i64 a0_1]] w fun e w' => e = .returned (.int .u64 r) ∧ Below w.heap.size w w' := by
 have hu65 := Tryz.underlying65
 have HB := A_ (Below.refl w.heap.size w)
 have H : (if 0 ≤ a0_0 then (some (IntKind.u64.wrap ((shl .u64 1 a0_0) - 1))) else (none)) = some r := h
 clear h
 by_cases c2 : 0 ≤ a0_0
 ·rw [if_pos c2] at H
  have c2b0 := eq_true c2
  have c2b1 : decide (0 ≤ a0_0) = true := decide_eq_true c2
  clear c2
  obtain ⟨ji3, hji3⟩ : ∃ j_ : Int, (shl .u64 1 a0_0) = j_ := ⟨_, rfl⟩
  replace H : (some (IntKind.u64.wrap ((ji3) - 1))) = some r := by first | (rw [hji3] at H; exact H) | (simp only [hji3] at H ⊢; exact H)
  have hji3_ : (IntKind.u64.wrap (1 * 2 ^ min a0_0.toNat 64)) = ji3 := hji3
  have hji3z : a0_0 ≤ 64 → (IntKind.u64.wrap (1 * 2 ^ a0_0.toNat)) = ji3 := shl_small hji3
  have hji3u : (IntKind.u64.wrap (2 ^ min a0_0.toNat 64)) = ji3 := by have h_ := hji3_; rw [Int.one_mul] at h_; exact h_
  have hji3v : a0_0 ≤ 64 → (IntKind.u64.wrap (2 ^ a0_0.toNat)) = ji3 := fun hle_ => by have h_ := hji3z hle_; rw [Int.one_mul] at h_; exact h_
  obtain rfl := Option.some.inj H
  go_enter Tryz.func37, Tryz.ntmps37
  go_wp2_with (first | ((with_reducible refine gate_dst (N := 1) rfl ?_); refine be_ 1 #[.int .i64 a0_0, .int .i64 a0_1] 65 ?_; intro gb164 hg w4 hbox hb; have BK164 := A_ (hbox); have GW164 := A_ (sz_ hg (hb_ HB.out)); have GE164 := A_ (sz_ hg (hb_ HB.out)); replace HB := A_ (below_step (hb_ HB.out) hb); clear hb hbox hg; have hcz5_0 := bv_ BK164.out 0; have hcz5_1 := bv_ BK164.out 1; have hfz5_0 := blk_frozen BK164.out 0; have hfz5_1 := blk_frozen BK164.out 1))
  go_ret
  exact ⟨by first | rfl | (simp [errW_none, errW_some] <;> rfl) | (simp only [← hji3]; first | rfl | (simp [errW_none, errW_some] <;> rfl)) | (simp [*, errW_none, errW_some] <;> rfl), hb1_ HB.out GE164.out⟩
 ·rw [if_neg c2] at H
  exact absurd H (by simp)
def shape_format_split.f (a0_0 : Int) (a0_1 : Int) (a1 : Int) : Option (Int × Int × Bool × Int × Int) := if 0 ≤ (wrap64 (a0_0 + a0_1)) then (if 0 ≤ a0_1 then ((shape_format_ones.f a0_0 a0_1).bind fun t167 => (some (a0_0, a0_1, ((Go.bits .and .u64 (shr .u64 a1 (wrap64 (a0_0 + a0_1))) 1) == 1), Go.bits .and .u64 (shr .u64 a1 a0_1) t167, Go.bits .and .u64 a1 (IntKind.u64.wrap ((shl .u64 1 a0_1) - 1))))) else (none)) else (none)
def shape_format_split.T1 : Bool × List (List Nat × List Nat) := (true, [([], []), ([], []), ([], []), ([2], [2]), ([], []), ([4], [4]), ([3, 5], [3, 5]), ([1, 6], [1, 6]), ([7], [7]), ([8], [8]), ([], []), ([], []), ([11], [11]), ([10, 12], [10, 12]), ([], []), ([14], [14]), ([13, 15], [13, 15]), ([], []), ([], []), ([18], [18]), ([19], [19]), ([20], [20]), ([17, 21], [17, 21]), ([0, 9, 16, 22], [0, 9, 16, 22]), ([23, 15, 0, 1, 2, 3, 4, 5, 6, 7, 8, 9, 10, 11, 12, 13, 14, 15, 16, 17, 18, 19, 20, 21, 22, 23], [23])])
def shape_format_split.B1 : List Nat := [0, 0, 0, 4, 0, 16, 60, 126, 254, 510, 0, 0, 2048, 7168, 0, 16384, 64512, 0, 0, 262144, 786432, 1835008, 4063232, 8388607, 16777215]
theorem shape_format_split.tab1 : rtab .any (opsOf Tryz.f36 1) = shape_format_split.T1 := by kernel_rfl
theorem shape_format_split.bits1 : waitsOk shape_format_split.T1.2 shape_format_split.B1 = true := by kernel_rfl
theorem shape_format_split.calls (a0_0 : Int) (a0_1 : Int) (a1 : Int) (r1 : Int) (r2 : Int) (r3 : Bool) (r4 : Int) (r5 : Int) (w : World) (h : shape_format_split.f a0_0 a0_1 a1 = some (r1, r2, r3, r4, r5)) :
  Calls Tryz.prog 36 #[.agg #[.int .i64 a0_0, .int .i64 a0_1], .int .u64 a1] w fun e w' => e = .returned (.agg #[.int .i64 r1, .int .i64 r2, .bool r3, .int .u64 r4, .int .u64 r5]) ∧ Below w.heap.size w w' := by
 have hu65 := Tryz.underlying65
 have hu69 := Tryz.underlying69
 have HB := A_ (Below.refl w.heap.size w)
 have H : (if 0 ≤ (wrap64 (a0_0 + a0_1)) then (if 0 ≤ a0_1 then ((shape_format_ones.f a0_0 a0_1).bind fun t167 => (some (a0_0, a0_1, ((Go.bits .and .u64 (shr .u64 a1 (wrap64 (a0_0 + a0_1))) 1) == 1), Go.bits .and .u64 (shr .u64 a1 a0_1) t167, Go.bits .and .u64 a1 (IntKind.u64.wrap ((shl .u64 1 a0_1) - 1))))) else (none)) else (none)) = some (r1, r2, r3, r4, r5) := h
 clear h
 obtain ⟨ji3, hji3⟩ : ∃ j_ : Int, (wrap64 (a0_0 + a0_1)) = j_ := ⟨_, rfl⟩
 replace H : (if 0 ≤ (ji3) then (if 0 ≤ a0_1 then ((shape_format_ones.f a0_0 a0_1).bind fun t167 => (some (a0_0, a0_1, ((Go.bits .and .u64 (shr .u64 a1 (ji3)) 1) == 1), Go.bits .and .u64 (shr .u64 a1 a0_1) t167, Go.bits .and .u64 a1 (IntKind.u64.wrap ((shl .u64 1 a0_1) - 1))))) else (none)) else (none)) = some (r1, r2, r3, r4, r5) := by first | (rw [hji3] at H; exact H) | (simp only [hji3] at H ⊢; exact H)
 have hji3w : (IntKind.i64.wrap (a0_0 + a0_1)) = ji3 := (i64_w _).trans hji3
 by_cases c4 : 0 ≤ (ji3)
 ·rw [if_pos c4] at H
  have c4b0 := eq_true c4
  have c4b1 : decide (0 ≤ (ji3)) = true := decide_eq_true c4
  clear c4
  obtain ⟨ji5, hji5⟩ : ∃ j_ : Int, (shr .u64 a1 (ji3)) = j_ := ⟨_, rfl⟩
  replace H : (if 0 ≤ a0_1 then ((shape_format_ones.f a0_0 a0_1).bind fun t167 => (some (a0_0, a0_1, ((Go.bits .and .u64 (ji5) 1) == 1), Go.bits .and .u64 (shr .u64 a1 a0_1) t167, Go.bits .and .u64 a1 (IntKind.u64.wrap ((shl .u64 1 a0_1) - 1))))) else (none)) = some (r1, r2, r3, r4, r5) := by first | (rw [hji5] at H; exact H) | (simp only [hji5] at H ⊢; exact H)
  have hji5_ : (a1 / 2 ^ min (ji3).toNat 64) = ji5 := hji5
  have hji5z : (ji3) ≤ 64 → (a1 / 2 ^ (ji3).toNat) = ji5 := shr_small hji5
  by_cases c6 : 0 ≤ a0_1
  ·rw [if_pos c6] at H
   have c6b0 := eq_true c6
   have c6b1 : decide (0 ≤ a0_1) = true := decide_eq_true c6
   clear c6
   obtain ⟨ji7, hji7⟩ : ∃ j_ : Int, (shr .u64 a1 a0_1) = j_ := ⟨_, rfl⟩
   replace H : ((shape_format_ones.f a0_0 a0_1).bind fun t167 => (some (a0_0, a0_1, ((Go.bits .and .u64 (ji5) 1) == 1), Go.bits .and .u64 (ji7) t167, Go.bits .and .u64 a1 (IntKind.u64.wrap ((shl .u64 1 a0_1) - 1))))) = some (r1, r2, r3, r4, r5) := by first | (rw [hji7] at H; exact H) | (simp only [hji7] at H ⊢; exact H)
   have hji7_ : (a1 / 2 ^ min a0_1.toNat 64) = ji7 := hji7
   have hji7z : a0_1 ≤ 64 → (a1 / 2 ^ a0_1.toNat) = ji7 := shr_small hji7
   replace H := ob_ H
   obtain ⟨t167, A80, H⟩ := H
   replace H : (some (a0_0, a0_1, ((Go.bits .and .u64 (ji5) 1) == 1), Go.bits .and .u64 (ji7) t167, Go.bits .and .u64 a1 (IntKind.u64.wrap ((shl .u64 1 a0_1) - 1)))) = some (r1, r2, r3, r4, r5) := H
   have A8 := A_ A80;clear A80
   have c9b0 := eq_true (of_decide_eq_true (by first | (with_reducible assumption) | assumption) : 0 ≤ a0_1)
   obtain ⟨ji10, hji10⟩ : ∃ j_ : Int, (shl .u64 1 a0_1) = j_ := ⟨_, rfl⟩
   replace H : (some (a0_0, a0_1, ((Go.bits .and .u64 (ji5) 1) == 1), Go.bits .and .u64 (ji7) t167, Go.bits .and .u64 a1 (IntKind.u64.wrap ((ji10) - 1)))) = some (r1, r2, r3, r4, r5) := by first | (rw [hji10] at H; exact H) | (simp only [hji10] at H ⊢; exact H)
   (try rw [hji10] at A8)
   have hji10_ : (IntKind.u64.wrap (1 * 2 ^ min a0_1.toNat 64)) = ji10 := hji10
   have hji10z : a0_1 ≤ 64 → (IntKind.u64.wrap (1 * 2 ^ a0_1.toNat)) = ji10 := shl_small hji10
   have hji10u : (IntKind.u64.wrap (2 ^ min a0_1.toNat 64)) = ji10 := by have h_ := hji10_; rw [Int.one_mul] at h_; exact h_
   have hji10v : a0_1 ≤ 64 → (IntKind.u64.wrap (2 ^ a0_1.toNat)) = ji10 := fun hle_ => by have h_ := hji10z hle_; rw [Int.one_mul] at h_; exact h_
   simp only [Option.some.injEq, Prod.mk.injEq] at H
   obtain ⟨rfl, rfl, rfl, rfl, rfl⟩ := H
   go_enter Tryz.func36, Tryz.ntmps36
   try go_wp2_with (first | ((with_reducible refine gate_dst (N := 2) rfl ?_); refine be_ 2 #[.int .i64 a0_0, .int .i64 a0_1] 65 ?_; intro gb165 hg w11 hbox hb; have BK165 := A_ (hbox); have GW165 := A_ (sz_ hg (hb_ HB.out)); have GE165 := A_ (sz_ hg (hb_ HB.out)); replace HB := A_ (below_step (hb_ HB.out) hb); clear hb hbox hg) | ((with_reducible refine gate_dst (N := 4) rfl ?_); refine be_ 4 #[.int .i64 0, .int .i64 0, .bool false, .int .u64 0, .int .u64 0] 69 ?_; intro gb166 hg w12 hbox hb; have BK166 := A_ (hbox); have GW166 := A_ (sz_ hg (hb1_ HB.out GE165.out)); have GE166 := A_ (sz_ hg (hb1_ HB.out GE165.out)); have NB165_166 := A_ (nl_ hg BK165.out); have NB166_165 := A_ (ng_ hg BK165.out); replace BK165 := A_ (bb_ BK165.out hb); replace HB := A_ (below_step (hb1_ HB.out GE165.out) hb); clear hb hbox hg))
   replace BK165 := A_ (blk_drew BK165.out)
   replace BK166 := A_ (blk_drew BK166.out)
   replace HB := A_ (below_drew1 HB.out)
   refine start_ (n := 25) (S := fun w' => w'.cell? ⟨gb165, 0, none⟩ = some (.int .i64 a0_0) ∧ w'.cell? ⟨gb165, 1, none⟩ = some (.int .i64 a0_1)) (ds := []) #[false, false, false, false, false, false, false, false, false, false, false, false, false, false, false, false, false, false, false, false, false, false, false, false, false] (by kernel_rfl) rfl rfl ⟨bc_ BK165.out 0, bc_ BK165.out 1⟩ (fun hHeld => ?_); refine with_tabW shape_format_split.tab1 shape_format_split.bits1 (fun HT_ HW_ => ?_)
   generalize w12.drew = w13 at BK165 BK166 HB hHeld ⊢
   refine pu_ 1 (some 6) #[false, true, false, false, false, false, false, false, false, false, false, false, false, false, false, false, false, false, false, false, false, false, false, false, false] rfl rfl (any_of HT_.out (by kernel_rfl)) ?_
   refine pu_ 2 (some 7) #[false, true, true, false, false, false, false, false, false, false, false, false, false, false, false, false, false, false, false, false, false, false, false, false, false] rfl rfl (any_of HT_.out (by kernel_rfl)) ?_
   refine pu_ 4 (some 9) #[false, true, true, false, true, false, false, false, false, false, false, false, false, false, false, false, false, false, false, false, false, false, false, false, false] rfl rfl (any_of HT_.out (by kernel_rfl)) ?_
   refine pu_ 10 (some 15) #[false, true, true, false, true, false, false, false, false, false, true, false, false, false, false, false, false, false, false, false, false, false, false, false, false] rfl rfl (any_of HT_.out (by kernel_rfl)) ?_
   refine pu_ 11 (some 16) #[false, true, true, false, true, false, false, false, false, false, true, true, false, false, false, false, false, false, false, false, false, false, false, false, false] rfl rfl (any_of HT_.out (by kernel_rfl)) ?_
   refine pu_ 17 (some 22) #[false, true, true, false, true, false, false, false, false, false, true, true, false, false, false, false, false, true, false, false, false, false, false, false, false] rfl rfl (any_of HT_.out (by kernel_rfl)) ?_
   refine pu_ 18 (some 23) #[false, true, true, false, true, false, false, false, false, false, true, true, false, false, false, false, false, true, true, false, false, false, false, false, false] rfl rfl (any_of HT_.out (by kernel_rfl)) ?_
   refine tk2_ 0 (some 5) #[true, true, true, false, true, false, false, false, false, false, true, true, false, false, false, false, false, true, true, false, false, false, false, false, false] rfl rfl (take_ofW HT_.out HW_.out (by kernel_rfl)) hHeld ?_
   refine tk2_ 3 (some 8) #[true, true, true, true, true, false, false, false, false, false, true, true, false, false, false, false, false, true, true, false, false, false, false, false, false] rfl rfl (take_ofW HT_.out HW_.out (by kernel_rfl)) hHeld ?_
   refine tk2_ 5 (some 10) #[true, true, true, true, true, true, false, false, false, false, true, true, false, false, false, false, false, true, true, false, false, false, false, false, false] rfl rfl (take_ofW HT_.out HW_.out (by kernel_rfl)) hHeld ?_
   refine pu_ 6 (some 11) #[true, true, true, true, true, true, true, false, false, false, true, true, false, false, false, false, false, true, true, false, false, false, false, false, false] rfl rfl (any_of HT_.out (by kernel_rfl)) ?_
   refine pu_ 7 (some 12) #[true, true, true, true, true, true, true, true, false, false, true, true, false, false, false, false, false, true, true, false, false, false, false, false, false] rfl rfl (any_of HT_.out (by kernel_rfl)) ?_
   refine pu_ 8 (some 13) #[true, true, true, true, true, true, true, true, true, false, true, true, false, false, false, false, false, true, true, false, false, false, false, false, false] rfl rfl (any_of HT_.out (by kernel_rfl)) ?_
   refine pu_ 9 (some 14) #[true, true, true, true, true, true, true, true, true, true, true, true, false, false, false, false, false, true, true, false, false, false, false, false, false] rfl rfl (any_of HT_.out (by kernel_rfl)) ?_
   refine tk2_ 12 (some 17) #[true, true, true, true, true, true, true, true, true, true, true, true, true, false, false, false, false, true, true, false, false, false, false, false, false] rfl rfl (take_ofW HT_.out HW_.out (by kernel_rfl)) hHeld ?_
   refine pu_ 13 (some 18) #[true, true, true, true, true, true, true, true, true, true, true, true, true, true, false, false, false, true, true, false, false, false, false, false, false] rfl rfl (any_of HT_.out (by kernel_rfl)) ?_
   refine tk2_ 14 (some 19) #[true, true, true, true, true, true, true, true, true, true, true, true, true, true, true, false, false, true, true, false, false, false, false, false, false] rfl rfl (take_ofW HT_.out HW_.out (by kernel_rfl)) hHeld ?_
   refine tk2_ 19 (some 24) #[true, true, true, true, true, true, true, true, true, true, true, true, true, true, true, false, false, true, true, true, false, false, false, false, false] rfl rfl (take_ofW HT_.out HW_.out (by kernel_rfl)) hHeld ?_
   refine pu_ 20 (some 25) #[true, true, true, true, true, true, true, true, true, true, true, true, true, true, true, false, false, true, true, true, true, false, false, false, false] rfl rfl (any_of HT_.out (by kernel_rfl)) ?_
   refine pu_ 21 (some 26) #[true, true, true, true, true, true, true, true, true, true, true, true, true, true, true, false, false, true, true, true, true, true, false, false, false] rfl rfl (any_of HT_.out (by kernel_rfl)) ?_
   refine pu_ 22 (some 27) #[true, true, true, true, true, true, true, true, true, true, true, true, true, true, true, false, false, true, true, true, true, true, true, false, false] rfl rfl (any_of HT_.out (by kernel_rfl)) ?_
   refine one_ (i := 15) (N := some 20) #[true, true, true, true, true, true, true, true, true, true, true, true, true, true, true, true, false, true, true, true, true, true, true, false, false] rfl rfl (one_of HT_.out (by kernel_rfl)) (by decide) (fun K hK => ?_)
   refine goes_ Tryz.func37 (by kernel_rfl) rfl #[.agg #[.int .i64 a0_0, .int .i64 a0_1]] (by rfl) rfl rfl mp_ ?_
   with_reducible refine (shape_format_ones.calls a0_0 a0_1 t167 _ A8.out).mono ?_
   rintro e w14 ⟨rfl, hb⟩
   refine ⟨_, rfl, ?_⟩
   replace BK165 := A_ (bb_ BK165.out hb)
   replace BK166 := A_ (bb_ BK166.out hb)
   replace HB := A_ (below_step (hb2_ HB.out GE165.out GE166.out) hb);(try clear hb);(try clear hb2);(try clear hk);(try clear hi)
   refine hK.out _ _ ⟨bc_ BK165.out 0, bc_ BK165.out 1⟩ (fun hHeld => ?_)
   clear hK K
   refine norm_ (a' := ?_) ?_ ?_
   rotate_left
   ·show Act.put _ (some 20) _ = _
    simp only [Act.put, lI_, l0_, lS_, i64_w, i32_w]
    rfl
   refine pu_ 16 (some 21) #[true, true, true, true, true, true, true, true, true, true, true, true, true, true, true, true, true, true, true, true, true, true, true, false, false] rfl rfl (any_of HT_.out (by kernel_rfl)) ?_
   refine pu_ 23 (some 28) #[true, true, true, true, true, true, true, true, true, true, true, true, true, true, true, true, true, true, true, true, true, true, true, true, false] rfl rfl (any_of HT_.out (by kernel_rfl)) ?_
   refine one_ (i := 24) (N := none) #[true, true, true, true, true, true, true, true, true, true, true, true, true, true, true, true, true, true, true, true, true, true, true, true, true] rfl rfl (one_of HT_.out (by kernel_rfl)) (by decide) (fun K hK => ?_)
   have hs15 : w14.cell? ⟨gb166, 0, none⟩ = some (.int .i64 0) := bc_ BK166.out 0
   have hfs15 := blk_frozen BK166.out 0
   have hns15_0 := NB165_166.out
   have hms15_0 := NB166_165.out
   have hs16 : w14.cell? ⟨gb166, 1, none⟩ = some (.int .i64 0) := bc_ BK166.out 1
   have hfs16 := blk_frozen BK166.out 1
   have hns16_0 := NB165_166.out
   have hms16_0 := NB166_165.out
   have hs17 : w14.cell? ⟨gb166, 2, none⟩ = some (.bool false) := bc_ BK166.out 2
   have hfs17 := blk_frozen BK166.out 2
   have hns17_0 := NB165_166.out
   have hms17_0 := NB166_165.out
   have hs18 : w14.cell? ⟨gb166, 3, none⟩ = some (.int .u64 0) := bc_ BK166.out 3
   have hfs18 := blk_frozen BK166.out 3
   have hns18_0 := NB165_166.out
   have hms18_0 := NB166_165.out
   have hs19 : w14.cell? ⟨gb166, 4, none⟩ = some (.int .u64 0) := bc_ BK166.out 4
   have hfs19 := blk_frozen BK166.out 4
   have hns19_0 := NB165_166.out
   have hms19_0 := NB166_165.out
   refine skip_ (w1 := ?_) (by rfl) rfl ?_ ?_
   rotate_left
   ·go_simp
    rfl
   refine hK.out _ _ ⟨((cell_far (p := ⟨gb166, _, none⟩) NB165_166.out _).trans (((cell_far (p := ⟨gb166, _, none⟩) NB165_166.out _).trans (((cell_far (p := ⟨gb166, _, none⟩) NB165_166.out _).trans (((cell_far (p := ⟨gb166, _, none⟩) NB165_166.out _).trans (((cell_far (p := ⟨gb166, _, none⟩) NB165_166.out _).trans (hHeld.1)))))))))), ((cell_far (p := ⟨gb166, _, none⟩) NB165_166.out _).trans (((cell_far (p := ⟨gb166, _, none⟩) NB165_166.out _).trans (((cell_far (p := ⟨gb166, _, none⟩) NB165_166.out _).trans (((cell_far (p := ⟨gb166, _, none⟩) NB165_166.out _).trans (((cell_far (p := ⟨gb166, _, none⟩) NB165_166.out _).trans (hHeld.2))))))))))⟩ (fun hHeld => ?_)
   clear hK K
   refine done_ (done_of HT_.out (by kernel_rfl)) ?_
   try go_wp2
   refine bodyPost_ret (results_cell_row rfl _ _ gb166 69 #[.int .i64 a0_0, .int .i64 a0_1, .bool ((Go.bits .and .u64 (ji5) 1) == 1), .int .u64 (Go.bits .and .u64 (ji7) t167), .int .u64 (Go.bits .and .u64 a1 (IntKind.u64.wrap ((ji10) - 1)))] (0, 0) _ rfl (by (with_reducible repeat (first | refine blk_drewN ?_ _ | refine blk_drew ?_ | refine blk_alloc ?_ _)); refine blk_put (cs := #[.int .i64 a0_0, .int .i64 a0_1, .bool ((Go.bits .and .u64 (ji5) 1) == 1), .int .u64 (Go.bits .and .u64 (ji7) t167), .int .u64 0]) ?_ 4 _ rfl; (with_reducible repeat (first | refine blk_drewN ?_ _ | refine blk_drew ?_ | refine blk_alloc ?_ _)); refine blk_put (cs := #[.int .i64 a0_0, .int .i64 a0_1, .bool ((Go.bits .and .u64 (ji5) 1) == 1), .int .u64 0, .int .u64 0]) ?_ 3 _ rfl; (with_reducible repeat (first | refine blk_drewN ?_ _ | refine blk_drew ?_ | refine blk_alloc ?_ _)); refine blk_put (cs := #[.int .i64 a0_0, .int .i64 a0_1, .bool false, .int .u64 0, .int .u64 0]) ?_ 2 _ rfl; (with_reducible repeat (first | refine blk_drewN ?_ _ | refine blk_drew ?_ | refine blk_alloc ?_ _)); refine blk_put (cs := #[.int .i64 a0_0, .int .i64 0, .bool false, .int .u64 0, .int .u64 0]) ?_ 1 _ rfl; (with_reducible repeat (first | refine blk_drewN ?_ _ | refine blk_drew ?_ | refine blk_alloc ?_ _)); refine blk_put (cs := #[.int .i64 0, .int .i64 0, .bool false, .int .u64 0, .int .u64 0]) ?_ 0 _ rfl; (with_reducible repeat (first | refine blk_drewN ?_ _ | refine blk_drew ?_ | refine blk_alloc ?_ _)); exact BK166.out) Tryz.underlying69 rfl (by kernel_rfl)) rfl ?_
   exact ⟨by first | rfl | (simp [errW_none, errW_some] <;> rfl) | (simp only [← hji3, ← hji5, ← hji7, ← hji10]; first | rfl | (simp [errW_none, errW_some] <;> rfl)) | (simp [*, errW_none, errW_some] <;> rfl), hb2_ HB.out GE165.out GE166.out⟩
  ·rw [if_neg c6] at H
   exact absurd H (by simp)
 ·rw [if_neg c4] at H
  exact absurd H (by simp)
def shape_of.f (a0 : Int) : Option (Int × Int × Bool) := if a0 = 32 then (some (8, 23, true)) else (if a0 = 64 then (some (11, 52, true)) else (some (0, 0, false)))
theorem shape_of.calls (a0 : Int) (r1 : Int) (r2 : Int) (r3 : Bool) (w : World) (h : shape_of.f a0 = some (r1, r2, r3)) :
  Calls Tryz.prog 35 #[.int .i64 a0] w fun e w' => e = .returned (.tuple #[.agg #[.int .i64 r1, .int .i64 r2], .bool r3]) ∧ Below w.heap.size w w' := by
 have hu65 := Tryz.underlying65
 have HB := A_ (Below.refl w.heap.size w)
 have H : (if a0 = 32 then (some (8, 23, true)) else (if a0 = 64 then (some (11, 52, true)) else (some (0, 0, false)))) = some (r1, r2, r3) := h
 clear h
 by_cases c2 : a0 = 32
 ·rw [if_pos c2] at H
  have c2b0 : (a0 == 32) = true := beq_iff_eq.mpr c2
  have c2b1 : (a0 != 32) = false := bne_eq_false_iff_eq.mpr c2
  clear c2
  simp only [Option.some.injEq, Prod.mk.injEq] at H
  obtain ⟨rfl, rfl, rfl⟩ := H
  go_enter Tryz.func35, Tryz.ntmps35
  go_wp2_with (first | ((with_reducible refine gate_dst (N := 2) rfl ?_); refine be_ 2 #[.int .i64 0, .int .i64 0] 65 ?_; intro gb163 hg w3 hbox hb; have BK163 := A_ (hbox); have GW163 := A_ (sz_ hg (hb_ HB.out)); have GE163 := A_ (sz_ hg (hb_ HB.out)); replace HB := A_ (below_step (hb_ HB.out) hb); clear hb hbox hg; have hcz4_0 := bv_ BK163.out 0; have hcz4_1 := bv_ BK163.out 1; have hfz4_0 := blk_frozen BK163.out 0; have hfz4_1 := blk_frozen BK163.out 1))
  refine bodyPost_ret (results_ct rfl _ _ gb163 65 #[.int .i64 8, .int .i64 23] (0, 0) _ rfl (by (with_reducible repeat (first | refine blk_drewN ?_ _ | refine blk_drew ?_ | refine blk_alloc ?_ _)); refine blk_put (cs := #[.int .i64 8, .int .i64 0]) ?_ 1 _ rfl; (with_reducible repeat (first | refine blk_drewN ?_ _ | refine blk_drew ?_ | refine blk_alloc ?_ _)); refine blk_put (cs := #[.int .i64 0, .int .i64 0]) ?_ 0 _ rfl; (with_reducible repeat (first | refine blk_drewN ?_ _ | refine blk_drew ?_ | refine blk_alloc ?_ _)); exact BK163.out) Tryz.underlying65 rfl (by kernel_rfl)) rfl ?_
  exact ⟨er_, hb1_ HB.out GE163.out⟩
 ·rw [if_neg c2] at H
  have c2b0 : (a0 == 32) = false := beq_eq_false_iff_ne.mpr c2
  have c2b1 : (a0 != 32) = true := bne_iff_ne.mpr c2
  by_cases c5 : a0 = 64
  ·rw [if_pos c5] at H
   have c5b0 : (a0 == 64) = true := beq_iff_eq.mpr c5
   have c5b1 : (a0 != 64) = false := bne_eq_false_iff_eq.mpr c5
   clear c5
   simp only [Option.some.injEq, Prod.mk.injEq] at H
   obtain ⟨rfl, rfl, rfl⟩ := H
   go_enter Tryz.func35, Tryz.ntmps35
   go_wp2_with (first | ((with_reducible refine gate_dst (N := 2) rfl ?_); refine be_ 2 #[.int .i64 0, .int .i64 0] 65 ?_; intro gb163 hg w6 hbox hb; have BK163 := A_ (hbox); have GW163 := A_ (sz_ hg (hb_ HB.out)); have GE163 := A_ (sz_ hg (hb_ HB.out)); replace HB := A_ (below_step (hb_ HB.out) hb); clear hb hbox hg; have hcz7_0 := bv_ BK163.out 0; have hcz7_1 := bv_ BK163.out 1; have hfz7_0 := blk_frozen BK163.out 0; have hfz7_1 := blk_frozen BK163.out 1))
   refine bodyPost_ret (results_ct rfl _ _ gb163 65 #[.int .i64 11, .int .i64 52] (0, 0) _ rfl (by (with_reducible repeat (first | refine blk_drewN ?_ _ | refine blk_drew ?_ | refine blk_alloc ?_ _)); refine blk_put (cs := #[.int .i64 11, .int .i64 0]) ?_ 1 _ rfl; (with_reducible repeat (first | refine blk_drewN ?_ _ | refine blk_drew ?_ | refine blk_alloc ?_ _)); refine blk_put (cs := #[.int .i64 0, .int .i64 0]) ?_ 0 _ rfl; (with_reducible repeat (first | refine blk_drewN ?_ _ | refine blk_drew ?_ | refine blk_alloc ?_ _)); exact BK163.out) Tryz.underlying65 rfl (by kernel_rfl)) rfl ?_
   exact ⟨er_, hb1_ HB.out GE163.out⟩
  ·rw [if_neg c5] at H
   have c5b0 : (a0 == 64) = false := beq_eq_false_iff_ne.mpr c5
   have c5b1 : (a0 != 64) = true := bne_iff_ne.mpr c5
   simp only [Option.some.injEq, Prod.mk.injEq] at H
   obtain ⟨rfl, rfl, rfl⟩ := H
   go_enter Tryz.func35, Tryz.ntmps35
   go_wp2_with (first | ((with_reducible refine gate_dst (N := 2) rfl ?_); refine be_ 2 #[.int .i64 0, .int .i64 0] 65 ?_; intro gb163 hg w8 hbox hb; have BK163 := A_ (hbox); have GW163 := A_ (sz_ hg (hb_ HB.out)); have GE163 := A_ (sz_ hg (hb_ HB.out)); replace HB := A_ (below_step (hb_ HB.out) hb); clear hb hbox hg; have hcz9_0 := bv_ BK163.out 0; have hcz9_1 := bv_ BK163.out 1; have hfz9_0 := blk_frozen BK163.out 0; have hfz9_1 := blk_frozen BK163.out 1))
   refine bodyPost_ret (results_ct rfl _ _ gb163 65 #[.int .i64 0, .int .i64 0] (0, 0) _ rfl (by (with_reducible repeat (first | refine blk_drewN ?_ _ | refine blk_drew ?_ | refine blk_alloc ?_ _)); refine blk_put (cs := #[.int .i64 0, .int .i64 0]) ?_ 1 _ rfl; (with_reducible repeat (first | refine blk_drewN ?_ _ | refine blk_drew ?_ | refine blk_alloc ?_ _)); refine blk_put (cs := #[.int .i64 0, .int .i64 0]) ?_ 0 _ rfl; (with_reducible repeat (first | refine blk_drewN ?_ _ | refine blk_drew ?_ | refine blk_alloc ?_ _)); exact BK163.out) Tryz.underlying65 rfl (by kernel_rfl)) rfl ?_
   exact ⟨er_, hb1_ HB.out GE163.out⟩
end Go.Proofs.YtnmlmgmljoncoaaGreatDoor.PA
