/- What the Go functions that the statement TopRoots reaches compute, and the mathematics on it, in the order in which one leans on the other; for every input. -/
import Derived.Test.YtnmlmgmljoncoaaGreatDoorVTopRoots1
import Derived.Test.YtnmlmgmljoncoaaGreatDoorMTopRoots0
import Derived.Deep.RegionHeld3
import Derived.Shelf.Small.Bits
import Derived.Shelf.Strconv.Itoa0
import Derived.Shelf.Bits.Mul64
import Derived.Test.YtnmlmgmljoncoaaGreatDoorProg
namespace Go.Proofs.YtnmlmgmljoncoaaGreatDoor.PA
open Go.RowKit Go.Proofs.YtnmlmgmljoncoaaGreatDoorW.PrintWords Go.Proofs.YtnmlmgmljoncoaaGreatDoorW.PrintLast Go.Proofs.YtnmlmgmljoncoaaGreatDoorW.PrintMore
attribute [local go_sem] max2_int min2_int max_two min_two max_three min_three max_four min_four   -- for this text's walks alone
set_option linter.unusedVariables false
set_option linter.unusedSimpArgs false
set_option maxHeartbeats 8000000
set_option maxRecDepth 100000
def numeric_float.f (a0 : Int) : Option (Int) := if a0 = 32 then (some 125) else (some 124)
theorem numeric_float.calls (a0 : Int) (r : Int) (w : World) (h : numeric_float.f a0 = some r) :
  Calls Tryz.prog 53 #[.int .i64 a0] w fun e w' => e = .returned (.int .u8 r) ∧ Drawn0 w w' := by
 have H : (if a0 = 32 then (some 125) else (some 124)) = some r := h
 clear h
 by_cases c2 : a0 = 32
 ·rw [if_pos c2] at H
  have c2b0 : (a0 == 32) = true := beq_iff_eq.mpr c2
  have c2b1 : (a0 != 32) = false := bne_eq_false_iff_eq.mpr c2
  clear c2
  obtain rfl := Option.some.inj H
  go_enter Tryz.func53, Tryz.ntmps53
  go_wp2
  go_ret
  exact ⟨sm_, by repeat (first | exact Drawn0.refl _ | apply Drawn0.step)⟩
 ·rw [if_neg c2] at H
  have c2b0 : (a0 == 32) = false := beq_eq_false_iff_ne.mpr c2
  have c2b1 : (a0 != 32) = true := bne_iff_ne.mpr c2
  obtain rfl := Option.some.inj H
  go_enter Tryz.func53, Tryz.ntmps53
  go_wp2
  go_ret
  exact ⟨sm_, by repeat (first | exact Drawn0.refl _ | apply Drawn0.step)⟩
def numeric_integer.f (a0 : Int) : Option (Int) := if a0 = 32 then (some 127) else (some 126)
theorem numeric_integer.calls (a0 : Int) (r : Int) (w : World) (h : numeric_integer.f a0 = some r) :
  Calls Tryz.prog 52 #[.int .i64 a0] w fun e w' => e = .returned (.int .u8 r) ∧ Drawn0 w w' := by
 have H : (if a0 = 32 then (some 127) else (some 126)) = some r := h
 clear h
 by_cases c2 : a0 = 32
 ·rw [if_pos c2] at H
  have c2b0 : (a0 == 32) = true := beq_iff_eq.mpr c2
  have c2b1 : (a0 != 32) = false := bne_eq_false_iff_eq.mpr c2
  clear c2
  obtain rfl := Option.some.inj H
  go_enter Tryz.func52, Tryz.ntmps52
  go_wp2
  go_ret
  exact ⟨sm_, by repeat (first | exact Drawn0.refl _ | apply Drawn0.step)⟩
 ·rw [if_neg c2] at H
  have c2b0 : (a0 == 32) = false := beq_eq_false_iff_ne.mpr c2
  have c2b1 : (a0 != 32) = true := bne_iff_ne.mpr c2
  obtain rfl := Option.some.inj H
  go_enter Tryz.func52, Tryz.ntmps52
  go_wp2
  go_ret
  exact ⟨sm_, by repeat (first | exact Drawn0.refl _ | apply Drawn0.step)⟩
def numeric_turned.f (a0 : Int) : Option (Int × Int) := if a0 = 0 then (some (126, 127)) else (if a0 ≤ 4 then ((numeric_float.f (wrap64 (32 + (wrap64 ((wrap64 (Int.tdiv (wrap64 (a0 - 1)) 2)) * 32))))).bind fun t123 => (some (t123, 127))) else (if a0 ≤ 6 then (some (127, 126)) else (if a0 ≤ 10 then ((numeric_float.f (wrap64 (32 + (wrap64 ((wrap64 (Int.tdiv (wrap64 (a0 - 7)) 2)) * 32))))).bind fun t124 => (some (t124, 126))) else (if a0 = 15 then (some (124, 125)) else (if a0 = 20 then (some (125, 124)) else (if a0 ≤ 19 then ((numeric_integer.f (wrap64 (32 + (wrap64 ((wrap64 (Int.tdiv (Int.tmod (wrap64 (a0 - 11)) 5) 2)) * 32))))).bind fun t125 => ((numeric_float.f (wrap64 (32 + (wrap64 ((wrap64 (Int.tdiv (wrap64 (a0 - 11)) 5)) * 32))))).bind fun t126 => (some (t125, t126)))) else (if a0 ≤ 22 then ((numeric_float.f (wrap64 (32 + (wrap64 ((wrap64 (a0 - 21)) * 32))))).bind fun t127 => ((numeric_integer.f (wrap64 (32 + (wrap64 ((wrap64 (a0 - 21)) * 32))))).bind fun t128 => (some (t127, t128)))) else ((numeric_integer.f (wrap64 (32 + (wrap64 ((wrap64 (a0 - 23)) * 32))))).bind fun t129 => ((numeric_float.f (wrap64 (32 + (wrap64 ((wrap64 (a0 - 23)) * 32))))).bind fun t130 => (some (t129, t130)))))))))))
theorem numeric_turned.calls (a0 : Int) (r1 : Int) (r2 : Int) (w : World) (h : numeric_turned.f a0 = some (r1, r2)) :
  Calls Tryz.prog 54 #[.int .i64 a0] w fun e w' => e = .returned (.tuple #[.int .u8 r1, .int .u8 r2]) ∧ Drawn0 w w' := by
 have H : (if a0 = 0 then (some (126, 127)) else (if a0 ≤ 4 then ((numeric_float.f (wrap64 (32 + (wrap64 ((wrap64 (Int.tdiv (wrap64 (a0 - 1)) 2)) * 32))))).bind fun t123 => (some (t123, 127))) else (if a0 ≤ 6 then (some (127, 126)) else (if a0 ≤ 10 then ((numeric_float.f (wrap64 (32 + (wrap64 ((wrap64 (Int.tdiv (wrap64 (a0 - 7)) 2)) * 32))))).bind fun t124 => (some (t124, 126))) else (if a0 = 15 then (some (124, 125)) else (if a0 = 20 then (some (125, 124)) else (if a0 ≤ 19 then ((numeric_integer.f (wrap64 (32 + (wrap64 ((wrap64 (Int.tdiv (Int.tmod (wrap64 (a0 - 11)) 5) 2)) * 32))))).bind fun t125 => ((numeric_float.f (wrap64 (32 + (wrap64 ((wrap64 (Int.tdiv (wrap64 (a0 - 11)) 5)) * 32))))).bind fun t126 => (some (t125, t126)))) else (if a0 ≤ 22 then ((numeric_float.f (wrap64 (32 + (wrap64 ((wrap64 (a0 - 21)) * 32))))).bind fun t127 => ((numeric_integer.f (wrap64 (32 + (wrap64 ((wrap64 (a0 - 21)) * 32))))).bind fun t128 => (some (t127, t128)))) else ((numeric_integer.f (wrap64 (32 + (wrap64 ((wrap64 (a0 - 23)) * 32))))).bind fun t129 => ((numeric_float.f (wrap64 (32 + (wrap64 ((wrap64 (a0 - 23)) * 32))))).bind fun t130 => (some (t129, t130)))))))))))) = some (r1, r2) := h
 clear h
 by_cases c2 : a0 = 0
 ·rw [if_pos c2] at H
  have c2b0 : (a0 == 0) = true := beq_iff_eq.mpr c2
  have c2b1 : (a0 != 0) = false := bne_eq_false_iff_eq.mpr c2
  clear c2
  simp only [Option.some.injEq, Prod.mk.injEq] at H
  obtain ⟨rfl, rfl⟩ := H
  go_enter Tryz.func54, Tryz.ntmps54
  go_wp2
  go_ret2
  exact ⟨sm_, by repeat (first | exact Drawn0.refl _ | apply Drawn0.step)⟩
 ·rw [if_neg c2] at H
  have c2b0 : (a0 == 0) = false := beq_eq_false_iff_ne.mpr c2
  have c2b1 : (a0 != 0) = true := bne_iff_ne.mpr c2
  by_cases c3 : a0 ≤ 4
  ·rw [if_pos c3] at H
   have c3b0 : decide (a0 ≤ 4) = true := decide_eq_true c3
   clear c3
   replace H := ob_ H
   obtain ⟨t123, A40, H⟩ := H
   replace H : (some (t123, 127)) = some (r1, r2) := H
   have A4 := A_ A40;clear A40
   simp only [Option.some.injEq, Prod.mk.injEq] at H
   obtain ⟨rfl, rfl⟩ := H
   go_enter Tryz.func54, Tryz.ntmps54
   go_wp2_with (first | ((with_reducible refine gate_callee (f := 53) rfl ?_); refine goesL_ (some 15) rfl rfl Tryz.func53 (by kernel_rfl) rfl #[.int .i64 (wrap64 (32 + (wrap64 ((wrap64 (Int.tdiv (wrap64 (a0 - 1)) 2)) * 32))))] rfl mp_ ?_; (with_reducible refine (numeric_float.calls (wrap64 (32 + (wrap64 ((wrap64 (Int.tdiv (wrap64 (a0 - 1)) 2)) * 32)))) t123 _ A4.out).mono ?_); rintro e w' ⟨rfl, ⟨nd, rfl⟩⟩; refine ⟨_, rfl, ?_⟩))
   go_ret2
   exact ⟨sm_, by repeat (first | exact Drawn0.refl _ | apply Drawn0.step)⟩
  ·rw [if_neg c3] at H
   have c3b0 : decide (a0 ≤ 4) = false := decide_eq_false c3
   clear c3
   by_cases c5 : a0 ≤ 6
   ·rw [if_pos c5] at H
    have c5b0 : decide (a0 ≤ 6) = true := decide_eq_true c5
    clear c5
    simp only [Option.some.injEq, Prod.mk.injEq] at H
    obtain ⟨rfl, rfl⟩ := H
    go_enter Tryz.func54, Tryz.ntmps54
    go_wp2
    go_ret2
    exact ⟨sm_, by repeat (first | exact Drawn0.refl _ | apply Drawn0.step)⟩
   ·rw [if_neg c5] at H
    have c5b0 : decide (a0 ≤ 6) = false := decide_eq_false c5
    clear c5
    by_cases c6 : a0 ≤ 10
    ·rw [if_pos c6] at H
     have c6b0 : decide (a0 ≤ 10) = true := decide_eq_true c6
     clear c6
     replace H := ob_ H
     obtain ⟨t124, A70, H⟩ := H
     replace H : (some (t124, 126)) = some (r1, r2) := H
     have A7 := A_ A70;clear A70
     simp only [Option.some.injEq, Prod.mk.injEq] at H
     obtain ⟨rfl, rfl⟩ := H
     go_enter Tryz.func54, Tryz.ntmps54
     go_wp2_with (first | ((with_reducible refine gate_callee (f := 53) rfl ?_); refine goesL_ (some 27) rfl rfl Tryz.func53 (by kernel_rfl) rfl #[.int .i64 (wrap64 (32 + (wrap64 ((wrap64 (Int.tdiv (wrap64 (a0 - 7)) 2)) * 32))))] rfl mp_ ?_; (with_reducible refine (numeric_float.calls (wrap64 (32 + (wrap64 ((wrap64 (Int.tdiv (wrap64 (a0 - 7)) 2)) * 32)))) t124 _ A7.out).mono ?_); rintro e w' ⟨rfl, ⟨nd, rfl⟩⟩; refine ⟨_, rfl, ?_⟩))
     go_ret2
     exact ⟨sm_, by repeat (first | exact Drawn0.refl _ | apply Drawn0.step)⟩
    ·rw [if_neg c6] at H
     have c6b0 : decide (a0 ≤ 10) = false := decide_eq_false c6
     clear c6
     by_cases c8 : a0 = 15
     ·rw [if_pos c8] at H
      have c8b0 : (a0 == 15) = true := beq_iff_eq.mpr c8
      have c8b1 : (a0 != 15) = false := bne_eq_false_iff_eq.mpr c8
      clear c8
      simp only [Option.some.injEq, Prod.mk.injEq] at H
      obtain ⟨rfl, rfl⟩ := H
      go_enter Tryz.func54, Tryz.ntmps54
      go_wp2
      go_ret2
      exact ⟨sm_, by repeat (first | exact Drawn0.refl _ | apply Drawn0.step)⟩
     ·rw [if_neg c8] at H
      have c8b0 : (a0 == 15) = false := beq_eq_false_iff_ne.mpr c8
      have c8b1 : (a0 != 15) = true := bne_iff_ne.mpr c8
      by_cases c9 : a0 = 20
      ·rw [if_pos c9] at H
       have c9b0 : (a0 == 20) = true := beq_iff_eq.mpr c9
       have c9b1 : (a0 != 20) = false := bne_eq_false_iff_eq.mpr c9
       clear c9
       simp only [Option.some.injEq, Prod.mk.injEq] at H
       obtain ⟨rfl, rfl⟩ := H
       go_enter Tryz.func54, Tryz.ntmps54
       go_wp2
       go_ret2
       exact ⟨sm_, by repeat (first | exact Drawn0.refl _ | apply Drawn0.step)⟩
      ·rw [if_neg c9] at H
       have c9b0 : (a0 == 20) = false := beq_eq_false_iff_ne.mpr c9
       have c9b1 : (a0 != 20) = true := bne_iff_ne.mpr c9
       by_cases c10 : a0 ≤ 19
       ·rw [if_pos c10] at H
        have c10b0 : decide (a0 ≤ 19) = true := decide_eq_true c10
        clear c10
        replace H := ob_ H
        obtain ⟨t125, A110, H⟩ := H
        replace H : ((numeric_float.f (wrap64 (32 + (wrap64 ((wrap64 (Int.tdiv (wrap64 (a0 - 11)) 5)) * 32))))).bind fun t126 => (some (t125, t126))) = some (r1, r2) := H
        have A11 := A_ A110;clear A110
        replace H := ob_ H
        obtain ⟨t126, A120, H⟩ := H
        replace H : (some (t125, t126)) = some (r1, r2) := H
        have A12 := A_ A120;clear A120
        simp only [Option.some.injEq, Prod.mk.injEq] at H
        obtain ⟨rfl, rfl⟩ := H
        go_enter Tryz.func54, Tryz.ntmps54
        go_wp2_with (first | ((with_reducible refine gate_callee (f := 52) rfl ?_); refine goesL_ (some 43) rfl rfl Tryz.func52 (by kernel_rfl) rfl #[.int .i64 (wrap64 (32 + (wrap64 ((wrap64 (Int.tdiv (Int.tmod (wrap64 (a0 - 11)) 5) 2)) * 32))))] rfl mp_ ?_; (with_reducible refine (numeric_integer.calls (wrap64 (32 + (wrap64 ((wrap64 (Int.tdiv (Int.tmod (wrap64 (a0 - 11)) 5) 2)) * 32)))) t125 _ A11.out).mono ?_); rintro e w' ⟨rfl, ⟨nd, rfl⟩⟩; refine ⟨_, rfl, ?_⟩) | ((with_reducible refine gate_callee (f := 53) rfl ?_); refine goesL_ (some 49) rfl rfl Tryz.func53 (by kernel_rfl) rfl #[.int .i64 (wrap64 (32 + (wrap64 ((wrap64 (Int.tdiv (wrap64 (a0 - 11)) 5)) * 32))))] rfl mp_ ?_; (with_reducible refine (numeric_float.calls (wrap64 (32 + (wrap64 ((wrap64 (Int.tdiv (wrap64 (a0 - 11)) 5)) * 32)))) t126 _ A12.out).mono ?_); rintro e w' ⟨rfl, ⟨nd, rfl⟩⟩; refine ⟨_, rfl, ?_⟩))
        go_ret2
        exact ⟨sm_, by repeat (first | exact Drawn0.refl _ | apply Drawn0.step)⟩
       ·rw [if_neg c10] at H
        have c10b0 : decide (a0 ≤ 19) = false := decide_eq_false c10
        clear c10
        by_cases c13 : a0 ≤ 22
        ·rw [if_pos c13] at H
         have c13b0 : decide (a0 ≤ 22) = true := decide_eq_true c13
         clear c13
         replace H := ob_ H
         obtain ⟨t127, A140, H⟩ := H
         replace H : ((numeric_integer.f (wrap64 (32 + (wrap64 ((wrap64 (a0 - 21)) * 32))))).bind fun t128 => (some (t127, t128))) = some (r1, r2) := H
         have A14 := A_ A140;clear A140
         replace H := ob_ H
         obtain ⟨t128, A150, H⟩ := H
         replace H : (some (t127, t128)) = some (r1, r2) := H
         have A15 := A_ A150;clear A150
         simp only [Option.some.injEq, Prod.mk.injEq] at H
         obtain ⟨rfl, rfl⟩ := H
         go_enter Tryz.func54, Tryz.ntmps54
         go_wp2_with (first | ((with_reducible refine gate_callee (f := 53) rfl ?_); refine goesL_ (some 57) rfl rfl Tryz.func53 (by kernel_rfl) rfl #[.int .i64 (wrap64 (32 + (wrap64 ((wrap64 (a0 - 21)) * 32))))] rfl mp_ ?_; (with_reducible refine (numeric_float.calls (wrap64 (32 + (wrap64 ((wrap64 (a0 - 21)) * 32)))) t127 _ A14.out).mono ?_); rintro e w' ⟨rfl, ⟨nd, rfl⟩⟩; refine ⟨_, rfl, ?_⟩) | ((with_reducible refine gate_callee (f := 52) rfl ?_); refine goesL_ (some 62) rfl rfl Tryz.func52 (by kernel_rfl) rfl #[.int .i64 (wrap64 (32 + (wrap64 ((wrap64 (a0 - 21)) * 32))))] rfl mp_ ?_; (with_reducible refine (numeric_integer.calls (wrap64 (32 + (wrap64 ((wrap64 (a0 - 21)) * 32)))) t128 _ A15.out).mono ?_); rintro e w' ⟨rfl, ⟨nd, rfl⟩⟩; refine ⟨_, rfl, ?_⟩))
         go_ret2
         exact ⟨sm_, by repeat (first | exact Drawn0.refl _ | apply Drawn0.step)⟩
        ·rw [if_neg c13] at H
         have c13b0 : decide (a0 ≤ 22) = false := decide_eq_false c13
         clear c13
         replace H := ob_ H
         obtain ⟨t129, A160, H⟩ := H
         replace H : ((numeric_float.f (wrap64 (32 + (wrap64 ((wrap64 (a0 - 23)) * 32))))).bind fun t130 => (some (t129, t130))) = some (r1, r2) := H
         have A16 := A_ A160;clear A160
         replace H := ob_ H
         obtain ⟨t130, A170, H⟩ := H
         replace H : (some (t129, t130)) = some (r1, r2) := H
         have A17 := A_ A170;clear A170
         simp only [Option.some.injEq, Prod.mk.injEq] at H
         obtain ⟨rfl, rfl⟩ := H
         go_enter Tryz.func54, Tryz.ntmps54
         go_wp2_with (first | ((with_reducible refine gate_callee (f := 52) rfl ?_); refine goesL_ (some 67) rfl rfl Tryz.func52 (by kernel_rfl) rfl #[.int .i64 (wrap64 (32 + (wrap64 ((wrap64 (a0 - 23)) * 32))))] rfl mp_ ?_; (with_reducible refine (numeric_integer.calls (wrap64 (32 + (wrap64 ((wrap64 (a0 - 23)) * 32)))) t129 _ A16.out).mono ?_); rintro e w' ⟨rfl, ⟨nd, rfl⟩⟩; refine ⟨_, rfl, ?_⟩) | ((with_reducible refine gate_callee (f := 53) rfl ?_); refine goesL_ (some 72) rfl rfl Tryz.func53 (by kernel_rfl) rfl #[.int .i64 (wrap64 (32 + (wrap64 ((wrap64 (a0 - 23)) * 32))))] rfl mp_ ?_; (with_reducible refine (numeric_float.calls (wrap64 (32 + (wrap64 ((wrap64 (a0 - 23)) * 32)))) t130 _ A17.out).mono ?_); rintro e w' ⟨rfl, ⟨nd, rfl⟩⟩; refine ⟨_, rfl, ?_⟩))
         go_ret2
         exact ⟨sm_, by repeat (first | exact Drawn0.refl _ | apply Drawn0.step)⟩
def numeric_Kind.f (k : Nat) (a0 : Int) : Option (Int × Int × Int × Bool) := (numeric_find.f k a0).bind fun bt131 => (if bt131.1 = 1 then ((numeric_integer.f bt131.2.2).bind fun t135 => (some (t135, 1, 127, true))) else (if bt131.1 = 2 then ((numeric_integer.f bt131.2.2).bind fun t136 => (some (t136, 2, 127, true))) else (if bt131.1 = 3 then ((numeric_float.f bt131.2.2).bind fun t137 => (some (t137, 2, 127, true))) else (if bt131.1 = 4 then ((numeric_integer.f bt131.2.2).bind fun t138 => ((numeric_integer.f bt131.2.2).bind fun t139 => (some (t138, 1, t139, true)))) else (if bt131.1 = 5 then ((numeric_integer.f bt131.2.2).bind fun t140 => ((numeric_integer.f bt131.2.2).bind fun t141 => (some (t140, 2, t141, true)))) else (if bt131.1 = 6 then ((numeric_float.f bt131.2.2).bind fun t142 => ((numeric_float.f bt131.2.2).bind fun t143 => (some (t142, 1, t143, true)))) else (if bt131.1 = 7 then ((numeric_float.f bt131.2.2).bind fun t144 => ((numeric_float.f bt131.2.2).bind fun t145 => (some (t144, 2, t145, true)))) else (if bt131.1 = 8 then ((numeric_turned.f bt131.2.1).bind fun bt146 => (some (bt146.1, 1, bt146.2, true))) else (if bt131.1 = 9 then ((numeric_float.f (wrap64 (32 + (wrap64 ((Int.tmod (wrap64 (Int.tdiv bt131.2.1 2)) 2) * 32))))).bind fun t148 => ((numeric_integer.f (wrap64 (32 + (wrap64 ((wrap64 (Int.tdiv bt131.2.1 4)) * 32))))).bind fun t149 => (some (t148, 1, t149, true)))) else (some (0, 0, 0, false)))))))))))
theorem numeric_Kind.mono : ∀ a0 k, LeO (numeric_Kind.f k a0) (numeric_Kind.f (k + 1) a0) := by
 intro a0 k
 unfold numeric_Kind.f
 repeat' first
   | (with_reducible exact numeric_find.mono _ _)
   | (with_reducible exact LeO.refl _)
   | (with_reducible exact LeO.none _)
   | (with_reducible refine LeO.ite ?_ ?_)
   | (with_reducible refine LeO.bind ?_ (fun _ => ?_))
   | exact numeric_find.mono _ _
   | exact LeO.none _
   | refine LeO.ite ?_ ?_
   | refine LeO.bind ?_ (fun _ => ?_)
theorem numeric_Kind.calls (k : Nat) (a0 : Int) (r1 : Int) (r2 : Int) (r3 : Int) (r4 : Bool) (w : World) (h : numeric_Kind.f k a0 = some (r1, r2, r3, r4)) :
  Calls Tryz.prog 21 #[.int .i64 a0] w fun e w' => e = .returned (.tuple #[.int .u8 r1, .int .i64 r2, .int .u8 r3, .bool r4]) ∧ Below w.heap.size w w' := by
 have hu56 := Tryz.underlying56
 have HB := A_ (Below.refl w.heap.size w)
 have H : ((numeric_find.f k a0).bind fun bt131 => (if bt131.1 = 1 then ((numeric_integer.f bt131.2.2).bind fun t135 => (some (t135, 1, 127, true))) else (if bt131.1 = 2 then ((numeric_integer.f bt131.2.2).bind fun t136 => (some (t136, 2, 127, true))) else (if bt131.1 = 3 then ((numeric_float.f bt131.2.2).bind fun t137 => (some (t137, 2, 127, true))) else (if bt131.1 = 4 then ((numeric_integer.f bt131.2.2).bind fun t138 => ((numeric_integer.f bt131.2.2).bind fun t139 => (some (t138, 1, t139, true)))) else (if bt131.1 = 5 then ((numeric_integer.f bt131.2.2).bind fun t140 => ((numeric_integer.f bt131.2.2).bind fun t141 => (some (t140, 2, t141, true)))) else (if bt131.1 = 6 then ((numeric_float.f bt131.2.2).bind fun t142 => ((numeric_float.f bt131.2.2).bind fun t143 => (some (t142, 1, t143, true)))) else (if bt131.1 = 7 then ((numeric_float.f bt131.2.2).bind fun t144 => ((numeric_float.f bt131.2.2).bind fun t145 => (some (t144, 2, t145, true)))) else (if bt131.1 = 8 then ((numeric_turned.f bt131.2.1).bind fun bt146 => (some (bt146.1, 1, bt146.2, true))) else (if bt131.1 = 9 then ((numeric_float.f (wrap64 (32 + (wrap64 ((Int.tmod (wrap64 (Int.tdiv bt131.2.1 2)) 2) * 32))))).bind fun t148 => ((numeric_integer.f (wrap64 (32 + (wrap64 ((wrap64 (Int.tdiv bt131.2.1 4)) * 32))))).bind fun t149 => (some (t148, 1, t149, true)))) else (some (0, 0, 0, false)))))))))))) = some (r1, r2, r3, r4) := h
 clear h
 replace H := ob_ H
 obtain ⟨⟨t131, t132, t133⟩, A20, H⟩ := H
 replace H : (if t131 = 1 then ((numeric_integer.f t133).bind fun t135 => (some (t135, 1, 127, true))) else (if t131 = 2 then ((numeric_integer.f t133).bind fun t136 => (some (t136, 2, 127, true))) else (if t131 = 3 then ((numeric_float.f t133).bind fun t137 => (some (t137, 2, 127, true))) else (if t131 = 4 then ((numeric_integer.f t133).bind fun t138 => ((numeric_integer.f t133).bind fun t139 => (some (t138, 1, t139, true)))) else (if t131 = 5 then ((numeric_integer.f t133).bind fun t140 => ((numeric_integer.f t133).bind fun t141 => (some (t140, 2, t141, true)))) else (if t131 = 6 then ((numeric_float.f t133).bind fun t142 => ((numeric_float.f t133).bind fun t143 => (some (t142, 1, t143, true)))) else (if t131 = 7 then ((numeric_float.f t133).bind fun t144 => ((numeric_float.f t133).bind fun t145 => (some (t144, 2, t145, true)))) else (if t131 = 8 then ((numeric_turned.f t132).bind fun bt146 => (some (bt146.1, 1, bt146.2, true))) else (if t131 = 9 then ((numeric_float.f (wrap64 (32 + (wrap64 ((Int.tmod (wrap64 (Int.tdiv t132 2)) 2) * 32))))).bind fun t148 => ((numeric_integer.f (wrap64 (32 + (wrap64 ((wrap64 (Int.tdiv t132 4)) * 32))))).bind fun t149 => (some (t148, 1, t149, true)))) else (some (0, 0, 0, false))))))))))) = some (r1, r2, r3, r4) := H
 have A2 := A_ A20;clear A20
 by_cases c3 : t131 = 1
 ·rw [if_pos c3] at H
  have c3b0 : (t131 == 1) = true := beq_iff_eq.mpr c3
  have c3b1 : (t131 != 1) = false := bne_eq_false_iff_eq.mpr c3
  clear c3
  replace H := ob_ H
  obtain ⟨t135, A40, H⟩ := H
  replace H : (some (t135, 1, 127, true)) = some (r1, r2, r3, r4) := H
  have A4 := A_ A40;clear A40
  simp only [Option.some.injEq, Prod.mk.injEq] at H
  obtain ⟨rfl, rfl, rfl, rfl⟩ := H
  go_enter Tryz.func21, Tryz.ntmps21
  go_wp2_with (first | (go_at_call 25; (with_reducible refine (numeric_find.calls k a0 t131 t132 t133 _ A2.out).mono ?_); rintro e w5 ⟨rfl, hb⟩; replace HB := A_ (below_step (hb_ HB.out) hb); (try clear hb); (try clear hb2); (try clear hk); (try clear hi)) | ((with_reducible refine gate_dst (N := 6) rfl ?_); refine be_ 6 #[.int .i64 0, .int .i64 0, .int .i64 0] 56 ?_; intro gb134 hg w6 hbox hb; have BK134 := A_ (hbox); have GW134 := A_ (sz_ hg (hb_ HB.out)); have GE134 := A_ (sz_ hg (hb_ HB.out)); replace HB := A_ (below_step (hb_ HB.out) hb); clear hb hbox hg; have hcz7_0 := bv_ BK134.out 0; have hcz7_1 := bv_ BK134.out 1; have hcz7_2 := bv_ BK134.out 2; have hfz7_0 := blk_frozen BK134.out 0; have hfz7_1 := blk_frozen BK134.out 1; have hfz7_2 := blk_frozen BK134.out 2) | (go_at_call 52; (with_reducible refine (numeric_integer.calls t133 t135 _ A4.out).mono ?_); rintro e w' ⟨rfl, ⟨nd, rfl⟩⟩; (try first | exact ⟨rfl, _, World.drewN_drewN _ _ _⟩ | exact ⟨rfl, _, Eq.trans (World.drewN_drewN _ _ _) (congrArg (World.drewN _) (Nat.add_assoc _ _ _))⟩)))
  repeat (go_quiet (first | (go_at_call 25; (with_reducible refine (numeric_find.calls k a0 t131 t132 t133 _ A2.out).mono ?_); rintro e w5 ⟨rfl, hb⟩; replace HB := A_ (below_step (hb_ HB.out) hb); (try clear hb); (try clear hb2); (try clear hk); (try clear hi)) | ((with_reducible refine gate_dst (N := 6) rfl ?_); refine be_ 6 #[.int .i64 0, .int .i64 0, .int .i64 0] 56 ?_; intro gb134 hg w6 hbox hb; have BK134 := A_ (hbox); have GW134 := A_ (sz_ hg (hb_ HB.out)); have GE134 := A_ (sz_ hg (hb_ HB.out)); replace HB := A_ (below_step (hb_ HB.out) hb); clear hb hbox hg; have hcz7_0 := bv_ BK134.out 0; have hcz7_1 := bv_ BK134.out 1; have hcz7_2 := bv_ BK134.out 2; have hfz7_0 := blk_frozen BK134.out 0; have hfz7_1 := blk_frozen BK134.out 1; have hfz7_2 := blk_frozen BK134.out 2) | (go_at_call 52; (with_reducible refine (numeric_integer.calls t133 t135 _ A4.out).mono ?_); rintro e w' ⟨rfl, ⟨nd, rfl⟩⟩; (try first | exact ⟨rfl, _, World.drewN_drewN _ _ _⟩ | exact ⟨rfl, _, Eq.trans (World.drewN_drewN _ _ _) (congrArg (World.drewN _) (Nat.add_assoc _ _ _))⟩))); try go_wp2_with (first | (go_at_call 25; (with_reducible refine (numeric_find.calls k a0 t131 t132 t133 _ A2.out).mono ?_); rintro e w5 ⟨rfl, hb⟩; replace HB := A_ (below_step (hb_ HB.out) hb); (try clear hb); (try clear hb2); (try clear hk); (try clear hi)) | ((with_reducible refine gate_dst (N := 6) rfl ?_); refine be_ 6 #[.int .i64 0, .int .i64 0, .int .i64 0] 56 ?_; intro gb134 hg w6 hbox hb; have BK134 := A_ (hbox); have GW134 := A_ (sz_ hg (hb_ HB.out)); have GE134 := A_ (sz_ hg (hb_ HB.out)); replace HB := A_ (below_step (hb_ HB.out) hb); clear hb hbox hg; have hcz7_0 := bv_ BK134.out 0; have hcz7_1 := bv_ BK134.out 1; have hcz7_2 := bv_ BK134.out 2; have hfz7_0 := blk_frozen BK134.out 0; have hfz7_1 := blk_frozen BK134.out 1; have hfz7_2 := blk_frozen BK134.out 2) | (go_at_call 52; (with_reducible refine (numeric_integer.calls t133 t135 _ A4.out).mono ?_); rintro e w' ⟨rfl, ⟨nd, rfl⟩⟩; (try first | exact ⟨rfl, _, World.drewN_drewN _ _ _⟩ | exact ⟨rfl, _, Eq.trans (World.drewN_drewN _ _ _) (congrArg (World.drewN _) (Nat.add_assoc _ _ _))⟩))))
  refine bodyPost_ret (results_list (rs := [.tmp 2, .tmp 3, .tmp 4, .tmp 5]) rfl (by simp) (.tmp (.tmp (.tmp (.tmp .nil))))) rfl ?_
  exact ⟨er_, hb1_ HB.out GE134.out⟩
 ·rw [if_neg c3] at H
  have c3b0 : (t131 == 1) = false := beq_eq_false_iff_ne.mpr c3
  have c3b1 : (t131 != 1) = true := bne_iff_ne.mpr c3
  by_cases c8 : t131 = 2
  ·rw [if_pos c8] at H
   have c8b0 : (t131 == 2) = true := beq_iff_eq.mpr c8
   have c8b1 : (t131 != 2) = false := bne_eq_false_iff_eq.mpr c8
   clear c8
   replace H := ob_ H
   obtain ⟨t136, A90, H⟩ := H
   replace H : (some (t136, 2, 127, true)) = some (r1, r2, r3, r4) := H
   have A9 := A_ A90;clear A90
   simp only [Option.some.injEq, Prod.mk.injEq] at H
   obtain ⟨rfl, rfl, rfl, rfl⟩ := H
   go_enter Tryz.func21, Tryz.ntmps21
   go_wp2_with (first | (go_at_call 25; (with_reducible refine (numeric_find.calls k a0 t131 t132 t133 _ A2.out).mono ?_); rintro e w10 ⟨rfl, hb⟩; replace HB := A_ (below_step (hb_ HB.out) hb); (try clear hb); (try clear hb2); (try clear hk); (try clear hi)) | ((with_reducible refine gate_dst (N := 6) rfl ?_); refine be_ 6 #[.int .i64 0, .int .i64 0, .int .i64 0] 56 ?_; intro gb134 hg w11 hbox hb; have BK134 := A_ (hbox); have GW134 := A_ (sz_ hg (hb_ HB.out)); have GE134 := A_ (sz_ hg (hb_ HB.out)); replace HB := A_ (below_step (hb_ HB.out) hb); clear hb hbox hg; have hcz12_0 := bv_ BK134.out 0; have hcz12_1 := bv_ BK134.out 1; have hcz12_2 := bv_ BK134.out 2; have hfz12_0 := blk_frozen BK134.out 0; have hfz12_1 := blk_frozen BK134.out 1; have hfz12_2 := blk_frozen BK134.out 2) | (go_at_call 52; (with_reducible refine (numeric_integer.calls t133 t136 _ A9.out).mono ?_); rintro e w' ⟨rfl, ⟨nd, rfl⟩⟩; (try first | exact ⟨rfl, _, World.drewN_drewN _ _ _⟩ | exact ⟨rfl, _, Eq.trans (World.drewN_drewN _ _ _) (congrArg (World.drewN _) (Nat.add_assoc _ _ _))⟩)))
   repeat (go_quiet (first | (go_at_call 25; (with_reducible refine (numeric_find.calls k a0 t131 t132 t133 _ A2.out).mono ?_); rintro e w10 ⟨rfl, hb⟩; replace HB := A_ (below_step (hb_ HB.out) hb); (try clear hb); (try clear hb2); (try clear hk); (try clear hi)) | ((with_reducible refine gate_dst (N := 6) rfl ?_); refine be_ 6 #[.int .i64 0, .int .i64 0, .int .i64 0] 56 ?_; intro gb134 hg w11 hbox hb; have BK134 := A_ (hbox); have GW134 := A_ (sz_ hg (hb_ HB.out)); have GE134 := A_ (sz_ hg (hb_ HB.out)); replace HB := A_ (below_step (hb_ HB.out) hb); clear hb hbox hg; have hcz12_0 := bv_ BK134.out 0; have hcz12_1 := bv_ BK134.out 1; have hcz12_2 := bv_ BK134.out 2; have hfz12_0 := blk_frozen BK134.out 0; have hfz12_1 := blk_frozen BK134.out 1; have hfz12_2 := blk_frozen BK134.out 2) | (go_at_call 52; (with_reducible refine (numeric_integer.calls t133 t136 _ A9.out).mono ?_); rintro e w' ⟨rfl, ⟨nd, rfl⟩⟩; (try first | exact ⟨rfl, _, World.drewN_drewN _ _ _⟩ | exact ⟨rfl, _, Eq.trans (World.drewN_drewN _ _ _) (congrArg (World.drewN _) (Nat.add_assoc _ _ _))⟩))); try go_wp2_with (first | (go_at_call 25; (with_reducible refine (numeric_find.calls k a0 t131 t132 t133 _ A2.out).mono ?_); rintro e w10 ⟨rfl, hb⟩; replace HB := A_ (below_step (hb_ HB.out) hb); (try clear hb); (try clear hb2); (try clear hk); (try clear hi)) | ((with_reducible refine gate_dst (N := 6) rfl ?_); refine be_ 6 #[.int .i64 0, .int .i64 0, .int .i64 0] 56 ?_; intro gb134 hg w11 hbox hb; have BK134 := A_ (hbox); have GW134 := A_ (sz_ hg (hb_ HB.out)); have GE134 := A_ (sz_ hg (hb_ HB.out)); replace HB := A_ (below_step (hb_ HB.out) hb); clear hb hbox hg; have hcz12_0 := bv_ BK134.out 0; have hcz12_1 := bv_ BK134.out 1; have hcz12_2 := bv_ BK134.out 2; have hfz12_0 := blk_frozen BK134.out 0; have hfz12_1 := blk_frozen BK134.out 1; have hfz12_2 := blk_frozen BK134.out 2) | (go_at_call 52; (with_reducible refine (numeric_integer.calls t133 t136 _ A9.out).mono ?_); rintro e w' ⟨rfl, ⟨nd, rfl⟩⟩; (try first | exact ⟨rfl, _, World.drewN_drewN _ _ _⟩ | exact ⟨rfl, _, Eq.trans (World.drewN_drewN _ _ _) (congrArg (World.drewN _) (Nat.add_assoc _ _ _))⟩))))
   refine bodyPost_ret (results_list (rs := [.tmp 2, .tmp 3, .tmp 4, .tmp 5]) rfl (by simp) (.tmp (.tmp (.tmp (.tmp .nil))))) rfl ?_
   exact ⟨er_, hb1_ HB.out GE134.out⟩
  ·rw [if_neg c8] at H
   have c8b0 : (t131 == 2) = false := beq_eq_false_iff_ne.mpr c8
   have c8b1 : (t131 != 2) = true := bne_iff_ne.mpr c8
   by_cases c13 : t131 = 3
   ·rw [if_pos c13] at H
    have c13b0 : (t131 == 3) = true := beq_iff_eq.mpr c13
    have c13b1 : (t131 != 3) = false := bne_eq_false_iff_eq.mpr c13
    clear c13
    replace H := ob_ H
    obtain ⟨t137, A140, H⟩ := H
    replace H : (some (t137, 2, 127, true)) = some (r1, r2, r3, r4) := H
    have A14 := A_ A140;clear A140
    simp only [Option.some.injEq, Prod.mk.injEq] at H
    obtain ⟨rfl, rfl, rfl, rfl⟩ := H
    go_enter Tryz.func21, Tryz.ntmps21
    go_wp2_with (first | (go_at_call 25; (with_reducible refine (numeric_find.calls k a0 t131 t132 t133 _ A2.out).mono ?_); rintro e w15 ⟨rfl, hb⟩; replace HB := A_ (below_step (hb_ HB.out) hb); (try clear hb); (try clear hb2); (try clear hk); (try clear hi)) | ((with_reducible refine gate_dst (N := 6) rfl ?_); refine be_ 6 #[.int .i64 0, .int .i64 0, .int .i64 0] 56 ?_; intro gb134 hg w16 hbox hb; have BK134 := A_ (hbox); have GW134 := A_ (sz_ hg (hb_ HB.out)); have GE134 := A_ (sz_ hg (hb_ HB.out)); replace HB := A_ (below_step (hb_ HB.out) hb); clear hb hbox hg; have hcz17_0 := bv_ BK134.out 0; have hcz17_1 := bv_ BK134.out 1; have hcz17_2 := bv_ BK134.out 2; have hfz17_0 := blk_frozen BK134.out 0; have hfz17_1 := blk_frozen BK134.out 1; have hfz17_2 := blk_frozen BK134.out 2) | (go_at_call 53; (with_reducible refine (numeric_float.calls t133 t137 _ A14.out).mono ?_); rintro e w' ⟨rfl, ⟨nd, rfl⟩⟩; (try first | exact ⟨rfl, _, World.drewN_drewN _ _ _⟩ | exact ⟨rfl, _, Eq.trans (World.drewN_drewN _ _ _) (congrArg (World.drewN _) (Nat.add_assoc _ _ _))⟩)))
    repeat (go_quiet (first | (go_at_call 25; (with_reducible refine (numeric_find.calls k a0 t131 t132 t133 _ A2.out).mono ?_); rintro e w15 ⟨rfl, hb⟩; replace HB := A_ (below_step (hb_ HB.out) hb); (try clear hb); (try clear hb2); (try clear hk); (try clear hi)) | ((with_reducible refine gate_dst (N := 6) rfl ?_); refine be_ 6 #[.int .i64 0, .int .i64 0, .int .i64 0] 56 ?_; intro gb134 hg w16 hbox hb; have BK134 := A_ (hbox); have GW134 := A_ (sz_ hg (hb_ HB.out)); have GE134 := A_ (sz_ hg (hb_ HB.out)); replace HB := A_ (below_step (hb_ HB.out) hb); clear hb hbox hg; have hcz17_0 := bv_ BK134.out 0; have hcz17_1 := bv_ BK134.out 1; have hcz17_2 := bv_ BK134.out 2; have hfz17_0 := blk_frozen BK134.out 0; have hfz17_1 := blk_frozen BK134.out 1; have hfz17_2 := blk_frozen BK134.out 2) | (go_at_call 53; (with_reducible refine (numeric_float.calls t133 t137 _ A14.out).mono ?_); rintro e w' ⟨rfl, ⟨nd, rfl⟩⟩; (try first | exact ⟨rfl, _, World.drewN_drewN _ _ _⟩ | exact ⟨rfl, _, Eq.trans (World.drewN_drewN _ _ _) (congrArg (World.drewN _) (Nat.add_assoc _ _ _))⟩))); try go_wp2_with (first | (go_at_call 25; (with_reducible refine (numeric_find.calls k a0 t131 t132 t133 _ A2.out).mono ?_); rintro e w15 ⟨rfl, hb⟩; replace HB := A_ (below_step (hb_ HB.out) hb); (try clear hb); (try clear hb2); (try clear hk); (try clear hi)) | ((with_reducible refine gate_dst (N := 6) rfl ?_); refine be_ 6 #[.int .i64 0, .int .i64 0, .int .i64 0] 56 ?_; intro gb134 hg w16 hbox hb; have BK134 := A_ (hbox); have GW134 := A_ (sz_ hg (hb_ HB.out)); have GE134 := A_ (sz_ hg (hb_ HB.out)); replace HB := A_ (below_step (hb_ HB.out) hb); clear hb hbox hg; have hcz17_0 := bv_ BK134.out 0; have hcz17_1 := bv_ BK134.out 1; have hcz17_2 := bv_ BK134.out 2; have hfz17_0 := blk_frozen BK134.out 0; have hfz17_1 := blk_frozen BK134.out 1; have hfz17_2 := blk_frozen BK134.out 2) | (go_at_call 53; (with_reducible refine (numeric_float.calls t133 t137 _ A14.out).mono ?_); rintro e w' ⟨rfl, ⟨nd, rfl⟩⟩; (try first | exact ⟨rfl, _, World.drewN_drewN _ _ _⟩ | exact ⟨rfl, _, Eq.trans (World.drewN_drewN _ _ _) (congrArg (World.drewN _) (Nat.add_assoc _ _ _))⟩))))
    refine bodyPost_ret (results_list (rs := [.tmp 2, .tmp 3, .tmp 4, .tmp 5]) rfl (by simp) (.tmp (.tmp (.tmp (.tmp .nil))))) rfl ?_
    exact ⟨er_, hb1_ HB.out GE134.out⟩
   ·rw [if_neg c13] at H
    have c13b0 : (t131 == 3) = false := beq_eq_false_iff_ne.mpr c13
    have c13b1 : (t131 != 3) = true := bne_iff_ne.mpr c13
    by_cases c18 : t131 = 4
    ·rw [if_pos c18] at H
     have c18b0 : (t131 == 4) = true := beq_iff_eq.mpr c18
     have c18b1 : (t131 != 4) = false := bne_eq_false_iff_eq.mpr c18
     clear c18
     replace H := ob_ H
     obtain ⟨t138, A190, H⟩ := H
     replace H : ((numeric_integer.f t133).bind fun t139 => (some (t138, 1, t139, true))) = some (r1, r2, r3, r4) := H
     have A19 := A_ A190;clear A190
     replace H := ob_ H
     obtain ⟨t139, A200, H⟩ := H
     replace H : (some (t138, 1, t139, true)) = some (r1, r2, r3, r4) := H
     have A20 := A_ A200;clear A200
     have E2_ := Option.some.inj (A19.out.symm.trans A20.out)
     subst E2_
     simp only [Option.some.injEq, Prod.mk.injEq] at H
     obtain ⟨rfl, rfl, rfl, rfl⟩ := H
     go_enter Tryz.func21, Tryz.ntmps21
     go_wp2_with (first | (go_at_call 25; (with_reducible refine (numeric_find.calls k a0 t131 t132 t133 _ A2.out).mono ?_); rintro e w21 ⟨rfl, hb⟩; replace HB := A_ (below_step (hb_ HB.out) hb); (try clear hb); (try clear hb2); (try clear hk); (try clear hi)) | ((with_reducible refine gate_dst (N := 6) rfl ?_); refine be_ 6 #[.int .i64 0, .int .i64 0, .int .i64 0] 56 ?_; intro gb134 hg w22 hbox hb; have BK134 := A_ (hbox); have GW134 := A_ (sz_ hg (hb_ HB.out)); have GE134 := A_ (sz_ hg (hb_ HB.out)); replace HB := A_ (below_step (hb_ HB.out) hb); clear hb hbox hg; have hcz23_0 := bv_ BK134.out 0; have hcz23_1 := bv_ BK134.out 1; have hcz23_2 := bv_ BK134.out 2; have hfz23_0 := blk_frozen BK134.out 0; have hfz23_1 := blk_frozen BK134.out 1; have hfz23_2 := blk_frozen BK134.out 2) | (go_at_call 52; (with_reducible refine (numeric_integer.calls t133 t138 _ A19.out).mono ?_); rintro e w' ⟨rfl, ⟨nd, rfl⟩⟩; (try first | exact ⟨rfl, _, World.drewN_drewN _ _ _⟩ | exact ⟨rfl, _, Eq.trans (World.drewN_drewN _ _ _) (congrArg (World.drewN _) (Nat.add_assoc _ _ _))⟩)) | (go_at_call 52; (with_reducible refine (numeric_integer.calls t133 t139 _ A20.out).mono ?_); rintro e w' ⟨rfl, ⟨nd, rfl⟩⟩; (try first | exact ⟨rfl, _, World.drewN_drewN _ _ _⟩ | exact ⟨rfl, _, Eq.trans (World.drewN_drewN _ _ _) (congrArg (World.drewN _) (Nat.add_assoc _ _ _))⟩)))
     repeat (go_quiet (first | (go_at_call 25; (with_reducible refine (numeric_find.calls k a0 t131 t132 t133 _ A2.out).mono ?_); rintro e w21 ⟨rfl, hb⟩; replace HB := A_ (below_step (hb_ HB.out) hb); (try clear hb); (try clear hb2); (try clear hk); (try clear hi)) | ((with_reducible refine gate_dst (N := 6) rfl ?_); refine be_ 6 #[.int .i64 0, .int .i64 0, .int .i64 0] 56 ?_; intro gb134 hg w22 hbox hb; have BK134 := A_ (hbox); have GW134 := A_ (sz_ hg (hb_ HB.out)); have GE134 := A_ (sz_ hg (hb_ HB.out)); replace HB := A_ (below_step (hb_ HB.out) hb); clear hb hbox hg; have hcz23_0 := bv_ BK134.out 0; have hcz23_1 := bv_ BK134.out 1; have hcz23_2 := bv_ BK134.out 2; have hfz23_0 := blk_frozen BK134.out 0; have hfz23_1 := blk_frozen BK134.out 1; have hfz23_2 := blk_frozen BK134.out 2) | (go_at_call 52; (with_reducible refine (numeric_integer.calls t133 t138 _ A19.out).mono ?_); rintro e w' ⟨rfl, ⟨nd, rfl⟩⟩; (try first | exact ⟨rfl, _, World.drewN_drewN _ _ _⟩ | exact ⟨rfl, _, Eq.trans (World.drewN_drewN _ _ _) (congrArg (World.drewN _) (Nat.add_assoc _ _ _))⟩)) | (go_at_call 52; (with_reducible refine (numeric_integer.calls t133 t139 _ A20.out).mono ?_); rintro e w' ⟨rfl, ⟨nd, rfl⟩⟩; (try first | exact ⟨rfl, _, World.drewN_drewN _ _ _⟩ | exact ⟨rfl, _, Eq.trans (World.drewN_drewN _ _ _) (congrArg (World.drewN _) (Nat.add_assoc _ _ _))⟩))); try go_wp2_with (first | (go_at_call 25; (with_reducible refine (numeric_find.calls k a0 t131 t132 t133 _ A2.out).mono ?_); rintro e w21 ⟨rfl, hb⟩; replace HB := A_ (below_step (hb_ HB.out) hb); (try clear hb); (try clear hb2); (try clear hk); (try clear hi)) | ((with_reducible refine gate_dst (N := 6) rfl ?_); refine be_ 6 #[.int .i64 0, .int .i64 0, .int .i64 0] 56 ?_; intro gb134 hg w22 hbox hb; have BK134 := A_ (hbox); have GW134 := A_ (sz_ hg (hb_ HB.out)); have GE134 := A_ (sz_ hg (hb_ HB.out)); replace HB := A_ (below_step (hb_ HB.out) hb); clear hb hbox hg; have hcz23_0 := bv_ BK134.out 0; have hcz23_1 := bv_ BK134.out 1; have hcz23_2 := bv_ BK134.out 2; have hfz23_0 := blk_frozen BK134.out 0; have hfz23_1 := blk_frozen BK134.out 1; have hfz23_2 := blk_frozen BK134.out 2) | (go_at_call 52; (with_reducible refine (numeric_integer.calls t133 t138 _ A19.out).mono ?_); rintro e w' ⟨rfl, ⟨nd, rfl⟩⟩; (try first | exact ⟨rfl, _, World.drewN_drewN _ _ _⟩ | exact ⟨rfl, _, Eq.trans (World.drewN_drewN _ _ _) (congrArg (World.drewN _) (Nat.add_assoc _ _ _))⟩)) | (go_at_call 52; (with_reducible refine (numeric_integer.calls t133 t139 _ A20.out).mono ?_); rintro e w' ⟨rfl, ⟨nd, rfl⟩⟩; (try first | exact ⟨rfl, _, World.drewN_drewN _ _ _⟩ | exact ⟨rfl, _, Eq.trans (World.drewN_drewN _ _ _) (congrArg (World.drewN _) (Nat.add_assoc _ _ _))⟩))))
     refine bodyPost_ret (results_list (rs := [.tmp 2, .tmp 3, .tmp 4, .tmp 5]) rfl (by simp) (.tmp (.tmp (.tmp (.tmp .nil))))) rfl ?_
     exact ⟨er_, hb1_ HB.out GE134.out⟩
    ·rw [if_neg c18] at H
     have c18b0 : (t131 == 4) = false := beq_eq_false_iff_ne.mpr c18
     have c18b1 : (t131 != 4) = true := bne_iff_ne.mpr c18
     by_cases c24 : t131 = 5
     ·rw [if_pos c24] at H
      have c24b0 : (t131 == 5) = true := beq_iff_eq.mpr c24
      have c24b1 : (t131 != 5) = false := bne_eq_false_iff_eq.mpr c24
      clear c24
      replace H := ob_ H
      obtain ⟨t140, A250, H⟩ := H
      replace H : ((numeric_integer.f t133).bind fun t141 => (some (t140, 2, t141, true))) = some (r1, r2, r3, r4) := H
      have A25 := A_ A250;clear A250
      replace H := ob_ H
      obtain ⟨t141, A260, H⟩ := H
      replace H : (some (t140, 2, t141, true)) = some (r1, r2, r3, r4) := H
      have A26 := A_ A260;clear A260
      have E2_ := Option.some.inj (A25.out.symm.trans A26.out)
      subst E2_
      simp only [Option.some.injEq, Prod.mk.injEq] at H
      obtain ⟨rfl, rfl, rfl, rfl⟩ := H
      go_enter Tryz.func21, Tryz.ntmps21
      go_wp2_with (first | (go_at_call 25; (with_reducible refine (numeric_find.calls k a0 t131 t132 t133 _ A2.out).mono ?_); rintro e w27 ⟨rfl, hb⟩; replace HB := A_ (below_step (hb_ HB.out) hb); (try clear hb); (try clear hb2); (try clear hk); (try clear hi)) | ((with_reducible refine gate_dst (N := 6) rfl ?_); refine be_ 6 #[.int .i64 0, .int .i64 0, .int .i64 0] 56 ?_; intro gb134 hg w28 hbox hb; have BK134 := A_ (hbox); have GW134 := A_ (sz_ hg (hb_ HB.out)); have GE134 := A_ (sz_ hg (hb_ HB.out)); replace HB := A_ (below_step (hb_ HB.out) hb); clear hb hbox hg; have hcz29_0 := bv_ BK134.out 0; have hcz29_1 := bv_ BK134.out 1; have hcz29_2 := bv_ BK134.out 2; have hfz29_0 := blk_frozen BK134.out 0; have hfz29_1 := blk_frozen BK134.out 1; have hfz29_2 := blk_frozen BK134.out 2) | (go_at_call 52; (with_reducible refine (numeric_integer.calls t133 t140 _ A25.out).mono ?_); rintro e w' ⟨rfl, ⟨nd, rfl⟩⟩; (try first | exact ⟨rfl, _, World.drewN_drewN _ _ _⟩ | exact ⟨rfl, _, Eq.trans (World.drewN_drewN _ _ _) (congrArg (World.drewN _) (Nat.add_assoc _ _ _))⟩)) | (go_at_call 52; (with_reducible refine (numeric_integer.calls t133 t141 _ A26.out).mono ?_); rintro e w' ⟨rfl, ⟨nd, rfl⟩⟩; (try first | exact ⟨rfl, _, World.drewN_drewN _ _ _⟩ | exact ⟨rfl, _, Eq.trans (World.drewN_drewN _ _ _) (congrArg (World.drewN _) (Nat.add_assoc _ _ _))⟩)))
      repeat (go_quiet (first | (go_at_call 25; (with_reducible refine (numeric_find.calls k a0 t131 t132 t133 _ A2.out).mono ?_); rintro e w27 ⟨rfl, hb⟩; replace HB := A_ (below_step (hb_ HB.out) hb); (try clear hb); (try clear hb2); (try clear hk); (try clear hi)) | ((with_reducible refine gate_dst (N := 6) rfl ?_); refine be_ 6 #[.int .i64 0, .int .i64 0, .int .i64 0] 56 ?_; intro gb134 hg w28 hbox hb; have BK134 := A_ (hbox); have GW134 := A_ (sz_ hg (hb_ HB.out)); have GE134 := A_ (sz_ hg (hb_ HB.out)); replace HB := A_ (below_step (hb_ HB.out) hb); clear hb hbox hg; have hcz29_0 := bv_ BK134.out 0; have hcz29_1 := bv_ BK134.out 1; have hcz29_2 := bv_ BK134.out 2; have hfz29_0 := blk_frozen BK134.out 0; have hfz29_1 := blk_frozen BK134.out 1; have hfz29_2 := blk_frozen BK134.out 2) | (go_at_call 52; (with_reducible refine (numeric_integer.calls t133 t140 _ A25.out).mono ?_); rintro e w' ⟨rfl, ⟨nd, rfl⟩⟩; (try first | exact ⟨rfl, _, World.drewN_drewN _ _ _⟩ | exact ⟨rfl, _, Eq.trans (World.drewN_drewN _ _ _) (congrArg (World.drewN _) (Nat.add_assoc _ _ _))⟩)) | (go_at_call 52; (with_reducible refine (numeric_integer.calls t133 t141 _ A26.out).mono ?_); rintro e w' ⟨rfl, ⟨nd, rfl⟩⟩; (try first | exact ⟨rfl, _, World.drewN_drewN _ _ _⟩ | exact ⟨rfl, _, Eq.trans (World.drewN_drewN _ _ _) (congrArg (World.drewN _) (Nat.add_assoc _ _ _))⟩))); try go_wp2_with (first | (go_at_call 25; (with_reducible refine (numeric_find.calls k a0 t131 t132 t133 _ A2.out).mono ?_); rintro e w27 ⟨rfl, hb⟩; replace HB := A_ (below_step (hb_ HB.out) hb); (try clear hb); (try clear hb2); (try clear hk); (try clear hi)) | ((with_reducible refine gate_dst (N := 6) rfl ?_); refine be_ 6 #[.int .i64 0, .int .i64 0, .int .i64 0] 56 ?_; intro gb134 hg w28 hbox hb; have BK134 := A_ (hbox); have GW134 := A_ (sz_ hg (hb_ HB.out)); have GE134 := A_ (sz_ hg (hb_ HB.out)); replace HB := A_ (below_step (hb_ HB.out) hb); clear hb hbox hg; have hcz29_0 := bv_ BK134.out 0; have hcz29_1 := bv_ BK134.out 1; have hcz29_2 := bv_ BK134.out 2; have hfz29_0 := blk_frozen BK134.out 0; have hfz29_1 := blk_frozen BK134.out 1; have hfz29_2 := blk_frozen BK134.out 2) | (go_at_call 52; (with_reducible refine (numeric_integer.calls t133 t140 _ A25.out).mono ?_); rintro e w' ⟨rfl, ⟨nd, rfl⟩⟩; (try first | exact ⟨rfl, _, World.drewN_drewN _ _ _⟩ | exact ⟨rfl, _, Eq.trans (World.drewN_drewN _ _ _) (congrArg (World.drewN _) (Nat.add_assoc _ _ _))⟩)) | (go_at_call 52; (with_reducible refine (numeric_integer.calls t133 t141 _ A26.out).mono ?_); rintro e w' ⟨rfl, ⟨nd, rfl⟩⟩; (try first | exact ⟨rfl, _, World.drewN_drewN _ _ _⟩ | exact ⟨rfl, _, Eq.trans (World.drewN_drewN _ _ _) (congrArg (World.drewN _) (Nat.add_assoc _ _ _))⟩))))
      refine bodyPost_ret (results_list (rs := [.tmp 2, .tmp 3, .tmp 4, .tmp 5]) rfl (by simp) (.tmp (.tmp (.tmp (.tmp .nil))))) rfl ?_
      exact ⟨er_, hb1_ HB.out GE134.out⟩
     ·rw [if_neg c24] at H
      have c24b0 : (t131 == 5) = false := beq_eq_false_iff_ne.mpr c24
      have c24b1 : (t131 != 5) = true := bne_iff_ne.mpr c24
      by_cases c30 : t131 = 6
      ·rw [if_pos c30] at H
       have c30b0 : (t131 == 6) = true := beq_iff_eq.mpr c30
       have c30b1 : (t131 != 6) = false := bne_eq_false_iff_eq.mpr c30
       clear c30
       replace H := ob_ H
       obtain ⟨t142, A310, H⟩ := H
       replace H : ((numeric_float.f t133).bind fun t143 => (some (t142, 1, t143, true))) = some (r1, r2, r3, r4) := H
       have A31 := A_ A310;clear A310
       replace H := ob_ H
       obtain ⟨t143, A320, H⟩ := H
       replace H : (some (t142, 1, t143, true)) = some (r1, r2, r3, r4) := H
       have A32 := A_ A320;clear A320
       have E2_ := Option.some.inj (A31.out.symm.trans A32.out)
       subst E2_
       simp only [Option.some.injEq, Prod.mk.injEq] at H
       obtain ⟨rfl, rfl, rfl, rfl⟩ := H
       go_enter Tryz.func21, Tryz.ntmps21
       go_wp2_with (first | (go_at_call 25; (with_reducible refine (numeric_find.calls k a0 t131 t132 t133 _ A2.out).mono ?_); rintro e w33 ⟨rfl, hb⟩; replace HB := A_ (below_step (hb_ HB.out) hb); (try clear hb); (try clear hb2); (try clear hk); (try clear hi)) | ((with_reducible refine gate_dst (N := 6) rfl ?_); refine be_ 6 #[.int .i64 0, .int .i64 0, .int .i64 0] 56 ?_; intro gb134 hg w34 hbox hb; have BK134 := A_ (hbox); have GW134 := A_ (sz_ hg (hb_ HB.out)); have GE134 := A_ (sz_ hg (hb_ HB.out)); replace HB := A_ (below_step (hb_ HB.out) hb); clear hb hbox hg; have hcz35_0 := bv_ BK134.out 0; have hcz35_1 := bv_ BK134.out 1; have hcz35_2 := bv_ BK134.out 2; have hfz35_0 := blk_frozen BK134.out 0; have hfz35_1 := blk_frozen BK134.out 1; have hfz35_2 := blk_frozen BK134.out 2) | (go_at_call 53; (with_reducible refine (numeric_float.calls t133 t142 _ A31.out).mono ?_); rintro e w' ⟨rfl, ⟨nd, rfl⟩⟩; (try first | exact ⟨rfl, _, World.drewN_drewN _ _ _⟩ | exact ⟨rfl, _, Eq.trans (World.drewN_drewN _ _ _) (congrArg (World.drewN _) (Nat.add_assoc _ _ _))⟩)) | (go_at_call 53; (with_reducible refine (numeric_float.calls t133 t143 _ A32.out).mono ?_); rintro e w' ⟨rfl, ⟨nd, rfl⟩⟩; (try first | exact ⟨rfl, _, World.drewN_drewN _ _ _⟩ | exact ⟨rfl, _, Eq.trans (World.drewN_drewN _ _ _) (congrArg (World.drewN _) (Nat.add_assoc _ _ _))⟩)))
       repeat (go_quiet (first | (go_at_call 25; (with_reducible refine (numeric_find.calls k a0 t131 t132 t133 _ A2.out).mono ?_); rintro e w33 ⟨rfl, hb⟩; replace HB := A_ (below_step (hb_ HB.out) hb); (try clear hb); (try clear hb2); (try clear hk); (try clear hi)) | ((with_reducible refine gate_dst (N := 6) rfl ?_); refine be_ 6 #[.int .i64 0, .int .i64 0, .int .i64 0] 56 ?_; intro gb134 hg w34 hbox hb; have BK134 := A_ (hbox); have GW134 := A_ (sz_ hg (hb_ HB.out)); have GE134 := A_ (sz_ hg (hb_ HB.out)); replace HB := A_ (below_step (hb_ HB.out) hb); clear hb hbox hg; have hcz35_0 := bv_ BK134.out 0; have hcz35_1 := bv_ BK134.out 1; have hcz35_2 := bv_ BK134.out 2; have hfz35_0 := blk_frozen BK134.out 0; have hfz35_1 := blk_frozen BK134.out 1; have hfz35_2 := blk_frozen BK134.out 2) | (go_at_call 53; (with_reducible refine (numeric_float.calls t133 t142 _ A31.out).mono ?_); rintro e w' ⟨rfl, ⟨nd, rfl⟩⟩; (try first | exact ⟨rfl, _, World.drewN_drewN _ _ _⟩ | exact ⟨rfl, _, Eq.trans (World.drewN_drewN _ _ _) (congrArg (World.drewN _) (Nat.add_assoc _ _ _))⟩)) | (go_at_call 53; (with_reducible refine (numeric_float.calls t133 t143 _ A32.out).mono ?_); rintro e w' ⟨rfl, ⟨nd, rfl⟩⟩; (try first | exact ⟨rfl, _, World.drewN_drewN _ _ _⟩ | exact ⟨rfl, _, Eq.trans (World.drewN_drewN _ _ _) (congrArg (World.drewN _) (Nat.add_assoc _ _ _))⟩))); try go_wp2_with (first | (go_at_call 25; (with_reducible refine (numeric_find.calls k a0 t131 t132 t133 _ A2.out).mono ?_); rintro e w33 ⟨rfl, hb⟩; replace HB := A_ (below_step (hb_ HB.out) hb); (try clear hb); (try clear hb2); (try clear hk); (try clear hi)) | ((with_reducible refine gate_dst (N := 6) rfl ?_); refine be_ 6 #[.int .i64 0, .int .i64 0, .int .i64 0] 56 ?_; intro gb134 hg w34 hbox hb; have BK134 := A_ (hbox); have GW134 := A_ (sz_ hg (hb_ HB.out)); have GE134 := A_ (sz_ hg (hb_ HB.out)); replace HB := A_ (below_step (hb_ HB.out) hb); clear hb hbox hg; have hcz35_0 := bv_ BK134.out 0; have hcz35_1 := bv_ BK134.out 1; have hcz35_2 := bv_ BK134.out 2; have hfz35_0 := blk_frozen BK134.out 0; have hfz35_1 := blk_frozen BK134.out 1; have hfz35_2 := blk_frozen BK134.out 2) | (go_at_call 53; (with_reducible refine (numeric_float.calls t133 t142 _ A31.out).mono ?_); rintro e w' ⟨rfl, ⟨nd, rfl⟩⟩; (try first | exact ⟨rfl, _, World.drewN_drewN _ _ _⟩ | exact ⟨rfl, _, Eq.trans (World.drewN_drewN _ _ _) (congrArg (World.drewN _) (Nat.add_assoc _ _ _))⟩)) | (go_at_call 53; (with_reducible refine (numeric_float.calls t133 t143 _ A32.out).mono ?_); rintro e w' ⟨rfl, ⟨nd, rfl⟩⟩; (try first | exact ⟨rfl, _, World.drewN_drewN _ _ _⟩ | exact ⟨rfl, _, Eq.trans (World.drewN_drewN _ _ _) (congrArg (World.drewN _) (Nat.add_assoc _ _ _))⟩))))
       refine bodyPost_ret (results_list (rs := [.tmp 2, .tmp 3, .tmp 4, .tmp 5]) rfl (by simp) (.tmp (.tmp (.tmp (.tmp .nil))))) rfl ?_
       exact ⟨er_, hb1_ HB.out GE134.out⟩
      ·rw [if_neg c30] at H
       have c30b0 : (t131 == 6) = false := beq_eq_false_iff_ne.mpr c30
       have c30b1 : (t131 != 6) = true := bne_iff_ne.mpr c30
       by_cases c36 : t131 = 7
       ·rw [if_pos c36] at H
        have c36b0 : (t131 == 7) = true := beq_iff_eq.mpr c36
        have c36b1 : (t131 != 7) = false := bne_eq_false_iff_eq.mpr c36
        clear c36
        replace H := ob_ H
        obtain ⟨t144, A370, H⟩ := H
        replace H : ((numeric_float.f t133).bind fun t145 => (some (t144, 2, t145, true))) = some (r1, r2, r3, r4) := H
        have A37 := A_ A370;clear A370
        replace H := ob_ H
        obtain ⟨t145, A380, H⟩ := H
        replace H : (some (t144, 2, t145, true)) = some (r1, r2, r3, r4) := H
        have A38 := A_ A380;clear A380
        have E2_ := Option.some.inj (A37.out.symm.trans A38.out)
        subst E2_
        simp only [Option.some.injEq, Prod.mk.injEq] at H
        obtain ⟨rfl, rfl, rfl, rfl⟩ := H
        go_enter Tryz.func21, Tryz.ntmps21
        go_wp2_with (first | (go_at_call 25; (with_reducible refine (numeric_find.calls k a0 t131 t132 t133 _ A2.out).mono ?_); rintro e w39 ⟨rfl, hb⟩; replace HB := A_ (below_step (hb_ HB.out) hb); (try clear hb); (try clear hb2); (try clear hk); (try clear hi)) | ((with_reducible refine gate_dst (N := 6) rfl ?_); refine be_ 6 #[.int .i64 0, .int .i64 0, .int .i64 0] 56 ?_; intro gb134 hg w40 hbox hb; have BK134 := A_ (hbox); have GW134 := A_ (sz_ hg (hb_ HB.out)); have GE134 := A_ (sz_ hg (hb_ HB.out)); replace HB := A_ (below_step (hb_ HB.out) hb); clear hb hbox hg; have hcz41_0 := bv_ BK134.out 0; have hcz41_1 := bv_ BK134.out 1; have hcz41_2 := bv_ BK134.out 2; have hfz41_0 := blk_frozen BK134.out 0; have hfz41_1 := blk_frozen BK134.out 1; have hfz41_2 := blk_frozen BK134.out 2) | (go_at_call 53; (with_reducible refine (numeric_float.calls t133 t144 _ A37.out).mono ?_); rintro e w' ⟨rfl, ⟨nd, rfl⟩⟩; (try first | exact ⟨rfl, _, World.drewN_drewN _ _ _⟩ | exact ⟨rfl, _, Eq.trans (World.drewN_drewN _ _ _) (congrArg (World.drewN _) (Nat.add_assoc _ _ _))⟩)) | (go_at_call 53; (with_reducible refine (numeric_float.calls t133 t145 _ A38.out).mono ?_); rintro e w' ⟨rfl, ⟨nd, rfl⟩⟩; (try first | exact ⟨rfl, _, World.drewN_drewN _ _ _⟩ | exact ⟨rfl, _, Eq.trans (World.drewN_drewN _ _ _) (congrArg (World.drewN _) (Nat.add_assoc _ _ _))⟩)))
        repeat (go_quiet (first | (go_at_call 25; (with_reducible refine (numeric_find.calls k a0 t131 t132 t133 _ A2.out).mono ?_); rintro e w39 ⟨rfl, hb⟩; replace HB := A_ (below_step (hb_ HB.out) hb); (try clear hb); (try clear hb2); (try clear hk); (try clear hi)) | ((with_reducible refine gate_dst (N := 6) rfl ?_); refine be_ 6 #[.int .i64 0, .int .i64 0, .int .i64 0] 56 ?_; intro gb134 hg w40 hbox hb; have BK134 := A_ (hbox); have GW134 := A_ (sz_ hg (hb_ HB.out)); have GE134 := A_ (sz_ hg (hb_ HB.out)); replace HB := A_ (below_step (hb_ HB.out) hb); clear hb hbox hg; have hcz41_0 := bv_ BK134.out 0; have hcz41_1 := bv_ BK134.out 1; have hcz41_2 := bv_ BK134.out 2; have hfz41_0 := blk_frozen BK134.out 0; have hfz41_1 := blk_frozen BK134.out 1; have hfz41_2 := blk_frozen BK134.out 2) | (go_at_call 53; (with_reducible refine (numeric_float.calls t133 t144 _ A37.out).mono ?_); rintro e w' ⟨rfl, ⟨nd, rfl⟩⟩; (try first | exact ⟨rfl, _, World.drewN_drewN _ _ _⟩ | exact ⟨rfl, _, Eq.trans (World.drewN_drewN _ _ _) (congrArg (World.drewN _) (Nat.add_assoc _ _ _))⟩)) | (go_at_call 53; (with_reducible refine (numeric_float.calls t133 t145 _ A38.out).mono ?_); rintro e w' ⟨rfl, ⟨nd, rfl⟩⟩; (try first | exact ⟨rfl, _, World.drewN_drewN _ _ _⟩ | exact ⟨rfl, _, Eq.trans (World.drewN_drewN _ _ _) (congrArg (World.drewN _) (Nat.add_assoc _ _ _))⟩))); try go_wp2_with (first | (go_at_call 25; (with_reducible refine (numeric_find.calls k a0 t131 t132 t133 _ A2.out).mono ?_); rintro e w39 ⟨rfl, hb⟩; replace HB := A_ (below_step (hb_ HB.out) hb); (try clear hb); (try clear hb2); (try clear hk); (try clear hi)) | ((with_reducible refine gate_dst (N := 6) rfl ?_); refine be_ 6 #[.int .i64 0, .int .i64 0, .int .i64 0] 56 ?_; intro gb134 hg w40 hbox hb; have BK134 := A_ (hbox); have GW134 := A_ (sz_ hg (hb_ HB.out)); have GE134 := A_ (sz_ hg (hb_ HB.out)); replace HB := A_ (below_step (hb_ HB.out) hb); clear hb hbox hg; have hcz41_0 := bv_ BK134.out 0; have hcz41_1 := bv_ BK134.out 1; have hcz41_2 := bv_ BK134.out 2; have hfz41_0 := blk_frozen BK134.out 0; have hfz41_1 := blk_frozen BK134.out 1; have hfz41_2 := blk_frozen BK134.out 2) | (go_at_call 53; (with_reducible refine (numeric_float.calls t133 t144 _ A37.out).mono ?_); rintro e w' ⟨rfl, ⟨nd, rfl⟩⟩; (try first | exact ⟨rfl, _, World.drewN_drewN _ _ _⟩ | exact ⟨rfl, _, Eq.trans (World.drewN_drewN _ _ _) (congrArg (World.drewN _) (Nat.add_assoc _ _ _))⟩)) | (go_at_call 53; (with_reducible refine (numeric_float.calls t133 t145 _ A38.out).mono ?_); rintro e w' ⟨rfl, ⟨nd, rfl⟩⟩; (try first | exact ⟨rfl, _, World.drewN_drewN _ _ _⟩ | exact ⟨rfl, _, Eq.trans (World.drewN_drewN _ _ _) (congrArg (World.drewN _) (Nat.add_assoc _ _ _))⟩))))
        refine bodyPost_ret (results_list (rs := [.tmp 2, .tmp 3, .tmp 4, .tmp 5]) rfl (by simp) (.tmp (.tmp (.tmp (.tmp .nil))))) rfl ?_
        exact ⟨er_, hb1_ HB.out GE134.out⟩
       ·rw [if_neg c36] at H
        have c36b0 : (t131 == 7) = false := beq_eq_false_iff_ne.mpr c36
        have c36b1 : (t131 != 7) = true := bne_iff_ne.mpr c36
        by_cases c42 : t131 = 8
        ·rw [if_pos c42] at H
         have c42b0 : (t131 == 8) = true := beq_iff_eq.mpr c42
         have c42b1 : (t131 != 8) = false := bne_eq_false_iff_eq.mpr c42
         clear c42
         replace H := ob_ H
         obtain ⟨⟨t146, t147⟩, A430, H⟩ := H
         replace H : (some (t146, 1, t147, true)) = some (r1, r2, r3, r4) := H
         have A43 := A_ A430;clear A430
         simp only [Option.some.injEq, Prod.mk.injEq] at H
         obtain ⟨rfl, rfl, rfl, rfl⟩ := H
         go_enter Tryz.func21, Tryz.ntmps21
         go_wp2_with (first | (go_at_call 25; (with_reducible refine (numeric_find.calls k a0 t131 t132 t133 _ A2.out).mono ?_); rintro e w44 ⟨rfl, hb⟩; replace HB := A_ (below_step (hb_ HB.out) hb); (try clear hb); (try clear hb2); (try clear hk); (try clear hi)) | ((with_reducible refine gate_dst (N := 6) rfl ?_); refine be_ 6 #[.int .i64 0, .int .i64 0, .int .i64 0] 56 ?_; intro gb134 hg w45 hbox hb; have BK134 := A_ (hbox); have GW134 := A_ (sz_ hg (hb_ HB.out)); have GE134 := A_ (sz_ hg (hb_ HB.out)); replace HB := A_ (below_step (hb_ HB.out) hb); clear hb hbox hg; have hcz46_0 := bv_ BK134.out 0; have hcz46_1 := bv_ BK134.out 1; have hcz46_2 := bv_ BK134.out 2; have hfz46_0 := blk_frozen BK134.out 0; have hfz46_1 := blk_frozen BK134.out 1; have hfz46_2 := blk_frozen BK134.out 2) | (go_at_call 54; (with_reducible refine (numeric_turned.calls t132 t146 t147 _ A43.out).mono ?_); rintro e w' ⟨rfl, ⟨nd, rfl⟩⟩; (try first | exact ⟨rfl, _, World.drewN_drewN _ _ _⟩ | exact ⟨rfl, _, Eq.trans (World.drewN_drewN _ _ _) (congrArg (World.drewN _) (Nat.add_assoc _ _ _))⟩)))
         repeat (go_quiet (first | (go_at_call 25; (with_reducible refine (numeric_find.calls k a0 t131 t132 t133 _ A2.out).mono ?_); rintro e w44 ⟨rfl, hb⟩; replace HB := A_ (below_step (hb_ HB.out) hb); (try clear hb); (try clear hb2); (try clear hk); (try clear hi)) | ((with_reducible refine gate_dst (N := 6) rfl ?_); refine be_ 6 #[.int .i64 0, .int .i64 0, .int .i64 0] 56 ?_; intro gb134 hg w45 hbox hb; have BK134 := A_ (hbox); have GW134 := A_ (sz_ hg (hb_ HB.out)); have GE134 := A_ (sz_ hg (hb_ HB.out)); replace HB := A_ (below_step (hb_ HB.out) hb); clear hb hbox hg; have hcz46_0 := bv_ BK134.out 0; have hcz46_1 := bv_ BK134.out 1; have hcz46_2 := bv_ BK134.out 2; have hfz46_0 := blk_frozen BK134.out 0; have hfz46_1 := blk_frozen BK134.out 1; have hfz46_2 := blk_frozen BK134.out 2) | (go_at_call 54; (with_reducible refine (numeric_turned.calls t132 t146 t147 _ A43.out).mono ?_); rintro e w' ⟨rfl, ⟨nd, rfl⟩⟩; (try first | exact ⟨rfl, _, World.drewN_drewN _ _ _⟩ | exact ⟨rfl, _, Eq.trans (World.drewN_drewN _ _ _) (congrArg (World.drewN _) (Nat.add_assoc _ _ _))⟩))); try go_wp2_with (first | (go_at_call 25; (with_reducible refine (numeric_find.calls k a0 t131 t132 t133 _ A2.out).mono ?_); rintro e w44 ⟨rfl, hb⟩; replace HB := A_ (below_step (hb_ HB.out) hb); (try clear hb); (try clear hb2); (try clear hk); (try clear hi)) | ((with_reducible refine gate_dst (N := 6) rfl ?_); refine be_ 6 #[.int .i64 0, .int .i64 0, .int .i64 0] 56 ?_; intro gb134 hg w45 hbox hb; have BK134 := A_ (hbox); have GW134 := A_ (sz_ hg (hb_ HB.out)); have GE134 := A_ (sz_ hg (hb_ HB.out)); replace HB := A_ (below_step (hb_ HB.out) hb); clear hb hbox hg; have hcz46_0 := bv_ BK134.out 0; have hcz46_1 := bv_ BK134.out 1; have hcz46_2 := bv_ BK134.out 2; have hfz46_0 := blk_frozen BK134.out 0; have hfz46_1 := blk_frozen BK134.out 1; have hfz46_2 := blk_frozen BK134.out 2) | (go_at_call 54; (with_reducible refine (numeric_turned.calls t132 t146 t147 _ A43.out).mono ?_); rintro e w' ⟨rfl, ⟨nd, rfl⟩⟩; (try first | exact ⟨rfl, _, World.drewN_drewN _ _ _⟩ | exact ⟨rfl, _, Eq.trans (World.drewN_drewN _ _ _) (congrArg (World.drewN _) (Nat.add_assoc _ _ _))⟩))))
         refine bodyPost_ret (results_list (rs := [.tmp 2, .tmp 3, .tmp 4, .tmp 5]) rfl (by simp) (.tmp (.tmp (.tmp (.tmp .nil))))) rfl ?_
         exact ⟨er_, hb1_ HB.out GE134.out⟩
        ·rw [if_neg c42] at H
         have c42b0 : (t131 == 8) = false := beq_eq_false_iff_ne.mpr c42
         have c42b1 : (t131 != 8) = true := bne_iff_ne.mpr c42
         by_cases c47 : t131 = 9
         ·rw [if_pos c47] at H
          have c47b0 : (t131 == 9) = true := beq_iff_eq.mpr c47
          have c47b1 : (t131 != 9) = false := bne_eq_false_iff_eq.mpr c47
          clear c47
          replace H := ob_ H
          obtain ⟨t148, A480, H⟩ := H
          replace H : ((numeric_integer.f (wrap64 (32 + (wrap64 ((wrap64 (Int.tdiv t132 4)) * 32))))).bind fun t149 => (some (t148, 1, t149, true))) = some (r1, r2, r3, r4) := H
          have A48 := A_ A480;clear A480
          replace H := ob_ H
          obtain ⟨t149, A490, H⟩ := H
          replace H : (some (t148, 1, t149, true)) = some (r1, r2, r3, r4) := H
          have A49 := A_ A490;clear A490
          simp only [Option.some.injEq, Prod.mk.injEq] at H
          obtain ⟨rfl, rfl, rfl, rfl⟩ := H
          go_enter Tryz.func21, Tryz.ntmps21
          go_wp2_with (first | (go_at_call 25; (with_reducible refine (numeric_find.calls k a0 t131 t132 t133 _ A2.out).mono ?_); rintro e w50 ⟨rfl, hb⟩; replace HB := A_ (below_step (hb_ HB.out) hb); (try clear hb); (try clear hb2); (try clear hk); (try clear hi)) | ((with_reducible refine gate_dst (N := 6) rfl ?_); refine be_ 6 #[.int .i64 0, .int .i64 0, .int .i64 0] 56 ?_; intro gb134 hg w51 hbox hb; have BK134 := A_ (hbox); have GW134 := A_ (sz_ hg (hb_ HB.out)); have GE134 := A_ (sz_ hg (hb_ HB.out)); replace HB := A_ (below_step (hb_ HB.out) hb); clear hb hbox hg; have hcz52_0 := bv_ BK134.out 0; have hcz52_1 := bv_ BK134.out 1; have hcz52_2 := bv_ BK134.out 2; have hfz52_0 := blk_frozen BK134.out 0; have hfz52_1 := blk_frozen BK134.out 1; have hfz52_2 := blk_frozen BK134.out 2) | (go_at_call 53; (with_reducible refine (numeric_float.calls (wrap64 (32 + (wrap64 ((Int.tmod (wrap64 (Int.tdiv t132 2)) 2) * 32)))) t148 _ A48.out).mono ?_); rintro e w' ⟨rfl, ⟨nd, rfl⟩⟩; (try first | exact ⟨rfl, _, World.drewN_drewN _ _ _⟩ | exact ⟨rfl, _, Eq.trans (World.drewN_drewN _ _ _) (congrArg (World.drewN _) (Nat.add_assoc _ _ _))⟩)) | (go_at_call 52; (with_reducible refine (numeric_integer.calls (wrap64 (32 + (wrap64 ((wrap64 (Int.tdiv t132 4)) * 32)))) t149 _ A49.out).mono ?_); rintro e w' ⟨rfl, ⟨nd, rfl⟩⟩; (try first | exact ⟨rfl, _, World.drewN_drewN _ _ _⟩ | exact ⟨rfl, _, Eq.trans (World.drewN_drewN _ _ _) (congrArg (World.drewN _) (Nat.add_assoc _ _ _))⟩)))
          repeat (go_quiet (first | (go_at_call 25; (with_reducible refine (numeric_find.calls k a0 t131 t132 t133 _ A2.out).mono ?_); rintro e w50 ⟨rfl, hb⟩; replace HB := A_ (below_step (hb_ HB.out) hb); (try clear hb); (try clear hb2); (try clear hk); (try clear hi)) | ((with_reducible refine gate_dst (N := 6) rfl ?_); refine be_ 6 #[.int .i64 0, .int .i64 0, .int .i64 0] 56 ?_; intro gb134 hg w51 hbox hb; have BK134 := A_ (hbox); have GW134 := A_ (sz_ hg (hb_ HB.out)); have GE134 := A_ (sz_ hg (hb_ HB.out)); replace HB := A_ (below_step (hb_ HB.out) hb); clear hb hbox hg; have hcz52_0 := bv_ BK134.out 0; have hcz52_1 := bv_ BK134.out 1; have hcz52_2 := bv_ BK134.out 2; have hfz52_0 := blk_frozen BK134.out 0; have hfz52_1 := blk_frozen BK134.out 1; have hfz52_2 := blk_frozen BK134.out 2) | (go_at_call 53; (with_reducible refine (numeric_float.calls (wrap64 (32 + (wrap64 ((Int.tmod (wrap64 (Int.tdiv t132 2)) 2) * 32)))) t148 _ A48.out).mono ?_); rintro e w' ⟨rfl, ⟨nd, rfl⟩⟩; (try first | exact ⟨rfl, _, World.drewN_drewN _ _ _⟩ | exact ⟨rfl, _, Eq.trans (World.drewN_drewN _ _ _) (congrArg (World.drewN _) (Nat.add_assoc _ _ _))⟩)) | (go_at_call 52; (with_reducible refine (numeric_integer.calls (wrap64 (32 + (wrap64 ((wrap64 (Int.tdiv t132 4)) * 32)))) t149 _ A49.out).mono ?_); rintro e w' ⟨rfl, ⟨nd, rfl⟩⟩; (try first | exact ⟨rfl, _, World.drewN_drewN _ _ _⟩ | exact ⟨rfl, _, Eq.trans (World.drewN_drewN _ _ _) (congrArg (World.drewN _) (Nat.add_assoc _ _ _))⟩))); try go_wp2_with (first | (go_at_call 25; (with_reducible refine (numeric_find.calls k a0 t131 t132 t133 _ A2.out).mono ?_); rintro e w50 ⟨rfl, hb⟩; replace HB := A_ (below_step (hb_ HB.out) hb); (try clear hb); (try clear hb2); (try clear hk); (try clear hi)) | ((with_reducible refine gate_dst (N := 6) rfl ?_); refine be_ 6 #[.int .i64 0, .int .i64 0, .int .i64 0] 56 ?_; intro gb134 hg w51 hbox hb; have BK134 := A_ (hbox); have GW134 := A_ (sz_ hg (hb_ HB.out)); have GE134 := A_ (sz_ hg (hb_ HB.out)); replace HB := A_ (below_step (hb_ HB.out) hb); clear hb hbox hg; have hcz52_0 := bv_ BK134.out 0; have hcz52_1 := bv_ BK134.out 1; have hcz52_2 := bv_ BK134.out 2; have hfz52_0 := blk_frozen BK134.out 0; have hfz52_1 := blk_frozen BK134.out 1; have hfz52_2 := blk_frozen BK134.out 2) | (go_at_call 53; (with_reducible refine (numeric_float.calls (wrap64 (32 + (wrap64 ((Int.tmod (wrap64 (Int.tdiv t132 2)) 2) * 32)))) t148 _ A48.out).mono ?_); rintro e w' ⟨rfl, ⟨nd, rfl⟩⟩; (try first | exact ⟨rfl, _, World.drewN_drewN _ _ _⟩ | exact ⟨rfl, _, Eq.trans (World.drewN_drewN _ _ _) (congrArg (World.drewN _) (Nat.add_assoc _ _ _))⟩)) | (go_at_call 52; (with_reducible refine (numeric_integer.calls (wrap64 (32 + (wrap64 ((wrap64 (Int.tdiv t132 4)) * 32)))) t149 _ A49.out).mono ?_); rintro e w' ⟨rfl, ⟨nd, rfl⟩⟩; (try first | exact ⟨rfl, _, World.drewN_drewN _ _ _⟩ | exact ⟨rfl, _, Eq.trans (World.drewN_drewN _ _ _) (congrArg (World.drewN _) (Nat.add_assoc _ _ _))⟩))))
          refine bodyPost_ret (results_list (rs := [.tmp 2, .tmp 3, .tmp 4, .tmp 5]) rfl (by simp) (.tmp (.tmp (.tmp (.tmp .nil))))) rfl ?_
          exact ⟨er_, hb1_ HB.out GE134.out⟩
         ·rw [if_neg c47] at H
          have c47b0 : (t131 == 9) = false := beq_eq_false_iff_ne.mpr c47
          have c47b1 : (t131 != 9) = true := bne_iff_ne.mpr c47
          simp only [Option.some.injEq, Prod.mk.injEq] at H
          obtain ⟨rfl, rfl, rfl, rfl⟩ := H
          go_enter Tryz.func21, Tryz.ntmps21
          go_wp2_with (first | (go_at_call 25; (with_reducible refine (numeric_find.calls k a0 t131 t132 t133 _ A2.out).mono ?_); rintro e w53 ⟨rfl, hb⟩; replace HB := A_ (below_step (hb_ HB.out) hb); (try clear hb); (try clear hb2); (try clear hk); (try clear hi)) | ((with_reducible refine gate_dst (N := 6) rfl ?_); refine be_ 6 #[.int .i64 0, .int .i64 0, .int .i64 0] 56 ?_; intro gb134 hg w54 hbox hb; have BK134 := A_ (hbox); have GW134 := A_ (sz_ hg (hb_ HB.out)); have GE134 := A_ (sz_ hg (hb_ HB.out)); replace HB := A_ (below_step (hb_ HB.out) hb); clear hb hbox hg; have hcz55_0 := bv_ BK134.out 0; have hcz55_1 := bv_ BK134.out 1; have hcz55_2 := bv_ BK134.out 2; have hfz55_0 := blk_frozen BK134.out 0; have hfz55_1 := blk_frozen BK134.out 1; have hfz55_2 := blk_frozen BK134.out 2))
          repeat (go_quiet (first | (go_at_call 25; (with_reducible refine (numeric_find.calls k a0 t131 t132 t133 _ A2.out).mono ?_); rintro e w53 ⟨rfl, hb⟩; replace HB := A_ (below_step (hb_ HB.out) hb); (try clear hb); (try clear hb2); (try clear hk); (try clear hi)) | ((with_reducible refine gate_dst (N := 6) rfl ?_); refine be_ 6 #[.int .i64 0, .int .i64 0, .int .i64 0] 56 ?_; intro gb134 hg w54 hbox hb; have BK134 := A_ (hbox); have GW134 := A_ (sz_ hg (hb_ HB.out)); have GE134 := A_ (sz_ hg (hb_ HB.out)); replace HB := A_ (below_step (hb_ HB.out) hb); clear hb hbox hg; have hcz55_0 := bv_ BK134.out 0; have hcz55_1 := bv_ BK134.out 1; have hcz55_2 := bv_ BK134.out 2; have hfz55_0 := blk_frozen BK134.out 0; have hfz55_1 := blk_frozen BK134.out 1; have hfz55_2 := blk_frozen BK134.out 2)); try go_wp2_with (first | (go_at_call 25; (with_reducible refine (numeric_find.calls k a0 t131 t132 t133 _ A2.out).mono ?_); rintro e w53 ⟨rfl, hb⟩; replace HB := A_ (below_step (hb_ HB.out) hb); (try clear hb); (try clear hb2); (try clear hk); (try clear hi)) | ((with_reducible refine gate_dst (N := 6) rfl ?_); refine be_ 6 #[.int .i64 0, .int .i64 0, .int .i64 0] 56 ?_; intro gb134 hg w54 hbox hb; have BK134 := A_ (hbox); have GW134 := A_ (sz_ hg (hb_ HB.out)); have GE134 := A_ (sz_ hg (hb_ HB.out)); replace HB := A_ (below_step (hb_ HB.out) hb); clear hb hbox hg; have hcz55_0 := bv_ BK134.out 0; have hcz55_1 := bv_ BK134.out 1; have hcz55_2 := bv_ BK134.out 2; have hfz55_0 := blk_frozen BK134.out 0; have hfz55_1 := blk_frozen BK134.out 1; have hfz55_2 := blk_frozen BK134.out 2)))
          refine bodyPost_ret (results_list (rs := [.tmp 2, .tmp 3, .tmp 4, .tmp 5]) rfl (by simp) (.tmp (.tmp (.tmp (.tmp .nil))))) rfl ?_
          exact ⟨er_, hb1_ HB.out GE134.out⟩
def numeric_compared.f (k : Nat) (a0 : Int) (a1 : Int) (a2 : Int) (a3 : Int) : Option (Bool) := none
theorem numeric_compared.mono : ∀ a0 a1 a2 a3 k, LeO (numeric_compared.f k a0 a1 a2 a3) (numeric_compared.f (k + 1) a0 a1 a2 a3) := fun _ _ _ _ _ => LeO.none _
theorem numeric_compared.calls (k : Nat) (a0 : Int) (a1 : Int) (a2 : Int) (a3 : Int) (r : Bool) (w : World) (h : numeric_compared.f k a0 a1 a2 a3 = some r) :
  Calls Tryz.prog 28 #[.int .i64 a0, .int .i64 a1, .int .u64 a2, .int .u64 a3] w fun e w' => e = .returned (.bool r) ∧ Below w.heap.size w w' := by
 cases h
def numeric_counted.f (a0 : Int) (a1 : Int) (a2 : Int) : Option (Int) := none
theorem numeric_counted.calls (a0 : Int) (a1 : Int) (a2 : Int) (r : Int) (w : World) (h : numeric_counted.f a0 a1 a2 = some r) :
  Calls Tryz.prog 29 #[.int .i64 a0, .int .i64 a1, .int .u64 a2] w fun e w' => e = .returned (.int .u64 r) ∧ Below w.heap.size w w' := by
 cases h
def numeric_floated.f (k : Nat) (a0 : Int) (a1 : Int) (a2 : Int) (a3 : Int) : Option (Int) := none
theorem numeric_floated.mono : ∀ a0 a1 a2 a3 k, LeO (numeric_floated.f k a0 a1 a2 a3) (numeric_floated.f (k + 1) a0 a1 a2 a3) := fun _ _ _ _ _ => LeO.none _
theorem numeric_floated.calls (k : Nat) (a0 : Int) (a1 : Int) (a2 : Int) (a3 : Int) (r : Int) (w : World) (h : numeric_floated.f k a0 a1 a2 a3 = some r) :
  Calls Tryz.prog 32 #[.int .i64 a0, .int .i64 a1, .int .u64 a2, .int .u64 a3] w fun e w' => e = .returned (.int .u64 r) ∧ Below w.heap.size w w' := by
 cases h
def numeric_reckoned.f (a0 : Int) (a1 : Int) (a2 : Int) (a3 : Int) : Option (Int × Int) := none
theorem numeric_reckoned.calls (a0 : Int) (a1 : Int) (a2 : Int) (a3 : Int) (r1 : Int) (r2 : Int) (w : World) (h : numeric_reckoned.f a0 a1 a2 a3 = some (r1, r2)) :
  Calls Tryz.prog 30 #[.int .i64 a0, .int .i64 a1, .int .u64 a2, .int .u64 a3] w fun e w' => e = .returned (.tuple #[.int .u64 r1, .int .i64 r2]) ∧ Below w.heap.size w w' := by
 cases h
def numeric_related.f (a0 : Int) (a1 : Int) (a2 : Int) (a3 : Int) : Option (Bool) := none
theorem numeric_related.calls (a0 : Int) (a1 : Int) (a2 : Int) (a3 : Int) (r : Bool) (w : World) (h : numeric_related.f a0 a1 a2 a3 = some r) :
  Calls Tryz.prog 27 #[.int .i64 a0, .int .i64 a1, .int .u64 a2, .int .u64 a3] w fun e w' => e = .returned (.bool r) ∧ Drawn0 w w' := by
 cases h
end Go.Proofs.YtnmlmgmljoncoaaGreatDoor.PA
set_option linter.unusedVariables false
set_option linter.unusedSimpArgs false
namespace Go.Proofs.YtnmlmgmljoncoaaGreatDoor.Nr
open Go.RowKit Go.Proofs.YtnmlmgmljoncoaaGreatDoorW.PrintWords Go.Proofs.YtnmlmgmljoncoaaGreatDoorW.PrintLast Go.Proofs.YtnmlmgmljoncoaaGreatDoorW.PrintMore
def Nr (w : World) (v : Value) (l : List Int) : Prop := ∃ A c, v = .slice A l.length c ∧ l.length ≤ c ∧ Kd.C (Kd.int .u64) w A l.length l
def IsRow (v : Option Value) : Prop := ∃ A n c, v = some (.slice A n c)
theorem Nr.below {w w1 : World} {v : Value} {l : List Int} (h : Nr w v l) (hb : Below w.heap.size w w1) : Nr w1 v l := by
  obtain ⟨A, c, e, hc, h⟩ := h
  exact ⟨A, c, e, hc, Kd.C_below h hb⟩
theorem Nr.alloc {w : World} {v : Value} {l : List Int} (h : Nr w v l) (o : Obj) : Nr (w.alloc o) v l := h.below (below_alloc (Below.refl _ _) o)
theorem Nr.drew {w : World} {v : Value} {l : List Int} (h : Nr w v l) : Nr w.drew v l := h.below (below_drew1 (Below.refl _ _))
theorem Nr.drewN {w : World} {v : Value} {l : List Int} (h : Nr w v l) (n : Nat) : Nr (w.drewN n) v l := h.below (pw_below_drewN (Below.refl _ _) n)
theorem Nr.set {w : World} {v : Value} {l : List Int} (h : Nr w v l) {p : Addr} (x : Value) (hp : IsRow (w.cell? p)) : Nr (w.setCell p x) v l := by
  obtain ⟨A, c, e, hc, h1, h2, h3⟩ := h
  refine ⟨A, c, e, hc, h1, h2, fun hn => ?_⟩
  obtain ⟨ad, e1, h4⟩ := h3 hn
  refine ⟨ad, e1, fun j q hj => ?_⟩
  obtain ⟨cs, k1, k2, k3⟩ := h4 j q hj
  refine ⟨cs, k1, k2, fun i u hu => ?_⟩
  have k4 := k3 i u hu
  have k5 : u = .int .u64 q := by
    have k6 : cs = [Value.int .u64 q] := k2
    rw [k6] at hu
    rcases i with _ | i
    · simpa using hu.symm
    · simp at hu
  rw [World.cell?_setCell_other]
  · exact k4
  · intro e2
    obtain ⟨B, n, d, hp⟩ := hp
    rw [e2, k4, k5] at hp
    cases hp
theorem Nr.nil (w : World) : Nr w (.slice none 0 0) [] := ⟨none, 0, rfl, Nat.le_refl _, Kd.C_nil _ w⟩
theorem Nr.of_R {w : World} {e base : Nat} {ok : Nat → Prop} {v : Value} {l : List Int} (h : Kd.R (Kd.int .u64) e w base ok v l) : Nr w v l := Kd.R_reads h
theorem IsRow.slice (A : Option Addr) (n c : Nat) : IsRow (some (.slice A n c)) := ⟨A, n, c, rfl⟩
theorem bcell {W w1 : World} (hb : Below W.heap.size W w1) : (∀ b o, b < W.heap.size → w1.cell? ⟨b, o, none⟩ = W.cell? ⟨b, o, none⟩) ∧ (∀ b o, b < W.heap.size → w1.frozen? ⟨b, o, none⟩ = W.frozen? ⟨b, o, none⟩) :=
  ⟨fun b o h => hb.cell (p := ⟨b, o, none⟩) h, fun b o h => hb.frozen (p := ⟨b, o, none⟩) h⟩
theorem al {W : World} {b : Nat} (h : b < W.heap.size) (o : Nat) (x : Obj) : (W.alloc x).cell? ⟨b, o, none⟩ = W.cell? ⟨b, o, none⟩ := (bcell (below_alloc (Below.refl _ W) x)).1 b o h
theorem alf {W : World} {b : Nat} (h : b < W.heap.size) (o : Nat) (x : Obj) : (W.alloc x).frozen? ⟨b, o, none⟩ = W.frozen? ⟨b, o, none⟩ := (bcell (below_alloc (Below.refl _ W) x)).2 b o h
theorem lt_al {n : Nat} {W : World} {x : Obj} (h : n < W.heap.size) : n < (W.alloc x).heap.size := Nat.lt_of_lt_of_le h (below_alloc (Below.refl _ W) x).size
def At (ok : Nat → Prop) (v : Value) : Prop := ∀ ad n c, v = .slice (some ad) n c → 0 < n → ok ad.block
theorem At.mono {ok ok' : Nat → Prop} {v : Value} (h : At ok v) (i : ∀ k, ok k → ok' k) : At ok' v := fun ad n c e hn => i _ (h ad n c e hn)
theorem At.of_R {w : World} {e base : Nat} {ok : Nat → Prop} {v : Value} {l : List Int} (h : Kd.R (Kd.int .u64) e w base ok v l) : At (fun k => base ≤ k ∧ k < w.heap.size) v := by
  intro ad n c e1 hn
  obtain ⟨A, c', e2, hl, _⟩ := Kd.R_reads h
  have hlen : 0 < l.length := by
    rw [e2] at e1
    injection e1 with _ e3 _
    omega
  obtain ⟨g, cap, e3, hb, hlt, _⟩ := Kd.R_form h hlen
  rw [e3] at e1
  injection e1 with e4 _ _
  injection e4 with e4
  rw [← e4]; exact ⟨hb, hlt⟩
theorem Rs {w : World} {e base : Nat} {ok : Nat → Prop} {v : Value} {l : List Int} (h : Kd.R (Kd.int .u64) e w base ok v l) {p : Addr} (hne : v.ownBlock ≠ some p.block) (x : Value) : Kd.R (Kd.int .u64) e (w.setCell p x) base ok v l :=
  Kd.R_mono (Kd.R_far (Kd.R_far1 h rfl (g := p.block) (fun e => hne e.symm)) (fun _ hk => hk.2) x) (fun _ hk => hk.1)
theorem Rok {w : World} {e base base' : Nat} {ok ok' : Nat → Prop} {v : Value} {l : List Int} (h : Kd.R (Kd.int .u64) e w base ok v l) (hb : base' ≤ base) (hok : ∀ k, v.ownBlock = some k → base ≤ k → k < w.heap.size → ok' k) : Kd.R (Kd.int .u64) e w base' ok' v l :=
  Kd.R_reok rfl (Kd.R_lower h hb) (fun k hk => hok k hk (Kd.R_base h k hk) (Kd.R_lt h k hk))
structure Ow (e base : Nat) (w : World) (v : Value) (l : List Int) : Prop where
  out : Kd.R (Kd.int .u64) e w base (fun k => base ≤ k) v l
theorem Ow.nil (e base : Nat) (w : World) : Ow e base w (.slice none 0 0) [] := ⟨Kd.R_nil _ _ _ _ _⟩
theorem Ow.below {e base : Nat} {w w1 : World} {v : Value} {l : List Int} (h : Ow e base w v l) (hb : Below w.heap.size w w1) : Ow e base w1 v l := ⟨Kd.R_below h.out hb⟩
theorem Ow.alloc {e base : Nat} {w : World} {v : Value} {l : List Int} (h : Ow e base w v l) (o : Obj) : Ow e base (w.alloc o) v l := ⟨Kd.R_alloc h.out o⟩
theorem Ow.drew {e base : Nat} {w : World} {v : Value} {l : List Int} (h : Ow e base w v l) : Ow e base w.drew v l := ⟨Kd.R_drew h.out⟩
theorem Ow.drewN {e base : Nat} {w : World} {v : Value} {l : List Int} (h : Ow e base w v l) (n : Nat) : Ow e base (w.drewN n) v l := ⟨Kd.R_drewN h.out n⟩
theorem Ow.set {e base : Nat} {w : World} {v : Value} {l : List Int} (h : Ow e base w v l) {p : Addr} (x : Value) (hne : v.ownBlock ≠ some p.block) : Ow e base (w.setCell p x) v l := ⟨Rs h.out hne x⟩
theorem Ow.of_R {e base base' : Nat} {w : World} {ok : Nat → Prop} {v : Value} {l : List Int} (h : Kd.R (Kd.int .u64) e w base ok v l) (hb : base' ≤ base) : Ow e base' w v l := ⟨Rok h hb (fun k _ h1 _ => Nat.le_trans hb h1)⟩
end Go.Proofs.YtnmlmgmljoncoaaGreatDoor.Nr
namespace Go.Proofs.YtnmlmgmljoncoaaGreatDoor.PA
open Go.RowKit Go.Proofs.YtnmlmgmljoncoaaGreatDoorW.PrintWords Go.Proofs.YtnmlmgmljoncoaaGreatDoorW.PrintLast Go.Proofs.YtnmlmgmljoncoaaGreatDoorW.PrintMore
attribute [local go_sem] max2_int min2_int max_two min_two max_three min_three max_four min_four   -- for this text's walks alone
set_option linter.unusedVariables false
set_option linter.unusedSimpArgs false
set_option maxHeartbeats 8000000
set_option maxRecDepth 100000
def wide_Left.f (a0_0 : Int) (a0_1 : Int) (a1 : Int) : Option (Int × Int) := if a1 ≤ 0 then (some (a0_0, a0_1)) else (if a1 ≥ 128 then (some (0, 0)) else (if a1 ≥ 64 then (if 0 ≤ (wrap64 (a1 - 64)) then (some (shl .u64 a0_1 (wrap64 (a1 - 64)), 0)) else (none)) else (if 0 ≤ a1 then (if 0 ≤ (wrap64 (64 - a1)) then (some (Go.bits .or .u64 (shl .u64 a0_0 a1) (shr .u64 a0_1 (wrap64 (64 - a1))), shl .u64 a0_1 a1)) else (none)) else (none))))
def wide_Left.T7 : Bool × List (List Nat × List Nat) := (true, [([], []), ([0], [0]), ([], []), ([1, 2], [1, 2]), ([], []), ([4], [4]), ([], []), ([6], [6]), ([5, 7], [5, 7]), ([3, 8], [3, 8]), ([], []), ([10], [10]), ([], []), ([11, 12], [11, 12]), ([9, 13], [9, 13]), ([14, 0, 1, 2, 3, 4, 5, 6, 7, 8, 9, 10, 11, 12, 13, 14], [14])])
def wide_Left.B7 : List Nat := [0, 1, 0, 7, 0, 16, 0, 64, 240, 511, 0, 1024, 0, 7168, 16383, 32767]
theorem wide_Left.tab7 : rtab .any (opsOf Tryz.f242 7) = wide_Left.T7 := by kernel_rfl
theorem wide_Left.bits7 : waitsOk wide_Left.T7.2 wide_Left.B7 = true := by kernel_rfl
theorem wide_Left.calls (a0_0 : Int) (a0_1 : Int) (a1 : Int) (r1 : Int) (r2 : Int) (w : World) (h : wide_Left.f a0_0 a0_1 a1 = some (r1, r2)) :
  Calls Tryz.prog 242 #[.agg #[.int .u64 a0_0, .int .u64 a0_1], .int .i64 a1] w fun e w' => e = .returned (.agg #[.int .u64 r1, .int .u64 r2]) ∧ Below w.heap.size w w' := by
 have hu166 := Tryz.underlying166
 have HB := A_ (Below.refl w.heap.size w)
 have H : (if a1 ≤ 0 then (some (a0_0, a0_1)) else (if a1 ≥ 128 then (some (0, 0)) else (if a1 ≥ 64 then (if 0 ≤ (wrap64 (a1 - 64)) then (some (shl .u64 a0_1 (wrap64 (a1 - 64)), 0)) else (none)) else (if 0 ≤ a1 then (if 0 ≤ (wrap64 (64 - a1)) then (some (Go.bits .or .u64 (shl .u64 a0_0 a1) (shr .u64 a0_1 (wrap64 (64 - a1))), shl .u64 a0_1 a1)) else (none)) else (none))))) = some (r1, r2) := h
 clear h
 by_cases c3 : a1 ≤ 0
 ·rw [if_pos c3] at H
  have c3b0 : decide (a1 ≤ 0) = true := decide_eq_true c3
  clear c3
  simp only [Option.some.injEq, Prod.mk.injEq] at H
  obtain ⟨rfl, rfl⟩ := H
  go_enter Tryz.func242, Tryz.ntmps242
  go_wp2_with (first | ((with_reducible refine gate_dst (N := 2) rfl ?_); refine be_ 2 #[.int .u64 a0_0, .int .u64 a0_1] 166 ?_; intro gb248 hg w4 hbox hb; have BK248 := A_ (hbox); have GW248 := A_ (sz_ hg (hb_ HB.out)); have GE248 := A_ (sz_ hg (hb_ HB.out)); replace HB := A_ (below_step (hb_ HB.out) hb); clear hb hbox hg) | ((with_reducible refine gate_dst (N := 4) rfl ?_); refine be_ 4 #[.int .u64 0, .int .u64 0] 166 ?_; intro gb249 hg w5 hbox hb; have BK249 := A_ (hbox); have GW249 := A_ (sz_ hg (hb1_ HB.out GE248.out)); have GE249 := A_ (sz_ hg (hb1_ HB.out GE248.out)); have NB248_249 := A_ (nl_ hg BK248.out); have NB249_248 := A_ (ng_ hg BK248.out); replace BK248 := A_ (bb_ BK248.out hb); replace HB := A_ (below_step (hb1_ HB.out GE248.out) hb); clear hb hbox hg; have hnb6 := NB248_249.out; have hnc6 := NB249_248.out; have hcz7_0 := bv_ BK248.out 0; have hcz7_1 := bv_ BK248.out 1; have hfz7_0 := blk_frozen BK248.out 0; have hfz7_1 := blk_frozen BK248.out 1; have hcz8_0 := bv_ BK249.out 0; have hcz8_1 := bv_ BK249.out 1; have hfz8_0 := blk_frozen BK249.out 0; have hfz8_1 := blk_frozen BK249.out 1))
  refine bodyPost_ret (results_cell_row rfl _ _ gb249 166 #[.int .u64 a0_0, .int .u64 a0_1] (0, 0) _ rfl (by (with_reducible repeat (first | refine blk_drewN ?_ _ | refine blk_drew ?_ | refine blk_alloc ?_ _)); refine blk_put (cs := #[.int .u64 a0_0, .int .u64 0]) ?_ 1 _ rfl; (with_reducible repeat (first | refine blk_drewN ?_ _ | refine blk_drew ?_ | refine blk_alloc ?_ _)); refine blk_put (cs := #[.int .u64 0, .int .u64 0]) ?_ 0 _ rfl; (with_reducible repeat (first | refine blk_drewN ?_ _ | refine blk_drew ?_ | refine blk_alloc ?_ _)); exact BK249.out) Tryz.underlying166 rfl (by kernel_rfl)) rfl ?_
  exact ⟨er_, hb2_ HB.out GE248.out GE249.out⟩
 ·rw [if_neg c3] at H
  have c3b0 : decide (a1 ≤ 0) = false := decide_eq_false c3
  clear c3
  by_cases c9 : a1 ≥ 128
  ·rw [if_pos c9] at H
   have c9b0 : decide (128 ≤ a1) = true := decide_eq_true c9
   clear c9
   simp only [Option.some.injEq, Prod.mk.injEq] at H
   obtain ⟨rfl, rfl⟩ := H
   go_enter Tryz.func242, Tryz.ntmps242
   go_wp2_with (first | ((with_reducible refine gate_dst (N := 2) rfl ?_); refine be_ 2 #[.int .u64 a0_0, .int .u64 a0_1] 166 ?_; intro gb248 hg w10 hbox hb; have BK248 := A_ (hbox); have GW248 := A_ (sz_ hg (hb_ HB.out)); have GE248 := A_ (sz_ hg (hb_ HB.out)); replace HB := A_ (below_step (hb_ HB.out) hb); clear hb hbox hg) | ((with_reducible refine gate_dst (N := 4) rfl ?_); refine be_ 4 #[.int .u64 0, .int .u64 0] 166 ?_; intro gb249 hg w11 hbox hb; have BK249 := A_ (hbox); have GW249 := A_ (sz_ hg (hb1_ HB.out GE248.out)); have GE249 := A_ (sz_ hg (hb1_ HB.out GE248.out)); have NB248_249 := A_ (nl_ hg BK248.out); have NB249_248 := A_ (ng_ hg BK248.out); replace BK248 := A_ (bb_ BK248.out hb); replace HB := A_ (below_step (hb1_ HB.out GE248.out) hb); clear hb hbox hg; have hnb12 := NB249_248.out; have hnc12 := NB248_249.out; have hcz13_0 := bv_ BK249.out 0; have hcz13_1 := bv_ BK249.out 1; have hfz13_0 := blk_frozen BK249.out 0; have hfz13_1 := blk_frozen BK249.out 1))
   refine bodyPost_ret (results_cell_row rfl _ _ gb249 166 #[.int .u64 0, .int .u64 0] (0, 0) _ rfl (by (with_reducible repeat (first | refine blk_drewN ?_ _ | refine blk_drew ?_ | refine blk_alloc ?_ _)); refine blk_put (cs := #[.int .u64 0, .int .u64 0]) ?_ 1 _ rfl; (with_reducible repeat (first | refine blk_drewN ?_ _ | refine blk_drew ?_ | refine blk_alloc ?_ _)); refine blk_put (cs := #[.int .u64 0, .int .u64 0]) ?_ 0 _ rfl; (with_reducible repeat (first | refine blk_drewN ?_ _ | refine blk_drew ?_ | refine blk_alloc ?_ _)); exact BK249.out) Tryz.underlying166 rfl (by kernel_rfl)) rfl ?_
   exact ⟨er_, hb2_ HB.out GE248.out GE249.out⟩
  ·rw [if_neg c9] at H
   have c9b0 : decide (128 ≤ a1) = false := decide_eq_false c9
   clear c9
   by_cases c14 : a1 ≥ 64
   ·rw [if_pos c14] at H
    have c14b0 : decide (64 ≤ a1) = true := decide_eq_true c14
    clear c14
    obtain ⟨ji15, hji15⟩ : ∃ j_ : Int, (wrap64 (a1 - 64)) = j_ := ⟨_, rfl⟩
    replace H : (if 0 ≤ (ji15) then (some (shl .u64 a0_1 (ji15), 0)) else (none)) = some (r1, r2) := by first | (rw [hji15] at H; exact H) | (simp only [hji15] at H ⊢; exact H)
    have hji15w : (IntKind.i64.wrap (a1 - 64)) = ji15 := (i64_w _).trans hji15
    by_cases c16 : 0 ≤ (ji15)
    ·rw [if_pos c16] at H
     have c16b0 := eq_true c16
     have c16b1 : decide (0 ≤ (ji15)) = true := decide_eq_true c16
     clear c16
     obtain ⟨ji17, hji17⟩ : ∃ j_ : Int, (shl .u64 a0_1 (ji15)) = j_ := ⟨_, rfl⟩
     replace H : (some (ji17, 0)) = some (r1, r2) := by first | (rw [hji17] at H; exact H) | (simp only [hji17] at H ⊢; exact H)
     have hji17_ : (IntKind.u64.wrap (a0_1 * 2 ^ min (ji15).toNat 64)) = ji17 := hji17
     have hji17z : (ji15) ≤ 64 → (IntKind.u64.wrap (a0_1 * 2 ^ (ji15).toNat)) = ji17 := shl_small hji17
     simp only [Option.some.injEq, Prod.mk.injEq] at H
     obtain ⟨rfl, rfl⟩ := H
     go_enter Tryz.func242, Tryz.ntmps242
     go_wp2_with (first | ((with_reducible refine gate_dst (N := 2) rfl ?_); refine be_ 2 #[.int .u64 a0_0, .int .u64 a0_1] 166 ?_; intro gb248 hg w18 hbox hb; have BK248 := A_ (hbox); have GW248 := A_ (sz_ hg (hb_ HB.out)); have GE248 := A_ (sz_ hg (hb_ HB.out)); replace HB := A_ (below_step (hb_ HB.out) hb); clear hb hbox hg) | ((with_reducible refine gate_dst (N := 4) rfl ?_); refine be_ 4 #[.int .u64 0, .int .u64 0] 166 ?_; intro gb249 hg w19 hbox hb; have BK249 := A_ (hbox); have GW249 := A_ (sz_ hg (hb1_ HB.out GE248.out)); have GE249 := A_ (sz_ hg (hb1_ HB.out GE248.out)); have NB248_249 := A_ (nl_ hg BK248.out); have NB249_248 := A_ (ng_ hg BK248.out); replace BK248 := A_ (bb_ BK248.out hb); replace HB := A_ (below_step (hb1_ HB.out GE248.out) hb); clear hb hbox hg; have hnb20 := NB248_249.out; have hnc20 := NB249_248.out; have hcz21_0 := bv_ BK248.out 0; have hcz21_1 := bv_ BK248.out 1; have hfz21_0 := blk_frozen BK248.out 0; have hfz21_1 := blk_frozen BK248.out 1; have hcz22_0 := bv_ BK249.out 0; have hcz22_1 := bv_ BK249.out 1; have hfz22_0 := blk_frozen BK249.out 0; have hfz22_1 := blk_frozen BK249.out 1))
     refine bodyPost_ret (results_cell_row rfl _ _ gb249 166 #[.int .u64 ji17, .int .u64 0] (0, 0) _ rfl (by (with_reducible repeat (first | refine blk_drewN ?_ _ | refine blk_drew ?_ | refine blk_alloc ?_ _)); refine blk_put (cs := #[.int .u64 ji17, .int .u64 0]) ?_ 1 _ rfl; (with_reducible repeat (first | refine blk_drewN ?_ _ | refine blk_drew ?_ | refine blk_alloc ?_ _)); refine blk_put (cs := #[.int .u64 0, .int .u64 0]) ?_ 0 _ rfl; (with_reducible repeat (first | refine blk_drewN ?_ _ | refine blk_drew ?_ | refine blk_alloc ?_ _)); exact BK249.out) Tryz.underlying166 rfl (by kernel_rfl)) rfl ?_
     exact ⟨by first | rfl | (simp [errW_none, errW_some] <;> rfl) | (simp only [← hji15, ← hji17]; first | rfl | (simp [errW_none, errW_some] <;> rfl)) | (simp [*, errW_none, errW_some] <;> rfl), hb2_ HB.out GE248.out GE249.out⟩
    ·rw [if_neg c16] at H
     exact absurd H (by simp)
   ·rw [if_neg c14] at H
    have c14b0 : decide (64 ≤ a1) = false := decide_eq_false c14
    clear c14
    by_cases c23 : 0 ≤ a1
    ·rw [if_pos c23] at H
     have c23b0 := eq_true c23
     have c23b1 : decide (0 ≤ a1) = true := decide_eq_true c23
     clear c23
     obtain ⟨ji24, hji24⟩ : ∃ j_ : Int, (shl .u64 a0_0 a1) = j_ := ⟨_, rfl⟩
     replace H : (if 0 ≤ (wrap64 (64 - a1)) then (some (Go.bits .or .u64 (ji24) (shr .u64 a0_1 (wrap64 (64 - a1))), shl .u64 a0_1 a1)) else (none)) = some (r1, r2) := by first | (rw [hji24] at H; exact H) | (simp only [hji24] at H ⊢; exact H)
     have hji24_ : (IntKind.u64.wrap (a0_0 * 2 ^ min a1.toNat 64)) = ji24 := hji24
     have hji24z : a1 ≤ 64 → (IntKind.u64.wrap (a0_0 * 2 ^ a1.toNat)) = ji24 := shl_small hji24
     obtain ⟨ji25, hji25⟩ : ∃ j_ : Int, (wrap64 (64 - a1)) = j_ := ⟨_, rfl⟩
     replace H : (if 0 ≤ (ji25) then (some (Go.bits .or .u64 (ji24) (shr .u64 a0_1 (ji25)), shl .u64 a0_1 a1)) else (none)) = some (r1, r2) := by first | (rw [hji25] at H; exact H) | (simp only [hji25] at H ⊢; exact H)
     have hji25w : (IntKind.i64.wrap (64 - a1)) = ji25 := (i64_w _).trans hji25
     by_cases c26 : 0 ≤ (ji25)
     ·rw [if_pos c26] at H
      have c26b0 := eq_true c26
      have c26b1 : decide (0 ≤ (ji25)) = true := decide_eq_true c26
      clear c26
      obtain ⟨ji27, hji27⟩ : ∃ j_ : Int, (shr .u64 a0_1 (ji25)) = j_ := ⟨_, rfl⟩
      replace H : (some (Go.bits .or .u64 (ji24) (ji27), shl .u64 a0_1 a1)) = some (r1, r2) := by first | (rw [hji27] at H; exact H) | (simp only [hji27] at H ⊢; exact H)
      have hji27_ : (a0_1 / 2 ^ min (ji25).toNat 64) = ji27 := hji27
      have hji27z : (ji25) ≤ 64 → (a0_1 / 2 ^ (ji25).toNat) = ji27 := shr_small hji27
      have c28b0 := eq_true (of_decide_eq_true (by first | (with_reducible assumption) | assumption) : 0 ≤ a1)
      obtain ⟨ji29, hji29⟩ : ∃ j_ : Int, (shl .u64 a0_1 a1) = j_ := ⟨_, rfl⟩
      replace H : (some (Go.bits .or .u64 (ji24) (ji27), ji29)) = some (r1, r2) := by first | (rw [hji29] at H; exact H) | (simp only [hji29] at H ⊢; exact H)
      have hji29_ : (IntKind.u64.wrap (a0_1 * 2 ^ min a1.toNat 64)) = ji29 := hji29
      have hji29z : a1 ≤ 64 → (IntKind.u64.wrap (a0_1 * 2 ^ a1.toNat)) = ji29 := shl_small hji29
      simp only [Option.some.injEq, Prod.mk.injEq] at H
      obtain ⟨rfl, rfl⟩ := H
      go_enter Tryz.func242, Tryz.ntmps242
      try go_wp2_with (first | ((with_reducible refine gate_dst (N := 2) rfl ?_); refine be_ 2 #[.int .u64 a0_0, .int .u64 a0_1] 166 ?_; intro gb248 hg w30 hbox hb; have BK248 := A_ (hbox); have GW248 := A_ (sz_ hg (hb_ HB.out)); have GE248 := A_ (sz_ hg (hb_ HB.out)); replace HB := A_ (below_step (hb_ HB.out) hb); clear hb hbox hg) | ((with_reducible refine gate_dst (N := 4) rfl ?_); refine be_ 4 #[.int .u64 0, .int .u64 0] 166 ?_; intro gb249 hg w31 hbox hb; have BK249 := A_ (hbox); have GW249 := A_ (sz_ hg (hb1_ HB.out GE248.out)); have GE249 := A_ (sz_ hg (hb1_ HB.out GE248.out)); have NB248_249 := A_ (nl_ hg BK248.out); have NB249_248 := A_ (ng_ hg BK248.out); replace BK248 := A_ (bb_ BK248.out hb); replace HB := A_ (below_step (hb1_ HB.out GE248.out) hb); clear hb hbox hg))
      replace BK248 := A_ (blk_drew BK248.out)
      replace BK249 := A_ (blk_drew BK249.out)
      replace HB := A_ (below_drew1 HB.out)
      refine start_ (n := 16) (S := fun w' => w'.cell? ⟨gb248, 0, none⟩ = some (.int .u64 a0_0) ∧ w'.cell? ⟨gb248, 1, none⟩ = some (.int .u64 a0_1)) (ds := []) #[false, false, false, false, false, false, false, false, false, false, false, false, false, false, false, false] (by kernel_rfl) rfl rfl ⟨bc_ BK248.out 0, bc_ BK248.out 1⟩ (fun hHeld => ?_); refine with_tabW wide_Left.tab7 wide_Left.bits7 (fun HT_ HW_ => ?_)
      generalize w31.drew = w32 at BK248 BK249 HB hHeld ⊢
      refine pu_ 0 (some 22) #[true, false, false, false, false, false, false, false, false, false, false, false, false, false, false, false] rfl rfl (any_of HT_.out (by kernel_rfl)) ?_
      refine pu_ 2 (some 24) #[true, false, true, false, false, false, false, false, false, false, false, false, false, false, false, false] rfl rfl (any_of HT_.out (by kernel_rfl)) ?_
      refine pu_ 4 (some 26) #[true, false, true, false, true, false, false, false, false, false, false, false, false, false, false, false] rfl rfl (any_of HT_.out (by kernel_rfl)) ?_
      refine pu_ 6 (some 28) #[true, false, true, false, true, false, true, false, false, false, false, false, false, false, false, false] rfl rfl (any_of HT_.out (by kernel_rfl)) ?_
      refine pu_ 7 (some 29) #[true, false, true, false, true, false, true, true, false, false, false, false, false, false, false, false] rfl rfl (any_of HT_.out (by kernel_rfl)) ?_
      refine pu_ 10 (some 32) #[true, false, true, false, true, false, true, true, false, false, true, false, false, false, false, false] rfl rfl (any_of HT_.out (by kernel_rfl)) ?_
      refine pu_ 12 (some 34) #[true, false, true, false, true, false, true, true, false, false, true, false, true, false, false, false] rfl rfl (any_of HT_.out (by kernel_rfl)) ?_
      refine tk2_ 1 (some 23) #[true, true, true, false, true, false, true, true, false, false, true, false, true, false, false, false] rfl rfl (take_ofW HT_.out HW_.out (by kernel_rfl)) hHeld ?_
      refine pu_ 3 (some 25) #[true, true, true, true, true, false, true, true, false, false, true, false, true, false, false, false] rfl rfl (any_of HT_.out (by kernel_rfl)) ?_
      refine tk2_ 5 (some 27) #[true, true, true, true, true, true, true, true, false, false, true, false, true, false, false, false] rfl rfl (take_ofW HT_.out HW_.out (by kernel_rfl)) hHeld ?_
      refine pu_ 8 (some 30) #[true, true, true, true, true, true, true, true, true, false, true, false, true, false, false, false] rfl rfl (any_of HT_.out (by kernel_rfl)) ?_
      refine pu_ 9 (some 31) #[true, true, true, true, true, true, true, true, true, true, true, false, true, false, false, false] rfl rfl (any_of HT_.out (by kernel_rfl)) ?_
      refine tk2_ 11 (some 33) #[true, true, true, true, true, true, true, true, true, true, true, true, true, false, false, false] rfl rfl (take_ofW HT_.out HW_.out (by kernel_rfl)) hHeld ?_
      refine pu_ 13 (some 35) #[true, true, true, true, true, true, true, true, true, true, true, true, true, true, false, false] rfl rfl (any_of HT_.out (by kernel_rfl)) ?_
      refine pu_ 14 (some 36) #[true, true, true, true, true, true, true, true, true, true, true, true, true, true, true, false] rfl rfl (any_of HT_.out (by kernel_rfl)) ?_
      refine one_ (i := 15) (N := none) #[true, true, true, true, true, true, true, true, true, true, true, true, true, true, true, true] rfl rfl (one_of HT_.out (by kernel_rfl)) (by decide) (fun K hK => ?_)
      have hs33 : w32.cell? ⟨gb249, 0, none⟩ = some (.int .u64 0) := bc_ BK249.out 0
      have hfs33 := blk_frozen BK249.out 0
      have hns33_0 := NB248_249.out
      have hms33_0 := NB249_248.out
      have hs34 : w32.cell? ⟨gb249, 1, none⟩ = some (.int .u64 0) := bc_ BK249.out 1
      have hfs34 := blk_frozen BK249.out 1
      have hns34_0 := NB248_249.out
      have hms34_0 := NB249_248.out
      refine skip_ (w1 := ?_) (by rfl) rfl ?_ ?_
      rotate_left
      ·go_simp
       rfl
      refine hK.out _ _ ⟨((cell_far (p := ⟨gb249, _, none⟩) NB248_249.out _).trans (((cell_far (p := ⟨gb249, _, none⟩) NB248_249.out _).trans (hHeld.1)))), ((cell_far (p := ⟨gb249, _, none⟩) NB248_249.out _).trans (((cell_far (p := ⟨gb249, _, none⟩) NB248_249.out _).trans (hHeld.2))))⟩ (fun hHeld => ?_)
      clear hK K
      refine done_ (done_of HT_.out (by kernel_rfl)) ?_
      try go_wp2
      refine bodyPost_ret (results_cell_row rfl _ _ gb249 166 #[.int .u64 (Go.bits .or .u64 (ji24) (ji27)), .int .u64 ji29] (0, 0) _ rfl (by (with_reducible repeat (first | refine blk_drewN ?_ _ | refine blk_drew ?_ | refine blk_alloc ?_ _)); refine blk_put (cs := #[.int .u64 (Go.bits .or .u64 (ji24) (ji27)), .int .u64 0]) ?_ 1 _ rfl; (with_reducible repeat (first | refine blk_drewN ?_ _ | refine blk_drew ?_ | refine blk_alloc ?_ _)); refine blk_put (cs := #[.int .u64 0, .int .u64 0]) ?_ 0 _ rfl; (with_reducible repeat (first | refine blk_drewN ?_ _ | refine blk_drew ?_ | refine blk_alloc ?_ _)); exact BK249.out) Tryz.underlying166 rfl (by kernel_rfl)) rfl ?_
      exact ⟨by first | rfl | (simp [errW_none, errW_some] <;> rfl) | (simp only [← hji24, ← hji25, ← hji27, ← hji29]; first | rfl | (simp [errW_none, errW_some] <;> rfl)) | (simp [*, errW_none, errW_some] <;> rfl), hb2_ HB.out GE248.out GE249.out⟩
     ·rw [if_neg c26] at H
      exact absurd H (by simp)
    ·rw [if_neg c23] at H
     exact absurd H (by simp)
end Go.Proofs.YtnmlmgmljoncoaaGreatDoor.PA
namespace Go.Proofs
open Go.Shelf
def Tryz.lays134_ren : Go.Shelf.Ren := ⟨fun | 134 => 262 | 129 => 128 | n => n, fun | 53 => 22 | 3 => 3 | 4 => 4 | 46 => 50 | 5 => 5 | 9 => 9 | n => n, fun | n => n⟩
theorem Tryz.lays134 : Go.Proofs.Lays.n134 Tryz.prog Tryz.lays134_ren := {
  mixed := by kernel_rfl
  f129 := Tryz.func128.trans (congrArg some (by kernel_rfl))
  f134 := Tryz.func262.trans (congrArg some (by kernel_rfl))
  t3 := Tryz.underlying3
  a3 := Tryz.isAgg3
  z3 := Tryz.sizeOf3
  v3 := Tryz.zeroValue3
  t4 := Tryz.underlying4
  a4 := Tryz.isAgg4
  z4 := Tryz.sizeOf4
  v4 := Tryz.zeroValue4
  t5 := Tryz.underlying5
  a5 := Tryz.isAgg5
  z5 := Tryz.sizeOf5
  v5 := Tryz.zeroValue5
  t9 := Tryz.underlying9
  a9 := Tryz.isAgg9
  z9 := Tryz.sizeOf9
  v9 := Tryz.zeroValue9
  t46 := Tryz.underlying50
  a46 := Tryz.isAgg50
  z46 := Tryz.sizeOf50
  v46 := Tryz.zeroValue50
  t53 := Tryz.underlying22
  a53 := Tryz.isAgg22
  z53 := Tryz.sizeOf22
  v53 := Tryz.zeroValue22 }
theorem Tryz.bits_LeadingZeros64 (x : Int) (w : World) (h0 : 0 ≤ x) (h1 : x ≤ 18446744073709551615) :
    Calls Tryz.prog 262 #[.int .u64 x] w fun e w' => e = .returned (.int .i64 (64 - (Lib.bitLen x.toNat : Int))) ∧ w' = w := Any.bits_LeadingZeros64 Tryz.lays134 x w h0 h1
def Tryz.lays129_ren : Go.Shelf.Ren := ⟨fun | 129 => 128 | n => n, fun | 53 => 22 | 3 => 3 | 4 => 4 | 46 => 50 | 5 => 5 | 9 => 9 | n => n, fun | n => n⟩
theorem Tryz.lays129 : Go.Proofs.Lays.n129 Tryz.prog Tryz.lays129_ren := {
  mixed := by kernel_rfl
  f129 := Tryz.func128.trans (congrArg some (by kernel_rfl))
  t3 := Tryz.underlying3
  a3 := Tryz.isAgg3
  z3 := Tryz.sizeOf3
  v3 := Tryz.zeroValue3
  t4 := Tryz.underlying4
  a4 := Tryz.isAgg4
  z4 := Tryz.sizeOf4
  v4 := Tryz.zeroValue4
  t5 := Tryz.underlying5
  a5 := Tryz.isAgg5
  z5 := Tryz.sizeOf5
  v5 := Tryz.zeroValue5
  t9 := Tryz.underlying9
  a9 := Tryz.isAgg9
  z9 := Tryz.sizeOf9
  v9 := Tryz.zeroValue9
  t46 := Tryz.underlying50
  a46 := Tryz.isAgg50
  z46 := Tryz.sizeOf50
  v46 := Tryz.zeroValue50
  t53 := Tryz.underlying22
  a53 := Tryz.isAgg22
  z53 := Tryz.sizeOf22
  v53 := Tryz.zeroValue22 }
theorem Tryz.bits_Len64 (x : Int) (w : World) (h0 : 0 ≤ x) (h1 : x ≤ 18446744073709551615) :
    Calls Tryz.prog 128 #[.int .u64 x] w fun e w' => e = .returned (.int .i64 (Lib.bitLen x.toNat)) ∧ w' = w := Any.bits_Len64 Tryz.lays129 x w h0 h1
def Tryz.lays264_ren : Go.Shelf.Ren := ⟨fun | 264 => 249 | n => n, fun | 53 => 22 | 46 => 50 | n => n, fun | n => n⟩
theorem Tryz.lays264 : Go.Proofs.Lays.n264 Tryz.prog Tryz.lays264_ren := {
  mixed := by kernel_rfl
  f264 := Tryz.func249.trans (congrArg some (by kernel_rfl))
  t46 := Tryz.underlying50
  a46 := Tryz.isAgg50
  z46 := Tryz.sizeOf50
  v46 := Tryz.zeroValue50
  t53 := Tryz.underlying22
  a53 := Tryz.isAgg22
  z53 := Tryz.sizeOf22
  v53 := Tryz.zeroValue22 }
open Go.RowKit Go.Lib in
theorem Tryz.bits_Mul64 (x y : Nat) (hx : x < 18446744073709551616) (hy : y < 18446744073709551616) (w : World) :
    Calls Tryz.prog 249 #[.int .u64 x, .int .u64 y] w fun e w' => e = .returned (.tuple #[.int .u64 ((x * y / 18446744073709551616 : Nat) : Int), .int .u64 ((x * y % 18446744073709551616 : Nat) : Int)]) ∧ w' = w := Any.bits_Mul64 Tryz.lays264 x y hx hy w
end Go.Proofs
namespace Go.Proofs.YtnmlmgmljoncoaaGreatDoor.PA
open Go.RowKit Go.Proofs.YtnmlmgmljoncoaaGreatDoorW.PrintWords Go.Proofs.YtnmlmgmljoncoaaGreatDoorW.PrintLast Go.Proofs.YtnmlmgmljoncoaaGreatDoorW.PrintMore
attribute [local go_sem] max2_int min2_int max_two min_two max_three min_three max_four min_four   -- for this text's walks alone
set_option linter.unusedVariables false
set_option linter.unusedSimpArgs false
set_option maxHeartbeats 8000000
set_option maxRecDepth 100000
-- IMPORT Derived.Test.YtnmlmgmljoncoaaGreatDoorShelf
def bits_Len64.f (a0 : Int) : Option (Int) := if 0 ≤ a0 ∧ a0 ≤ 18446744073709551615 then some ((Lib.bitLen a0.toNat : Nat) : Int) else none
theorem bits_Len64.calls (a0 : Int) (r : Int) (w : World) (h : bits_Len64.f a0 = some r) :
  Calls Tryz.prog 128 #[.int .u64 a0] w fun e w' => e = .returned (.int .i64 r) ∧ Drawn0 w w' := by
 unfold bits_Len64.f at h
 split at h
 ·rename_i hr
  obtain rfl := Option.some.inj h
  refine (Tryz.bits_Len64 a0 w hr.1 hr.2).mono ?_
  rintro e w' ⟨rfl, rfl⟩
  exact ⟨rfl, Drawn0.refl _⟩
 ·cases h
def wide_Len.f (a0_0 : Int) (a0_1 : Int) : Option (Int) := if a0_0 > 0 then ((bits_Len64.f a0_0).bind fun t278 => (some (wrap64 (64 + t278)))) else ((bits_Len64.f a0_1).bind fun t279 => (some t279))
theorem wide_Len.calls (a0_0 : Int) (a0_1 : Int) (r : Int) (w : World) (h : wide_Len.f a0_0 a0_1 = some r) :
  Calls Tryz.prog 240 #[.agg #[.int .u64 a0_0, .int .u64 a0_1]] w fun e w' => e = .returned (.int .i64 r) ∧ Below w.heap.size w w' := by
 have hu166 := Tryz.underlying166
 have HB := A_ (Below.refl w.heap.size w)
 have H : (if a0_0 > 0 then ((bits_Len64.f a0_0).bind fun t278 => (some (wrap64 (64 + t278)))) else ((bits_Len64.f a0_1).bind fun t279 => (some t279))) = some r := h
 clear h
 by_cases c2 : a0_0 > 0
 ·rw [if_pos c2] at H
  have c2b0 : decide (0 < a0_0) = true := decide_eq_true c2
  clear c2
  replace H := ob_ H
  obtain ⟨t278, A30, H⟩ := H
  replace H : (some (wrap64 (64 + t278))) = some r := H
  have A3 := A_ A30;clear A30
  obtain rfl := Option.some.inj H
  go_enter Tryz.func240, Tryz.ntmps240
  go_wp2_with (first | ((with_reducible refine gate_dst (N := 1) rfl ?_); refine be_ 1 #[.int .u64 a0_0, .int .u64 a0_1] 166 ?_; intro gb277 hg w4 hbox hb; have BK277 := A_ (hbox); have GW277 := A_ (sz_ hg (hb_ HB.out)); have GE277 := A_ (sz_ hg (hb_ HB.out)); replace HB := A_ (below_step (hb_ HB.out) hb); clear hb hbox hg; have hcz5_0 := bv_ BK277.out 0; have hcz5_1 := bv_ BK277.out 1; have hfz5_0 := blk_frozen BK277.out 0; have hfz5_1 := blk_frozen BK277.out 1) | ((with_reducible refine gate_callee (f := 128) rfl ?_); refine goesL_ (some 8) rfl rfl Tryz.func128 (by kernel_rfl) rfl #[.int .u64 a0_0] rfl mp_ ?_; (with_reducible refine (bits_Len64.calls a0_0 t278 _ A3.out).mono ?_); rintro e w' ⟨rfl, ⟨nd, rfl⟩⟩; refine ⟨_, rfl, ?_⟩))
  go_ret
  exact ⟨er_, hb1_ HB.out GE277.out⟩
 ·rw [if_neg c2] at H
  have c2b0 : decide (0 < a0_0) = false := decide_eq_false c2
  clear c2
  replace H := ob_ H
  obtain ⟨t279, A60, H⟩ := H
  replace H : (some t279) = some r := H
  have A6 := A_ A60;clear A60
  obtain rfl := Option.some.inj H
  go_enter Tryz.func240, Tryz.ntmps240
  go_wp2_with (first | ((with_reducible refine gate_dst (N := 1) rfl ?_); refine be_ 1 #[.int .u64 a0_0, .int .u64 a0_1] 166 ?_; intro gb277 hg w7 hbox hb; have BK277 := A_ (hbox); have GW277 := A_ (sz_ hg (hb_ HB.out)); have GE277 := A_ (sz_ hg (hb_ HB.out)); replace HB := A_ (below_step (hb_ HB.out) hb); clear hb hbox hg; have hcz8_0 := bv_ BK277.out 0; have hcz8_1 := bv_ BK277.out 1; have hfz8_0 := blk_frozen BK277.out 0; have hfz8_1 := blk_frozen BK277.out 1) | ((with_reducible refine gate_callee (f := 128) rfl ?_); refine goesL_ (some 12) rfl rfl Tryz.func128 (by kernel_rfl) rfl #[.int .u64 a0_1] rfl mp_ ?_; (with_reducible refine (bits_Len64.calls a0_1 t279 _ A6.out).mono ?_); rintro e w' ⟨rfl, ⟨nd, rfl⟩⟩; refine ⟨_, rfl, ?_⟩))
  go_ret
  exact ⟨er_, hb1_ HB.out GE277.out⟩
end Go.Proofs.YtnmlmgmljoncoaaGreatDoor.PA
