/- What the Go functions that the statement ChopTraps reaches compute, and the mathematics on it, in the order in which one leans on the other; for every input. -/
import Derived.Test.YtjjehbedpgdhgaaVChopTraps0
import Derived.Test.YtjjehbedpgdhgaaMChopTraps0
import Derived.Test.YtjjehbedpgdhgaaMChopTraps3
import Derived.Test.YtjjehbedpgdhgaaMChopTraps2
import Derived.Test.YtjjehbedpgdhgaaMChopTraps5
namespace Go.Proofs.Ytjjehbedpgdhgaa.PA
open Go.RowKit Go.Proofs.YtjjehbedpgdhgaaW.PrintWords Go.Proofs.YtjjehbedpgdhgaaW.PrintLast Go.Proofs.YtjjehbedpgdhgaaW.PrintMore
attribute [local go_sem] max2_int min2_int max_two min_two max_three min_three max_four min_four   -- for this text's walks alone
set_option linter.unusedVariables false
set_option linter.unusedSimpArgs false
set_option maxHeartbeats 8000000
set_option maxRecDepth 100000
def trunnionref12_High.f (k : Nat) (a0 : Int) (a1 : Bool) : Option (Int) := (r2_Two.f k (wrap64 (a0 - 1))).bind fun t455 => (if a1 = true then (some (IntKind.u64.wrap (t455 - 1))) else (some (IntKind.u64.wrap ((IntKind.u64.wrap (t455 - 1)) + t455))))
theorem trunnionref12_High.mono : ∀ a0 a1 k, LeO (trunnionref12_High.f k a0 a1) (trunnionref12_High.f (k + 1) a0 a1) := by
 intro a0 a1 k
 unfold trunnionref12_High.f
 repeat' first
   | (with_reducible exact r2_Two.mono _ _)
   | (with_reducible exact LeO.refl _)
   | (with_reducible exact LeO.none _)
   | (with_reducible refine LeO.ite ?_ ?_)
   | (with_reducible refine LeO.bind ?_ (fun _ => ?_))
   | exact r2_Two.mono _ _
   | exact LeO.none _
   | refine LeO.ite ?_ ?_
   | refine LeO.bind ?_ (fun _ => ?_)
theorem trunnionref12_High.calls (k : Nat) (a0 : Int) (a1 : Bool) (r : Int) (w : World) (h : trunnionref12_High.f k a0 a1 = some r) :
  Calls Try.prog 26 #[.int .i64 a0, .bool a1] w fun e w' => e = .returned (.int .u64 r) ∧ Drawn0 w w' := by
 have H : ((r2_Two.f k (wrap64 (a0 - 1))).bind fun t455 => (if a1 = true then (some (IntKind.u64.wrap (t455 - 1))) else (some (IntKind.u64.wrap ((IntKind.u64.wrap (t455 - 1)) + t455))))) = some r := h
 clear h
 replace H := ob_ H
 obtain ⟨t455, A30, H⟩ := H
 replace H : (if a1 = true then (some (IntKind.u64.wrap (t455 - 1))) else (some (IntKind.u64.wrap ((IntKind.u64.wrap (t455 - 1)) + t455)))) = some r := H
 have A3 := A_ A30;clear A30
 by_cases c4 : a1 = true
 ·subst c4
  have H1 : (some (IntKind.u64.wrap (t455 - 1))) = some r := by rw [if_pos rfl] at H; exact H
  clear H;have H := H1;clear H1
  obtain rfl := Option.some.inj H
  go_enter Try.func26, Try.ntmps26
  go_wp2_with (first | ((with_reducible refine gate_callee (f := 58) rfl ?_); refine gl_ (some 8) Try.func58 #[.int .i64 (wrap64 (a0 - 1))] ?_; (with_reducible refine (r2_Two.calls k (wrap64 (a0 - 1)) t455 _ A3.out).mono ?_); rintro e w' ⟨rfl, ⟨nd, rfl⟩⟩; refine ⟨_, rfl, ?_⟩))
  go_ret
  exact ⟨sm_, by repeat (first | exact Drawn0.refl _ | apply Drawn0.step)⟩
 ·replace c4 := Bool.eq_false_iff.mpr c4
  subst c4
  have H1 : (some (IntKind.u64.wrap ((IntKind.u64.wrap (t455 - 1)) + t455))) = some r := by rw [if_neg (show ¬ (false = true) by decide)] at H; exact H
  clear H;have H := H1;clear H1
  obtain rfl := Option.some.inj H
  go_enter Try.func26, Try.ntmps26
  go_wp2_with (first | ((with_reducible refine gate_callee (f := 58) rfl ?_); refine gl_ (some 8) Try.func58 #[.int .i64 (wrap64 (a0 - 1))] ?_; (with_reducible refine (r2_Two.calls k (wrap64 (a0 - 1)) t455 _ A3.out).mono ?_); rintro e w' ⟨rfl, ⟨nd, rfl⟩⟩; refine ⟨_, rfl, ?_⟩))
  go_ret
  exact ⟨sm_, by repeat (first | exact Drawn0.refl _ | apply Drawn0.step)⟩
def trunnionref12_Low.f (k : Nat) (a0 : Int) (a1 : Bool) : Option (Int) := if a1 = true then ((r2_Two.f k (wrap64 (a0 - 1))).bind fun t454 => (some t454)) else (some 0)
theorem trunnionref12_Low.mono : ∀ a0 a1 k, LeO (trunnionref12_Low.f k a0 a1) (trunnionref12_Low.f (k + 1) a0 a1) := by
 intro a0 a1 k
 unfold trunnionref12_Low.f
 repeat' first
   | (with_reducible exact r2_Two.mono _ _)
   | (with_reducible exact LeO.refl _)
   | (with_reducible exact LeO.none _)
   | (with_reducible refine LeO.ite ?_ ?_)
   | (with_reducible refine LeO.bind ?_ (fun _ => ?_))
   | exact r2_Two.mono _ _
   | exact LeO.none _
   | refine LeO.ite ?_ ?_
   | refine LeO.bind ?_ (fun _ => ?_)
theorem trunnionref12_Low.calls (k : Nat) (a0 : Int) (a1 : Bool) (r : Int) (w : World) (h : trunnionref12_Low.f k a0 a1 = some r) :
  Calls Try.prog 25 #[.int .i64 a0, .bool a1] w fun e w' => e = .returned (.int .u64 r) ∧ Drawn0 w w' := by
 have H : (if a1 = true then ((r2_Two.f k (wrap64 (a0 - 1))).bind fun t454 => (some t454)) else (some 0)) = some r := h
 clear h
 by_cases c3 : a1 = true
 ·subst c3
  have H1 : ((r2_Two.f k (wrap64 (a0 - 1))).bind fun t454 => (some t454)) = some r := by rw [if_pos rfl] at H; exact H
  clear H;have H := H1;clear H1
  replace H := ob_ H
  obtain ⟨t454, A40, H⟩ := H
  replace H : (some t454) = some r := H
  have A4 := A_ A40;clear A40
  obtain rfl := Option.some.inj H
  go_enter Try.func25, Try.ntmps25
  go_wp2_with (first | ((with_reducible refine gate_callee (f := 58) rfl ?_); refine gl_ (some 8) Try.func58 #[.int .i64 (wrap64 (a0 - 1))] ?_; (with_reducible refine (r2_Two.calls k (wrap64 (a0 - 1)) t454 _ A4.out).mono ?_); rintro e w' ⟨rfl, ⟨nd, rfl⟩⟩; refine ⟨_, rfl, ?_⟩))
  go_ret
  exact ⟨sm_, by repeat (first | exact Drawn0.refl _ | apply Drawn0.step)⟩
 ·replace c3 := Bool.eq_false_iff.mpr c3
  subst c3
  have H1 : (some 0) = some r := by rw [if_neg (show ¬ (false = true) by decide)] at H; exact H
  clear H;have H := H1;clear H1
  obtain rfl := Option.some.inj H
  go_enter Try.func25, Try.ntmps25
  go_wp2
  go_ret
  exact ⟨sm_, by repeat (first | exact Drawn0.refl _ | apply Drawn0.step)⟩
mutual
def trunnionref12_Chop.j0 : Nat → Int → Bool → Bool → Int → Int → Int → List Int → Option (Int × Int)
 | 0, _, _, _, _, _, _, _ => none
 | k + 1, x1, x3, x543000, x543001, x543002, x543003, x547000 => if x543000 = true then (if x543001 = 2 then (trunnionref12_Chop.j1 k x1 x3 true x543000 x543001 x543002 x543003 x547000) else ((trunnionref12_Low.f k x1 x3).bind fun t552 => ((r1_Of.f k t552).bind fun t553 => ((r1_Cmp.f k x547000 t553).bind fun t556 => (trunnionref12_Chop.j1 k x1 x3 (decide (t556 > 0)) x543000 x543001 x543002 x543003 x547000))))) else (trunnionref12_Chop.j1 k x1 x3 false x543000 x543001 x543002 x543003 x547000)
def trunnionref12_Chop.j1 : Nat → Int → Bool → Bool → Bool → Int → Int → Int → List Int → Option (Int × Int)
 | 0, _, _, _, _, _, _, _, _ => none
 | k + 1, x1, x3, x44, x543000, x543001, x543002, x543003, x547000 => if x44 = true then (some (2, 0)) else (if x543000 = true then (trunnionref12_Chop.j2 k x1 false x543000 x543001 x543002 x543003 x547000) else (if x543001 = 2 then (trunnionref12_Chop.j2 k x1 true x543000 x543001 x543002 x543003 x547000) else ((trunnionref12_High.f k x1 x3).bind fun t557 => ((r1_Of.f k t557).bind fun t558 => ((r1_Cmp.f k x547000 t558).bind fun t561 => (trunnionref12_Chop.j2 k x1 (decide (t561 > 0)) x543000 x543001 x543002 x543003 x547000))))))
def trunnionref12_Chop.j2 : Nat → Int → Bool → Bool → Int → Int → Int → List Int → Option (Int × Int)
 | 0, _, _, _, _, _, _, _ => none
 | k + 1, x1, x61, x543000, x543001, x543002, x543003, x547000 => if x61 = true then (some (3, 0)) else ((r1_Uint.f x547000).bind fun t562 => (if x543000 = true then (if t562 > 0 then ((r2_Cut.f x1 (IntKind.u64.wrap ((IntKind.u64.wrap (18446744073709551615 - t562)) + 1))).bind fun t563 => (some (0, t563))) else ((r2_Cut.f x1 t562).bind fun t564 => (some (0, t564)))) else ((r2_Cut.f x1 t562).bind fun t565 => (some (0, t565)))))
end
def trunnionref12_Chop.f (k : Nat) (a0 : Int) (a1 : Int) (a2 : Int) (a3 : Bool) : Option (Int × Int) := (r2_Open.f k a0 a2).bind fun bt538 => (if bt538.2.1 = 3 then (some (1, 0)) else ((r1_Of.f k 0).bind fun t543 => (if bt538.2.1 = 1 then ((r9_Down.f k bt538.1 bt538.2.1 bt538.2.2.1 bt538.2.2.2).bind fun bt547 => (trunnionref12_Chop.j0 k a1 a3 bt538.1 bt538.2.1 bt538.2.2.1 bt538.2.2.2 bt547.1)) else (trunnionref12_Chop.j0 k a1 a3 bt538.1 bt538.2.1 bt538.2.2.1 bt538.2.2.2 t543))))
theorem trunnionref12_Chop.mono_l : ∀ k, (∀ y0 y1 y2 y3 y4 y5 y6, LeO (trunnionref12_Chop.j0 k y0 y1 y2 y3 y4 y5 y6) (trunnionref12_Chop.j0 (k + 1) y0 y1 y2 y3 y4 y5 y6)) ∧ (∀ y0 y1 y2 y3 y4 y5 y6 y7, LeO (trunnionref12_Chop.j1 k y0 y1 y2 y3 y4 y5 y6 y7) (trunnionref12_Chop.j1 (k + 1) y0 y1 y2 y3 y4 y5 y6 y7)) ∧ (∀ y0 y1 y2 y3 y4 y5 y6, LeO (trunnionref12_Chop.j2 k y0 y1 y2 y3 y4 y5 y6) (trunnionref12_Chop.j2 (k + 1) y0 y1 y2 y3 y4 y5 y6))
 | 0 => ⟨fun _ _ _ _ _ _ _ r h => by simp [trunnionref12_Chop.j0] at h, fun _ _ _ _ _ _ _ _ r h => by simp [trunnionref12_Chop.j1] at h, fun _ _ _ _ _ _ _ r h => by simp [trunnionref12_Chop.j2] at h⟩
 | k + 1 => by
  obtain ⟨ih0, ih1, ih2⟩ := trunnionref12_Chop.mono_l k
  refine ⟨?_, ?_, ?_⟩
  ·intro y0 y1 y2 y3 y4 y5 y6
   unfold trunnionref12_Chop.j0
   repeat' first
   | (with_reducible exact ih0 _ _ _ _ _ _ _)
   | (with_reducible exact ih1 _ _ _ _ _ _ _ _)
   | (with_reducible exact ih2 _ _ _ _ _ _ _)
   | (with_reducible exact r1_Cmp.mono _ _ _)
   | (with_reducible exact r1_Of.mono _ _)
   | (with_reducible exact r2_Open.mono _ _ _)
   | (with_reducible exact r9_Down.mono _ _ _ _ _)
   | (with_reducible exact trunnionref12_High.mono _ _ _)
   | (with_reducible exact trunnionref12_Low.mono _ _ _)
   | (with_reducible exact LeO.refl _)
   | (with_reducible exact LeO.none _)
   | (with_reducible refine LeO.ite ?_ ?_)
   | (with_reducible refine LeO.bind ?_ (fun _ => ?_))
   | exact ih0 _ _ _ _ _ _ _
   | exact ih1 _ _ _ _ _ _ _ _
   | exact ih2 _ _ _ _ _ _ _
   | exact r1_Cmp.mono _ _ _
   | exact r1_Of.mono _ _
   | exact r2_Open.mono _ _ _
   | exact r9_Down.mono _ _ _ _ _
   | exact trunnionref12_High.mono _ _ _
   | exact trunnionref12_Low.mono _ _ _
   | exact LeO.none _
   | refine LeO.ite ?_ ?_
   | refine LeO.bind ?_ (fun _ => ?_)
  ·intro y0 y1 y2 y3 y4 y5 y6 y7
   unfold trunnionref12_Chop.j1
   repeat' first
   | (with_reducible exact ih0 _ _ _ _ _ _ _)
   | (with_reducible exact ih1 _ _ _ _ _ _ _ _)
   | (with_reducible exact ih2 _ _ _ _ _ _ _)
   | (with_reducible exact r1_Cmp.mono _ _ _)
   | (with_reducible exact r1_Of.mono _ _)
   | (with_reducible exact r2_Open.mono _ _ _)
   | (with_reducible exact r9_Down.mono _ _ _ _ _)
   | (with_reducible exact trunnionref12_High.mono _ _ _)
   | (with_reducible exact trunnionref12_Low.mono _ _ _)
   | (with_reducible exact LeO.refl _)
   | (with_reducible exact LeO.none _)
   | (with_reducible refine LeO.ite ?_ ?_)
   | (with_reducible refine LeO.bind ?_ (fun _ => ?_))
   | exact ih0 _ _ _ _ _ _ _
   | exact ih1 _ _ _ _ _ _ _ _
   | exact ih2 _ _ _ _ _ _ _
   | exact r1_Cmp.mono _ _ _
   | exact r1_Of.mono _ _
   | exact r2_Open.mono _ _ _
   | exact r9_Down.mono _ _ _ _ _
   | exact trunnionref12_High.mono _ _ _
   | exact trunnionref12_Low.mono _ _ _
   | exact LeO.none _
   | refine LeO.ite ?_ ?_
   | refine LeO.bind ?_ (fun _ => ?_)
  ·intro y0 y1 y2 y3 y4 y5 y6
   unfold trunnionref12_Chop.j2
   repeat' first
   | (with_reducible exact ih0 _ _ _ _ _ _ _)
   | (with_reducible exact ih1 _ _ _ _ _ _ _ _)
   | (with_reducible exact ih2 _ _ _ _ _ _ _)
   | (with_reducible exact r1_Cmp.mono _ _ _)
   | (with_reducible exact r1_Of.mono _ _)
   | (with_reducible exact r2_Open.mono _ _ _)
   | (with_reducible exact r9_Down.mono _ _ _ _ _)
   | (with_reducible exact trunnionref12_High.mono _ _ _)
   | (with_reducible exact trunnionref12_Low.mono _ _ _)
   | (with_reducible exact LeO.refl _)
   | (with_reducible exact LeO.none _)
   | (with_reducible refine LeO.ite ?_ ?_)
   | (with_reducible refine LeO.bind ?_ (fun _ => ?_))
   | exact ih0 _ _ _ _ _ _ _
   | exact ih1 _ _ _ _ _ _ _ _
   | exact ih2 _ _ _ _ _ _ _
   | exact r1_Cmp.mono _ _ _
   | exact r1_Of.mono _ _
   | exact r2_Open.mono _ _ _
   | exact r9_Down.mono _ _ _ _ _
   | exact trunnionref12_High.mono _ _ _
   | exact trunnionref12_Low.mono _ _ _
   | exact LeO.none _
   | refine LeO.ite ?_ ?_
   | refine LeO.bind ?_ (fun _ => ?_)
theorem trunnionref12_Chop.mono : ∀ a0 a1 a2 a3 k, LeO (trunnionref12_Chop.f k a0 a1 a2 a3) (trunnionref12_Chop.f (k + 1) a0 a1 a2 a3) := by
 intro a0 a1 a2 a3 k
 obtain ⟨ih0, ih1, ih2⟩ := trunnionref12_Chop.mono_l k
 unfold trunnionref12_Chop.f
 repeat' first
   | (with_reducible exact ih0 _ _ _ _ _ _ _)
   | (with_reducible exact ih1 _ _ _ _ _ _ _ _)
   | (with_reducible exact ih2 _ _ _ _ _ _ _)
   | (with_reducible exact r1_Cmp.mono _ _ _)
   | (with_reducible exact r1_Of.mono _ _)
   | (with_reducible exact r2_Open.mono _ _ _)
   | (with_reducible exact r9_Down.mono _ _ _ _ _)
   | (with_reducible exact trunnionref12_High.mono _ _ _)
   | (with_reducible exact trunnionref12_Low.mono _ _ _)
   | (with_reducible exact LeO.refl _)
   | (with_reducible exact LeO.none _)
   | (with_reducible refine LeO.ite ?_ ?_)
   | (with_reducible refine LeO.bind ?_ (fun _ => ?_))
   | exact ih0 _ _ _ _ _ _ _
   | exact ih1 _ _ _ _ _ _ _ _
   | exact ih2 _ _ _ _ _ _ _
   | exact r1_Cmp.mono _ _ _
   | exact r1_Of.mono _ _
   | exact r2_Open.mono _ _ _
   | exact r9_Down.mono _ _ _ _ _
   | exact trunnionref12_High.mono _ _ _
   | exact trunnionref12_Low.mono _ _ _
   | exact LeO.none _
   | refine LeO.ite ?_ ?_
   | refine LeO.bind ?_ (fun _ => ?_)
def trunnionref12_Chop.T7 : Bool × List (List Nat × List Nat) := (true, [([], []), ([0], [0]), ([1], [1]), ([2], [2]), ([3, 2], [2, 3]), ([4, 2], [2, 4]), ([5, 2, 2], [2, 5]), ([6], [6]), ([6], [6]), ([6], [6]), ([8, 9, 6, 6], [6, 8, 9]), ([10, 10, 6], [6, 10]), ([7, 11, 11, 6], [6, 7, 11]), ([12, 6], [6, 12]), ([6, 13, 2], [2, 6, 13]), ([2, 14], [2, 14])])
def trunnionref12_Chop.B7 : List Nat := [0, 1, 3, 7, 15, 31, 63, 127, 127, 127, 895, 1919, 4095, 8191, 16383, 32767]
theorem trunnionref12_Chop.tab7 : rtab .any (opsOf Try.f27 7) = trunnionref12_Chop.T7 := by kernel_rfl
theorem trunnionref12_Chop.bits7 : waitsOk trunnionref12_Chop.T7.2 trunnionref12_Chop.B7 = true := by kernel_rfl
def trunnionref12_Chop.T9 : Bool × List (List Nat × List Nat) := (true, [([], []), ([0], [0]), ([1], [1]), ([2], [2]), ([3], [3]), ([4, 3], [3, 4]), ([5, 3], [3, 5]), ([6, 3, 3], [3, 6]), ([7], [7]), ([7], [7]), ([7], [7]), ([9, 10, 7, 7], [7, 9, 10]), ([11, 11, 7], [7, 11]), ([8, 12, 12, 7], [7, 8, 12]), ([13, 7], [7, 13]), ([7, 14, 3], [3, 7, 14]), ([3, 15], [3, 15])])
def trunnionref12_Chop.B9 : List Nat := [0, 1, 3, 7, 15, 31, 63, 127, 255, 255, 255, 1791, 3839, 8191, 16383, 32767, 65535]
theorem trunnionref12_Chop.tab9 : rtab .any (opsOf Try.f27 9) = trunnionref12_Chop.T9 := by kernel_rfl
theorem trunnionref12_Chop.bits9 : waitsOk trunnionref12_Chop.T9.2 trunnionref12_Chop.B9 = true := by kernel_rfl
theorem trunnionref12_Chop.calls (k : Nat) (a0 : Int) (a1 : Int) (a2 : Int) (a3 : Bool) (r1 : Int) (r2 : Int) (w : World) (h : trunnionref12_Chop.f k a0 a1 a2 a3 = some (r1, r2)) :
  Calls Try.prog 27 #[.int .i64 a0, .int .i64 a1, .int .u64 a2, .bool a3] w fun e w' => e = .returned (.tuple #[.int .i64 r1, .int .u64 r2]) ∧ Below w.heap.size w w' := by
 have hu67 := Try.underlying67
 have hu53 := Try.underlying53
 have HB := A_ (Below.refl w.heap.size w)
 have H : ((r2_Open.f k a0 a2).bind fun bt538 => (if bt538.2.1 = 3 then (some (1, 0)) else ((r1_Of.f k 0).bind fun t543 => (if bt538.2.1 = 1 then ((r9_Down.f k bt538.1 bt538.2.1 bt538.2.2.1 bt538.2.2.2).bind fun bt547 => (trunnionref12_Chop.j0 k a1 a3 bt538.1 bt538.2.1 bt538.2.2.1 bt538.2.2.2 bt547.1)) else (trunnionref12_Chop.j0 k a1 a3 bt538.1 bt538.2.1 bt538.2.2.1 bt538.2.2.2 t543))))) = some (r1, r2) := h
 clear h
 replace H := ob_ H
 obtain ⟨⟨t538, t539, t540, t541⟩, A50, H⟩ := H
 replace H : (if t539 = 3 then (some (1, 0)) else ((r1_Of.f k 0).bind fun t543 => (if t539 = 1 then ((r9_Down.f k t538 t539 t540 t541).bind fun bt547 => (trunnionref12_Chop.j0 k a1 a3 t538 t539 t540 t541 bt547.1)) else (trunnionref12_Chop.j0 k a1 a3 t538 t539 t540 t541 t543)))) = some (r1, r2) := H
 have A5 := A_ A50;clear A50
 by_cases c6 : t539 = 3
 ·rw [if_pos c6] at H
  have c6b0 : (t539 == 3) = true := beq_iff_eq.mpr c6
  have c6b1 : (t539 != 3) = false := bne_eq_false_iff_eq.mpr c6
  clear c6
  simp only [Option.some.injEq, Prod.mk.injEq] at H
  obtain ⟨rfl, rfl⟩ := H
  go_enter Try.func27, Try.ntmps27
  go_wp2_with (first | ((with_reducible refine gate_callee (f := 46) rfl ?_); refine gl_ (some 15) Try.func46 #[.int .i64 a0, .int .u64 a2] ?_; (with_reducible refine (r2_Open.calls k a0 a2 t538 t539 t540 t541 _ A5.out).mono ?_); rintro e w7 ⟨rfl, hb⟩; refine ⟨_, rfl, ?_⟩; replace HB := A_ (below_step (hb_ HB.out) hb); (try clear hb); (try clear hb2); (try clear hk); (try clear hi)) | ((with_reducible refine gate_dst (N := 10) rfl ?_); refine be_ 10 #[.bool false, .int .i64 0, .int .i64 0, .int .u64 0] 67 ?_; intro gb542 hg w8 hbox hb; have BK542 := A_ (hbox); have GW542 := A_ (sz_ hg (hb_ HB.out)); have GE542 := A_ (sz_ hg (hb_ HB.out)); replace HB := A_ (below_step (hb_ HB.out) hb); clear hb hbox hg; have hcz9_0 := bv_ BK542.out 0; have hcz9_1 := bv_ BK542.out 1; have hcz9_2 := bv_ BK542.out 2; have hcz9_3 := bv_ BK542.out 3; have hfz9_0 := blk_frozen BK542.out 0; have hfz9_1 := blk_frozen BK542.out 1; have hfz9_2 := blk_frozen BK542.out 2; have hfz9_3 := blk_frozen BK542.out 3))
  go_ret2
  exact ⟨er_, hb1_ HB.out GE542.out⟩
 ·rw [if_neg c6] at H
  have c6b0 : (t539 == 3) = false := beq_eq_false_iff_ne.mpr c6
  have c6b1 : (t539 != 3) = true := bne_iff_ne.mpr c6
  replace H := ob_ H
  obtain ⟨t543, A100, H⟩ := H
  replace H : (if t539 = 1 then ((r9_Down.f k t538 t539 t540 t541).bind fun bt547 => (trunnionref12_Chop.j0 k a1 a3 t538 t539 t540 t541 bt547.1)) else (trunnionref12_Chop.j0 k a1 a3 t538 t539 t540 t541 t543)) = some (r1, r2) := H
  have A10 := A_ A100;clear A100;have HC11 := A_ H;clear H
  go_enter Try.func27, Try.ntmps27
  go_upto_if 22 with (first | ((with_reducible refine gate_callee (f := 46) rfl ?_); refine gl_ (some 15) Try.func46 #[.int .i64 a0, .int .u64 a2] ?_; (with_reducible refine (r2_Open.calls k a0 a2 t538 t539 t540 t541 _ A5.out).mono ?_); rintro e w12 ⟨rfl, hb⟩; refine ⟨_, rfl, ?_⟩; replace HB := A_ (below_step (hb_ HB.out) hb); (try clear hb); (try clear hb2); (try clear hk); (try clear hi)) | ((with_reducible refine gate_dst (N := 10) rfl ?_); refine be_ 10 #[.bool false, .int .i64 0, .int .i64 0, .int .u64 0] 67 ?_; intro gb542 hg w13 hbox hb; have BK542 := A_ (hbox); have GW542 := A_ (sz_ hg (hb_ HB.out)); have GE542 := A_ (sz_ hg (hb_ HB.out)); replace HB := A_ (below_step (hb_ HB.out) hb); clear hb hbox hg; have hcz14_0 := bv_ BK542.out 0; have hcz14_1 := bv_ BK542.out 1; have hcz14_2 := bv_ BK542.out 2; have hcz14_3 := bv_ BK542.out 3; have hfz14_0 := blk_frozen BK542.out 0; have hfz14_1 := blk_frozen BK542.out 1; have hfz14_2 := blk_frozen BK542.out 2; have hfz14_3 := blk_frozen BK542.out 3) | ((with_reducible refine gate_callee (f := 33) rfl ?_); refine gl_ (some 19) Try.func33 #[.int .u64 0] ?_; (with_reducible refine (r1_Of.calls k 0 t543 _ A10.out).mono ?_); rintro e w15 ⟨v544, rfl, ho0, hb⟩; refine ⟨_, rfl, ?_⟩; have HO545 := A_ (Kd.R_lower ho0 (below_size (hb1_ HB.out GE542.out))); replace BK542 := A_ (blk_below (g := gb542) (o := .cells #[.bool t538, .int .i64 t539, .int .i64 t540, .int .u64 t541] 67 (0, 0)) (by (with_reducible repeat (first | refine blk_drewN ?_ _ | refine blk_drew ?_ | refine blk_alloc ?_ _)); refine blk_put (cs := #[.bool t538, .int .i64 t539, .int .i64 t540, .int .u64 0]) ?_ 3 _ rfl; (with_reducible repeat (first | refine blk_drewN ?_ _ | refine blk_drew ?_ | refine blk_alloc ?_ _)); refine blk_put (cs := #[.bool t538, .int .i64 t539, .int .i64 0, .int .u64 0]) ?_ 2 _ rfl; (with_reducible repeat (first | refine blk_drewN ?_ _ | refine blk_drew ?_ | refine blk_alloc ?_ _)); refine blk_put (cs := #[.bool t538, .int .i64 0, .int .i64 0, .int .u64 0]) ?_ 1 _ rfl; (with_reducible repeat (first | refine blk_drewN ?_ _ | refine blk_drew ?_ | refine blk_alloc ?_ _)); refine blk_put (cs := #[.bool false, .int .i64 0, .int .i64 0, .int .u64 0]) ?_ 0 _ rfl; (with_reducible repeat (first | refine blk_drewN ?_ _ | refine blk_drew ?_ | refine blk_alloc ?_ _)); exact BK542.out) hb); replace HB := A_ (below_step (hb1_ HB.out GE542.out) hb); (try clear hb); (try clear hb2); (try clear hk); (try clear hi); (try clear ho0)) | ((with_reducible refine gate_dst (N := 11) rfl ?_); refine be_ 11 #[.slice none 0 0] 53 ?_; intro gb546 hg w16 hbox hb; have BK546 := A_ (hbox); have GW546 := A_ (sz_ hg (hb1_ HB.out GE542.out)); have GE546 := A_ (sz_ hg (hb1_ HB.out GE542.out)); have NB542_546 := A_ (nl_ hg BK542.out); have NB546_542 := A_ (ng_ hg BK542.out); replace HO545 := A_ (Kd.R_below (kr_ HO545.out) hb); replace BK542 := A_ (bb_ BK542.out hb); replace HB := A_ (below_step (hb1_ HB.out GE542.out) hb); clear hb hbox hg; obtain ⟨Ao17, co17, eo17⟩ := Kd.R_slice HO545.out; subst eo17; have hnb18 := NB546_542.out; have hnc18 := NB542_546.out; have hcz19_0 := bv_ BK546.out 0; have hfz19_0 := blk_frozen BK546.out 0; have hcz20_0 := bv_ BK542.out 0; have hcz20_1 := bv_ BK542.out 1; have hcz20_2 := bv_ BK542.out 2; have hcz20_3 := bv_ BK542.out 3; have hfz20_0 := blk_frozen BK542.out 0; have hfz20_1 := blk_frozen BK542.out 1; have hfz20_2 := blk_frozen BK542.out 2; have hfz20_3 := blk_frozen BK542.out 3))
  (try simp only [Act.put, lI_, l0_, lS_])
  go_cut [] (fun wc => ∃ (kq : Nat) (x547000_10 : List Int) (u547000 : Value), Aside0 (trunnionref12_Chop.j0 kq a1 a3 t538 t539 t540 t541 x547000_10 = some (r1, r2)) ∧ Aside0 (kq ≤ k) ∧ Aside0 (Kd.R (Kd.int .u64) 22 wc w.heap.size (fun _ => True) u547000 x547000_10) ∧ Aside0 (wc.heap[gb542]? = some (.cells #[.bool t538, .int .i64 t539, .int .i64 t540, .int .u64 t541] 67 (0, 0))) ∧ Aside0 (wc.heap[gb546]? = some (.cells #[u547000] 53 (0, 0))) ∧ Aside0 (Below w.heap.size w wc))
  case first =>
   have H := HC11.out
   clear HC11
   by_cases c21 : t539 = 1
   ·rw [if_pos c21] at H
    have c21b0 : (t539 == 1) = true := beq_iff_eq.mpr c21
    have c21b1 : (t539 != 1) = false := bne_eq_false_iff_eq.mpr c21
    clear c21
    (first | rw [c21b0] | (simp only [i64_w, i32_w]; rw [c21b0]) | skip)
    replace H := ob_ H
    obtain ⟨⟨t547, t550, t551⟩, A220, H⟩ := H
    replace H : (trunnionref12_Chop.j0 k a1 a3 t538 t539 t540 t541 t547) = some (r1, r2) := H
    have A22 := A_ A220;clear A220
    have H' := A_ H
    clear H
    have hnb23 := NB542_546.out
    have hnc23 := NB546_542.out
    have hcz24_0 := bv_ BK542.out 0
    have hcz24_1 := bv_ BK542.out 1
    have hcz24_2 := bv_ BK542.out 2
    have hcz24_3 := bv_ BK542.out 3
    have hfz24_0 := blk_frozen BK542.out 0
    have hfz24_1 := blk_frozen BK542.out 1
    have hfz24_2 := blk_frozen BK542.out 2
    have hfz24_3 := blk_frozen BK542.out 3
    go_wp2_with (first | ((with_reducible refine gate_callee (f := 65) rfl ?_); refine gl_ (some 25) Try.func65 #[.agg #[.bool t538, .int .i64 t539, .int .i64 t540, .int .u64 t541]] ?_; (with_reducible refine (r9_Down.calls k t538 t539 t540 t541 t547 t550 t551 _ A22.out).mono ?_); rintro e w25 ⟨v548, rfl, ho0, hb⟩; refine ⟨_, rfl, ?_⟩; have HO549 := A_ (Kd.R_lower (Kd.R_new' ho0 (Kd.R_lt (by (with_reducible repeat (first | apply Kd.R_alloc | apply Kd.R_drewN | apply Kd.R_drew)); exact (Kd.R_mono (Kd.R_far (p := ⟨gb546, 0, none⟩) (Kd.R_types HO545.out BK546.out (by decide)) (fun _ hk => hk.2) (.slice Ao17 t543.length co17)) (fun _ h_ => h_.1))))) (below_size (hb2_ HB.out GE542.out GE546.out))); replace HO545 := A_ (Kd.R_elder' (by (with_reducible repeat (first | apply Kd.R_alloc | apply Kd.R_drewN | apply Kd.R_drew)); exact (Kd.R_mono (Kd.R_far (p := ⟨gb546, 0, none⟩) (Kd.R_types HO545.out BK546.out (by decide)) (fun _ hk => hk.2) (.slice Ao17 t543.length co17)) (fun _ h_ => h_.1))) (Kd.R_base ho0) hb); replace BK542 := A_ (blk_below (g := gb542) (o := .cells #[.bool t538, .int .i64 t539, .int .i64 t540, .int .u64 t541] 67 (0, 0)) (bf1_ BK542.out NB542_546.out) hb); replace BK546 := A_ (blk_below (g := gb546) (o := .cells #[.slice Ao17 t543.length co17] 53 (0, 0)) (by (with_reducible repeat (first | refine blk_drewN ?_ _ | refine blk_drew ?_ | refine blk_alloc ?_ _)); refine blk_put (cs := #[.slice none 0 0]) ?_ 0 _ rfl; (with_reducible repeat (first | refine blk_drewN ?_ _ | refine blk_drew ?_ | refine blk_alloc ?_ _)); exact BK546.out) hb); replace HB := A_ (below_step (hb2_ HB.out GE542.out GE546.out) hb); (try clear hb); (try clear hb2); (try clear hk); (try clear hi); (try clear ho0); obtain ⟨Ao26, co26, eo26⟩ := Kd.R_slice HO549.out; subst eo26; have hcz27_0 := bv_ BK546.out 0; have hfz27_0 := blk_frozen BK546.out 0))
    go_meet
    case rel => exact ⟨_, (t547), (.slice Ao26 t547.length co26), H', ⟨by first | omega | exact Nat.le_refl _⟩, ⟨by (with_reducible repeat (first | apply Kd.R_alloc | apply Kd.R_drewN | apply Kd.R_drew)); exact Kd.R_mono (Kd.R_far (p := ⟨gb546, 0, none⟩) (Kd.R_types HO549.out BK546.out (by decide)) (fun _ hk => hk.2) (.slice Ao26 t547.length co26)) (fun _ hk => trivial)⟩, ⟨bf1_ BK542.out NB542_546.out⟩, ⟨by (with_reducible repeat (first | refine blk_drewN ?_ _ | refine blk_drew ?_ | refine blk_alloc ?_ _)); refine blk_put (cs := #[.slice Ao17 t543.length co17]) ?_ 0 _ rfl; (with_reducible repeat (first | refine blk_drewN ?_ _ | refine blk_drew ?_ | refine blk_alloc ?_ _)); exact BK546.out⟩, ⟨hb2_ HB.out GE542.out GE546.out⟩⟩
   ·rw [if_neg c21] at H
    have c21b0 : (t539 == 1) = false := beq_eq_false_iff_ne.mpr c21
    have c21b1 : (t539 != 1) = true := bne_iff_ne.mpr c21
    (first | rw [c21b0] | (simp only [i64_w, i32_w]; rw [c21b0]) | skip)
    have H' := A_ H
    clear H
    go_wp2
    go_meet
    case rel => exact ⟨_, (t543), (.slice Ao17 t543.length co17), H', ⟨by first | omega | exact Nat.le_refl _⟩, ⟨by (with_reducible repeat (first | apply Kd.R_alloc | apply Kd.R_drewN | apply Kd.R_drew)); exact Kd.R_mono (Kd.R_far (p := ⟨gb546, 0, none⟩) (Kd.R_types HO545.out BK546.out (by decide)) (fun _ hk => hk.2) (.slice Ao17 t543.length co17)) (fun _ hk => trivial)⟩, ⟨bf1_ BK542.out NB542_546.out⟩, ⟨by (with_reducible repeat (first | refine blk_drewN ?_ _ | refine blk_drew ?_ | refine blk_alloc ?_ _)); refine blk_put (cs := #[.slice none 0 0]) ?_ 0 _ rfl; (with_reducible repeat (first | refine blk_drewN ?_ _ | refine blk_drew ?_ | refine blk_alloc ?_ _)); exact BK546.out⟩, ⟨hb2_ HB.out GE542.out GE546.out⟩⟩
  case rest =>
   clear HC11
   try clear c1
   try clear c2
   try clear p2
   try clear c3
   try clear c4
   try clear c6
   try clear c6b0
   try clear c6b1
   try clear c18
   try clear c21
   try clear c21b0
   try clear c21b1
   try clear c23
   try clear c27
   try clear hcz14_0
   try clear hcz14_1
   try clear hcz14_2
   try clear hcz14_3
   try clear hcz19_0
   try clear hcz20_0
   try clear hcz20_1
   try clear hcz20_2
   try clear hcz20_3
   try clear hcz24_0
   try clear hcz24_1
   try clear hcz24_2
   try clear hcz24_3
   try clear hcz27_0
   try clear hcz9_0
   try clear hcz9_1
   try clear hcz9_2
   try clear hcz9_3
   try clear hfz14_0
   try clear hfz14_1
   try clear hfz14_2
   try clear hfz14_3
   try clear hfz19_0
   try clear hfz20_0
   try clear hfz20_1
   try clear hfz20_2
   try clear hfz20_3
   try clear hfz24_0
   try clear hfz24_1
   try clear hfz24_2
   try clear hfz24_3
   try clear hfz27_0
   try clear hfz9_0
   try clear hfz9_1
   try clear hfz9_2
   try clear hfz9_3
   obtain ⟨kq, x547000_10, u547000, HA, HJ10, HO_547000, BK542, BK546, HB⟩ := hcut
   cases kq with
   | zero => exact absurd HA.out (by simp [trunnionref12_Chop.j0])
   | succ kj10 =>
    have H := HA.out
    clear HA
    simp only [trunnionref12_Chop.j0] at H
    have HC28 := A_ H;clear H
    go_upto_region 7 with (fail)
    go_cut [44] (fun v44 wc => ∃ (kq : Nat) (x44_27 : Bool), v44 = .bool x44_27 ∧ Aside0 (trunnionref12_Chop.j1 kq a1 a3 x44_27 t538 t539 t540 t541 x547000_10 = some (r1, r2)) ∧ Aside0 (kq ≤ kj10) ∧ Aside0 (Kd.R (Kd.int .u64) 22 wc w.heap.size (fun _ => True) u547000 x547000_10) ∧ Aside0 (wc.heap[gb542]? = some (.cells #[.bool t538, .int .i64 t539, .int .i64 t540, .int .u64 t541] 67 (0, 0))) ∧ Aside0 (wc.heap[gb546]? = some (.cells #[u547000] 53 (0, 0))) ∧ Aside0 (Below w.heap.size w wc))
    case first =>
     have H := HC28.out
     clear HC28
     by_cases c29 : t538 = true
     ·subst c29
      have H1 : (if t539 = 2 then (trunnionref12_Chop.j1 kj10 a1 a3 true true t539 t540 t541 x547000_10) else ((trunnionref12_Low.f kj10 a1 a3).bind fun t552 => ((r1_Of.f kj10 t552).bind fun t553 => ((r1_Cmp.f kj10 x547000_10 t553).bind fun t556 => (trunnionref12_Chop.j1 kj10 a1 a3 (decide (t556 > 0)) true t539 t540 t541 x547000_10))))) = some (r1, r2) := by rw [if_pos rfl] at H; exact H
      clear H;have H := H1;clear H1
      by_cases c30 : t539 = 2
      ·rw [if_pos c30] at H
       have c30b0 : (t539 == 2) = true := beq_iff_eq.mpr c30
       have c30b1 : (t539 != 2) = false := bne_eq_false_iff_eq.mpr c30
       clear c30
       (first | rw [c30b0] | (simp only [i64_w, i32_w]; rw [c30b0]) | skip)
       have H' := A_ H
       clear H
       try go_wp2
       replace HO_547000 := A_ (Kd.R_drew HO_547000.out)
       replace BK542 := A_ (blk_drew BK542.out)
       replace BK546 := A_ (blk_drew BK546.out)
       replace HB := A_ (below_drew1 HB.out)
       refine start_ (n := 16) (S := fun w' => w'.cell? ⟨gb542, 0, none⟩ = some (.bool true) ∧ w'.cell? ⟨gb542, 1, none⟩ = some (.int .i64 t539) ∧ w'.cell? ⟨gb542, 2, none⟩ = some (.int .i64 t540) ∧ w'.cell? ⟨gb542, 3, none⟩ = some (.int .u64 t541)) (ds := []) #[false, false, false, false, false, false, false, false, false, false, false, false, false, false, false, false] (by kernel_rfl) rfl rfl ⟨bc_ BK542.out 0, bc_ BK542.out 1, bc_ BK542.out 2, bc_ BK542.out 3⟩ (fun hHeld => ?_); refine with_tabW trunnionref12_Chop.tab7 trunnionref12_Chop.bits7 (fun HT_ HW_ => ?_)
       generalize wc.drew = w31 at HO_547000 BK542 BK546 HB hHeld ⊢
       refine pu_ 0 (some 29) #[true, false, false, false, false, false, false, false, false, false, false, false, false, false, false, false] rfl rfl (any_of HT_.out (by kernel_rfl)) ?_
       refine tk4_ 1 (some 30) #[true, true, false, false, false, false, false, false, false, false, false, false, false, false, false, false] rfl rfl (take_ofW HT_.out HW_.out (by kernel_rfl)) hHeld ?_
       refine pu_ 2 (some 31) #[true, true, true, false, false, false, false, false, false, false, false, false, false, false, false, false] rfl rfl (any_of HT_.out (by kernel_rfl)) ?_
       refine pu_ 3 (some 32) #[true, true, true, true, false, false, false, false, false, false, false, false, false, false, false, false] rfl rfl (any_of HT_.out (by kernel_rfl)) ?_
       refine tk4_ 4 (some 33) #[true, true, true, true, true, false, false, false, false, false, false, false, false, false, false, false] rfl rfl (take_ofW HT_.out HW_.out (by kernel_rfl)) hHeld ?_
       refine pu_ 5 (some 34) #[true, true, true, true, true, true, false, false, false, false, false, false, false, false, false, false] rfl rfl (any_of HT_.out (by kernel_rfl)) ?_
       refine pu_ 6 (some 35) #[true, true, true, true, true, true, true, false, false, false, false, false, false, false, false, false] rfl rfl (any_of HT_.out (by kernel_rfl)) ?_
       refine pure_ (i := 7) (N := some 36) (v := undef) (a' := ?_) #[true, true, true, true, true, true, true, true, false, false, false, false, false, false, false, false] rfl rfl (any_of HT_.out (by kernel_rfl)) (fun _ _ _ h => h) (Or.inr ⟨by rfl, rfl⟩) ?_ ?_
       rotate_left
       ·simp only [Act.put, lI_, l0_, lS_, i64_w, i32_w]
        rfl
       refine pure_ (i := 8) (N := some 37) (v := undef) (a' := ?_) #[true, true, true, true, true, true, true, true, true, false, false, false, false, false, false, false] rfl rfl (any_of HT_.out (by kernel_rfl)) (fun _ _ _ h => h) (Or.inr ⟨by rfl, rfl⟩) ?_ ?_
       rotate_left
       ·simp only [Act.put, lI_, l0_, lS_, i64_w, i32_w]
        rfl
       refine pure_ (i := 9) (N := some 38) (v := undef) (a' := ?_) #[true, true, true, true, true, true, true, true, true, true, false, false, false, false, false, false] rfl rfl (any_of HT_.out (by kernel_rfl)) (fun _ _ _ h => h) (Or.inr ⟨by rfl, rfl⟩) ?_ ?_
       rotate_left
       ·simp only [Act.put, lI_, l0_, lS_, i64_w, i32_w]
        rfl
       refine pure_ (i := 10) (N := some 39) (v := undef) (a' := ?_) #[true, true, true, true, true, true, true, true, true, true, true, false, false, false, false, false] rfl rfl (any_of HT_.out (by kernel_rfl)) (fun _ _ _ h => h) (Or.inr ⟨by rfl, rfl⟩) ?_ ?_
       rotate_left
       ·simp only [Act.put, lI_, l0_, lS_, i64_w, i32_w]
        rfl
       refine pure_ (i := 11) (N := some 40) (v := undef) (a' := ?_) #[true, true, true, true, true, true, true, true, true, true, true, true, false, false, false, false] rfl rfl (any_of HT_.out (by kernel_rfl)) (fun _ _ _ h => h) (Or.inr ⟨by rfl, rfl⟩) ?_ ?_
       rotate_left
       ·simp only [Act.put, lI_, l0_, lS_, i64_w, i32_w]
        rfl
       refine pure_ (i := 12) (N := some 41) (v := undef) (a' := ?_) #[true, true, true, true, true, true, true, true, true, true, true, true, true, false, false, false] rfl rfl (any_of HT_.out (by kernel_rfl)) (fun _ _ _ h => h) (Or.inr ⟨by rfl, rfl⟩) ?_ ?_
       rotate_left
       ·simp only [Act.put, lI_, l0_, lS_, i64_w, i32_w]
        rfl
       refine pure_ (i := 13) (N := some 42) (v := undef) (a' := ?_) #[true, true, true, true, true, true, true, true, true, true, true, true, true, true, false, false] rfl rfl (any_of HT_.out (by kernel_rfl)) (fun _ _ _ h => h) (Or.inr ⟨by rfl, rfl⟩) ?_ ?_
       rotate_left
       ·simp only [Act.put, lI_, l0_, lS_, i64_w, i32_w]
        rfl
       refine pu_ 14 (some 43) #[true, true, true, true, true, true, true, true, true, true, true, true, true, true, true, false] rfl rfl (any_of HT_.out (by kernel_rfl)) ?_
       refine pu_ 15 (some 44) #[true, true, true, true, true, true, true, true, true, true, true, true, true, true, true, true] rfl rfl (any_of HT_.out (by kernel_rfl)) ?_
       refine done_ (done_of HT_.out (by kernel_rfl)) ?_
       try go_wp2
       go_meet
       case rel => exact ⟨_, (true), sm_, H', ⟨by have := HJ10.out; first | omega | exact Nat.le_refl _⟩, ⟨by (with_reducible repeat (first | apply Kd.R_alloc | apply Kd.R_drewN | apply Kd.R_drew)); exact HO_547000.out⟩, ⟨bk_ BK542.out⟩, ⟨bk_ BK546.out⟩, ⟨hb2_ HB.out GE542.out GE546.out⟩⟩
      ·rw [if_neg c30] at H
       have c30b0 : (t539 == 2) = false := beq_eq_false_iff_ne.mpr c30
       have c30b1 : (t539 != 2) = true := bne_iff_ne.mpr c30
       (first | rw [c30b0] | (simp only [i64_w, i32_w]; rw [c30b0]) | skip)
       replace H := ob_ H
       obtain ⟨t552, A320, H⟩ := H
       replace H : ((r1_Of.f kj10 t552).bind fun t553 => ((r1_Cmp.f kj10 x547000_10 t553).bind fun t556 => (trunnionref12_Chop.j1 kj10 a1 a3 (decide (t556 > 0)) true t539 t540 t541 x547000_10))) = some (r1, r2) := H
       have A32 := A_ A320;clear A320
       replace H := ob_ H
       obtain ⟨t553, A330, H⟩ := H
       replace H : ((r1_Cmp.f kj10 x547000_10 t553).bind fun t556 => (trunnionref12_Chop.j1 kj10 a1 a3 (decide (t556 > 0)) true t539 t540 t541 x547000_10)) = some (r1, r2) := H
       have A33 := A_ A330;clear A330
       replace H := ob_ H
       obtain ⟨t556, A340, H⟩ := H
       replace H : (trunnionref12_Chop.j1 kj10 a1 a3 (decide (t556 > 0)) true t539 t540 t541 x547000_10) = some (r1, r2) := H
       have A34 := A_ A340;clear A340
       have H' := A_ H
       clear H
       try go_wp2
       replace HO_547000 := A_ (Kd.R_drew HO_547000.out)
       replace BK542 := A_ (blk_drew BK542.out)
       replace BK546 := A_ (blk_drew BK546.out)
       replace HB := A_ (below_drew1 HB.out)
       refine start_ (n := 16) (S := fun w' => w'.cell? ⟨gb542, 0, none⟩ = some (.bool true) ∧ w'.cell? ⟨gb542, 1, none⟩ = some (.int .i64 t539) ∧ w'.cell? ⟨gb542, 2, none⟩ = some (.int .i64 t540) ∧ w'.cell? ⟨gb542, 3, none⟩ = some (.int .u64 t541) ∧ w'.cell? ⟨gb546, 0, none⟩ = some (u547000)) (ds := []) #[false, false, false, false, false, false, false, false, false, false, false, false, false, false, false, false] (by kernel_rfl) rfl rfl ⟨bc_ BK542.out 0, bc_ BK542.out 1, bc_ BK542.out 2, bc_ BK542.out 3, bc_ BK546.out 0⟩ (fun hHeld => ?_); refine with_tabW trunnionref12_Chop.tab7 trunnionref12_Chop.bits7 (fun HT_ HW_ => ?_)
       generalize wc.drew = w35 at HO_547000 BK542 BK546 HB hHeld ⊢
       refine pu_ 0 (some 29) #[true, false, false, false, false, false, false, false, false, false, false, false, false, false, false, false] rfl rfl (any_of HT_.out (by kernel_rfl)) ?_
       refine tk5_ 1 (some 30) #[true, true, false, false, false, false, false, false, false, false, false, false, false, false, false, false] rfl rfl (take_ofW HT_.out HW_.out (by kernel_rfl)) hHeld ?_
       refine pu_ 2 (some 31) #[true, true, true, false, false, false, false, false, false, false, false, false, false, false, false, false] rfl rfl (any_of HT_.out (by kernel_rfl)) ?_
       refine pu_ 3 (some 32) #[true, true, true, true, false, false, false, false, false, false, false, false, false, false, false, false] rfl rfl (any_of HT_.out (by kernel_rfl)) ?_
       refine tk5_ 4 (some 33) #[true, true, true, true, true, false, false, false, false, false, false, false, false, false, false, false] rfl rfl (take_ofW HT_.out HW_.out (by kernel_rfl)) hHeld ?_
       refine pu_ 5 (some 34) #[true, true, true, true, true, true, false, false, false, false, false, false, false, false, false, false] rfl rfl (any_of HT_.out (by kernel_rfl)) ?_
       refine pu_ 6 (some 35) #[true, true, true, true, true, true, true, false, false, false, false, false, false, false, false, false] rfl rfl (any_of HT_.out (by kernel_rfl)) ?_
       refine pu_ 8 (some 37) #[true, true, true, true, true, true, true, false, true, false, false, false, false, false, false, false] rfl rfl (any_of HT_.out (by kernel_rfl)) ?_
       refine pu_ 9 (some 38) #[true, true, true, true, true, true, true, false, true, true, false, false, false, false, false, false] rfl rfl (any_of HT_.out (by kernel_rfl)) ?_
       refine tk5_ 7 (some 36) #[true, true, true, true, true, true, true, true, true, true, false, false, false, false, false, false] rfl rfl (take_ofW HT_.out HW_.out (by kernel_rfl)) hHeld ?_
       refine one_ (i := 10) (N := some 39) #[true, true, true, true, true, true, true, true, true, true, true, false, false, false, false, false] rfl rfl (one_of HT_.out (by kernel_rfl)) (by decide) (fun K hK => ?_)
       refine goes_ Try.func25 (by kernel_rfl) rfl #[.int .i64 a1, .bool a3] (by rfl) rfl rfl mp_ ?_
       with_reducible refine (trunnionref12_Low.calls kj10 a1 a3 t552 _ A32.out).mono ?_
       rintro e w' ⟨rfl, ⟨nd, rfl⟩⟩
       refine ⟨_, rfl, ?_⟩
       refine hK.out _ _ ⟨bc_ BK542.out 0, bc_ BK542.out 1, bc_ BK542.out 2, bc_ BK542.out 3, bc_ BK546.out 0⟩ (fun hHeld => ?_)
       clear hK K
       refine norm_ (a' := ?_) ?_ ?_
       rotate_left
       ·show Act.put _ (some 39) _ = _
        simp only [Act.put, lI_, l0_, lS_, i64_w, i32_w]
        rfl
       refine one_ (i := 11) (N := some 40) #[true, true, true, true, true, true, true, true, true, true, true, true, false, false, false, false] rfl rfl (one_of HT_.out (by kernel_rfl)) (by decide) (fun K hK => ?_)
       refine goes_ Try.func33 (by kernel_rfl) rfl #[.int .u64 t552] (by rfl) rfl rfl mp_ ?_
       with_reducible refine (r1_Of.calls kj10 t552 t553 _ A33.out).mono ?_
       rintro e w36 ⟨v554, rfl, ho0, hb⟩
       refine ⟨_, rfl, ?_⟩
       have HO555 := A_ (Kd.R_lower (Kd.R_new' ho0 (Kd.R_lt (kr_ HO_547000.out))) (below_size (hb2_ HB.out GE542.out GE546.out)))
       replace HO_547000 := A_ (Kd.R_elder' (kr_ HO_547000.out) (Kd.R_base ho0) hb)
       replace BK542 := A_ (bb_ BK542.out hb)
       replace BK546 := A_ (bb_ BK546.out hb)
       replace HB := A_ (below_step (hb2_ HB.out GE542.out GE546.out) hb);(try clear hb);(try clear hb2);(try clear hk);(try clear hi);(try clear ho0)
       obtain ⟨Ao37, co37, eo37⟩ := Kd.R_slice HO_547000.out
       (first | subst eo37 | (injection eo37 with f1_ f2_ f3_; have f4_ := f1_.symm; have f5_ := f3_.symm; clear f1_ f2_ f3_; subst f4_; subst f5_))
       obtain ⟨Ao38, co38, eo38⟩ := Kd.R_slice HO555.out
       (first | subst eo38 | (injection eo38 with f1_ f2_ f3_; have f4_ := f1_.symm; have f5_ := f3_.symm; clear f1_ f2_ f3_; subst f4_; subst f5_))
       refine hK.out _ _ ⟨bc_ BK542.out 0, bc_ BK542.out 1, bc_ BK542.out 2, bc_ BK542.out 3, bc_ BK546.out 0⟩ (fun hHeld => ?_)
       clear hK K
       refine norm_ (a' := ?_) ?_ ?_
       rotate_left
       ·show Act.put _ (some 40) _ = _
        simp only [Act.put, lI_, l0_, lS_, i64_w, i32_w]
        rfl
       refine one_ (i := 12) (N := some 41) #[true, true, true, true, true, true, true, true, true, true, true, true, true, false, false, false] rfl rfl (one_of HT_.out (by kernel_rfl)) (by decide) (fun K hK => ?_)
       refine goes_ Try.func41 (by kernel_rfl) rfl #[.agg #[.slice Ao37 x547000_10.length co37], .agg #[.slice Ao38 t553.length co38]] (by rfl) rfl rfl mp_ ?_
       with_reducible refine (r1_Cmp.calls kj10 _ _ x547000_10 _ _ t553 t556 _ ?side1 ?side2 ?side3 ?side4 A34.out).mono ?_
       (case side1 => exact cs_ ((Kd.R_reads' HO_547000.out).2.2))
       (case side2 => exact (Kd.R_reads' HO_547000.out).2.1)
       (case side3 => exact cs_ ((Kd.R_reads' HO555.out).2.2))
       (case side4 => exact (Kd.R_reads' HO555.out).2.1)
       rintro e w39 ⟨rfl, hb⟩
       refine ⟨_, rfl, ?_⟩
       replace HO_547000 := A_ (Kd.R_below (kr_ HO_547000.out) hb)
       replace HO555 := A_ (Kd.R_below (kr_ HO555.out) hb)
       replace BK542 := A_ (bb_ BK542.out hb)
       replace BK546 := A_ (bb_ BK546.out hb)
       replace HB := A_ (below_step (hb2_ HB.out GE542.out GE546.out) hb);(try clear hb);(try clear hb2);(try clear hk);(try clear hi)
       refine hK.out _ _ ⟨bc_ BK542.out 0, bc_ BK542.out 1, bc_ BK542.out 2, bc_ BK542.out 3, bc_ BK546.out 0⟩ (fun hHeld => ?_)
       clear hK K
       refine norm_ (a' := ?_) ?_ ?_
       rotate_left
       ·show Act.put _ (some 41) _ = _
        simp only [Act.put, lI_, l0_, lS_, i64_w, i32_w]
        rfl
       refine pu_ 13 (some 42) #[true, true, true, true, true, true, true, true, true, true, true, true, true, true, false, false] rfl rfl (any_of HT_.out (by kernel_rfl)) ?_
       refine pu_ 14 (some 43) #[true, true, true, true, true, true, true, true, true, true, true, true, true, true, true, false] rfl rfl (any_of HT_.out (by kernel_rfl)) ?_
       refine pu_ 15 (some 44) #[true, true, true, true, true, true, true, true, true, true, true, true, true, true, true, true] rfl rfl (any_of HT_.out (by kernel_rfl)) ?_
       refine done_ (done_of HT_.out (by kernel_rfl)) ?_
       try go_wp2
       go_meet
       case rel => exact ⟨_, (decide (t556 > 0)), sm_, H', ⟨by have := HJ10.out; first | omega | exact Nat.le_refl _⟩, ⟨by (with_reducible repeat (first | apply Kd.R_alloc | apply Kd.R_drewN | apply Kd.R_drew)); exact Kd.R_mono HO_547000.out (fun _ hk => trivial)⟩, ⟨bk_ BK542.out⟩, ⟨bk_ BK546.out⟩, ⟨hb2_ HB.out GE542.out GE546.out⟩⟩
     ·replace c29 := Bool.eq_false_iff.mpr c29
      subst c29
      have H1 : (trunnionref12_Chop.j1 kj10 a1 a3 false false t539 t540 t541 x547000_10) = some (r1, r2) := by rw [if_neg (show ¬ (false = true) by decide)] at H; exact H
      clear H;have H := H1;clear H1
      have H' := A_ H
      clear H
      try go_wp2
      replace HO_547000 := A_ (Kd.R_drew HO_547000.out)
      replace BK542 := A_ (blk_drew BK542.out)
      replace BK546 := A_ (blk_drew BK546.out)
      replace HB := A_ (below_drew1 HB.out)
      refine start_ (n := 16) (S := fun w' => w'.cell? ⟨gb542, 0, none⟩ = some (.bool false) ∧ w'.cell? ⟨gb542, 1, none⟩ = some (.int .i64 t539) ∧ w'.cell? ⟨gb542, 2, none⟩ = some (.int .i64 t540) ∧ w'.cell? ⟨gb542, 3, none⟩ = some (.int .u64 t541)) (ds := []) #[false, false, false, false, false, false, false, false, false, false, false, false, false, false, false, false] (by kernel_rfl) rfl rfl ⟨bc_ BK542.out 0, bc_ BK542.out 1, bc_ BK542.out 2, bc_ BK542.out 3⟩ (fun hHeld => ?_); refine with_tabW trunnionref12_Chop.tab7 trunnionref12_Chop.bits7 (fun HT_ HW_ => ?_)
      generalize wc.drew = w40 at HO_547000 BK542 BK546 HB hHeld ⊢
      refine pu_ 0 (some 29) #[true, false, false, false, false, false, false, false, false, false, false, false, false, false, false, false] rfl rfl (any_of HT_.out (by kernel_rfl)) ?_
      refine tk4_ 1 (some 30) #[true, true, false, false, false, false, false, false, false, false, false, false, false, false, false, false] rfl rfl (take_ofW HT_.out HW_.out (by kernel_rfl)) hHeld ?_
      refine pu_ 2 (some 31) #[true, true, true, false, false, false, false, false, false, false, false, false, false, false, false, false] rfl rfl (any_of HT_.out (by kernel_rfl)) ?_
      refine pure_ (i := 3) (N := some 32) (v := undef) (a' := ?_) #[true, true, true, true, false, false, false, false, false, false, false, false, false, false, false, false] rfl rfl (any_of HT_.out (by kernel_rfl)) (fun _ _ _ h => h) (Or.inr ⟨by rfl, rfl⟩) ?_ ?_
      rotate_left
      ·simp only [Act.put, lI_, l0_, lS_, i64_w, i32_w]
       rfl
      refine pure_ (i := 4) (N := some 33) (v := undef) (a' := ?_) #[true, true, true, true, true, false, false, false, false, false, false, false, false, false, false, false] rfl rfl (any_of HT_.out (by kernel_rfl)) (fun _ _ _ h => h) (Or.inr ⟨by rfl, rfl⟩) ?_ ?_
      rotate_left
      ·simp only [Act.put, lI_, l0_, lS_, i64_w, i32_w]
       rfl
      refine pure_ (i := 5) (N := some 34) (v := undef) (a' := ?_) #[true, true, true, true, true, true, false, false, false, false, false, false, false, false, false, false] rfl rfl (any_of HT_.out (by kernel_rfl)) (fun _ _ _ h => h) (Or.inr ⟨by rfl, rfl⟩) ?_ ?_
      rotate_left
      ·simp only [Act.put, lI_, l0_, lS_, i64_w, i32_w]
       rfl
      refine pure_ (i := 6) (N := some 35) (v := undef) (a' := ?_) #[true, true, true, true, true, true, true, false, false, false, false, false, false, false, false, false] rfl rfl (any_of HT_.out (by kernel_rfl)) (fun _ _ _ h => h) (Or.inr ⟨by rfl, rfl⟩) ?_ ?_
      rotate_left
      ·simp only [Act.put, lI_, l0_, lS_, i64_w, i32_w]
       rfl
      refine pure_ (i := 7) (N := some 36) (v := undef) (a' := ?_) #[true, true, true, true, true, true, true, true, false, false, false, false, false, false, false, false] rfl rfl (any_of HT_.out (by kernel_rfl)) (fun _ _ _ h => h) (Or.inr ⟨by rfl, rfl⟩) ?_ ?_
      rotate_left
      ·simp only [Act.put, lI_, l0_, lS_, i64_w, i32_w]
       rfl
      refine pure_ (i := 8) (N := some 37) (v := undef) (a' := ?_) #[true, true, true, true, true, true, true, true, true, false, false, false, false, false, false, false] rfl rfl (any_of HT_.out (by kernel_rfl)) (fun _ _ _ h => h) (Or.inr ⟨by rfl, rfl⟩) ?_ ?_
      rotate_left
      ·simp only [Act.put, lI_, l0_, lS_, i64_w, i32_w]
       rfl
      refine pure_ (i := 9) (N := some 38) (v := undef) (a' := ?_) #[true, true, true, true, true, true, true, true, true, true, false, false, false, false, false, false] rfl rfl (any_of HT_.out (by kernel_rfl)) (fun _ _ _ h => h) (Or.inr ⟨by rfl, rfl⟩) ?_ ?_
      rotate_left
      ·simp only [Act.put, lI_, l0_, lS_, i64_w, i32_w]
       rfl
      refine pure_ (i := 10) (N := some 39) (v := undef) (a' := ?_) #[true, true, true, true, true, true, true, true, true, true, true, false, false, false, false, false] rfl rfl (any_of HT_.out (by kernel_rfl)) (fun _ _ _ h => h) (Or.inr ⟨by rfl, rfl⟩) ?_ ?_
      rotate_left
      ·simp only [Act.put, lI_, l0_, lS_, i64_w, i32_w]
       rfl
      refine pure_ (i := 11) (N := some 40) (v := undef) (a' := ?_) #[true, true, true, true, true, true, true, true, true, true, true, true, false, false, false, false] rfl rfl (any_of HT_.out (by kernel_rfl)) (fun _ _ _ h => h) (Or.inr ⟨by rfl, rfl⟩) ?_ ?_
      rotate_left
      ·simp only [Act.put, lI_, l0_, lS_, i64_w, i32_w]
       rfl
      refine pure_ (i := 12) (N := some 41) (v := undef) (a' := ?_) #[true, true, true, true, true, true, true, true, true, true, true, true, true, false, false, false] rfl rfl (any_of HT_.out (by kernel_rfl)) (fun _ _ _ h => h) (Or.inr ⟨by rfl, rfl⟩) ?_ ?_
      rotate_left
      ·simp only [Act.put, lI_, l0_, lS_, i64_w, i32_w]
       rfl
      refine pure_ (i := 13) (N := some 42) (v := undef) (a' := ?_) #[true, true, true, true, true, true, true, true, true, true, true, true, true, true, false, false] rfl rfl (any_of HT_.out (by kernel_rfl)) (fun _ _ _ h => h) (Or.inr ⟨by rfl, rfl⟩) ?_ ?_
      rotate_left
      ·simp only [Act.put, lI_, l0_, lS_, i64_w, i32_w]
       rfl
      refine pure_ (i := 14) (N := some 43) (v := undef) (a' := ?_) #[true, true, true, true, true, true, true, true, true, true, true, true, true, true, true, false] rfl rfl (any_of HT_.out (by kernel_rfl)) (fun _ _ _ h => h) (Or.inr ⟨by rfl, rfl⟩) ?_ ?_
      rotate_left
      ·simp only [Act.put, lI_, l0_, lS_, i64_w, i32_w]
       rfl
      refine pu_ 15 (some 44) #[true, true, true, true, true, true, true, true, true, true, true, true, true, true, true, true] rfl rfl (any_of HT_.out (by kernel_rfl)) ?_
      refine done_ (done_of HT_.out (by kernel_rfl)) ?_
      try go_wp2
      go_meet
      case rel => exact ⟨_, (false), sm_, H', ⟨by have := HJ10.out; first | omega | exact Nat.le_refl _⟩, ⟨by (with_reducible repeat (first | apply Kd.R_alloc | apply Kd.R_drewN | apply Kd.R_drew)); exact HO_547000.out⟩, ⟨bk_ BK542.out⟩, ⟨bk_ BK546.out⟩, ⟨hb2_ HB.out GE542.out GE546.out⟩⟩
    case rest =>
     clear HC28
     try clear c1
     try clear c2
     try clear p2
     try clear c3
     try clear c4
     try clear c6
     try clear c6b0
     try clear c6b1
     try clear c18
     try clear c21
     try clear c21b0
     try clear c21b1
     try clear c23
     try clear c25
     try clear c27
     try clear c29
     try clear c30
     try clear c30b0
     try clear c30b1
     try clear c33
     try clear hcz14_0
     try clear hcz14_1
     try clear hcz14_2
     try clear hcz14_3
     try clear hcz19_0
     try clear hcz20_0
     try clear hcz20_1
     try clear hcz20_2
     try clear hcz20_3
     try clear hcz24_0
     try clear hcz24_1
     try clear hcz24_2
     try clear hcz24_3
     try clear hcz27_0
     try clear hcz9_0
     try clear hcz9_1
     try clear hcz9_2
     try clear hcz9_3
     try clear hfz14_0
     try clear hfz14_1
     try clear hfz14_2
     try clear hfz14_3
     try clear hfz19_0
     try clear hfz20_0
     try clear hfz20_1
     try clear hfz20_2
     try clear hfz20_3
     try clear hfz24_0
     try clear hfz24_1
     try clear hfz24_2
     try clear hfz24_3
     try clear hfz27_0
     try clear hfz9_0
     try clear hfz9_1
     try clear hfz9_2
     try clear hfz9_3
     try clear p2
     obtain ⟨kq, x44_27, rfl, HA, HJ27, HO_547000, BK542, BK546, HB⟩ := hcut
     cases kq with
     | zero => exact absurd HA.out (by simp [trunnionref12_Chop.j1])
     | succ kj27 =>
      have H := HA.out
      clear HA
      simp only [trunnionref12_Chop.j1] at H
      by_cases c41 : x44_27 = true
      ·subst c41
       have H1 : (some (2, 0)) = some (r1, r2) := by rw [if_pos rfl] at H; exact H
       clear H;have H := H1;clear H1
       simp only [Option.some.injEq, Prod.mk.injEq] at H
       obtain ⟨rfl, rfl⟩ := H
       go_wp2
       go_ret2
       exact ⟨er_, hb2_ HB.out GE542.out GE546.out⟩
      ·replace c41 := Bool.eq_false_iff.mpr c41
       subst c41
       have H1 : (if t538 = true then (trunnionref12_Chop.j2 kj27 a1 false t538 t539 t540 t541 x547000_10) else (if t539 = 2 then (trunnionref12_Chop.j2 kj27 a1 true t538 t539 t540 t541 x547000_10) else ((trunnionref12_High.f kj27 a1 a3).bind fun t557 => ((r1_Of.f kj27 t557).bind fun t558 => ((r1_Cmp.f kj27 x547000_10 t558).bind fun t561 => (trunnionref12_Chop.j2 kj27 a1 (decide (t561 > 0)) t538 t539 t540 t541 x547000_10)))))) = some (r1, r2) := by rw [if_neg (show ¬ (false = true) by decide)] at H; exact H
       clear H;have H := H1;clear H1;have HC42 := A_ H;clear H
       go_upto_region 9 with (fail)
       go_cut [61] (fun v61 wc => ∃ (kq : Nat) (x61_41 : Bool), v61 = .bool x61_41 ∧ Aside0 (trunnionref12_Chop.j2 kq a1 x61_41 t538 t539 t540 t541 x547000_10 = some (r1, r2)) ∧ Aside0 (kq ≤ kj27) ∧ Aside0 (Kd.R (Kd.int .u64) 22 wc w.heap.size (fun _ => True) u547000 x547000_10) ∧ Aside0 (wc.heap[gb542]? = some (.cells #[.bool t538, .int .i64 t539, .int .i64 t540, .int .u64 t541] 67 (0, 0))) ∧ Aside0 (wc.heap[gb546]? = some (.cells #[u547000] 53 (0, 0))) ∧ Aside0 (Below w.heap.size w wc))
       case first =>
        have H := HC42.out
        clear HC42
        by_cases c43 : t538 = true
        ·subst c43
         have H1 : (trunnionref12_Chop.j2 kj27 a1 false true t539 t540 t541 x547000_10) = some (r1, r2) := by rw [if_pos rfl] at H; exact H
         clear H;have H := H1;clear H1
         have H' := A_ H
         clear H
         try go_wp2
         replace HO_547000 := A_ (Kd.R_drew HO_547000.out)
         replace BK542 := A_ (blk_drew BK542.out)
         replace BK546 := A_ (blk_drew BK546.out)
         replace HB := A_ (below_drew1 HB.out)
         refine start_ (n := 17) (S := fun w' => w'.cell? ⟨gb542, 0, none⟩ = some (.bool true) ∧ w'.cell? ⟨gb542, 1, none⟩ = some (.int .i64 t539) ∧ w'.cell? ⟨gb542, 2, none⟩ = some (.int .i64 t540) ∧ w'.cell? ⟨gb542, 3, none⟩ = some (.int .u64 t541)) (ds := []) #[false, false, false, false, false, false, false, false, false, false, false, false, false, false, false, false, false] (by kernel_rfl) rfl rfl ⟨bc_ BK542.out 0, bc_ BK542.out 1, bc_ BK542.out 2, bc_ BK542.out 3⟩ (fun hHeld => ?_); refine with_tabW trunnionref12_Chop.tab9 trunnionref12_Chop.bits9 (fun HT_ HW_ => ?_)
         generalize wc.drew = w44 at HO_547000 BK542 BK546 HB hHeld ⊢
         refine pu_ 0 (some 45) #[true, false, false, false, false, false, false, false, false, false, false, false, false, false, false, false, false] rfl rfl (any_of HT_.out (by kernel_rfl)) ?_
         refine tk4_ 1 (some 46) #[true, true, false, false, false, false, false, false, false, false, false, false, false, false, false, false, false] rfl rfl (take_ofW HT_.out HW_.out (by kernel_rfl)) hHeld ?_
         refine pu_ 2 (some 47) #[true, true, true, false, false, false, false, false, false, false, false, false, false, false, false, false, false] rfl rfl (any_of HT_.out (by kernel_rfl)) ?_
         refine pu_ 3 (some 48) #[true, true, true, true, false, false, false, false, false, false, false, false, false, false, false, false, false] rfl rfl (any_of HT_.out (by kernel_rfl)) ?_
         refine pure_ (i := 4) (N := some 49) (v := undef) (a' := ?_) #[true, true, true, true, true, false, false, false, false, false, false, false, false, false, false, false, false] rfl rfl (any_of HT_.out (by kernel_rfl)) (fun _ _ _ h => h) (Or.inr ⟨by rfl, rfl⟩) ?_ ?_
         rotate_left
         ·simp only [Act.put, lI_, l0_, lS_, i64_w, i32_w]
          rfl
         refine pure_ (i := 5) (N := some 50) (v := undef) (a' := ?_) #[true, true, true, true, true, true, false, false, false, false, false, false, false, false, false, false, false] rfl rfl (any_of HT_.out (by kernel_rfl)) (fun _ _ _ h => h) (Or.inr ⟨by rfl, rfl⟩) ?_ ?_
         rotate_left
         ·simp only [Act.put, lI_, l0_, lS_, i64_w, i32_w]
          rfl
         refine pure_ (i := 6) (N := some 51) (v := undef) (a' := ?_) #[true, true, true, true, true, true, true, false, false, false, false, false, false, false, false, false, false] rfl rfl (any_of HT_.out (by kernel_rfl)) (fun _ _ _ h => h) (Or.inr ⟨by rfl, rfl⟩) ?_ ?_
         rotate_left
         ·simp only [Act.put, lI_, l0_, lS_, i64_w, i32_w]
          rfl
         refine pure_ (i := 7) (N := some 52) (v := undef) (a' := ?_) #[true, true, true, true, true, true, true, true, false, false, false, false, false, false, false, false, false] rfl rfl (any_of HT_.out (by kernel_rfl)) (fun _ _ _ h => h) (Or.inr ⟨by rfl, rfl⟩) ?_ ?_
         rotate_left
         ·simp only [Act.put, lI_, l0_, lS_, i64_w, i32_w]
          rfl
         refine pure_ (i := 8) (N := some 53) (v := undef) (a' := ?_) #[true, true, true, true, true, true, true, true, true, false, false, false, false, false, false, false, false] rfl rfl (any_of HT_.out (by kernel_rfl)) (fun _ _ _ h => h) (Or.inr ⟨by rfl, rfl⟩) ?_ ?_
         rotate_left
         ·simp only [Act.put, lI_, l0_, lS_, i64_w, i32_w]
          rfl
         refine pure_ (i := 9) (N := some 54) (v := undef) (a' := ?_) #[true, true, true, true, true, true, true, true, true, true, false, false, false, false, false, false, false] rfl rfl (any_of HT_.out (by kernel_rfl)) (fun _ _ _ h => h) (Or.inr ⟨by rfl, rfl⟩) ?_ ?_
         rotate_left
         ·simp only [Act.put, lI_, l0_, lS_, i64_w, i32_w]
          rfl
         refine pure_ (i := 10) (N := some 55) (v := undef) (a' := ?_) #[true, true, true, true, true, true, true, true, true, true, true, false, false, false, false, false, false] rfl rfl (any_of HT_.out (by kernel_rfl)) (fun _ _ _ h => h) (Or.inr ⟨by rfl, rfl⟩) ?_ ?_
         rotate_left
         ·simp only [Act.put, lI_, l0_, lS_, i64_w, i32_w]
          rfl
         refine pure_ (i := 11) (N := some 56) (v := undef) (a' := ?_) #[true, true, true, true, true, true, true, true, true, true, true, true, false, false, false, false, false] rfl rfl (any_of HT_.out (by kernel_rfl)) (fun _ _ _ h => h) (Or.inr ⟨by rfl, rfl⟩) ?_ ?_
         rotate_left
         ·simp only [Act.put, lI_, l0_, lS_, i64_w, i32_w]
          rfl
         refine pure_ (i := 12) (N := some 57) (v := undef) (a' := ?_) #[true, true, true, true, true, true, true, true, true, true, true, true, true, false, false, false, false] rfl rfl (any_of HT_.out (by kernel_rfl)) (fun _ _ _ h => h) (Or.inr ⟨by rfl, rfl⟩) ?_ ?_
         rotate_left
         ·simp only [Act.put, lI_, l0_, lS_, i64_w, i32_w]
          rfl
         refine pure_ (i := 13) (N := some 58) (v := undef) (a' := ?_) #[true, true, true, true, true, true, true, true, true, true, true, true, true, true, false, false, false] rfl rfl (any_of HT_.out (by kernel_rfl)) (fun _ _ _ h => h) (Or.inr ⟨by rfl, rfl⟩) ?_ ?_
         rotate_left
         ·simp only [Act.put, lI_, l0_, lS_, i64_w, i32_w]
          rfl
         refine pure_ (i := 14) (N := some 59) (v := undef) (a' := ?_) #[true, true, true, true, true, true, true, true, true, true, true, true, true, true, true, false, false] rfl rfl (any_of HT_.out (by kernel_rfl)) (fun _ _ _ h => h) (Or.inr ⟨by rfl, rfl⟩) ?_ ?_
         rotate_left
         ·simp only [Act.put, lI_, l0_, lS_, i64_w, i32_w]
          rfl
         refine pure_ (i := 15) (N := some 60) (v := undef) (a' := ?_) #[true, true, true, true, true, true, true, true, true, true, true, true, true, true, true, true, false] rfl rfl (any_of HT_.out (by kernel_rfl)) (fun _ _ _ h => h) (Or.inr ⟨by rfl, rfl⟩) ?_ ?_
         rotate_left
         ·simp only [Act.put, lI_, l0_, lS_, i64_w, i32_w]
          rfl
         refine pu_ 16 (some 61) #[true, true, true, true, true, true, true, true, true, true, true, true, true, true, true, true, true] rfl rfl (any_of HT_.out (by kernel_rfl)) ?_
         refine done_ (done_of HT_.out (by kernel_rfl)) ?_
         try go_wp2
         go_meet
         case rel => exact ⟨_, (false), sm_, H', ⟨by have := HJ10.out; have := HJ27.out; first | omega | exact Nat.le_refl _⟩, ⟨by (with_reducible repeat (first | apply Kd.R_alloc | apply Kd.R_drewN | apply Kd.R_drew)); exact HO_547000.out⟩, ⟨bk_ BK542.out⟩, ⟨bk_ BK546.out⟩, ⟨hb2_ HB.out GE542.out GE546.out⟩⟩
        ·replace c43 := Bool.eq_false_iff.mpr c43
         subst c43
         have H1 : (if t539 = 2 then (trunnionref12_Chop.j2 kj27 a1 true false t539 t540 t541 x547000_10) else ((trunnionref12_High.f kj27 a1 a3).bind fun t557 => ((r1_Of.f kj27 t557).bind fun t558 => ((r1_Cmp.f kj27 x547000_10 t558).bind fun t561 => (trunnionref12_Chop.j2 kj27 a1 (decide (t561 > 0)) false t539 t540 t541 x547000_10))))) = some (r1, r2) := by rw [if_neg (show ¬ (false = true) by decide)] at H; exact H
         clear H;have H := H1;clear H1
         by_cases c45 : t539 = 2
         ·rw [if_pos c45] at H
          have c45b0 : (t539 == 2) = true := beq_iff_eq.mpr c45
          have c45b1 : (t539 != 2) = false := bne_eq_false_iff_eq.mpr c45
          clear c45
          (first | rw [c45b0] | (simp only [i64_w, i32_w]; rw [c45b0]) | skip)
          have H' := A_ H
          clear H
          try go_wp2
          replace HO_547000 := A_ (Kd.R_drew HO_547000.out)
          replace BK542 := A_ (blk_drew BK542.out)
          replace BK546 := A_ (blk_drew BK546.out)
          replace HB := A_ (below_drew1 HB.out)
          refine start_ (n := 17) (S := fun w' => w'.cell? ⟨gb542, 0, none⟩ = some (.bool false) ∧ w'.cell? ⟨gb542, 1, none⟩ = some (.int .i64 t539) ∧ w'.cell? ⟨gb542, 2, none⟩ = some (.int .i64 t540) ∧ w'.cell? ⟨gb542, 3, none⟩ = some (.int .u64 t541)) (ds := []) #[false, false, false, false, false, false, false, false, false, false, false, false, false, false, false, false, false] (by kernel_rfl) rfl rfl ⟨bc_ BK542.out 0, bc_ BK542.out 1, bc_ BK542.out 2, bc_ BK542.out 3⟩ (fun hHeld => ?_); refine with_tabW trunnionref12_Chop.tab9 trunnionref12_Chop.bits9 (fun HT_ HW_ => ?_)
          generalize wc.drew = w46 at HO_547000 BK542 BK546 HB hHeld ⊢
          refine pu_ 0 (some 45) #[true, false, false, false, false, false, false, false, false, false, false, false, false, false, false, false, false] rfl rfl (any_of HT_.out (by kernel_rfl)) ?_
          refine tk4_ 1 (some 46) #[true, true, false, false, false, false, false, false, false, false, false, false, false, false, false, false, false] rfl rfl (take_ofW HT_.out HW_.out (by kernel_rfl)) hHeld ?_
          refine pu_ 2 (some 47) #[true, true, true, false, false, false, false, false, false, false, false, false, false, false, false, false, false] rfl rfl (any_of HT_.out (by kernel_rfl)) ?_
          refine pu_ 3 (some 48) #[true, true, true, true, false, false, false, false, false, false, false, false, false, false, false, false, false] rfl rfl (any_of HT_.out (by kernel_rfl)) ?_
          refine pu_ 4 (some 49) #[true, true, true, true, true, false, false, false, false, false, false, false, false, false, false, false, false] rfl rfl (any_of HT_.out (by kernel_rfl)) ?_
          refine tk4_ 5 (some 50) #[true, true, true, true, true, true, false, false, false, false, false, false, false, false, false, false, false] rfl rfl (take_ofW HT_.out HW_.out (by kernel_rfl)) hHeld ?_
          refine pu_ 6 (some 51) #[true, true, true, true, true, true, true, false, false, false, false, false, false, false, false, false, false] rfl rfl (any_of HT_.out (by kernel_rfl)) ?_
          refine pu_ 7 (some 52) #[true, true, true, true, true, true, true, true, false, false, false, false, false, false, false, false, false] rfl rfl (any_of HT_.out (by kernel_rfl)) ?_
          refine pure_ (i := 8) (N := some 53) (v := undef) (a' := ?_) #[true, true, true, true, true, true, true, true, true, false, false, false, false, false, false, false, false] rfl rfl (any_of HT_.out (by kernel_rfl)) (fun _ _ _ h => h) (Or.inr ⟨by rfl, rfl⟩) ?_ ?_
          rotate_left
          ·simp only [Act.put, lI_, l0_, lS_, i64_w, i32_w]
           rfl
          refine pure_ (i := 9) (N := some 54) (v := undef) (a' := ?_) #[true, true, true, true, true, true, true, true, true, true, false, false, false, false, false, false, false] rfl rfl (any_of HT_.out (by kernel_rfl)) (fun _ _ _ h => h) (Or.inr ⟨by rfl, rfl⟩) ?_ ?_
          rotate_left
          ·simp only [Act.put, lI_, l0_, lS_, i64_w, i32_w]
           rfl
          refine pure_ (i := 10) (N := some 55) (v := undef) (a' := ?_) #[true, true, true, true, true, true, true, true, true, true, true, false, false, false, false, false, false] rfl rfl (any_of HT_.out (by kernel_rfl)) (fun _ _ _ h => h) (Or.inr ⟨by rfl, rfl⟩) ?_ ?_
          rotate_left
          ·simp only [Act.put, lI_, l0_, lS_, i64_w, i32_w]
           rfl
          refine pure_ (i := 11) (N := some 56) (v := undef) (a' := ?_) #[true, true, true, true, true, true, true, true, true, true, true, true, false, false, false, false, false] rfl rfl (any_of HT_.out (by kernel_rfl)) (fun _ _ _ h => h) (Or.inr ⟨by rfl, rfl⟩) ?_ ?_
          rotate_left
          ·simp only [Act.put, lI_, l0_, lS_, i64_w, i32_w]
           rfl
          refine pure_ (i := 12) (N := some 57) (v := undef) (a' := ?_) #[true, true, true, true, true, true, true, true, true, true, true, true, true, false, false, false, false] rfl rfl (any_of HT_.out (by kernel_rfl)) (fun _ _ _ h => h) (Or.inr ⟨by rfl, rfl⟩) ?_ ?_
          rotate_left
          ·simp only [Act.put, lI_, l0_, lS_, i64_w, i32_w]
           rfl
          refine pure_ (i := 13) (N := some 58) (v := undef) (a' := ?_) #[true, true, true, true, true, true, true, true, true, true, true, true, true, true, false, false, false] rfl rfl (any_of HT_.out (by kernel_rfl)) (fun _ _ _ h => h) (Or.inr ⟨by rfl, rfl⟩) ?_ ?_
          rotate_left
          ·simp only [Act.put, lI_, l0_, lS_, i64_w, i32_w]
           rfl
          refine pure_ (i := 14) (N := some 59) (v := undef) (a' := ?_) #[true, true, true, true, true, true, true, true, true, true, true, true, true, true, true, false, false] rfl rfl (any_of HT_.out (by kernel_rfl)) (fun _ _ _ h => h) (Or.inr ⟨by rfl, rfl⟩) ?_ ?_
          rotate_left
          ·simp only [Act.put, lI_, l0_, lS_, i64_w, i32_w]
           rfl
          refine pu_ 15 (some 60) #[true, true, true, true, true, true, true, true, true, true, true, true, true, true, true, true, false] rfl rfl (any_of HT_.out (by kernel_rfl)) ?_
          refine pu_ 16 (some 61) #[true, true, true, true, true, true, true, true, true, true, true, true, true, true, true, true, true] rfl rfl (any_of HT_.out (by kernel_rfl)) ?_
          refine done_ (done_of HT_.out (by kernel_rfl)) ?_
          try go_wp2
          go_meet
          case rel => exact ⟨_, (true), sm_, H', ⟨by have := HJ10.out; have := HJ27.out; first | omega | exact Nat.le_refl _⟩, ⟨by (with_reducible repeat (first | apply Kd.R_alloc | apply Kd.R_drewN | apply Kd.R_drew)); exact HO_547000.out⟩, ⟨bk_ BK542.out⟩, ⟨bk_ BK546.out⟩, ⟨hb2_ HB.out GE542.out GE546.out⟩⟩
         ·rw [if_neg c45] at H
          have c45b0 : (t539 == 2) = false := beq_eq_false_iff_ne.mpr c45
          have c45b1 : (t539 != 2) = true := bne_iff_ne.mpr c45
          (first | rw [c45b0] | (simp only [i64_w, i32_w]; rw [c45b0]) | skip)
          replace H := ob_ H
          obtain ⟨t557, A470, H⟩ := H
          replace H : ((r1_Of.f kj27 t557).bind fun t558 => ((r1_Cmp.f kj27 x547000_10 t558).bind fun t561 => (trunnionref12_Chop.j2 kj27 a1 (decide (t561 > 0)) false t539 t540 t541 x547000_10))) = some (r1, r2) := H
          have A47 := A_ A470;clear A470
          replace H := ob_ H
          obtain ⟨t558, A480, H⟩ := H
          replace H : ((r1_Cmp.f kj27 x547000_10 t558).bind fun t561 => (trunnionref12_Chop.j2 kj27 a1 (decide (t561 > 0)) false t539 t540 t541 x547000_10)) = some (r1, r2) := H
          have A48 := A_ A480;clear A480
          replace H := ob_ H
          obtain ⟨t561, A490, H⟩ := H
          replace H : (trunnionref12_Chop.j2 kj27 a1 (decide (t561 > 0)) false t539 t540 t541 x547000_10) = some (r1, r2) := H
          have A49 := A_ A490;clear A490
          have H' := A_ H
          clear H
          try go_wp2
          replace HO_547000 := A_ (Kd.R_drew HO_547000.out)
          replace BK542 := A_ (blk_drew BK542.out)
          replace BK546 := A_ (blk_drew BK546.out)
          replace HB := A_ (below_drew1 HB.out)
          refine start_ (n := 17) (S := fun w' => w'.cell? ⟨gb542, 0, none⟩ = some (.bool false) ∧ w'.cell? ⟨gb542, 1, none⟩ = some (.int .i64 t539) ∧ w'.cell? ⟨gb542, 2, none⟩ = some (.int .i64 t540) ∧ w'.cell? ⟨gb542, 3, none⟩ = some (.int .u64 t541) ∧ w'.cell? ⟨gb546, 0, none⟩ = some (u547000)) (ds := []) #[false, false, false, false, false, false, false, false, false, false, false, false, false, false, false, false, false] (by kernel_rfl) rfl rfl ⟨bc_ BK542.out 0, bc_ BK542.out 1, bc_ BK542.out 2, bc_ BK542.out 3, bc_ BK546.out 0⟩ (fun hHeld => ?_); refine with_tabW trunnionref12_Chop.tab9 trunnionref12_Chop.bits9 (fun HT_ HW_ => ?_)
          generalize wc.drew = w50 at HO_547000 BK542 BK546 HB hHeld ⊢
          refine pu_ 0 (some 45) #[true, false, false, false, false, false, false, false, false, false, false, false, false, false, false, false, false] rfl rfl (any_of HT_.out (by kernel_rfl)) ?_
          refine tk5_ 1 (some 46) #[true, true, false, false, false, false, false, false, false, false, false, false, false, false, false, false, false] rfl rfl (take_ofW HT_.out HW_.out (by kernel_rfl)) hHeld ?_
          refine pu_ 2 (some 47) #[true, true, true, false, false, false, false, false, false, false, false, false, false, false, false, false, false] rfl rfl (any_of HT_.out (by kernel_rfl)) ?_
          refine pu_ 3 (some 48) #[true, true, true, true, false, false, false, false, false, false, false, false, false, false, false, false, false] rfl rfl (any_of HT_.out (by kernel_rfl)) ?_
          refine pu_ 4 (some 49) #[true, true, true, true, true, false, false, false, false, false, false, false, false, false, false, false, false] rfl rfl (any_of HT_.out (by kernel_rfl)) ?_
          refine tk5_ 5 (some 50) #[true, true, true, true, true, true, false, false, false, false, false, false, false, false, false, false, false] rfl rfl (take_ofW HT_.out HW_.out (by kernel_rfl)) hHeld ?_
          refine pu_ 6 (some 51) #[true, true, true, true, true, true, true, false, false, false, false, false, false, false, false, false, false] rfl rfl (any_of HT_.out (by kernel_rfl)) ?_
          refine pu_ 7 (some 52) #[true, true, true, true, true, true, true, true, false, false, false, false, false, false, false, false, false] rfl rfl (any_of HT_.out (by kernel_rfl)) ?_
          refine pu_ 9 (some 54) #[true, true, true, true, true, true, true, true, false, true, false, false, false, false, false, false, false] rfl rfl (any_of HT_.out (by kernel_rfl)) ?_
          refine pu_ 10 (some 55) #[true, true, true, true, true, true, true, true, false, true, true, false, false, false, false, false, false] rfl rfl (any_of HT_.out (by kernel_rfl)) ?_
          refine tk5_ 8 (some 53) #[true, true, true, true, true, true, true, true, true, true, true, false, false, false, false, false, false] rfl rfl (take_ofW HT_.out HW_.out (by kernel_rfl)) hHeld ?_
          refine one_ (i := 11) (N := some 56) #[true, true, true, true, true, true, true, true, true, true, true, true, false, false, false, false, false] rfl rfl (one_of HT_.out (by kernel_rfl)) (by decide) (fun K hK => ?_)
          refine goes_ Try.func26 (by kernel_rfl) rfl #[.int .i64 a1, .bool a3] (by rfl) rfl rfl mp_ ?_
          with_reducible refine (trunnionref12_High.calls kj27 a1 a3 t557 _ A47.out).mono ?_
          rintro e w' ⟨rfl, ⟨nd, rfl⟩⟩
          refine ⟨_, rfl, ?_⟩
          refine hK.out _ _ ⟨bc_ BK542.out 0, bc_ BK542.out 1, bc_ BK542.out 2, bc_ BK542.out 3, bc_ BK546.out 0⟩ (fun hHeld => ?_)
          clear hK K
          refine norm_ (a' := ?_) ?_ ?_
          rotate_left
          ·show Act.put _ (some 56) _ = _
           simp only [Act.put, lI_, l0_, lS_, i64_w, i32_w]
           rfl
          refine one_ (i := 12) (N := some 57) #[true, true, true, true, true, true, true, true, true, true, true, true, true, false, false, false, false] rfl rfl (one_of HT_.out (by kernel_rfl)) (by decide) (fun K hK => ?_)
          refine goes_ Try.func33 (by kernel_rfl) rfl #[.int .u64 t557] (by rfl) rfl rfl mp_ ?_
          with_reducible refine (r1_Of.calls kj27 t557 t558 _ A48.out).mono ?_
          rintro e w51 ⟨v559, rfl, ho0, hb⟩
          refine ⟨_, rfl, ?_⟩
          have HO560 := A_ (Kd.R_lower (Kd.R_new' ho0 (Kd.R_lt (kr_ HO_547000.out))) (below_size (hb2_ HB.out GE542.out GE546.out)))
          replace HO_547000 := A_ (Kd.R_elder' (kr_ HO_547000.out) (Kd.R_base ho0) hb)
          replace BK542 := A_ (bb_ BK542.out hb)
          replace BK546 := A_ (bb_ BK546.out hb)
          replace HB := A_ (below_step (hb2_ HB.out GE542.out GE546.out) hb);(try clear hb);(try clear hb2);(try clear hk);(try clear hi);(try clear ho0)
          obtain ⟨Ao52, co52, eo52⟩ := Kd.R_slice HO_547000.out
          (first | subst eo52 | (injection eo52 with f1_ f2_ f3_; have f4_ := f1_.symm; have f5_ := f3_.symm; clear f1_ f2_ f3_; subst f4_; subst f5_))
          obtain ⟨Ao53, co53, eo53⟩ := Kd.R_slice HO560.out
          (first | subst eo53 | (injection eo53 with f1_ f2_ f3_; have f4_ := f1_.symm; have f5_ := f3_.symm; clear f1_ f2_ f3_; subst f4_; subst f5_))
          refine hK.out _ _ ⟨bc_ BK542.out 0, bc_ BK542.out 1, bc_ BK542.out 2, bc_ BK542.out 3, bc_ BK546.out 0⟩ (fun hHeld => ?_)
          clear hK K
          refine norm_ (a' := ?_) ?_ ?_
          rotate_left
          ·show Act.put _ (some 57) _ = _
           simp only [Act.put, lI_, l0_, lS_, i64_w, i32_w]
           rfl
          refine one_ (i := 13) (N := some 58) #[true, true, true, true, true, true, true, true, true, true, true, true, true, true, false, false, false] rfl rfl (one_of HT_.out (by kernel_rfl)) (by decide) (fun K hK => ?_)
          refine goes_ Try.func41 (by kernel_rfl) rfl #[.agg #[.slice Ao52 x547000_10.length co52], .agg #[.slice Ao53 t558.length co53]] (by rfl) rfl rfl mp_ ?_
          with_reducible refine (r1_Cmp.calls kj27 _ _ x547000_10 _ _ t558 t561 _ ?side1 ?side2 ?side3 ?side4 A49.out).mono ?_
          (case side1 => exact cs_ ((Kd.R_reads' HO_547000.out).2.2))
          (case side2 => exact (Kd.R_reads' HO_547000.out).2.1)
          (case side3 => exact cs_ ((Kd.R_reads' HO560.out).2.2))
          (case side4 => exact (Kd.R_reads' HO560.out).2.1)
          rintro e w54 ⟨rfl, hb⟩
          refine ⟨_, rfl, ?_⟩
          replace HO_547000 := A_ (Kd.R_below (kr_ HO_547000.out) hb)
          replace HO560 := A_ (Kd.R_below (kr_ HO560.out) hb)
          replace BK542 := A_ (bb_ BK542.out hb)
          replace BK546 := A_ (bb_ BK546.out hb)
          replace HB := A_ (below_step (hb2_ HB.out GE542.out GE546.out) hb);(try clear hb);(try clear hb2);(try clear hk);(try clear hi)
          refine hK.out _ _ ⟨bc_ BK542.out 0, bc_ BK542.out 1, bc_ BK542.out 2, bc_ BK542.out 3, bc_ BK546.out 0⟩ (fun hHeld => ?_)
          clear hK K
          refine norm_ (a' := ?_) ?_ ?_
          rotate_left
          ·show Act.put _ (some 58) _ = _
           simp only [Act.put, lI_, l0_, lS_, i64_w, i32_w]
           rfl
          refine pu_ 14 (some 59) #[true, true, true, true, true, true, true, true, true, true, true, true, true, true, true, false, false] rfl rfl (any_of HT_.out (by kernel_rfl)) ?_
          refine pu_ 15 (some 60) #[true, true, true, true, true, true, true, true, true, true, true, true, true, true, true, true, false] rfl rfl (any_of HT_.out (by kernel_rfl)) ?_
          refine pu_ 16 (some 61) #[true, true, true, true, true, true, true, true, true, true, true, true, true, true, true, true, true] rfl rfl (any_of HT_.out (by kernel_rfl)) ?_
          refine done_ (done_of HT_.out (by kernel_rfl)) ?_
          try go_wp2
          go_meet
          case rel => exact ⟨_, (decide (t561 > 0)), sm_, H', ⟨by have := HJ10.out; have := HJ27.out; first | omega | exact Nat.le_refl _⟩, ⟨by (with_reducible repeat (first | apply Kd.R_alloc | apply Kd.R_drewN | apply Kd.R_drew)); exact Kd.R_mono HO_547000.out (fun _ hk => trivial)⟩, ⟨bk_ BK542.out⟩, ⟨bk_ BK546.out⟩, ⟨hb2_ HB.out GE542.out GE546.out⟩⟩
       case rest =>
        clear HC42
        try clear c1
        try clear c2
        try clear p2
        try clear c3
        try clear c4
        try clear c6
        try clear c6b0
        try clear c6b1
        try clear c18
        try clear c21
        try clear c21b0
        try clear c21b1
        try clear c23
        try clear c25
        try clear c26
        try clear c27
        try clear c29
        try clear c30
        try clear c30b0
        try clear c30b1
        try clear c33
        try clear c41
        try clear c43
        try clear c45
        try clear c45b0
        try clear c45b1
        try clear hcz14_0
        try clear hcz14_1
        try clear hcz14_2
        try clear hcz14_3
        try clear hcz19_0
        try clear hcz20_0
        try clear hcz20_1
        try clear hcz20_2
        try clear hcz20_3
        try clear hcz24_0
        try clear hcz24_1
        try clear hcz24_2
        try clear hcz24_3
        try clear hcz27_0
        try clear hcz9_0
        try clear hcz9_1
        try clear hcz9_2
        try clear hcz9_3
        try clear hfz14_0
        try clear hfz14_1
        try clear hfz14_2
        try clear hfz14_3
        try clear hfz19_0
        try clear hfz20_0
        try clear hfz20_1
        try clear hfz20_2
        try clear hfz20_3
        try clear hfz24_0
        try clear hfz24_1
        try clear hfz24_2
        try clear hfz24_3
        try clear hfz27_0
        try clear hfz9_0
        try clear hfz9_1
        try clear hfz9_2
        try clear hfz9_3
        try clear p2
        obtain ⟨kq, x61_41, rfl, HA, HJ41, HO_547000, BK542, BK546, HB⟩ := hcut
        cases kq with
        | zero => exact absurd HA.out (by simp [trunnionref12_Chop.j2])
        | succ kj41 =>
         have H := HA.out
         clear HA
         simp only [trunnionref12_Chop.j2] at H
         by_cases c55 : x61_41 = true
         ·subst c55
          have H1 : (some (3, 0)) = some (r1, r2) := by rw [if_pos rfl] at H; exact H
          clear H;have H := H1;clear H1
          simp only [Option.some.injEq, Prod.mk.injEq] at H
          obtain ⟨rfl, rfl⟩ := H
          go_wp2
          go_ret2
          exact ⟨er_, hb2_ HB.out GE542.out GE546.out⟩
         ·replace c55 := Bool.eq_false_iff.mpr c55
          subst c55
          have H1 : ((r1_Uint.f x547000_10).bind fun t562 => (if t538 = true then (if t562 > 0 then ((r2_Cut.f a1 (IntKind.u64.wrap ((IntKind.u64.wrap (18446744073709551615 - t562)) + 1))).bind fun t563 => (some (0, t563))) else ((r2_Cut.f a1 t562).bind fun t564 => (some (0, t564)))) else ((r2_Cut.f a1 t562).bind fun t565 => (some (0, t565))))) = some (r1, r2) := by rw [if_neg (show ¬ (false = true) by decide)] at H; exact H
          clear H;have H := H1;clear H1
          replace H := ob_ H
          obtain ⟨t562, A560, H⟩ := H
          replace H : (if t538 = true then (if t562 > 0 then ((r2_Cut.f a1 (IntKind.u64.wrap ((IntKind.u64.wrap (18446744073709551615 - t562)) + 1))).bind fun t563 => (some (0, t563))) else ((r2_Cut.f a1 t562).bind fun t564 => (some (0, t564)))) else ((r2_Cut.f a1 t562).bind fun t565 => (some (0, t565)))) = some (r1, r2) := H
          have A56 := A_ A560;clear A560
          by_cases c57 : t538 = true
          ·subst c57
           have H1 : (if t562 > 0 then ((r2_Cut.f a1 (IntKind.u64.wrap ((IntKind.u64.wrap (18446744073709551615 - t562)) + 1))).bind fun t563 => (some (0, t563))) else ((r2_Cut.f a1 t562).bind fun t564 => (some (0, t564)))) = some (r1, r2) := by rw [if_pos rfl] at H; exact H
           clear H;have H := H1;clear H1
           by_cases c58 : t562 > 0
           ·rw [if_pos c58] at H
            have c58b0 : decide (0 < t562) = true := decide_eq_true c58
            clear c58
            replace H := ob_ H
            obtain ⟨t563, A590, H⟩ := H
            replace H : (some (0, t563)) = some (r1, r2) := H
            have A59 := A_ A590;clear A590
            simp only [Option.some.injEq, Prod.mk.injEq] at H
            obtain ⟨rfl, rfl⟩ := H
            have hnb60 := NB546_542.out
            have hnc60 := NB542_546.out
            have hcz61_0 := bv_ BK546.out 0
            have hfz61_0 := blk_frozen BK546.out 0
            obtain ⟨Ao62, co62, eo62⟩ := Kd.R_slice HO_547000.out
            subst eo62
            go_wp2_with (first | ((with_reducible refine gate_callee (f := 66) rfl ?_); refine gl_ (some 63) Try.func66 #[.agg #[.slice Ao62 x547000_10.length co62]] ?_; (with_reducible refine (r1_Uint.calls _ _ x547000_10 t562 _ ?side1 ?side2 A56.out).mono ?_); (case side1 => exact cs_ ((Kd.R_reads' HO_547000.out).2.2)); (case side2 => exact (Kd.R_reads' HO_547000.out).2.1); rintro e w63 ⟨rfl, hb⟩; refine ⟨_, rfl, ?_⟩; replace HO_547000 := A_ (Kd.R_below (kr_ HO_547000.out) hb); replace BK542 := A_ (bb_ BK542.out hb); replace BK546 := A_ (bb_ BK546.out hb); replace HB := A_ (below_step (hb2_ HB.out GE542.out GE546.out) hb); (try clear hb); (try clear hb2); (try clear hk); (try clear hi); have hcz64_0 := bv_ BK542.out 0; have hcz64_1 := bv_ BK542.out 1; have hcz64_2 := bv_ BK542.out 2; have hcz64_3 := bv_ BK542.out 3; have hfz64_0 := blk_frozen BK542.out 0; have hfz64_1 := blk_frozen BK542.out 1; have hfz64_2 := blk_frozen BK542.out 2; have hfz64_3 := blk_frozen BK542.out 3) | ((with_reducible refine gate_callee (f := 57) rfl ?_); refine gl_ (some 75) Try.func57 #[.int .i64 a1, .int .u64 (IntKind.u64.wrap ((IntKind.u64.wrap (18446744073709551615 - t562)) + 1))] ?_; (with_reducible refine (r2_Cut.calls a1 (IntKind.u64.wrap ((IntKind.u64.wrap (18446744073709551615 - t562)) + 1)) t563 _ A59.out).mono ?_); rintro e w' ⟨rfl, ⟨nd, rfl⟩⟩; refine ⟨_, rfl, ?_⟩))
            go_ret2
            exact ⟨er_, hb2_ HB.out GE542.out GE546.out⟩
           ·rw [if_neg c58] at H
            have c58b0 : decide (0 < t562) = false := decide_eq_false c58
            clear c58
            replace H := ob_ H
            obtain ⟨t564, A650, H⟩ := H
            replace H : (some (0, t564)) = some (r1, r2) := H
            have A65 := A_ A650;clear A650
            simp only [Option.some.injEq, Prod.mk.injEq] at H
            obtain ⟨rfl, rfl⟩ := H
            have hnb66 := NB546_542.out
            have hnc66 := NB542_546.out
            have hcz67_0 := bv_ BK546.out 0
            have hfz67_0 := blk_frozen BK546.out 0
            obtain ⟨Ao68, co68, eo68⟩ := Kd.R_slice HO_547000.out
            subst eo68
            go_wp2_with (first | ((with_reducible refine gate_callee (f := 66) rfl ?_); refine gl_ (some 63) Try.func66 #[.agg #[.slice Ao68 x547000_10.length co68]] ?_; (with_reducible refine (r1_Uint.calls _ _ x547000_10 t562 _ ?side1 ?side2 A56.out).mono ?_); (case side1 => exact cs_ ((Kd.R_reads' HO_547000.out).2.2)); (case side2 => exact (Kd.R_reads' HO_547000.out).2.1); rintro e w69 ⟨rfl, hb⟩; refine ⟨_, rfl, ?_⟩; replace HO_547000 := A_ (Kd.R_below (kr_ HO_547000.out) hb); replace BK542 := A_ (bb_ BK542.out hb); replace BK546 := A_ (bb_ BK546.out hb); replace HB := A_ (below_step (hb2_ HB.out GE542.out GE546.out) hb); (try clear hb); (try clear hb2); (try clear hk); (try clear hi); have hcz70_0 := bv_ BK542.out 0; have hcz70_1 := bv_ BK542.out 1; have hcz70_2 := bv_ BK542.out 2; have hcz70_3 := bv_ BK542.out 3; have hfz70_0 := blk_frozen BK542.out 0; have hfz70_1 := blk_frozen BK542.out 1; have hfz70_2 := blk_frozen BK542.out 2; have hfz70_3 := blk_frozen BK542.out 3) | ((with_reducible refine gate_callee (f := 57) rfl ?_); refine gl_ (some 75) Try.func57 #[.int .i64 a1, .int .u64 t562] ?_; (with_reducible refine (r2_Cut.calls a1 t562 t564 _ A65.out).mono ?_); rintro e w' ⟨rfl, ⟨nd, rfl⟩⟩; refine ⟨_, rfl, ?_⟩))
            go_ret2
            exact ⟨er_, hb2_ HB.out GE542.out GE546.out⟩
          ·replace c57 := Bool.eq_false_iff.mpr c57
           subst c57
           have H1 : ((r2_Cut.f a1 t562).bind fun t565 => (some (0, t565))) = some (r1, r2) := by rw [if_neg (show ¬ (false = true) by decide)] at H; exact H
           clear H;have H := H1;clear H1
           replace H := ob_ H
           obtain ⟨t565, A710, H⟩ := H
           replace H : (some (0, t565)) = some (r1, r2) := H
           have A71 := A_ A710;clear A710
           simp only [Option.some.injEq, Prod.mk.injEq] at H
           obtain ⟨rfl, rfl⟩ := H
           have hnb72 := NB546_542.out
           have hnc72 := NB542_546.out
           have hcz73_0 := bv_ BK546.out 0
           have hfz73_0 := blk_frozen BK546.out 0
           obtain ⟨Ao74, co74, eo74⟩ := Kd.R_slice HO_547000.out
           subst eo74
           go_wp2_with (first | ((with_reducible refine gate_callee (f := 66) rfl ?_); refine gl_ (some 63) Try.func66 #[.agg #[.slice Ao74 x547000_10.length co74]] ?_; (with_reducible refine (r1_Uint.calls _ _ x547000_10 t562 _ ?side1 ?side2 A56.out).mono ?_); (case side1 => exact cs_ ((Kd.R_reads' HO_547000.out).2.2)); (case side2 => exact (Kd.R_reads' HO_547000.out).2.1); rintro e w75 ⟨rfl, hb⟩; refine ⟨_, rfl, ?_⟩; replace HO_547000 := A_ (Kd.R_below (kr_ HO_547000.out) hb); replace BK542 := A_ (bb_ BK542.out hb); replace BK546 := A_ (bb_ BK546.out hb); replace HB := A_ (below_step (hb2_ HB.out GE542.out GE546.out) hb); (try clear hb); (try clear hb2); (try clear hk); (try clear hi); have hcz76_0 := bv_ BK542.out 0; have hcz76_1 := bv_ BK542.out 1; have hcz76_2 := bv_ BK542.out 2; have hcz76_3 := bv_ BK542.out 3; have hfz76_0 := blk_frozen BK542.out 0; have hfz76_1 := blk_frozen BK542.out 1; have hfz76_2 := blk_frozen BK542.out 2; have hfz76_3 := blk_frozen BK542.out 3) | ((with_reducible refine gate_callee (f := 57) rfl ?_); refine gl_ (some 75) Try.func57 #[.int .i64 a1, .int .u64 t562] ?_; (with_reducible refine (r2_Cut.calls a1 t562 t565 _ A71.out).mono ?_); rintro e w' ⟨rfl, ⟨nd, rfl⟩⟩; refine ⟨_, rfl, ?_⟩))
           go_ret2
           exact ⟨er_, hb2_ HB.out GE542.out GE546.out⟩
end Go.Proofs.Ytjjehbedpgdhgaa.PA
