/- What the Go functions that the statement ShapeEnds reaches compute, and the mathematics on it, in the order in which one leans on the other; for every input. -/
import Derived.Test.YtmjfenbbgfohlaaMShapeEnds0
import Derived.Laws.BitsAllLaws
import Derived.Test.YtmjfenbbgfohlaaRows
import Derived.ProofKit
import Derived.JoinedOf
import Derived.KernelRfl
namespace Go.Proofs.Ytmjfenbbgfohlaa.PA
open Go.RowKit Go.Proofs.YtmjfenbbgfohlaaW.PrintWords Go.Proofs.YtmjfenbbgfohlaaW.PrintLast Go.Proofs.YtmjfenbbgfohlaaW.PrintMore
attribute [local go_sem] max2_int min2_int max_two min_two max_three min_three max_four min_four   -- for this text's walks alone
set_option linter.unusedVariables false
set_option linter.unusedSimpArgs false

/-! ### trunnionref02_Make: function 69 -/
def trunnionref02_Make.f (k : Nat) (a0 : Int) (a1 : Bool) (a2 : Int) (a3 : Int) : Option (Int) := (trunnionref02_F.f a0).bind fun t491 => ((trunnionref02_Two.f k t491).bind fun t492 => (if a1 = true then ((trunnionref02_Two.f k (wrap64 (a0 - 1))).bind fun t493 => (some (IntKind.u64.wrap ((IntKind.u64.wrap ((IntKind.u64.wrap ((IntKind.u64.wrap (a2)) * t492)) + a3)) + t493)))) else (some (IntKind.u64.wrap ((IntKind.u64.wrap ((IntKind.u64.wrap (a2)) * t492)) + a3)))))
theorem trunnionref02_Make.mono : ∀ a0 a1 a2 a3 k, LeO (trunnionref02_Make.f k a0 a1 a2 a3) (trunnionref02_Make.f (k + 1) a0 a1 a2 a3) := by
  intro a0 a1 a2 a3 k
  unfold trunnionref02_Make.f
  repeat' first
      | (with_reducible exact trunnionref02_Two.mono _ _)
      | (with_reducible exact LeO.refl _)
      | (with_reducible exact LeO.none _)
      | (with_reducible refine LeO.ite ?_ ?_)
      | (with_reducible refine LeO.bind ?_ (fun _ => ?_))
      | exact trunnionref02_Two.mono _ _
      | exact LeO.none _
      | refine LeO.ite ?_ ?_
      | refine LeO.bind ?_ (fun _ => ?_)
set_option maxHeartbeats 8000000 in
set_option maxRecDepth 100000 in
theorem trunnionref02_Make.calls (k : Nat) (a0 : Int) (a1 : Bool) (a2 : Int) (a3 : Int) (r : Int) (w : World) (h : trunnionref02_Make.f k a0 a1 a2 a3 = some r) :
    Calls Try.prog 69 #[.int .i64 a0, .bool a1, .int .i64 a2, .int .u64 a3] w fun e w' => e = .returned (.int .u64 r) ∧ Drawn0 w w' := by
  have H : ((trunnionref02_F.f a0).bind fun t491 => ((trunnionref02_Two.f k t491).bind fun t492 => (if a1 = true then ((trunnionref02_Two.f k (wrap64 (a0 - 1))).bind fun t493 => (some (IntKind.u64.wrap ((IntKind.u64.wrap ((IntKind.u64.wrap ((IntKind.u64.wrap (a2)) * t492)) + a3)) + t493)))) else (some (IntKind.u64.wrap ((IntKind.u64.wrap ((IntKind.u64.wrap (a2)) * t492)) + a3)))))) = some r := h
  clear h
  replace H := Option.bind_eq_some_iff.mp H
  obtain ⟨t491, A50, H⟩ := H
  replace H : ((trunnionref02_Two.f k t491).bind fun t492 => (if a1 = true then ((trunnionref02_Two.f k (wrap64 (a0 - 1))).bind fun t493 => (some (IntKind.u64.wrap ((IntKind.u64.wrap ((IntKind.u64.wrap ((IntKind.u64.wrap (a2)) * t492)) + a3)) + t493)))) else (some (IntKind.u64.wrap ((IntKind.u64.wrap ((IntKind.u64.wrap (a2)) * t492)) + a3))))) = some r := H
  have A5 := Aside0.mk A50
  clear A50
  replace H := Option.bind_eq_some_iff.mp H
  obtain ⟨t492, A60, H⟩ := H
  replace H : (if a1 = true then ((trunnionref02_Two.f k (wrap64 (a0 - 1))).bind fun t493 => (some (IntKind.u64.wrap ((IntKind.u64.wrap ((IntKind.u64.wrap ((IntKind.u64.wrap (a2)) * t492)) + a3)) + t493)))) else (some (IntKind.u64.wrap ((IntKind.u64.wrap ((IntKind.u64.wrap (a2)) * t492)) + a3)))) = some r := H
  have A6 := Aside0.mk A60
  clear A60
  by_cases c7 : a1 = true
  · subst c7
    have H1 : ((trunnionref02_Two.f k (wrap64 (a0 - 1))).bind fun t493 => (some (IntKind.u64.wrap ((IntKind.u64.wrap ((IntKind.u64.wrap ((IntKind.u64.wrap (a2)) * t492)) + a3)) + t493)))) = some r := by rw [if_pos rfl] at H; exact H
    clear H
    have H := H1
    clear H1
    replace H := Option.bind_eq_some_iff.mp H
    obtain ⟨t493, A80, H⟩ := H
    replace H : (some (IntKind.u64.wrap ((IntKind.u64.wrap ((IntKind.u64.wrap ((IntKind.u64.wrap (a2)) * t492)) + a3)) + t493))) = some r := H
    have A8 := Aside0.mk A80
    clear A80
    obtain rfl := Option.some.inj H
    go_enter Try.func69, Try.ntmps69
    go_wp2_with (first | ((with_reducible refine gate_callee (f := 66) rfl ?_); refine goesL_ (some 13) rfl rfl Try.func66 (by kernel_rfl) rfl #[.int .i64 a0] rfl (by (try simp only [List.map_toArray, List.map_cons, List.map_nil]); first | done | rfl | (simp only [List.length_drop, List.length_take]; rfl)) ?_; (with_reducible refine (trunnionref02_F.calls a0 t491 _ A5.out).mono ?_); rintro e w' ⟨rfl, ⟨nd, rfl⟩⟩; refine ⟨_, rfl, ?_⟩) | ((with_reducible refine gate_callee (f := 70) rfl ?_); refine goesL_ (some 14) rfl rfl Try.func70 (by kernel_rfl) rfl #[.int .i64 t491] rfl (by (try simp only [List.map_toArray, List.map_cons, List.map_nil]); first | done | rfl | (simp only [List.length_drop, List.length_take]; rfl)) ?_; (with_reducible refine (trunnionref02_Two.calls k t491 t492 _ A6.out).mono ?_); rintro e w' ⟨rfl, ⟨nd, rfl⟩⟩; refine ⟨_, rfl, ?_⟩) | ((with_reducible refine gate_callee (f := 70) rfl ?_); refine goesL_ (some 22) rfl rfl Try.func70 (by kernel_rfl) rfl #[.int .i64 (wrap64 (a0 - 1))] rfl (by (try simp only [List.map_toArray, List.map_cons, List.map_nil]); first | done | rfl | (simp only [List.length_drop, List.length_take]; rfl)) ?_; (with_reducible refine (trunnionref02_Two.calls k (wrap64 (a0 - 1)) t493 _ A8.out).mono ?_); rintro e w' ⟨rfl, ⟨nd, rfl⟩⟩; refine ⟨_, rfl, ?_⟩))
    go_ret
    exact ⟨by first | rfl | (simp; done) | (simp [*]; done), by repeat (first | exact Drawn0.refl _ | apply Drawn0.step)⟩
  · replace c7 := Bool.eq_false_iff.mpr c7
    subst c7
    have H1 : (some (IntKind.u64.wrap ((IntKind.u64.wrap ((IntKind.u64.wrap (a2)) * t492)) + a3))) = some r := by rw [if_neg (show ¬ (false = true) by decide)] at H; exact H
    clear H
    have H := H1
    clear H1
    obtain rfl := Option.some.inj H
    go_enter Try.func69, Try.ntmps69
    go_wp2_with (first | ((with_reducible refine gate_callee (f := 66) rfl ?_); refine goesL_ (some 13) rfl rfl Try.func66 (by kernel_rfl) rfl #[.int .i64 a0] rfl (by (try simp only [List.map_toArray, List.map_cons, List.map_nil]); first | done | rfl | (simp only [List.length_drop, List.length_take]; rfl)) ?_; (with_reducible refine (trunnionref02_F.calls a0 t491 _ A5.out).mono ?_); rintro e w' ⟨rfl, ⟨nd, rfl⟩⟩; refine ⟨_, rfl, ?_⟩) | ((with_reducible refine gate_callee (f := 70) rfl ?_); refine goesL_ (some 14) rfl rfl Try.func70 (by kernel_rfl) rfl #[.int .i64 t491] rfl (by (try simp only [List.map_toArray, List.map_cons, List.map_nil]); first | done | rfl | (simp only [List.length_drop, List.length_take]; rfl)) ?_; (with_reducible refine (trunnionref02_Two.calls k t491 t492 _ A6.out).mono ?_); rintro e w' ⟨rfl, ⟨nd, rfl⟩⟩; refine ⟨_, rfl, ?_⟩))
    go_ret
    exact ⟨by first | rfl | (simp; done) | (simp [*]; done), by repeat (first | exact Drawn0.refl _ | apply Drawn0.step)⟩

end Go.Proofs.Ytmjfenbbgfohlaa.PA

namespace Go.Proofs.Ytmjfenbbgfohlaa.PA
open Go.RowKit Go.Proofs.YtmjfenbbgfohlaaW.PrintWords Go.Proofs.YtmjfenbbgfohlaaW.PrintLast Go.Proofs.YtmjfenbbgfohlaaW.PrintMore
attribute [local go_sem] max2_int min2_int max_two min_two max_three min_three max_four min_four   -- for this text's walks alone
set_option linter.unusedVariables false
set_option linter.unusedSimpArgs false

/-! ### trunnionref02_Top: function 64 -/
def trunnionref02_Top.f (k : Nat) (a0 : Int) : Option (Int) := (trunnionref02_E.f a0).bind fun t339 => ((trunnionref02_Two.f k t339).bind fun t340 => (some (wrap64 ((wrap64 (t340)) - 1))))
theorem trunnionref02_Top.mono : ∀ a0 k, LeO (trunnionref02_Top.f k a0) (trunnionref02_Top.f (k + 1) a0) := by
  intro a0 k
  unfold trunnionref02_Top.f
  repeat' first
      | (with_reducible exact trunnionref02_Two.mono _ _)
      | (with_reducible exact LeO.refl _)
      | (with_reducible exact LeO.none _)
      | (with_reducible refine LeO.ite ?_ ?_)
      | (with_reducible refine LeO.bind ?_ (fun _ => ?_))
      | exact trunnionref02_Two.mono _ _
      | exact LeO.none _
      | refine LeO.ite ?_ ?_
      | refine LeO.bind ?_ (fun _ => ?_)
set_option maxHeartbeats 8000000 in
set_option maxRecDepth 100000 in
theorem trunnionref02_Top.calls (k : Nat) (a0 : Int) (r : Int) (w : World) (h : trunnionref02_Top.f k a0 = some r) :
    Calls Try.prog 64 #[.int .i64 a0] w fun e w' => e = .returned (.int .i64 r) ∧ Drawn0 w w' := by
  have H : ((trunnionref02_E.f a0).bind fun t339 => ((trunnionref02_Two.f k t339).bind fun t340 => (some (wrap64 ((wrap64 (t340)) - 1))))) = some r := h
  clear h
  replace H := Option.bind_eq_some_iff.mp H
  obtain ⟨t339, A20, H⟩ := H
  replace H : ((trunnionref02_Two.f k t339).bind fun t340 => (some (wrap64 ((wrap64 (t340)) - 1)))) = some r := H
  have A2 := Aside0.mk A20
  clear A20
  replace H := Option.bind_eq_some_iff.mp H
  obtain ⟨t340, A30, H⟩ := H
  replace H : (some (wrap64 ((wrap64 (t340)) - 1))) = some r := H
  have A3 := Aside0.mk A30
  clear A30
  obtain rfl := Option.some.inj H
  go_enter Try.func64, Try.ntmps64
  go_wp2_with (first | ((with_reducible refine gate_callee (f := 65) rfl ?_); refine goesL_ (some 4) rfl rfl Try.func65 (by kernel_rfl) rfl #[.int .i64 a0] rfl (by (try simp only [List.map_toArray, List.map_cons, List.map_nil]); first | done | rfl | (simp only [List.length_drop, List.length_take]; rfl)) ?_; (with_reducible refine (trunnionref02_E.calls a0 t339 _ A2.out).mono ?_); rintro e w' ⟨rfl, ⟨nd, rfl⟩⟩; refine ⟨_, rfl, ?_⟩) | ((with_reducible refine gate_callee (f := 70) rfl ?_); refine goesL_ (some 5) rfl rfl Try.func70 (by kernel_rfl) rfl #[.int .i64 t339] rfl (by (try simp only [List.map_toArray, List.map_cons, List.map_nil]); first | done | rfl | (simp only [List.length_drop, List.length_take]; rfl)) ?_; (with_reducible refine (trunnionref02_Two.calls k t339 t340 _ A3.out).mono ?_); rintro e w' ⟨rfl, ⟨nd, rfl⟩⟩; refine ⟨_, rfl, ?_⟩))
  go_ret
  exact ⟨by first | rfl | (simp; done) | (simp [*]; done), by repeat (first | exact Drawn0.refl _ | apply Drawn0.step)⟩

end Go.Proofs.Ytmjfenbbgfohlaa.PA

namespace Go.Proofs.Ytmjfenbbgfohlaa.PA
open Go.RowKit Go.Proofs.YtmjfenbbgfohlaaW.PrintWords Go.Proofs.YtmjfenbbgfohlaaW.PrintLast Go.Proofs.YtmjfenbbgfohlaaW.PrintMore
attribute [local go_sem] max2_int min2_int max_two min_two max_three min_three max_four min_four   -- for this text's walks alone
set_option linter.unusedVariables false
set_option linter.unusedSimpArgs false

/-! ### trunnionref02_Inf: function 68 -/
def trunnionref02_Inf.f (k : Nat) (a0 : Int) (a1 : Bool) : Option (Int) := (trunnionref02_Top.f k a0).bind fun t498 => ((trunnionref02_Make.f k a0 a1 t498 0).bind fun t499 => (some t499))
theorem trunnionref02_Inf.mono : ∀ a0 a1 k, LeO (trunnionref02_Inf.f k a0 a1) (trunnionref02_Inf.f (k + 1) a0 a1) := by
  intro a0 a1 k
  unfold trunnionref02_Inf.f
  repeat' first
      | (with_reducible exact trunnionref02_Make.mono _ _ _ _ _)
      | (with_reducible exact trunnionref02_Top.mono _ _)
      | (with_reducible exact LeO.refl _)
      | (with_reducible exact LeO.none _)
      | (with_reducible refine LeO.ite ?_ ?_)
      | (with_reducible refine LeO.bind ?_ (fun _ => ?_))
      | exact trunnionref02_Make.mono _ _ _ _ _
      | exact trunnionref02_Top.mono _ _
      | exact LeO.none _
      | refine LeO.ite ?_ ?_
      | refine LeO.bind ?_ (fun _ => ?_)
set_option maxHeartbeats 8000000 in
set_option maxRecDepth 100000 in
theorem trunnionref02_Inf.calls (k : Nat) (a0 : Int) (a1 : Bool) (r : Int) (w : World) (h : trunnionref02_Inf.f k a0 a1 = some r) :
    Calls Try.prog 68 #[.int .i64 a0, .bool a1] w fun e w' => e = .returned (.int .u64 r) ∧ Drawn0 w w' := by
  have H : ((trunnionref02_Top.f k a0).bind fun t498 => ((trunnionref02_Make.f k a0 a1 t498 0).bind fun t499 => (some t499))) = some r := h
  clear h
  replace H := Option.bind_eq_some_iff.mp H
  obtain ⟨t498, A30, H⟩ := H
  replace H : ((trunnionref02_Make.f k a0 a1 t498 0).bind fun t499 => (some t499)) = some r := H
  have A3 := Aside0.mk A30
  clear A30
  replace H := Option.bind_eq_some_iff.mp H
  obtain ⟨t499, A40, H⟩ := H
  replace H : (some t499) = some r := H
  have A4 := Aside0.mk A40
  clear A40
  obtain rfl := Option.some.inj H
  go_enter Try.func68, Try.ntmps68
  go_wp2_with (first | ((with_reducible refine gate_callee (f := 64) rfl ?_); refine goesL_ (some 8) rfl rfl Try.func64 (by kernel_rfl) rfl #[.int .i64 a0] rfl (by (try simp only [List.map_toArray, List.map_cons, List.map_nil]); first | done | rfl | (simp only [List.length_drop, List.length_take]; rfl)) ?_; (with_reducible refine (trunnionref02_Top.calls k a0 t498 _ A3.out).mono ?_); rintro e w' ⟨rfl, ⟨nd, rfl⟩⟩; refine ⟨_, rfl, ?_⟩) | ((with_reducible refine gate_callee (f := 69) rfl ?_); refine goesL_ (some 9) rfl rfl Try.func69 (by kernel_rfl) rfl #[.int .i64 a0, .bool a1, .int .i64 t498, .int .u64 0] rfl (by (try simp only [List.map_toArray, List.map_cons, List.map_nil]); first | done | rfl | (simp only [List.length_drop, List.length_take]; rfl)) ?_; (with_reducible refine (trunnionref02_Make.calls k a0 a1 t498 0 t499 _ A4.out).mono ?_); rintro e w' ⟨rfl, ⟨nd, rfl⟩⟩; refine ⟨_, rfl, ?_⟩))
  go_ret
  exact ⟨by first | rfl | (simp; done) | (simp [*]; done), by repeat (first | exact Drawn0.refl _ | apply Drawn0.step)⟩

end Go.Proofs.Ytmjfenbbgfohlaa.PA

namespace Go.Proofs.Ytmjfenbbgfohlaa.PA
open Go.RowKit Go.Proofs.YtmjfenbbgfohlaaW.PrintWords Go.Proofs.YtmjfenbbgfohlaaW.PrintLast Go.Proofs.YtmjfenbbgfohlaaW.PrintMore
attribute [local go_sem] max2_int min2_int max_two min_two max_three min_three max_four min_four   -- for this text's walks alone
set_option linter.unusedVariables false
set_option linter.unusedSimpArgs false

/-! ### trunnionref02_Known: function 29 -/
def trunnionref02_Known.f (a0 : Int) : Option (Bool) := if a0 = 32 then (some true) else (some (a0 == 64))
set_option maxHeartbeats 8000000 in
set_option maxRecDepth 100000 in
theorem trunnionref02_Known.calls (a0 : Int) (r : Bool) (w : World) (h : trunnionref02_Known.f a0 = some r) :
    Calls Try.prog 29 #[.int .i64 a0] w fun e w' => e = .returned (.bool r) ∧ Drawn0 w w' := by
  have H : (if a0 = 32 then (some true) else (some (a0 == 64))) = some r := h
  clear h
  by_cases c2 : a0 = 32
  · rw [if_pos c2] at H
    have c2b0 : (a0 == 32) = true := beq_iff_eq.mpr c2
    have c2b1 : (a0 != 32) = false := bne_eq_false_iff_eq.mpr c2
    clear c2
    obtain rfl := Option.some.inj H
    go_enter Try.func29, Try.ntmps29
    go_wp2
    go_ret
    exact ⟨by first | rfl | (simp; done) | (simp [*]; done), by repeat (first | exact Drawn0.refl _ | apply Drawn0.step)⟩
  · rw [if_neg c2] at H
    have c2b0 : (a0 == 32) = false := beq_eq_false_iff_ne.mpr c2
    have c2b1 : (a0 != 32) = true := bne_iff_ne.mpr c2
    obtain rfl := Option.some.inj H
    go_enter Try.func29, Try.ntmps29
    go_wp2
    go_ret
    exact ⟨by first | rfl | (simp; done) | (simp [*]; done), by repeat (first | exact Drawn0.refl _ | apply Drawn0.step)⟩

end Go.Proofs.Ytmjfenbbgfohlaa.PA

namespace Go.Proofs.Ytmjfenbbgfohlaa.PA
open Go.RowKit Go.Proofs.YtmjfenbbgfohlaaW.PrintWords Go.Proofs.YtmjfenbbgfohlaaW.PrintLast Go.Proofs.YtmjfenbbgfohlaaW.PrintMore
attribute [local go_sem] max2_int min2_int max_two min_two max_three min_three max_four min_four   -- for this text's walks alone
set_option linter.unusedVariables false
set_option linter.unusedSimpArgs false

/-! ### trunnionref02_Nan: function 67 -/
def trunnionref02_Nan.f (k : Nat) (a0 : Int) : Option (Int) := (trunnionref02_Top.f k a0).bind fun t494 => ((trunnionref02_F.f a0).bind fun t495 => ((trunnionref02_Two.f k (wrap64 (t495 - 1))).bind fun t496 => ((trunnionref02_Make.f k a0 false t494 t496).bind fun t497 => (some t497))))
theorem trunnionref02_Nan.mono : ∀ a0 k, LeO (trunnionref02_Nan.f k a0) (trunnionref02_Nan.f (k + 1) a0) := by
  intro a0 k
  unfold trunnionref02_Nan.f
  repeat' first
      | (with_reducible exact trunnionref02_Make.mono _ _ _ _ _)
      | (with_reducible exact trunnionref02_Top.mono _ _)
      | (with_reducible exact trunnionref02_Two.mono _ _)
      | (with_reducible exact LeO.refl _)
      | (with_reducible exact LeO.none _)
      | (with_reducible refine LeO.ite ?_ ?_)
      | (with_reducible refine LeO.bind ?_ (fun _ => ?_))
      | exact trunnionref02_Make.mono _ _ _ _ _
      | exact trunnionref02_Top.mono _ _
      | exact trunnionref02_Two.mono _ _
      | exact LeO.none _
      | refine LeO.ite ?_ ?_
      | refine LeO.bind ?_ (fun _ => ?_)
set_option maxHeartbeats 8000000 in
set_option maxRecDepth 100000 in
theorem trunnionref02_Nan.calls (k : Nat) (a0 : Int) (r : Int) (w : World) (h : trunnionref02_Nan.f k a0 = some r) :
    Calls Try.prog 67 #[.int .i64 a0] w fun e w' => e = .returned (.int .u64 r) ∧ Drawn0 w w' := by
  have H : ((trunnionref02_Top.f k a0).bind fun t494 => ((trunnionref02_F.f a0).bind fun t495 => ((trunnionref02_Two.f k (wrap64 (t495 - 1))).bind fun t496 => ((trunnionref02_Make.f k a0 false t494 t496).bind fun t497 => (some t497))))) = some r := h
  clear h
  replace H := Option.bind_eq_some_iff.mp H
  obtain ⟨t494, A20, H⟩ := H
  replace H : ((trunnionref02_F.f a0).bind fun t495 => ((trunnionref02_Two.f k (wrap64 (t495 - 1))).bind fun t496 => ((trunnionref02_Make.f k a0 false t494 t496).bind fun t497 => (some t497)))) = some r := H
  have A2 := Aside0.mk A20
  clear A20
  replace H := Option.bind_eq_some_iff.mp H
  obtain ⟨t495, A30, H⟩ := H
  replace H : ((trunnionref02_Two.f k (wrap64 (t495 - 1))).bind fun t496 => ((trunnionref02_Make.f k a0 false t494 t496).bind fun t497 => (some t497))) = some r := H
  have A3 := Aside0.mk A30
  clear A30
  replace H := Option.bind_eq_some_iff.mp H
  obtain ⟨t496, A40, H⟩ := H
  replace H : ((trunnionref02_Make.f k a0 false t494 t496).bind fun t497 => (some t497)) = some r := H
  have A4 := Aside0.mk A40
  clear A40
  replace H := Option.bind_eq_some_iff.mp H
  obtain ⟨t497, A50, H⟩ := H
  replace H : (some t497) = some r := H
  have A5 := Aside0.mk A50
  clear A50
  obtain rfl := Option.some.inj H
  go_enter Try.func67, Try.ntmps67
  go_wp2_with (first | ((with_reducible refine gate_callee (f := 64) rfl ?_); refine goesL_ (some 5) rfl rfl Try.func64 (by kernel_rfl) rfl #[.int .i64 a0] rfl (by (try simp only [List.map_toArray, List.map_cons, List.map_nil]); first | done | rfl | (simp only [List.length_drop, List.length_take]; rfl)) ?_; (with_reducible refine (trunnionref02_Top.calls k a0 t494 _ A2.out).mono ?_); rintro e w' ⟨rfl, ⟨nd, rfl⟩⟩; refine ⟨_, rfl, ?_⟩) | ((with_reducible refine gate_callee (f := 66) rfl ?_); refine goesL_ (some 7) rfl rfl Try.func66 (by kernel_rfl) rfl #[.int .i64 a0] rfl (by (try simp only [List.map_toArray, List.map_cons, List.map_nil]); first | done | rfl | (simp only [List.length_drop, List.length_take]; rfl)) ?_; (with_reducible refine (trunnionref02_F.calls a0 t495 _ A3.out).mono ?_); rintro e w' ⟨rfl, ⟨nd, rfl⟩⟩; refine ⟨_, rfl, ?_⟩) | ((with_reducible refine gate_callee (f := 70) rfl ?_); refine goesL_ (some 9) rfl rfl Try.func70 (by kernel_rfl) rfl #[.int .i64 (wrap64 (t495 - 1))] rfl (by (try simp only [List.map_toArray, List.map_cons, List.map_nil]); first | done | rfl | (simp only [List.length_drop, List.length_take]; rfl)) ?_; (with_reducible refine (trunnionref02_Two.calls k (wrap64 (t495 - 1)) t496 _ A4.out).mono ?_); rintro e w' ⟨rfl, ⟨nd, rfl⟩⟩; refine ⟨_, rfl, ?_⟩) | ((with_reducible refine gate_callee (f := 69) rfl ?_); refine goesL_ (some 10) rfl rfl Try.func69 (by kernel_rfl) rfl #[.int .i64 a0, .bool false, .int .i64 t494, .int .u64 t496] rfl (by (try simp only [List.map_toArray, List.map_cons, List.map_nil]); first | done | rfl | (simp only [List.length_drop, List.length_take]; rfl)) ?_; (with_reducible refine (trunnionref02_Make.calls k a0 false t494 t496 t497 _ A5.out).mono ?_); rintro e w' ⟨rfl, ⟨nd, rfl⟩⟩; refine ⟨_, rfl, ?_⟩))
  go_ret
  exact ⟨by first | rfl | (simp; done) | (simp [*]; done), by repeat (first | exact Drawn0.refl _ | apply Drawn0.step)⟩

end Go.Proofs.Ytmjfenbbgfohlaa.PA

namespace Go.Proofs.Ytmjfenbbgfohlaa.PA
open Go.RowKit Go.Proofs.YtmjfenbbgfohlaaW.PrintWords Go.Proofs.YtmjfenbbgfohlaaW.PrintLast Go.Proofs.YtmjfenbbgfohlaaW.PrintMore
attribute [local go_sem] max2_int min2_int max_two min_two max_three min_three max_four min_four   -- for this text's walks alone
set_option linter.unusedVariables false
set_option linter.unusedSimpArgs false

/-! ### trunnionlaw02_ShapeEnds: function 11 -/
def trunnionlaw02_ShapeEnds.f (k : Nat) (a0 : Int) (a1 : Bool) : Option (Bool) := (trunnionlaw02_awake.f k).bind fun t500 => (if t500 = true then ((shape_Fields.f a0).bind fun bt501 => ((trunnionref02_Known.f a0).bind fun t503 => (if t503 = true then ((trunnionref02_Top.f k a0).bind fun t508 => ((trunnionref02_E.f a0).bind fun t509 => (if bt501.1 = t509 then ((trunnionref02_F.f a0).bind fun t510 => (if bt501.2 = t510 then ((shape_Nan.f a0).bind fun t511 => ((trunnionref02_Nan.f k a0).bind fun t512 => (if t511 = t512 then ((shape_Inf.f a0 a1).bind fun t513 => ((trunnionref02_Inf.f k a0 a1).bind fun t514 => (if t513 = t514 then ((shape_Zero.f a0 a1).bind fun t515 => ((trunnionref02_Make.f k a0 a1 0 0).bind fun t516 => (if t515 = t516 then ((shape_Most.f a0 a1).bind fun t517 => ((trunnionref02_Two.f k bt501.2).bind fun t518 => ((trunnionref02_Make.f k a0 a1 (wrap64 (t508 - 1)) (IntKind.u64.wrap (t518 - 1))).bind fun t519 => (some (t517 == t519))))) else (some false)))) else (some false)))) else (some false)))) else (some false))) else (some false)))) else (if bt501.1 = 0 then (if bt501.2 = 0 then ((shape_Nan.f a0).bind fun t504 => (if t504 = 0 then ((shape_Inf.f a0 a1).bind fun t505 => (if t505 = 0 then ((shape_Zero.f a0 a1).bind fun t506 => (if t506 = 0 then ((shape_Most.f a0 a1).bind fun t507 => (some (t507 == 0))) else (some false))) else (some false))) else (some false))) else (some false)) else (some false))))) else (some false))
theorem trunnionlaw02_ShapeEnds.mono : ∀ a0 a1 k, LeO (trunnionlaw02_ShapeEnds.f k a0 a1) (trunnionlaw02_ShapeEnds.f (k + 1) a0 a1) := by
  intro a0 a1 k
  unfold trunnionlaw02_ShapeEnds.f
  repeat' first
      | (with_reducible exact trunnionlaw02_awake.mono _)
      | (with_reducible exact trunnionref02_Inf.mono _ _ _)
      | (with_reducible exact trunnionref02_Make.mono _ _ _ _ _)
      | (with_reducible exact trunnionref02_Nan.mono _ _)
      | (with_reducible exact trunnionref02_Top.mono _ _)
      | (with_reducible exact trunnionref02_Two.mono _ _)
      | (with_reducible exact LeO.refl _)
      | (with_reducible exact LeO.none _)
      | (with_reducible refine LeO.ite ?_ ?_)
      | (with_reducible refine LeO.bind ?_ (fun _ => ?_))
      | exact trunnionlaw02_awake.mono _
      | exact trunnionref02_Inf.mono _ _ _
      | exact trunnionref02_Make.mono _ _ _ _ _
      | exact trunnionref02_Nan.mono _ _
      | exact trunnionref02_Top.mono _ _
      | exact trunnionref02_Two.mono _ _
      | exact LeO.none _
      | refine LeO.ite ?_ ?_
      | refine LeO.bind ?_ (fun _ => ?_)
set_option maxHeartbeats 8000000 in
set_option maxRecDepth 100000 in
theorem trunnionlaw02_ShapeEnds.calls (k : Nat) (a0 : Int) (a1 : Bool) (r : Bool) (w : World) (h : trunnionlaw02_ShapeEnds.f k a0 a1 = some r) :
    Calls Try.prog 11 #[.int .i64 a0, .bool a1] w fun e w' => e = .returned (.bool r) ∧ Below w.heap.size w w' := by
  have HB := Aside0.mk (Below.refl w.heap.size w)
  have H : ((trunnionlaw02_awake.f k).bind fun t500 => (if t500 = true then ((shape_Fields.f a0).bind fun bt501 => ((trunnionref02_Known.f a0).bind fun t503 => (if t503 = true then ((trunnionref02_Top.f k a0).bind fun t508 => ((trunnionref02_E.f a0).bind fun t509 => (if bt501.1 = t509 then ((trunnionref02_F.f a0).bind fun t510 => (if bt501.2 = t510 then ((shape_Nan.f a0).bind fun t511 => ((trunnionref02_Nan.f k a0).bind fun t512 => (if t511 = t512 then ((shape_Inf.f a0 a1).bind fun t513 => ((trunnionref02_Inf.f k a0 a1).bind fun t514 => (if t513 = t514 then ((shape_Zero.f a0 a1).bind fun t515 => ((trunnionref02_Make.f k a0 a1 0 0).bind fun t516 => (if t515 = t516 then ((shape_Most.f a0 a1).bind fun t517 => ((trunnionref02_Two.f k bt501.2).bind fun t518 => ((trunnionref02_Make.f k a0 a1 (wrap64 (t508 - 1)) (IntKind.u64.wrap (t518 - 1))).bind fun t519 => (some (t517 == t519))))) else (some false)))) else (some false)))) else (some false)))) else (some false))) else (some false)))) else (if bt501.1 = 0 then (if bt501.2 = 0 then ((shape_Nan.f a0).bind fun t504 => (if t504 = 0 then ((shape_Inf.f a0 a1).bind fun t505 => (if t505 = 0 then ((shape_Zero.f a0 a1).bind fun t506 => (if t506 = 0 then ((shape_Most.f a0 a1).bind fun t507 => (some (t507 == 0))) else (some false))) else (some false))) else (some false))) else (some false)) else (some false))))) else (some false))) = some r := h
  clear h
  replace H := Option.bind_eq_some_iff.mp H
  obtain ⟨t500, A30, H⟩ := H
  replace H : (if t500 = true then ((shape_Fields.f a0).bind fun bt501 => ((trunnionref02_Known.f a0).bind fun t503 => (if t503 = true then ((trunnionref02_Top.f k a0).bind fun t508 => ((trunnionref02_E.f a0).bind fun t509 => (if bt501.1 = t509 then ((trunnionref02_F.f a0).bind fun t510 => (if bt501.2 = t510 then ((shape_Nan.f a0).bind fun t511 => ((trunnionref02_Nan.f k a0).bind fun t512 => (if t511 = t512 then ((shape_Inf.f a0 a1).bind fun t513 => ((trunnionref02_Inf.f k a0 a1).bind fun t514 => (if t513 = t514 then ((shape_Zero.f a0 a1).bind fun t515 => ((trunnionref02_Make.f k a0 a1 0 0).bind fun t516 => (if t515 = t516 then ((shape_Most.f a0 a1).bind fun t517 => ((trunnionref02_Two.f k bt501.2).bind fun t518 => ((trunnionref02_Make.f k a0 a1 (wrap64 (t508 - 1)) (IntKind.u64.wrap (t518 - 1))).bind fun t519 => (some (t517 == t519))))) else (some false)))) else (some false)))) else (some false)))) else (some false))) else (some false)))) else (if bt501.1 = 0 then (if bt501.2 = 0 then ((shape_Nan.f a0).bind fun t504 => (if t504 = 0 then ((shape_Inf.f a0 a1).bind fun t505 => (if t505 = 0 then ((shape_Zero.f a0 a1).bind fun t506 => (if t506 = 0 then ((shape_Most.f a0 a1).bind fun t507 => (some (t507 == 0))) else (some false))) else (some false))) else (some false))) else (some false)) else (some false))))) else (some false)) = some r := H
  have A3 := Aside0.mk A30
  clear A30
  by_cases c4 : t500 = true
  · subst c4
    have H1 : ((shape_Fields.f a0).bind fun bt501 => ((trunnionref02_Known.f a0).bind fun t503 => (if t503 = true then ((trunnionref02_Top.f k a0).bind fun t508 => ((trunnionref02_E.f a0).bind fun t509 => (if bt501.1 = t509 then ((trunnionref02_F.f a0).bind fun t510 => (if bt501.2 = t510 then ((shape_Nan.f a0).bind fun t511 => ((trunnionref02_Nan.f k a0).bind fun t512 => (if t511 = t512 then ((shape_Inf.f a0 a1).bind fun t513 => ((trunnionref02_Inf.f k a0 a1).bind fun t514 => (if t513 = t514 then ((shape_Zero.f a0 a1).bind fun t515 => ((trunnionref02_Make.f k a0 a1 0 0).bind fun t516 => (if t515 = t516 then ((shape_Most.f a0 a1).bind fun t517 => ((trunnionref02_Two.f k bt501.2).bind fun t518 => ((trunnionref02_Make.f k a0 a1 (wrap64 (t508 - 1)) (IntKind.u64.wrap (t518 - 1))).bind fun t519 => (some (t517 == t519))))) else (some false)))) else (some false)))) else (some false)))) else (some false))) else (some false)))) else (if bt501.1 = 0 then (if bt501.2 = 0 then ((shape_Nan.f a0).bind fun t504 => (if t504 = 0 then ((shape_Inf.f a0 a1).bind fun t505 => (if t505 = 0 then ((shape_Zero.f a0 a1).bind fun t506 => (if t506 = 0 then ((shape_Most.f a0 a1).bind fun t507 => (some (t507 == 0))) else (some false))) else (some false))) else (some false))) else (some false)) else (some false))))) = some r := by rw [if_pos rfl] at H; exact H
    clear H
    have H := H1
    clear H1
    replace H := Option.bind_eq_some_iff.mp H
    obtain ⟨⟨t501, t502⟩, A50, H⟩ := H
    replace H : ((trunnionref02_Known.f a0).bind fun t503 => (if t503 = true then ((trunnionref02_Top.f k a0).bind fun t508 => ((trunnionref02_E.f a0).bind fun t509 => (if t501 = t509 then ((trunnionref02_F.f a0).bind fun t510 => (if t502 = t510 then ((shape_Nan.f a0).bind fun t511 => ((trunnionref02_Nan.f k a0).bind fun t512 => (if t511 = t512 then ((shape_Inf.f a0 a1).bind fun t513 => ((trunnionref02_Inf.f k a0 a1).bind fun t514 => (if t513 = t514 then ((shape_Zero.f a0 a1).bind fun t515 => ((trunnionref02_Make.f k a0 a1 0 0).bind fun t516 => (if t515 = t516 then ((shape_Most.f a0 a1).bind fun t517 => ((trunnionref02_Two.f k t502).bind fun t518 => ((trunnionref02_Make.f k a0 a1 (wrap64 (t508 - 1)) (IntKind.u64.wrap (t518 - 1))).bind fun t519 => (some (t517 == t519))))) else (some false)))) else (some false)))) else (some false)))) else (some false))) else (some false)))) else (if t501 = 0 then (if t502 = 0 then ((shape_Nan.f a0).bind fun t504 => (if t504 = 0 then ((shape_Inf.f a0 a1).bind fun t505 => (if t505 = 0 then ((shape_Zero.f a0 a1).bind fun t506 => (if t506 = 0 then ((shape_Most.f a0 a1).bind fun t507 => (some (t507 == 0))) else (some false))) else (some false))) else (some false))) else (some false)) else (some false)))) = some r := H
    have A5 := Aside0.mk A50
    clear A50
    replace H := Option.bind_eq_some_iff.mp H
    obtain ⟨t503, A60, H⟩ := H
    replace H : (if t503 = true then ((trunnionref02_Top.f k a0).bind fun t508 => ((trunnionref02_E.f a0).bind fun t509 => (if t501 = t509 then ((trunnionref02_F.f a0).bind fun t510 => (if t502 = t510 then ((shape_Nan.f a0).bind fun t511 => ((trunnionref02_Nan.f k a0).bind fun t512 => (if t511 = t512 then ((shape_Inf.f a0 a1).bind fun t513 => ((trunnionref02_Inf.f k a0 a1).bind fun t514 => (if t513 = t514 then ((shape_Zero.f a0 a1).bind fun t515 => ((trunnionref02_Make.f k a0 a1 0 0).bind fun t516 => (if t515 = t516 then ((shape_Most.f a0 a1).bind fun t517 => ((trunnionref02_Two.f k t502).bind fun t518 => ((trunnionref02_Make.f k a0 a1 (wrap64 (t508 - 1)) (IntKind.u64.wrap (t518 - 1))).bind fun t519 => (some (t517 == t519))))) else (some false)))) else (some false)))) else (some false)))) else (some false))) else (some false)))) else (if t501 = 0 then (if t502 = 0 then ((shape_Nan.f a0).bind fun t504 => (if t504 = 0 then ((shape_Inf.f a0 a1).bind fun t505 => (if t505 = 0 then ((shape_Zero.f a0 a1).bind fun t506 => (if t506 = 0 then ((shape_Most.f a0 a1).bind fun t507 => (some (t507 == 0))) else (some false))) else (some false))) else (some false))) else (some false)) else (some false))) = some r := H
    have A6 := Aside0.mk A60
    clear A60
    by_cases c7 : t503 = true
    · subst c7
      have H1 : ((trunnionref02_Top.f k a0).bind fun t508 => ((trunnionref02_E.f a0).bind fun t509 => (if t501 = t509 then ((trunnionref02_F.f a0).bind fun t510 => (if t502 = t510 then ((shape_Nan.f a0).bind fun t511 => ((trunnionref02_Nan.f k a0).bind fun t512 => (if t511 = t512 then ((shape_Inf.f a0 a1).bind fun t513 => ((trunnionref02_Inf.f k a0 a1).bind fun t514 => (if t513 = t514 then ((shape_Zero.f a0 a1).bind fun t515 => ((trunnionref02_Make.f k a0 a1 0 0).bind fun t516 => (if t515 = t516 then ((shape_Most.f a0 a1).bind fun t517 => ((trunnionref02_Two.f k t502).bind fun t518 => ((trunnionref02_Make.f k a0 a1 (wrap64 (t508 - 1)) (IntKind.u64.wrap (t518 - 1))).bind fun t519 => (some (t517 == t519))))) else (some false)))) else (some false)))) else (some false)))) else (some false))) else (some false)))) = some r := by rw [if_pos rfl] at H; exact H
      clear H
      have H := H1
      clear H1
      replace H := Option.bind_eq_some_iff.mp H
      obtain ⟨t508, A80, H⟩ := H
      replace H : ((trunnionref02_E.f a0).bind fun t509 => (if t501 = t509 then ((trunnionref02_F.f a0).bind fun t510 => (if t502 = t510 then ((shape_Nan.f a0).bind fun t511 => ((trunnionref02_Nan.f k a0).bind fun t512 => (if t511 = t512 then ((shape_Inf.f a0 a1).bind fun t513 => ((trunnionref02_Inf.f k a0 a1).bind fun t514 => (if t513 = t514 then ((shape_Zero.f a0 a1).bind fun t515 => ((trunnionref02_Make.f k a0 a1 0 0).bind fun t516 => (if t515 = t516 then ((shape_Most.f a0 a1).bind fun t517 => ((trunnionref02_Two.f k t502).bind fun t518 => ((trunnionref02_Make.f k a0 a1 (wrap64 (t508 - 1)) (IntKind.u64.wrap (t518 - 1))).bind fun t519 => (some (t517 == t519))))) else (some false)))) else (some false)))) else (some false)))) else (some false))) else (some false))) = some r := H
      have A8 := Aside0.mk A80
      clear A80
      replace H := Option.bind_eq_some_iff.mp H
      obtain ⟨t509, A90, H⟩ := H
      replace H : (if t501 = t509 then ((trunnionref02_F.f a0).bind fun t510 => (if t502 = t510 then ((shape_Nan.f a0).bind fun t511 => ((trunnionref02_Nan.f k a0).bind fun t512 => (if t511 = t512 then ((shape_Inf.f a0 a1).bind fun t513 => ((trunnionref02_Inf.f k a0 a1).bind fun t514 => (if t513 = t514 then ((shape_Zero.f a0 a1).bind fun t515 => ((trunnionref02_Make.f k a0 a1 0 0).bind fun t516 => (if t515 = t516 then ((shape_Most.f a0 a1).bind fun t517 => ((trunnionref02_Two.f k t502).bind fun t518 => ((trunnionref02_Make.f k a0 a1 (wrap64 (t508 - 1)) (IntKind.u64.wrap (t518 - 1))).bind fun t519 => (some (t517 == t519))))) else (some false)))) else (some false)))) else (some false)))) else (some false))) else (some false)) = some r := H
      have A9 := Aside0.mk A90
      clear A90
      by_cases c10 : t501 = t509
      · rw [if_pos c10] at H
        have c10b0 : (t501 == t509) = true := beq_iff_eq.mpr c10
        have c10b1 : (t501 != t509) = false := bne_eq_false_iff_eq.mpr c10
        clear c10
        replace H := Option.bind_eq_some_iff.mp H
        obtain ⟨t510, A110, H⟩ := H
        replace H : (if t502 = t510 then ((shape_Nan.f a0).bind fun t511 => ((trunnionref02_Nan.f k a0).bind fun t512 => (if t511 = t512 then ((shape_Inf.f a0 a1).bind fun t513 => ((trunnionref02_Inf.f k a0 a1).bind fun t514 => (if t513 = t514 then ((shape_Zero.f a0 a1).bind fun t515 => ((trunnionref02_Make.f k a0 a1 0 0).bind fun t516 => (if t515 = t516 then ((shape_Most.f a0 a1).bind fun t517 => ((trunnionref02_Two.f k t502).bind fun t518 => ((trunnionref02_Make.f k a0 a1 (wrap64 (t508 - 1)) (IntKind.u64.wrap (t518 - 1))).bind fun t519 => (some (t517 == t519))))) else (some false)))) else (some false)))) else (some false)))) else (some false)) = some r := H
        have A11 := Aside0.mk A110
        clear A110
        by_cases c12 : t502 = t510
        · rw [if_pos c12] at H
          have c12b0 : (t502 == t510) = true := beq_iff_eq.mpr c12
          have c12b1 : (t502 != t510) = false := bne_eq_false_iff_eq.mpr c12
          clear c12
          replace H := Option.bind_eq_some_iff.mp H
          obtain ⟨t511, A130, H⟩ := H
          replace H : ((trunnionref02_Nan.f k a0).bind fun t512 => (if t511 = t512 then ((shape_Inf.f a0 a1).bind fun t513 => ((trunnionref02_Inf.f k a0 a1).bind fun t514 => (if t513 = t514 then ((shape_Zero.f a0 a1).bind fun t515 => ((trunnionref02_Make.f k a0 a1 0 0).bind fun t516 => (if t515 = t516 then ((shape_Most.f a0 a1).bind fun t517 => ((trunnionref02_Two.f k t502).bind fun t518 => ((trunnionref02_Make.f k a0 a1 (wrap64 (t508 - 1)) (IntKind.u64.wrap (t518 - 1))).bind fun t519 => (some (t517 == t519))))) else (some false)))) else (some false)))) else (some false))) = some r := H
          have A13 := Aside0.mk A130
          clear A130
          replace H := Option.bind_eq_some_iff.mp H
          obtain ⟨t512, A140, H⟩ := H
          replace H : (if t511 = t512 then ((shape_Inf.f a0 a1).bind fun t513 => ((trunnionref02_Inf.f k a0 a1).bind fun t514 => (if t513 = t514 then ((shape_Zero.f a0 a1).bind fun t515 => ((trunnionref02_Make.f k a0 a1 0 0).bind fun t516 => (if t515 = t516 then ((shape_Most.f a0 a1).bind fun t517 => ((trunnionref02_Two.f k t502).bind fun t518 => ((trunnionref02_Make.f k a0 a1 (wrap64 (t508 - 1)) (IntKind.u64.wrap (t518 - 1))).bind fun t519 => (some (t517 == t519))))) else (some false)))) else (some false)))) else (some false)) = some r := H
          have A14 := Aside0.mk A140
          clear A140
          by_cases c15 : t511 = t512
          · rw [if_pos c15] at H
            have c15b0 : (t511 == t512) = true := beq_iff_eq.mpr c15
            have c15b1 : (t511 != t512) = false := bne_eq_false_iff_eq.mpr c15
            clear c15
            replace H := Option.bind_eq_some_iff.mp H
            obtain ⟨t513, A160, H⟩ := H
            replace H : ((trunnionref02_Inf.f k a0 a1).bind fun t514 => (if t513 = t514 then ((shape_Zero.f a0 a1).bind fun t515 => ((trunnionref02_Make.f k a0 a1 0 0).bind fun t516 => (if t515 = t516 then ((shape_Most.f a0 a1).bind fun t517 => ((trunnionref02_Two.f k t502).bind fun t518 => ((trunnionref02_Make.f k a0 a1 (wrap64 (t508 - 1)) (IntKind.u64.wrap (t518 - 1))).bind fun t519 => (some (t517 == t519))))) else (some false)))) else (some false))) = some r := H
            have A16 := Aside0.mk A160
            clear A160
            replace H := Option.bind_eq_some_iff.mp H
            obtain ⟨t514, A170, H⟩ := H
            replace H : (if t513 = t514 then ((shape_Zero.f a0 a1).bind fun t515 => ((trunnionref02_Make.f k a0 a1 0 0).bind fun t516 => (if t515 = t516 then ((shape_Most.f a0 a1).bind fun t517 => ((trunnionref02_Two.f k t502).bind fun t518 => ((trunnionref02_Make.f k a0 a1 (wrap64 (t508 - 1)) (IntKind.u64.wrap (t518 - 1))).bind fun t519 => (some (t517 == t519))))) else (some false)))) else (some false)) = some r := H
            have A17 := Aside0.mk A170
            clear A170
            by_cases c18 : t513 = t514
            · rw [if_pos c18] at H
              have c18b0 : (t513 == t514) = true := beq_iff_eq.mpr c18
              have c18b1 : (t513 != t514) = false := bne_eq_false_iff_eq.mpr c18
              clear c18
              replace H := Option.bind_eq_some_iff.mp H
              obtain ⟨t515, A190, H⟩ := H
              replace H : ((trunnionref02_Make.f k a0 a1 0 0).bind fun t516 => (if t515 = t516 then ((shape_Most.f a0 a1).bind fun t517 => ((trunnionref02_Two.f k t502).bind fun t518 => ((trunnionref02_Make.f k a0 a1 (wrap64 (t508 - 1)) (IntKind.u64.wrap (t518 - 1))).bind fun t519 => (some (t517 == t519))))) else (some false))) = some r := H
              have A19 := Aside0.mk A190
              clear A190
              replace H := Option.bind_eq_some_iff.mp H
              obtain ⟨t516, A200, H⟩ := H
              replace H : (if t515 = t516 then ((shape_Most.f a0 a1).bind fun t517 => ((trunnionref02_Two.f k t502).bind fun t518 => ((trunnionref02_Make.f k a0 a1 (wrap64 (t508 - 1)) (IntKind.u64.wrap (t518 - 1))).bind fun t519 => (some (t517 == t519))))) else (some false)) = some r := H
              have A20 := Aside0.mk A200
              clear A200
              by_cases c21 : t515 = t516
              · rw [if_pos c21] at H
                have c21b0 : (t515 == t516) = true := beq_iff_eq.mpr c21
                have c21b1 : (t515 != t516) = false := bne_eq_false_iff_eq.mpr c21
                clear c21
                replace H := Option.bind_eq_some_iff.mp H
                obtain ⟨t517, A220, H⟩ := H
                replace H : ((trunnionref02_Two.f k t502).bind fun t518 => ((trunnionref02_Make.f k a0 a1 (wrap64 (t508 - 1)) (IntKind.u64.wrap (t518 - 1))).bind fun t519 => (some (t517 == t519)))) = some r := H
                have A22 := Aside0.mk A220
                clear A220
                replace H := Option.bind_eq_some_iff.mp H
                obtain ⟨t518, A230, H⟩ := H
                replace H : ((trunnionref02_Make.f k a0 a1 (wrap64 (t508 - 1)) (IntKind.u64.wrap (t518 - 1))).bind fun t519 => (some (t517 == t519))) = some r := H
                have A23 := Aside0.mk A230
                clear A230
                replace H := Option.bind_eq_some_iff.mp H
                obtain ⟨t519, A240, H⟩ := H
                replace H : (some (t517 == t519)) = some r := H
                have A24 := Aside0.mk A240
                clear A240
                obtain rfl := Option.some.inj H
                go_enter Try.func11, Try.ntmps11
                go_wp2_with (first | ((with_reducible refine gate_callee (f := 40) rfl ?_); refine goesL_ (some 8) rfl rfl Try.func40 (by kernel_rfl) rfl #[] rfl (by (try simp only [List.map_toArray, List.map_cons, List.map_nil]); first | done | rfl | (simp only [List.length_drop, List.length_take]; rfl)) ?_; (with_reducible refine (trunnionlaw02_awake.calls k  true _ A3.out).mono ?_); rintro e w25 ⟨rfl, hb⟩; refine ⟨_, rfl, ?_⟩; have n0_ := Aside0.mk (below_step (by repeat (first | (with_reducible first | exact HB.out | apply below_alloc | apply pw_below_drewN | apply below_drew1) | exact HB.out)) hb); clear HB; have HB := n0_; clear n0_; (try clear hb); (try clear hb2); (try clear hk); (try clear hi)) | ((with_reducible refine gate_callee (f := 59) rfl ?_); refine goesL_ (some 12) rfl rfl Try.func59 (by kernel_rfl) rfl #[.int .i64 a0] rfl (by (try simp only [List.map_toArray, List.map_cons, List.map_nil]); first | done | rfl | (simp only [List.length_drop, List.length_take]; rfl)) ?_; (with_reducible refine (shape_Fields.calls a0 t501 t502 _ A5.out).mono ?_); rintro e w26 ⟨rfl, hb⟩; refine ⟨_, rfl, ?_⟩; have n0_ := Aside0.mk (below_step (by repeat (first | (with_reducible first | exact HB.out | apply below_alloc | apply pw_below_drewN | apply below_drew1) | exact HB.out)) hb); clear HB; have HB := n0_; clear n0_; (try clear hb); (try clear hb2); (try clear hk); (try clear hi)) | ((with_reducible refine gate_callee (f := 29) rfl ?_); refine goesL_ (some 16) rfl rfl Try.func29 (by kernel_rfl) rfl #[.int .i64 a0] rfl (by (try simp only [List.map_toArray, List.map_cons, List.map_nil]); first | done | rfl | (simp only [List.length_drop, List.length_take]; rfl)) ?_; (with_reducible refine (trunnionref02_Known.calls a0 true _ A6.out).mono ?_); rintro e w' ⟨rfl, ⟨nd, rfl⟩⟩; refine ⟨_, rfl, ?_⟩) | ((with_reducible refine gate_callee (f := 64) rfl ?_); refine goesL_ (some 48) rfl rfl Try.func64 (by kernel_rfl) rfl #[.int .i64 a0] rfl (by (try simp only [List.map_toArray, List.map_cons, List.map_nil]); first | done | rfl | (simp only [List.length_drop, List.length_take]; rfl)) ?_; (with_reducible refine (trunnionref02_Top.calls k a0 t508 _ A8.out).mono ?_); rintro e w' ⟨rfl, ⟨nd, rfl⟩⟩; refine ⟨_, rfl, ?_⟩) | ((with_reducible refine gate_callee (f := 65) rfl ?_); refine goesL_ (some 51) rfl rfl Try.func65 (by kernel_rfl) rfl #[.int .i64 a0] rfl (by (try simp only [List.map_toArray, List.map_cons, List.map_nil]); first | done | rfl | (simp only [List.length_drop, List.length_take]; rfl)) ?_; (with_reducible refine (trunnionref02_E.calls a0 t509 _ A9.out).mono ?_); rintro e w' ⟨rfl, ⟨nd, rfl⟩⟩; refine ⟨_, rfl, ?_⟩) | (go_at_call 66; (with_reducible refine (trunnionref02_F.calls a0 t510 _ A11.out).mono ?_); rintro e w' ⟨rfl, ⟨nd, rfl⟩⟩) | (go_at_call 60; (with_reducible refine (shape_Nan.calls a0 t511 _ A13.out).mono ?_); rintro e w27 ⟨rfl, hb⟩; have n0_ := Aside0.mk (below_step (by repeat (first | (with_reducible first | exact HB.out | apply below_alloc | apply pw_below_drewN | apply below_drew1) | exact HB.out)) hb); clear HB; have HB := n0_; clear n0_; (try clear hb); (try clear hb2); (try clear hk); (try clear hi)) | (go_at_call 67; (with_reducible refine (trunnionref02_Nan.calls k a0 t512 _ A14.out).mono ?_); rintro e w' ⟨rfl, ⟨nd, rfl⟩⟩) | (go_at_call 61; (with_reducible refine (shape_Inf.calls a0 a1 t513 _ A16.out).mono ?_); rintro e w28 ⟨rfl, hb⟩; have n0_ := Aside0.mk (below_step (by repeat (first | (with_reducible first | exact HB.out | apply below_alloc | apply pw_below_drewN | apply below_drew1) | exact HB.out)) hb); clear HB; have HB := n0_; clear n0_; (try clear hb); (try clear hb2); (try clear hk); (try clear hi)) | (go_at_call 68; (with_reducible refine (trunnionref02_Inf.calls k a0 a1 t514 _ A17.out).mono ?_); rintro e w' ⟨rfl, ⟨nd, rfl⟩⟩) | (go_at_call 62; (with_reducible refine (shape_Zero.calls a0 a1 t515 _ A19.out).mono ?_); rintro e w29 ⟨rfl, hb⟩; have n0_ := Aside0.mk (below_step (by repeat (first | (with_reducible first | exact HB.out | apply below_alloc | apply pw_below_drewN | apply below_drew1) | exact HB.out)) hb); clear HB; have HB := n0_; clear n0_; (try clear hb); (try clear hb2); (try clear hk); (try clear hi)) | (go_at_call 69; (with_reducible refine (trunnionref02_Make.calls k a0 a1 0 0 t516 _ A20.out).mono ?_); rintro e w' ⟨rfl, ⟨nd, rfl⟩⟩) | (go_at_call 63; (with_reducible refine (shape_Most.calls a0 a1 t517 _ A22.out).mono ?_); rintro e w30 ⟨rfl, hb⟩; have n0_ := Aside0.mk (below_step (by repeat (first | (with_reducible first | exact HB.out | apply below_alloc | apply pw_below_drewN | apply below_drew1) | exact HB.out)) hb); clear HB; have HB := n0_; clear n0_; (try clear hb); (try clear hb2); (try clear hk); (try clear hi)) | (go_at_call 70; (with_reducible refine (trunnionref02_Two.calls k t502 t518 _ A23.out).mono ?_); rintro e w' ⟨rfl, ⟨nd, rfl⟩⟩) | (go_at_call 69; (with_reducible refine (trunnionref02_Make.calls k a0 a1 (wrap64 (t508 - 1)) (IntKind.u64.wrap (t518 - 1)) t519 _ A24.out).mono ?_); rintro e w' ⟨rfl, ⟨nd, rfl⟩⟩))
                go_ret
                exact ⟨by first | rfl | (simp [errW_none, errW_some] <;> rfl) | (simp [*, errW_none, errW_some] <;> rfl), by repeat (first | (with_reducible first | exact HB.out | apply below_alloc | apply pw_below_drewN | apply below_drew1) | exact HB.out)⟩
              · rw [if_neg c21] at H
                have c21b0 : (t515 == t516) = false := beq_eq_false_iff_ne.mpr c21
                have c21b1 : (t515 != t516) = true := bne_iff_ne.mpr c21
                obtain rfl := Option.some.inj H
                go_enter Try.func11, Try.ntmps11
                go_wp2_with (first | ((with_reducible refine gate_callee (f := 40) rfl ?_); refine goesL_ (some 8) rfl rfl Try.func40 (by kernel_rfl) rfl #[] rfl (by (try simp only [List.map_toArray, List.map_cons, List.map_nil]); first | done | rfl | (simp only [List.length_drop, List.length_take]; rfl)) ?_; (with_reducible refine (trunnionlaw02_awake.calls k  true _ A3.out).mono ?_); rintro e w31 ⟨rfl, hb⟩; refine ⟨_, rfl, ?_⟩; have n0_ := Aside0.mk (below_step (by repeat (first | (with_reducible first | exact HB.out | apply below_alloc | apply pw_below_drewN | apply below_drew1) | exact HB.out)) hb); clear HB; have HB := n0_; clear n0_; (try clear hb); (try clear hb2); (try clear hk); (try clear hi)) | ((with_reducible refine gate_callee (f := 59) rfl ?_); refine goesL_ (some 12) rfl rfl Try.func59 (by kernel_rfl) rfl #[.int .i64 a0] rfl (by (try simp only [List.map_toArray, List.map_cons, List.map_nil]); first | done | rfl | (simp only [List.length_drop, List.length_take]; rfl)) ?_; (with_reducible refine (shape_Fields.calls a0 t501 t502 _ A5.out).mono ?_); rintro e w32 ⟨rfl, hb⟩; refine ⟨_, rfl, ?_⟩; have n0_ := Aside0.mk (below_step (by repeat (first | (with_reducible first | exact HB.out | apply below_alloc | apply pw_below_drewN | apply below_drew1) | exact HB.out)) hb); clear HB; have HB := n0_; clear n0_; (try clear hb); (try clear hb2); (try clear hk); (try clear hi)) | ((with_reducible refine gate_callee (f := 29) rfl ?_); refine goesL_ (some 16) rfl rfl Try.func29 (by kernel_rfl) rfl #[.int .i64 a0] rfl (by (try simp only [List.map_toArray, List.map_cons, List.map_nil]); first | done | rfl | (simp only [List.length_drop, List.length_take]; rfl)) ?_; (with_reducible refine (trunnionref02_Known.calls a0 true _ A6.out).mono ?_); rintro e w' ⟨rfl, ⟨nd, rfl⟩⟩; refine ⟨_, rfl, ?_⟩) | ((with_reducible refine gate_callee (f := 64) rfl ?_); refine goesL_ (some 48) rfl rfl Try.func64 (by kernel_rfl) rfl #[.int .i64 a0] rfl (by (try simp only [List.map_toArray, List.map_cons, List.map_nil]); first | done | rfl | (simp only [List.length_drop, List.length_take]; rfl)) ?_; (with_reducible refine (trunnionref02_Top.calls k a0 t508 _ A8.out).mono ?_); rintro e w' ⟨rfl, ⟨nd, rfl⟩⟩; refine ⟨_, rfl, ?_⟩) | ((with_reducible refine gate_callee (f := 65) rfl ?_); refine goesL_ (some 51) rfl rfl Try.func65 (by kernel_rfl) rfl #[.int .i64 a0] rfl (by (try simp only [List.map_toArray, List.map_cons, List.map_nil]); first | done | rfl | (simp only [List.length_drop, List.length_take]; rfl)) ?_; (with_reducible refine (trunnionref02_E.calls a0 t509 _ A9.out).mono ?_); rintro e w' ⟨rfl, ⟨nd, rfl⟩⟩; refine ⟨_, rfl, ?_⟩) | (go_at_call 66; (with_reducible refine (trunnionref02_F.calls a0 t510 _ A11.out).mono ?_); rintro e w' ⟨rfl, ⟨nd, rfl⟩⟩) | (go_at_call 60; (with_reducible refine (shape_Nan.calls a0 t511 _ A13.out).mono ?_); rintro e w33 ⟨rfl, hb⟩; have n0_ := Aside0.mk (below_step (by repeat (first | (with_reducible first | exact HB.out | apply below_alloc | apply pw_below_drewN | apply below_drew1) | exact HB.out)) hb); clear HB; have HB := n0_; clear n0_; (try clear hb); (try clear hb2); (try clear hk); (try clear hi)) | (go_at_call 67; (with_reducible refine (trunnionref02_Nan.calls k a0 t512 _ A14.out).mono ?_); rintro e w' ⟨rfl, ⟨nd, rfl⟩⟩) | (go_at_call 61; (with_reducible refine (shape_Inf.calls a0 a1 t513 _ A16.out).mono ?_); rintro e w34 ⟨rfl, hb⟩; have n0_ := Aside0.mk (below_step (by repeat (first | (with_reducible first | exact HB.out | apply below_alloc | apply pw_below_drewN | apply below_drew1) | exact HB.out)) hb); clear HB; have HB := n0_; clear n0_; (try clear hb); (try clear hb2); (try clear hk); (try clear hi)) | (go_at_call 68; (with_reducible refine (trunnionref02_Inf.calls k a0 a1 t514 _ A17.out).mono ?_); rintro e w' ⟨rfl, ⟨nd, rfl⟩⟩) | (go_at_call 62; (with_reducible refine (shape_Zero.calls a0 a1 t515 _ A19.out).mono ?_); rintro e w35 ⟨rfl, hb⟩; have n0_ := Aside0.mk (below_step (by repeat (first | (with_reducible first | exact HB.out | apply below_alloc | apply pw_below_drewN | apply below_drew1) | exact HB.out)) hb); clear HB; have HB := n0_; clear n0_; (try clear hb); (try clear hb2); (try clear hk); (try clear hi)) | (go_at_call 69; (with_reducible refine (trunnionref02_Make.calls k a0 a1 0 0 t516 _ A20.out).mono ?_); rintro e w' ⟨rfl, ⟨nd, rfl⟩⟩))
                go_ret
                exact ⟨by first | rfl | (simp [errW_none, errW_some] <;> rfl) | (simp [*, errW_none, errW_some] <;> rfl), by repeat (first | (with_reducible first | exact HB.out | apply below_alloc | apply pw_below_drewN | apply below_drew1) | exact HB.out)⟩
            · rw [if_neg c18] at H
              have c18b0 : (t513 == t514) = false := beq_eq_false_iff_ne.mpr c18
              have c18b1 : (t513 != t514) = true := bne_iff_ne.mpr c18
              obtain rfl := Option.some.inj H
              go_enter Try.func11, Try.ntmps11
              go_wp2_with (first | ((with_reducible refine gate_callee (f := 40) rfl ?_); refine goesL_ (some 8) rfl rfl Try.func40 (by kernel_rfl) rfl #[] rfl (by (try simp only [List.map_toArray, List.map_cons, List.map_nil]); first | done | rfl | (simp only [List.length_drop, List.length_take]; rfl)) ?_; (with_reducible refine (trunnionlaw02_awake.calls k  true _ A3.out).mono ?_); rintro e w36 ⟨rfl, hb⟩; refine ⟨_, rfl, ?_⟩; have n0_ := Aside0.mk (below_step (by repeat (first | (with_reducible first | exact HB.out | apply below_alloc | apply pw_below_drewN | apply below_drew1) | exact HB.out)) hb); clear HB; have HB := n0_; clear n0_; (try clear hb); (try clear hb2); (try clear hk); (try clear hi)) | ((with_reducible refine gate_callee (f := 59) rfl ?_); refine goesL_ (some 12) rfl rfl Try.func59 (by kernel_rfl) rfl #[.int .i64 a0] rfl (by (try simp only [List.map_toArray, List.map_cons, List.map_nil]); first | done | rfl | (simp only [List.length_drop, List.length_take]; rfl)) ?_; (with_reducible refine (shape_Fields.calls a0 t501 t502 _ A5.out).mono ?_); rintro e w37 ⟨rfl, hb⟩; refine ⟨_, rfl, ?_⟩; have n0_ := Aside0.mk (below_step (by repeat (first | (with_reducible first | exact HB.out | apply below_alloc | apply pw_below_drewN | apply below_drew1) | exact HB.out)) hb); clear HB; have HB := n0_; clear n0_; (try clear hb); (try clear hb2); (try clear hk); (try clear hi)) | ((with_reducible refine gate_callee (f := 29) rfl ?_); refine goesL_ (some 16) rfl rfl Try.func29 (by kernel_rfl) rfl #[.int .i64 a0] rfl (by (try simp only [List.map_toArray, List.map_cons, List.map_nil]); first | done | rfl | (simp only [List.length_drop, List.length_take]; rfl)) ?_; (with_reducible refine (trunnionref02_Known.calls a0 true _ A6.out).mono ?_); rintro e w' ⟨rfl, ⟨nd, rfl⟩⟩; refine ⟨_, rfl, ?_⟩) | ((with_reducible refine gate_callee (f := 64) rfl ?_); refine goesL_ (some 48) rfl rfl Try.func64 (by kernel_rfl) rfl #[.int .i64 a0] rfl (by (try simp only [List.map_toArray, List.map_cons, List.map_nil]); first | done | rfl | (simp only [List.length_drop, List.length_take]; rfl)) ?_; (with_reducible refine (trunnionref02_Top.calls k a0 t508 _ A8.out).mono ?_); rintro e w' ⟨rfl, ⟨nd, rfl⟩⟩; refine ⟨_, rfl, ?_⟩) | ((with_reducible refine gate_callee (f := 65) rfl ?_); refine goesL_ (some 51) rfl rfl Try.func65 (by kernel_rfl) rfl #[.int .i64 a0] rfl (by (try simp only [List.map_toArray, List.map_cons, List.map_nil]); first | done | rfl | (simp only [List.length_drop, List.length_take]; rfl)) ?_; (with_reducible refine (trunnionref02_E.calls a0 t509 _ A9.out).mono ?_); rintro e w' ⟨rfl, ⟨nd, rfl⟩⟩; refine ⟨_, rfl, ?_⟩) | (go_at_call 66; (with_reducible refine (trunnionref02_F.calls a0 t510 _ A11.out).mono ?_); rintro e w' ⟨rfl, ⟨nd, rfl⟩⟩) | (go_at_call 60; (with_reducible refine (shape_Nan.calls a0 t511 _ A13.out).mono ?_); rintro e w38 ⟨rfl, hb⟩; have n0_ := Aside0.mk (below_step (by repeat (first | (with_reducible first | exact HB.out | apply below_alloc | apply pw_below_drewN | apply below_drew1) | exact HB.out)) hb); clear HB; have HB := n0_; clear n0_; (try clear hb); (try clear hb2); (try clear hk); (try clear hi)) | (go_at_call 67; (with_reducible refine (trunnionref02_Nan.calls k a0 t512 _ A14.out).mono ?_); rintro e w' ⟨rfl, ⟨nd, rfl⟩⟩) | (go_at_call 61; (with_reducible refine (shape_Inf.calls a0 a1 t513 _ A16.out).mono ?_); rintro e w39 ⟨rfl, hb⟩; have n0_ := Aside0.mk (below_step (by repeat (first | (with_reducible first | exact HB.out | apply below_alloc | apply pw_below_drewN | apply below_drew1) | exact HB.out)) hb); clear HB; have HB := n0_; clear n0_; (try clear hb); (try clear hb2); (try clear hk); (try clear hi)) | (go_at_call 68; (with_reducible refine (trunnionref02_Inf.calls k a0 a1 t514 _ A17.out).mono ?_); rintro e w' ⟨rfl, ⟨nd, rfl⟩⟩))
              go_ret
              exact ⟨by first | rfl | (simp [errW_none, errW_some] <;> rfl) | (simp [*, errW_none, errW_some] <;> rfl), by repeat (first | (with_reducible first | exact HB.out | apply below_alloc | apply pw_below_drewN | apply below_drew1) | exact HB.out)⟩
          · rw [if_neg c15] at H
            have c15b0 : (t511 == t512) = false := beq_eq_false_iff_ne.mpr c15
            have c15b1 : (t511 != t512) = true := bne_iff_ne.mpr c15
            obtain rfl := Option.some.inj H
            go_enter Try.func11, Try.ntmps11
            go_wp2_with (first | ((with_reducible refine gate_callee (f := 40) rfl ?_); refine goesL_ (some 8) rfl rfl Try.func40 (by kernel_rfl) rfl #[] rfl (by (try simp only [List.map_toArray, List.map_cons, List.map_nil]); first | done | rfl | (simp only [List.length_drop, List.length_take]; rfl)) ?_; (with_reducible refine (trunnionlaw02_awake.calls k  true _ A3.out).mono ?_); rintro e w40 ⟨rfl, hb⟩; refine ⟨_, rfl, ?_⟩; have n0_ := Aside0.mk (below_step (by repeat (first | (with_reducible first | exact HB.out | apply below_alloc | apply pw_below_drewN | apply below_drew1) | exact HB.out)) hb); clear HB; have HB := n0_; clear n0_; (try clear hb); (try clear hb2); (try clear hk); (try clear hi)) | ((with_reducible refine gate_callee (f := 59) rfl ?_); refine goesL_ (some 12) rfl rfl Try.func59 (by kernel_rfl) rfl #[.int .i64 a0] rfl (by (try simp only [List.map_toArray, List.map_cons, List.map_nil]); first | done | rfl | (simp only [List.length_drop, List.length_take]; rfl)) ?_; (with_reducible refine (shape_Fields.calls a0 t501 t502 _ A5.out).mono ?_); rintro e w41 ⟨rfl, hb⟩; refine ⟨_, rfl, ?_⟩; have n0_ := Aside0.mk (below_step (by repeat (first | (with_reducible first | exact HB.out | apply below_alloc | apply pw_below_drewN | apply below_drew1) | exact HB.out)) hb); clear HB; have HB := n0_; clear n0_; (try clear hb); (try clear hb2); (try clear hk); (try clear hi)) | ((with_reducible refine gate_callee (f := 29) rfl ?_); refine goesL_ (some 16) rfl rfl Try.func29 (by kernel_rfl) rfl #[.int .i64 a0] rfl (by (try simp only [List.map_toArray, List.map_cons, List.map_nil]); first | done | rfl | (simp only [List.length_drop, List.length_take]; rfl)) ?_; (with_reducible refine (trunnionref02_Known.calls a0 true _ A6.out).mono ?_); rintro e w' ⟨rfl, ⟨nd, rfl⟩⟩; refine ⟨_, rfl, ?_⟩) | ((with_reducible refine gate_callee (f := 64) rfl ?_); refine goesL_ (some 48) rfl rfl Try.func64 (by kernel_rfl) rfl #[.int .i64 a0] rfl (by (try simp only [List.map_toArray, List.map_cons, List.map_nil]); first | done | rfl | (simp only [List.length_drop, List.length_take]; rfl)) ?_; (with_reducible refine (trunnionref02_Top.calls k a0 t508 _ A8.out).mono ?_); rintro e w' ⟨rfl, ⟨nd, rfl⟩⟩; refine ⟨_, rfl, ?_⟩) | ((with_reducible refine gate_callee (f := 65) rfl ?_); refine goesL_ (some 51) rfl rfl Try.func65 (by kernel_rfl) rfl #[.int .i64 a0] rfl (by (try simp only [List.map_toArray, List.map_cons, List.map_nil]); first | done | rfl | (simp only [List.length_drop, List.length_take]; rfl)) ?_; (with_reducible refine (trunnionref02_E.calls a0 t509 _ A9.out).mono ?_); rintro e w' ⟨rfl, ⟨nd, rfl⟩⟩; refine ⟨_, rfl, ?_⟩) | (go_at_call 66; (with_reducible refine (trunnionref02_F.calls a0 t510 _ A11.out).mono ?_); rintro e w' ⟨rfl, ⟨nd, rfl⟩⟩) | (go_at_call 60; (with_reducible refine (shape_Nan.calls a0 t511 _ A13.out).mono ?_); rintro e w42 ⟨rfl, hb⟩; have n0_ := Aside0.mk (below_step (by repeat (first | (with_reducible first | exact HB.out | apply below_alloc | apply pw_below_drewN | apply below_drew1) | exact HB.out)) hb); clear HB; have HB := n0_; clear n0_; (try clear hb); (try clear hb2); (try clear hk); (try clear hi)) | (go_at_call 67; (with_reducible refine (trunnionref02_Nan.calls k a0 t512 _ A14.out).mono ?_); rintro e w' ⟨rfl, ⟨nd, rfl⟩⟩))
            go_ret
            exact ⟨by first | rfl | (simp [errW_none, errW_some] <;> rfl) | (simp [*, errW_none, errW_some] <;> rfl), by repeat (first | (with_reducible first | exact HB.out | apply below_alloc | apply pw_below_drewN | apply below_drew1) | exact HB.out)⟩
        · rw [if_neg c12] at H
          have c12b0 : (t502 == t510) = false := beq_eq_false_iff_ne.mpr c12
          have c12b1 : (t502 != t510) = true := bne_iff_ne.mpr c12
          obtain rfl := Option.some.inj H
          go_enter Try.func11, Try.ntmps11
          go_wp2_with (first | ((with_reducible refine gate_callee (f := 40) rfl ?_); refine goesL_ (some 8) rfl rfl Try.func40 (by kernel_rfl) rfl #[] rfl (by (try simp only [List.map_toArray, List.map_cons, List.map_nil]); first | done | rfl | (simp only [List.length_drop, List.length_take]; rfl)) ?_; (with_reducible refine (trunnionlaw02_awake.calls k  true _ A3.out).mono ?_); rintro e w43 ⟨rfl, hb⟩; refine ⟨_, rfl, ?_⟩; have n0_ := Aside0.mk (below_step (by repeat (first | (with_reducible first | exact HB.out | apply below_alloc | apply pw_below_drewN | apply below_drew1) | exact HB.out)) hb); clear HB; have HB := n0_; clear n0_; (try clear hb); (try clear hb2); (try clear hk); (try clear hi)) | ((with_reducible refine gate_callee (f := 59) rfl ?_); refine goesL_ (some 12) rfl rfl Try.func59 (by kernel_rfl) rfl #[.int .i64 a0] rfl (by (try simp only [List.map_toArray, List.map_cons, List.map_nil]); first | done | rfl | (simp only [List.length_drop, List.length_take]; rfl)) ?_; (with_reducible refine (shape_Fields.calls a0 t501 t502 _ A5.out).mono ?_); rintro e w44 ⟨rfl, hb⟩; refine ⟨_, rfl, ?_⟩; have n0_ := Aside0.mk (below_step (by repeat (first | (with_reducible first | exact HB.out | apply below_alloc | apply pw_below_drewN | apply below_drew1) | exact HB.out)) hb); clear HB; have HB := n0_; clear n0_; (try clear hb); (try clear hb2); (try clear hk); (try clear hi)) | ((with_reducible refine gate_callee (f := 29) rfl ?_); refine goesL_ (some 16) rfl rfl Try.func29 (by kernel_rfl) rfl #[.int .i64 a0] rfl (by (try simp only [List.map_toArray, List.map_cons, List.map_nil]); first | done | rfl | (simp only [List.length_drop, List.length_take]; rfl)) ?_; (with_reducible refine (trunnionref02_Known.calls a0 true _ A6.out).mono ?_); rintro e w' ⟨rfl, ⟨nd, rfl⟩⟩; refine ⟨_, rfl, ?_⟩) | ((with_reducible refine gate_callee (f := 64) rfl ?_); refine goesL_ (some 48) rfl rfl Try.func64 (by kernel_rfl) rfl #[.int .i64 a0] rfl (by (try simp only [List.map_toArray, List.map_cons, List.map_nil]); first | done | rfl | (simp only [List.length_drop, List.length_take]; rfl)) ?_; (with_reducible refine (trunnionref02_Top.calls k a0 t508 _ A8.out).mono ?_); rintro e w' ⟨rfl, ⟨nd, rfl⟩⟩; refine ⟨_, rfl, ?_⟩) | ((with_reducible refine gate_callee (f := 65) rfl ?_); refine goesL_ (some 51) rfl rfl Try.func65 (by kernel_rfl) rfl #[.int .i64 a0] rfl (by (try simp only [List.map_toArray, List.map_cons, List.map_nil]); first | done | rfl | (simp only [List.length_drop, List.length_take]; rfl)) ?_; (with_reducible refine (trunnionref02_E.calls a0 t509 _ A9.out).mono ?_); rintro e w' ⟨rfl, ⟨nd, rfl⟩⟩; refine ⟨_, rfl, ?_⟩) | (go_at_call 66; (with_reducible refine (trunnionref02_F.calls a0 t510 _ A11.out).mono ?_); rintro e w' ⟨rfl, ⟨nd, rfl⟩⟩))
          go_ret
          exact ⟨by first | rfl | (simp [errW_none, errW_some] <;> rfl) | (simp [*, errW_none, errW_some] <;> rfl), by repeat (first | (with_reducible first | exact HB.out | apply below_alloc | apply pw_below_drewN | apply below_drew1) | exact HB.out)⟩
      · rw [if_neg c10] at H
        have c10b0 : (t501 == t509) = false := beq_eq_false_iff_ne.mpr c10
        have c10b1 : (t501 != t509) = true := bne_iff_ne.mpr c10
        obtain rfl := Option.some.inj H
        go_enter Try.func11, Try.ntmps11
        go_wp2_with (first | ((with_reducible refine gate_callee (f := 40) rfl ?_); refine goesL_ (some 8) rfl rfl Try.func40 (by kernel_rfl) rfl #[] rfl (by (try simp only [List.map_toArray, List.map_cons, List.map_nil]); first | done | rfl | (simp only [List.length_drop, List.length_take]; rfl)) ?_; (with_reducible refine (trunnionlaw02_awake.calls k  true _ A3.out).mono ?_); rintro e w45 ⟨rfl, hb⟩; refine ⟨_, rfl, ?_⟩; have n0_ := Aside0.mk (below_step (by repeat (first | (with_reducible first | exact HB.out | apply below_alloc | apply pw_below_drewN | apply below_drew1) | exact HB.out)) hb); clear HB; have HB := n0_; clear n0_; (try clear hb); (try clear hb2); (try clear hk); (try clear hi)) | ((with_reducible refine gate_callee (f := 59) rfl ?_); refine goesL_ (some 12) rfl rfl Try.func59 (by kernel_rfl) rfl #[.int .i64 a0] rfl (by (try simp only [List.map_toArray, List.map_cons, List.map_nil]); first | done | rfl | (simp only [List.length_drop, List.length_take]; rfl)) ?_; (with_reducible refine (shape_Fields.calls a0 t501 t502 _ A5.out).mono ?_); rintro e w46 ⟨rfl, hb⟩; refine ⟨_, rfl, ?_⟩; have n0_ := Aside0.mk (below_step (by repeat (first | (with_reducible first | exact HB.out | apply below_alloc | apply pw_below_drewN | apply below_drew1) | exact HB.out)) hb); clear HB; have HB := n0_; clear n0_; (try clear hb); (try clear hb2); (try clear hk); (try clear hi)) | ((with_reducible refine gate_callee (f := 29) rfl ?_); refine goesL_ (some 16) rfl rfl Try.func29 (by kernel_rfl) rfl #[.int .i64 a0] rfl (by (try simp only [List.map_toArray, List.map_cons, List.map_nil]); first | done | rfl | (simp only [List.length_drop, List.length_take]; rfl)) ?_; (with_reducible refine (trunnionref02_Known.calls a0 true _ A6.out).mono ?_); rintro e w' ⟨rfl, ⟨nd, rfl⟩⟩; refine ⟨_, rfl, ?_⟩) | ((with_reducible refine gate_callee (f := 64) rfl ?_); refine goesL_ (some 48) rfl rfl Try.func64 (by kernel_rfl) rfl #[.int .i64 a0] rfl (by (try simp only [List.map_toArray, List.map_cons, List.map_nil]); first | done | rfl | (simp only [List.length_drop, List.length_take]; rfl)) ?_; (with_reducible refine (trunnionref02_Top.calls k a0 t508 _ A8.out).mono ?_); rintro e w' ⟨rfl, ⟨nd, rfl⟩⟩; refine ⟨_, rfl, ?_⟩) | ((with_reducible refine gate_callee (f := 65) rfl ?_); refine goesL_ (some 51) rfl rfl Try.func65 (by kernel_rfl) rfl #[.int .i64 a0] rfl (by (try simp only [List.map_toArray, List.map_cons, List.map_nil]); first | done | rfl | (simp only [List.length_drop, List.length_take]; rfl)) ?_; (with_reducible refine (trunnionref02_E.calls a0 t509 _ A9.out).mono ?_); rintro e w' ⟨rfl, ⟨nd, rfl⟩⟩; refine ⟨_, rfl, ?_⟩))
        go_ret
        exact ⟨by first | rfl | (simp [errW_none, errW_some] <;> rfl) | (simp [*, errW_none, errW_some] <;> rfl), by repeat (first | (with_reducible first | exact HB.out | apply below_alloc | apply pw_below_drewN | apply below_drew1) | exact HB.out)⟩
    · replace c7 := Bool.eq_false_iff.mpr c7
      subst c7
      have H1 : (if t501 = 0 then (if t502 = 0 then ((shape_Nan.f a0).bind fun t504 => (if t504 = 0 then ((shape_Inf.f a0 a1).bind fun t505 => (if t505 = 0 then ((shape_Zero.f a0 a1).bind fun t506 => (if t506 = 0 then ((shape_Most.f a0 a1).bind fun t507 => (some (t507 == 0))) else (some false))) else (some false))) else (some false))) else (some false)) else (some false)) = some r := by rw [if_neg (show ¬ (false = true) by decide)] at H; exact H
      clear H
      have H := H1
      clear H1
      by_cases c47 : t501 = 0
      · rw [if_pos c47] at H
        have c47b0 : (t501 == 0) = true := beq_iff_eq.mpr c47
        have c47b1 : (t501 != 0) = false := bne_eq_false_iff_eq.mpr c47
        clear c47
        by_cases c48 : t502 = 0
        · rw [if_pos c48] at H
          have c48b0 : (t502 == 0) = true := beq_iff_eq.mpr c48
          have c48b1 : (t502 != 0) = false := bne_eq_false_iff_eq.mpr c48
          clear c48
          replace H := Option.bind_eq_some_iff.mp H
          obtain ⟨t504, A490, H⟩ := H
          replace H : (if t504 = 0 then ((shape_Inf.f a0 a1).bind fun t505 => (if t505 = 0 then ((shape_Zero.f a0 a1).bind fun t506 => (if t506 = 0 then ((shape_Most.f a0 a1).bind fun t507 => (some (t507 == 0))) else (some false))) else (some false))) else (some false)) = some r := H
          have A49 := Aside0.mk A490
          clear A490
          by_cases c50 : t504 = 0
          · rw [if_pos c50] at H
            have c50b0 : (t504 == 0) = true := beq_iff_eq.mpr c50
            have c50b1 : (t504 != 0) = false := bne_eq_false_iff_eq.mpr c50
            clear c50
            replace H := Option.bind_eq_some_iff.mp H
            obtain ⟨t505, A510, H⟩ := H
            replace H : (if t505 = 0 then ((shape_Zero.f a0 a1).bind fun t506 => (if t506 = 0 then ((shape_Most.f a0 a1).bind fun t507 => (some (t507 == 0))) else (some false))) else (some false)) = some r := H
            have A51 := Aside0.mk A510
            clear A510
            by_cases c52 : t505 = 0
            · rw [if_pos c52] at H
              have c52b0 : (t505 == 0) = true := beq_iff_eq.mpr c52
              have c52b1 : (t505 != 0) = false := bne_eq_false_iff_eq.mpr c52
              clear c52
              replace H := Option.bind_eq_some_iff.mp H
              obtain ⟨t506, A530, H⟩ := H
              replace H : (if t506 = 0 then ((shape_Most.f a0 a1).bind fun t507 => (some (t507 == 0))) else (some false)) = some r := H
              have A53 := Aside0.mk A530
              clear A530
              by_cases c54 : t506 = 0
              · rw [if_pos c54] at H
                have c54b0 : (t506 == 0) = true := beq_iff_eq.mpr c54
                have c54b1 : (t506 != 0) = false := bne_eq_false_iff_eq.mpr c54
                clear c54
                replace H := Option.bind_eq_some_iff.mp H
                obtain ⟨t507, A550, H⟩ := H
                replace H : (some (t507 == 0)) = some r := H
                have A55 := Aside0.mk A550
                clear A550
                obtain rfl := Option.some.inj H
                go_enter Try.func11, Try.ntmps11
                go_wp2_with (first | ((with_reducible refine gate_callee (f := 40) rfl ?_); refine goesL_ (some 8) rfl rfl Try.func40 (by kernel_rfl) rfl #[] rfl (by (try simp only [List.map_toArray, List.map_cons, List.map_nil]); first | done | rfl | (simp only [List.length_drop, List.length_take]; rfl)) ?_; (with_reducible refine (trunnionlaw02_awake.calls k  true _ A3.out).mono ?_); rintro e w56 ⟨rfl, hb⟩; refine ⟨_, rfl, ?_⟩; have n0_ := Aside0.mk (below_step (by repeat (first | (with_reducible first | exact HB.out | apply below_alloc | apply pw_below_drewN | apply below_drew1) | exact HB.out)) hb); clear HB; have HB := n0_; clear n0_; (try clear hb); (try clear hb2); (try clear hk); (try clear hi)) | ((with_reducible refine gate_callee (f := 59) rfl ?_); refine goesL_ (some 12) rfl rfl Try.func59 (by kernel_rfl) rfl #[.int .i64 a0] rfl (by (try simp only [List.map_toArray, List.map_cons, List.map_nil]); first | done | rfl | (simp only [List.length_drop, List.length_take]; rfl)) ?_; (with_reducible refine (shape_Fields.calls a0 t501 t502 _ A5.out).mono ?_); rintro e w57 ⟨rfl, hb⟩; refine ⟨_, rfl, ?_⟩; have n0_ := Aside0.mk (below_step (by repeat (first | (with_reducible first | exact HB.out | apply below_alloc | apply pw_below_drewN | apply below_drew1) | exact HB.out)) hb); clear HB; have HB := n0_; clear n0_; (try clear hb); (try clear hb2); (try clear hk); (try clear hi)) | ((with_reducible refine gate_callee (f := 29) rfl ?_); refine goesL_ (some 16) rfl rfl Try.func29 (by kernel_rfl) rfl #[.int .i64 a0] rfl (by (try simp only [List.map_toArray, List.map_cons, List.map_nil]); first | done | rfl | (simp only [List.length_drop, List.length_take]; rfl)) ?_; (with_reducible refine (trunnionref02_Known.calls a0 false _ A6.out).mono ?_); rintro e w' ⟨rfl, ⟨nd, rfl⟩⟩; refine ⟨_, rfl, ?_⟩) | (go_at_call 60; (with_reducible refine (shape_Nan.calls a0 t504 _ A49.out).mono ?_); rintro e w58 ⟨rfl, hb⟩; have n0_ := Aside0.mk (below_step (by repeat (first | (with_reducible first | exact HB.out | apply below_alloc | apply pw_below_drewN | apply below_drew1) | exact HB.out)) hb); clear HB; have HB := n0_; clear n0_; (try clear hb); (try clear hb2); (try clear hk); (try clear hi)) | (go_at_call 61; (with_reducible refine (shape_Inf.calls a0 a1 t505 _ A51.out).mono ?_); rintro e w59 ⟨rfl, hb⟩; have n0_ := Aside0.mk (below_step (by repeat (first | (with_reducible first | exact HB.out | apply below_alloc | apply pw_below_drewN | apply below_drew1) | exact HB.out)) hb); clear HB; have HB := n0_; clear n0_; (try clear hb); (try clear hb2); (try clear hk); (try clear hi)) | (go_at_call 62; (with_reducible refine (shape_Zero.calls a0 a1 t506 _ A53.out).mono ?_); rintro e w60 ⟨rfl, hb⟩; have n0_ := Aside0.mk (below_step (by repeat (first | (with_reducible first | exact HB.out | apply below_alloc | apply pw_below_drewN | apply below_drew1) | exact HB.out)) hb); clear HB; have HB := n0_; clear n0_; (try clear hb); (try clear hb2); (try clear hk); (try clear hi)) | (go_at_call 63; (with_reducible refine (shape_Most.calls a0 a1 t507 _ A55.out).mono ?_); rintro e w61 ⟨rfl, hb⟩; have n0_ := Aside0.mk (below_step (by repeat (first | (with_reducible first | exact HB.out | apply below_alloc | apply pw_below_drewN | apply below_drew1) | exact HB.out)) hb); clear HB; have HB := n0_; clear n0_; (try clear hb); (try clear hb2); (try clear hk); (try clear hi)))
                go_ret
                exact ⟨by first | rfl | (simp [errW_none, errW_some] <;> rfl) | (simp [*, errW_none, errW_some] <;> rfl), by repeat (first | (with_reducible first | exact HB.out | apply below_alloc | apply pw_below_drewN | apply below_drew1) | exact HB.out)⟩
              · rw [if_neg c54] at H
                have c54b0 : (t506 == 0) = false := beq_eq_false_iff_ne.mpr c54
                have c54b1 : (t506 != 0) = true := bne_iff_ne.mpr c54
                obtain rfl := Option.some.inj H
                go_enter Try.func11, Try.ntmps11
                go_wp2_with (first | ((with_reducible refine gate_callee (f := 40) rfl ?_); refine goesL_ (some 8) rfl rfl Try.func40 (by kernel_rfl) rfl #[] rfl (by (try simp only [List.map_toArray, List.map_cons, List.map_nil]); first | done | rfl | (simp only [List.length_drop, List.length_take]; rfl)) ?_; (with_reducible refine (trunnionlaw02_awake.calls k  true _ A3.out).mono ?_); rintro e w62 ⟨rfl, hb⟩; refine ⟨_, rfl, ?_⟩; have n0_ := Aside0.mk (below_step (by repeat (first | (with_reducible first | exact HB.out | apply below_alloc | apply pw_below_drewN | apply below_drew1) | exact HB.out)) hb); clear HB; have HB := n0_; clear n0_; (try clear hb); (try clear hb2); (try clear hk); (try clear hi)) | ((with_reducible refine gate_callee (f := 59) rfl ?_); refine goesL_ (some 12) rfl rfl Try.func59 (by kernel_rfl) rfl #[.int .i64 a0] rfl (by (try simp only [List.map_toArray, List.map_cons, List.map_nil]); first | done | rfl | (simp only [List.length_drop, List.length_take]; rfl)) ?_; (with_reducible refine (shape_Fields.calls a0 t501 t502 _ A5.out).mono ?_); rintro e w63 ⟨rfl, hb⟩; refine ⟨_, rfl, ?_⟩; have n0_ := Aside0.mk (below_step (by repeat (first | (with_reducible first | exact HB.out | apply below_alloc | apply pw_below_drewN | apply below_drew1) | exact HB.out)) hb); clear HB; have HB := n0_; clear n0_; (try clear hb); (try clear hb2); (try clear hk); (try clear hi)) | ((with_reducible refine gate_callee (f := 29) rfl ?_); refine goesL_ (some 16) rfl rfl Try.func29 (by kernel_rfl) rfl #[.int .i64 a0] rfl (by (try simp only [List.map_toArray, List.map_cons, List.map_nil]); first | done | rfl | (simp only [List.length_drop, List.length_take]; rfl)) ?_; (with_reducible refine (trunnionref02_Known.calls a0 false _ A6.out).mono ?_); rintro e w' ⟨rfl, ⟨nd, rfl⟩⟩; refine ⟨_, rfl, ?_⟩) | (go_at_call 60; (with_reducible refine (shape_Nan.calls a0 t504 _ A49.out).mono ?_); rintro e w64 ⟨rfl, hb⟩; have n0_ := Aside0.mk (below_step (by repeat (first | (with_reducible first | exact HB.out | apply below_alloc | apply pw_below_drewN | apply below_drew1) | exact HB.out)) hb); clear HB; have HB := n0_; clear n0_; (try clear hb); (try clear hb2); (try clear hk); (try clear hi)) | (go_at_call 61; (with_reducible refine (shape_Inf.calls a0 a1 t505 _ A51.out).mono ?_); rintro e w65 ⟨rfl, hb⟩; have n0_ := Aside0.mk (below_step (by repeat (first | (with_reducible first | exact HB.out | apply below_alloc | apply pw_below_drewN | apply below_drew1) | exact HB.out)) hb); clear HB; have HB := n0_; clear n0_; (try clear hb); (try clear hb2); (try clear hk); (try clear hi)) | (go_at_call 62; (with_reducible refine (shape_Zero.calls a0 a1 t506 _ A53.out).mono ?_); rintro e w66 ⟨rfl, hb⟩; have n0_ := Aside0.mk (below_step (by repeat (first | (with_reducible first | exact HB.out | apply below_alloc | apply pw_below_drewN | apply below_drew1) | exact HB.out)) hb); clear HB; have HB := n0_; clear n0_; (try clear hb); (try clear hb2); (try clear hk); (try clear hi)))
                go_ret
                exact ⟨by first | rfl | (simp [errW_none, errW_some] <;> rfl) | (simp [*, errW_none, errW_some] <;> rfl), by repeat (first | (with_reducible first | exact HB.out | apply below_alloc | apply pw_below_drewN | apply below_drew1) | exact HB.out)⟩
            · rw [if_neg c52] at H
              have c52b0 : (t505 == 0) = false := beq_eq_false_iff_ne.mpr c52
              have c52b1 : (t505 != 0) = true := bne_iff_ne.mpr c52
              obtain rfl := Option.some.inj H
              go_enter Try.func11, Try.ntmps11
              go_wp2_with (first | ((with_reducible refine gate_callee (f := 40) rfl ?_); refine goesL_ (some 8) rfl rfl Try.func40 (by kernel_rfl) rfl #[] rfl (by (try simp only [List.map_toArray, List.map_cons, List.map_nil]); first | done | rfl | (simp only [List.length_drop, List.length_take]; rfl)) ?_; (with_reducible refine (trunnionlaw02_awake.calls k  true _ A3.out).mono ?_); rintro e w67 ⟨rfl, hb⟩; refine ⟨_, rfl, ?_⟩; have n0_ := Aside0.mk (below_step (by repeat (first | (with_reducible first | exact HB.out | apply below_alloc | apply pw_below_drewN | apply below_drew1) | exact HB.out)) hb); clear HB; have HB := n0_; clear n0_; (try clear hb); (try clear hb2); (try clear hk); (try clear hi)) | ((with_reducible refine gate_callee (f := 59) rfl ?_); refine goesL_ (some 12) rfl rfl Try.func59 (by kernel_rfl) rfl #[.int .i64 a0] rfl (by (try simp only [List.map_toArray, List.map_cons, List.map_nil]); first | done | rfl | (simp only [List.length_drop, List.length_take]; rfl)) ?_; (with_reducible refine (shape_Fields.calls a0 t501 t502 _ A5.out).mono ?_); rintro e w68 ⟨rfl, hb⟩; refine ⟨_, rfl, ?_⟩; have n0_ := Aside0.mk (below_step (by repeat (first | (with_reducible first | exact HB.out | apply below_alloc | apply pw_below_drewN | apply below_drew1) | exact HB.out)) hb); clear HB; have HB := n0_; clear n0_; (try clear hb); (try clear hb2); (try clear hk); (try clear hi)) | ((with_reducible refine gate_callee (f := 29) rfl ?_); refine goesL_ (some 16) rfl rfl Try.func29 (by kernel_rfl) rfl #[.int .i64 a0] rfl (by (try simp only [List.map_toArray, List.map_cons, List.map_nil]); first | done | rfl | (simp only [List.length_drop, List.length_take]; rfl)) ?_; (with_reducible refine (trunnionref02_Known.calls a0 false _ A6.out).mono ?_); rintro e w' ⟨rfl, ⟨nd, rfl⟩⟩; refine ⟨_, rfl, ?_⟩) | (go_at_call 60; (with_reducible refine (shape_Nan.calls a0 t504 _ A49.out).mono ?_); rintro e w69 ⟨rfl, hb⟩; have n0_ := Aside0.mk (below_step (by repeat (first | (with_reducible first | exact HB.out | apply below_alloc | apply pw_below_drewN | apply below_drew1) | exact HB.out)) hb); clear HB; have HB := n0_; clear n0_; (try clear hb); (try clear hb2); (try clear hk); (try clear hi)) | (go_at_call 61; (with_reducible refine (shape_Inf.calls a0 a1 t505 _ A51.out).mono ?_); rintro e w70 ⟨rfl, hb⟩; have n0_ := Aside0.mk (below_step (by repeat (first | (with_reducible first | exact HB.out | apply below_alloc | apply pw_below_drewN | apply below_drew1) | exact HB.out)) hb); clear HB; have HB := n0_; clear n0_; (try clear hb); (try clear hb2); (try clear hk); (try clear hi)))
              go_ret
              exact ⟨by first | rfl | (simp [errW_none, errW_some] <;> rfl) | (simp [*, errW_none, errW_some] <;> rfl), by repeat (first | (with_reducible first | exact HB.out | apply below_alloc | apply pw_below_drewN | apply below_drew1) | exact HB.out)⟩
          · rw [if_neg c50] at H
            have c50b0 : (t504 == 0) = false := beq_eq_false_iff_ne.mpr c50
            have c50b1 : (t504 != 0) = true := bne_iff_ne.mpr c50
            obtain rfl := Option.some.inj H
            go_enter Try.func11, Try.ntmps11
            go_wp2_with (first | ((with_reducible refine gate_callee (f := 40) rfl ?_); refine goesL_ (some 8) rfl rfl Try.func40 (by kernel_rfl) rfl #[] rfl (by (try simp only [List.map_toArray, List.map_cons, List.map_nil]); first | done | rfl | (simp only [List.length_drop, List.length_take]; rfl)) ?_; (with_reducible refine (trunnionlaw02_awake.calls k  true _ A3.out).mono ?_); rintro e w71 ⟨rfl, hb⟩; refine ⟨_, rfl, ?_⟩; have n0_ := Aside0.mk (below_step (by repeat (first | (with_reducible first | exact HB.out | apply below_alloc | apply pw_below_drewN | apply below_drew1) | exact HB.out)) hb); clear HB; have HB := n0_; clear n0_; (try clear hb); (try clear hb2); (try clear hk); (try clear hi)) | ((with_reducible refine gate_callee (f := 59) rfl ?_); refine goesL_ (some 12) rfl rfl Try.func59 (by kernel_rfl) rfl #[.int .i64 a0] rfl (by (try simp only [List.map_toArray, List.map_cons, List.map_nil]); first | done | rfl | (simp only [List.length_drop, List.length_take]; rfl)) ?_; (with_reducible refine (shape_Fields.calls a0 t501 t502 _ A5.out).mono ?_); rintro e w72 ⟨rfl, hb⟩; refine ⟨_, rfl, ?_⟩; have n0_ := Aside0.mk (below_step (by repeat (first | (with_reducible first | exact HB.out | apply below_alloc | apply pw_below_drewN | apply below_drew1) | exact HB.out)) hb); clear HB; have HB := n0_; clear n0_; (try clear hb); (try clear hb2); (try clear hk); (try clear hi)) | ((with_reducible refine gate_callee (f := 29) rfl ?_); refine goesL_ (some 16) rfl rfl Try.func29 (by kernel_rfl) rfl #[.int .i64 a0] rfl (by (try simp only [List.map_toArray, List.map_cons, List.map_nil]); first | done | rfl | (simp only [List.length_drop, List.length_take]; rfl)) ?_; (with_reducible refine (trunnionref02_Known.calls a0 false _ A6.out).mono ?_); rintro e w' ⟨rfl, ⟨nd, rfl⟩⟩; refine ⟨_, rfl, ?_⟩) | (go_at_call 60; (with_reducible refine (shape_Nan.calls a0 t504 _ A49.out).mono ?_); rintro e w73 ⟨rfl, hb⟩; have n0_ := Aside0.mk (below_step (by repeat (first | (with_reducible first | exact HB.out | apply below_alloc | apply pw_below_drewN | apply below_drew1) | exact HB.out)) hb); clear HB; have HB := n0_; clear n0_; (try clear hb); (try clear hb2); (try clear hk); (try clear hi)))
            go_ret
            exact ⟨by first | rfl | (simp [errW_none, errW_some] <;> rfl) | (simp [*, errW_none, errW_some] <;> rfl), by repeat (first | (with_reducible first | exact HB.out | apply below_alloc | apply pw_below_drewN | apply below_drew1) | exact HB.out)⟩
        · rw [if_neg c48] at H
          have c48b0 : (t502 == 0) = false := beq_eq_false_iff_ne.mpr c48
          have c48b1 : (t502 != 0) = true := bne_iff_ne.mpr c48
          obtain rfl := Option.some.inj H
          go_enter Try.func11, Try.ntmps11
          go_wp2_with (first | ((with_reducible refine gate_callee (f := 40) rfl ?_); refine goesL_ (some 8) rfl rfl Try.func40 (by kernel_rfl) rfl #[] rfl (by (try simp only [List.map_toArray, List.map_cons, List.map_nil]); first | done | rfl | (simp only [List.length_drop, List.length_take]; rfl)) ?_; (with_reducible refine (trunnionlaw02_awake.calls k  true _ A3.out).mono ?_); rintro e w74 ⟨rfl, hb⟩; refine ⟨_, rfl, ?_⟩; have n0_ := Aside0.mk (below_step (by repeat (first | (with_reducible first | exact HB.out | apply below_alloc | apply pw_below_drewN | apply below_drew1) | exact HB.out)) hb); clear HB; have HB := n0_; clear n0_; (try clear hb); (try clear hb2); (try clear hk); (try clear hi)) | ((with_reducible refine gate_callee (f := 59) rfl ?_); refine goesL_ (some 12) rfl rfl Try.func59 (by kernel_rfl) rfl #[.int .i64 a0] rfl (by (try simp only [List.map_toArray, List.map_cons, List.map_nil]); first | done | rfl | (simp only [List.length_drop, List.length_take]; rfl)) ?_; (with_reducible refine (shape_Fields.calls a0 t501 t502 _ A5.out).mono ?_); rintro e w75 ⟨rfl, hb⟩; refine ⟨_, rfl, ?_⟩; have n0_ := Aside0.mk (below_step (by repeat (first | (with_reducible first | exact HB.out | apply below_alloc | apply pw_below_drewN | apply below_drew1) | exact HB.out)) hb); clear HB; have HB := n0_; clear n0_; (try clear hb); (try clear hb2); (try clear hk); (try clear hi)) | ((with_reducible refine gate_callee (f := 29) rfl ?_); refine goesL_ (some 16) rfl rfl Try.func29 (by kernel_rfl) rfl #[.int .i64 a0] rfl (by (try simp only [List.map_toArray, List.map_cons, List.map_nil]); first | done | rfl | (simp only [List.length_drop, List.length_take]; rfl)) ?_; (with_reducible refine (trunnionref02_Known.calls a0 false _ A6.out).mono ?_); rintro e w' ⟨rfl, ⟨nd, rfl⟩⟩; refine ⟨_, rfl, ?_⟩))
          go_ret
          exact ⟨by first | rfl | (simp [errW_none, errW_some] <;> rfl) | (simp [*, errW_none, errW_some] <;> rfl), by repeat (first | (with_reducible first | exact HB.out | apply below_alloc | apply pw_below_drewN | apply below_drew1) | exact HB.out)⟩
      · rw [if_neg c47] at H
        have c47b0 : (t501 == 0) = false := beq_eq_false_iff_ne.mpr c47
        have c47b1 : (t501 != 0) = true := bne_iff_ne.mpr c47
        obtain rfl := Option.some.inj H
        go_enter Try.func11, Try.ntmps11
        go_wp2_with (first | ((with_reducible refine gate_callee (f := 40) rfl ?_); refine goesL_ (some 8) rfl rfl Try.func40 (by kernel_rfl) rfl #[] rfl (by (try simp only [List.map_toArray, List.map_cons, List.map_nil]); first | done | rfl | (simp only [List.length_drop, List.length_take]; rfl)) ?_; (with_reducible refine (trunnionlaw02_awake.calls k  true _ A3.out).mono ?_); rintro e w76 ⟨rfl, hb⟩; refine ⟨_, rfl, ?_⟩; have n0_ := Aside0.mk (below_step (by repeat (first | (with_reducible first | exact HB.out | apply below_alloc | apply pw_below_drewN | apply below_drew1) | exact HB.out)) hb); clear HB; have HB := n0_; clear n0_; (try clear hb); (try clear hb2); (try clear hk); (try clear hi)) | ((with_reducible refine gate_callee (f := 59) rfl ?_); refine goesL_ (some 12) rfl rfl Try.func59 (by kernel_rfl) rfl #[.int .i64 a0] rfl (by (try simp only [List.map_toArray, List.map_cons, List.map_nil]); first | done | rfl | (simp only [List.length_drop, List.length_take]; rfl)) ?_; (with_reducible refine (shape_Fields.calls a0 t501 t502 _ A5.out).mono ?_); rintro e w77 ⟨rfl, hb⟩; refine ⟨_, rfl, ?_⟩; have n0_ := Aside0.mk (below_step (by repeat (first | (with_reducible first | exact HB.out | apply below_alloc | apply pw_below_drewN | apply below_drew1) | exact HB.out)) hb); clear HB; have HB := n0_; clear n0_; (try clear hb); (try clear hb2); (try clear hk); (try clear hi)) | ((with_reducible refine gate_callee (f := 29) rfl ?_); refine goesL_ (some 16) rfl rfl Try.func29 (by kernel_rfl) rfl #[.int .i64 a0] rfl (by (try simp only [List.map_toArray, List.map_cons, List.map_nil]); first | done | rfl | (simp only [List.length_drop, List.length_take]; rfl)) ?_; (with_reducible refine (trunnionref02_Known.calls a0 false _ A6.out).mono ?_); rintro e w' ⟨rfl, ⟨nd, rfl⟩⟩; refine ⟨_, rfl, ?_⟩))
        go_ret
        exact ⟨by first | rfl | (simp [errW_none, errW_some] <;> rfl) | (simp [*, errW_none, errW_some] <;> rfl), by repeat (first | (with_reducible first | exact HB.out | apply below_alloc | apply pw_below_drewN | apply below_drew1) | exact HB.out)⟩
  · replace c4 := Bool.eq_false_iff.mpr c4
    subst c4
    have H1 : (some false) = some r := by rw [if_neg (show ¬ (false = true) by decide)] at H; exact H
    clear H
    have H := H1
    clear H1
    obtain rfl := Option.some.inj H
    go_enter Try.func11, Try.ntmps11
    go_wp2_with (first | ((with_reducible refine gate_callee (f := 40) rfl ?_); refine goesL_ (some 8) rfl rfl Try.func40 (by kernel_rfl) rfl #[] rfl (by (try simp only [List.map_toArray, List.map_cons, List.map_nil]); first | done | rfl | (simp only [List.length_drop, List.length_take]; rfl)) ?_; (with_reducible refine (trunnionlaw02_awake.calls k  false _ A3.out).mono ?_); rintro e w78 ⟨rfl, hb⟩; refine ⟨_, rfl, ?_⟩; have n0_ := Aside0.mk (below_step (by repeat (first | (with_reducible first | exact HB.out | apply below_alloc | apply pw_below_drewN | apply below_drew1) | exact HB.out)) hb); clear HB; have HB := n0_; clear n0_; (try clear hb); (try clear hb2); (try clear hk); (try clear hi)))
    go_ret
    exact ⟨by first | rfl | (simp [errW_none, errW_some] <;> rfl) | (simp [*, errW_none, errW_some] <;> rfl), by repeat (first | (with_reducible first | exact HB.out | apply below_alloc | apply pw_below_drewN | apply below_drew1) | exact HB.out)⟩

/-- THE ONE PURE STATEMENT of trunnionlaw02_ShapeEnds: yours. -/
def trunnionlaw02_ShapeEnds.Pure : Prop := ∀ (a0 : Int) (a1 : Bool), (Lit.int .i64 a0).wf = true → ∃ k, trunnionlaw02_ShapeEnds.f k a0 a1 = some true
theorem trunnionlaw02_ShapeEnds.walk (P : trunnionlaw02_ShapeEnds.Pure) (a0 : Int) (a1 : Bool) (w : World) (w0 : (Lit.int .i64 a0).wf = true) :
    Calls Try.prog 11 #[.int .i64 a0, .bool a1] w fun e w' => e = .returned (.bool true) ∧ Below w.heap.size w w' := by
  obtain ⟨k, h⟩ := P a0 a1 w0
  refine (trunnionlaw02_ShapeEnds.calls k a0 a1 true w h).mono ?_
  rintro e w' ⟨rfl, hd⟩
  exact ⟨rfl, hd⟩

end Go.Proofs.Ytmjfenbbgfohlaa.PA

namespace Bit
theorem or_pow (x c k : Nat) (hx : x < 2 ^ k) : x ||| c * 2 ^ k = x + c * 2 ^ k := by
  rw [Nat.mul_comm, Nat.or_comm, ← Nat.two_pow_add_eq_or_of_lt hx, Nat.add_comm]
theorem and_low (a k : Nat) : a &&& (2 ^ k - 1) = a % 2 ^ k := Nat.and_two_pow_sub_one_eq_mod a k
end Bit

set_option linter.unusedVariables false
set_option linter.unusedSimpArgs false
namespace Go.Proofs.Ytmjfenbbgfohlaa.Th
open Go.RowKit Go.Proofs.YtmjfenbbgfohlaaW.PrintWords Go.Proofs.YtmjfenbbgfohlaaW.PrintLast Go.Proofs.YtmjfenbbgfohlaaW.PrintMore Go.Proofs.Ytmjfenbbgfohlaa.PA Bit
/-! ### shape.Cut, sign -/
def sb (w : Int) : Nat := if w = 32 then 2147483648 else 9223372036854775808
/-- has it a sign -/
def sgB (w : Int) (a : Nat) : Bool := decide (a / sb w % 2 = 1)
/-- without a sign -/
def magN (w : Int) (a : Nat) : Nat := a % sb w
/-- with a sign, or without -/
def mkN (w : Int) (m : Nat) (s : Bool) : Nat := m + if s then sb w else 0
theorem sg_mk (w : Int) (hw : w = 32 ∨ w = 64) (m : Nat) (s : Bool) (h : m < sb w) : sgB w (mkN w m s) = s := by
  unfold sgB mkN; revert h; unfold sb; rcases hw with rfl | rfl <;> cases s <;> simp <;> omega
/-! ### the document's -/
theorem known_f (w : Int) : trunnionref02_Known.f w = some (decide (w = 32 ∨ w = 64)) := by
  unfold trunnionref02_Known.f
  by_cases h : w = 32
  · rw [if_pos h]; simp [h]
  · rw [if_neg h]; congr 1; by_cases h2 : w = 64 <;> simp [h, h2]
theorem Ev.pos {α : Type} {c : Prop} [Decidable c] {f g : Nat → Option α} {r : α} (h : c) (k : Ev f r) : Ev (fun n => if c then f n else g n) r := Ev.congr (fun _ => if_pos h) k
theorem Ev.neg {α : Type} {c : Prop} [Decidable c] {f g : Nat → Option α} {r : α} (h : ¬ c) (k : Ev g r) : Ev (fun n => if c then f n else g n) r := Ev.congr (fun _ => if_neg h) k
theorem Ev.bs {α β : Type} {g : Option α} {a : α} {f : Nat → α → Option β} {r : β} (h : g = some a) (k : Ev (fun n => f n a) r) : Ev (fun n => g.bind (f n)) r := by subst h; exact k
theorem Ev.out {α : Type} {r s : α} (h : r = s) : Ev (fun _ => some r) s := by subst h; exact Ev.now _
theorem u64_id {n : Int} (h : 0 ≤ n) (h2 : n < 18446744073709551616) : IntKind.u64.wrap n = n := by rw [IntKind.wrap_u64]; omega
theorem w64_id {n : Int} (h : -9223372036854775808 ≤ n) (h2 : n < 9223372036854775808) : wrap64 n = n := by unfold wrap64; omega
theorem two_loop (n : Nat) (hn : n < 64) (d : Nat) : ∀ i : Nat, i ≤ n → n - i = d → Ev (fun k => trunnionref02_Two.l0 k n (2 ^ i : Nat) i) ((2 ^ n : Nat) : Int) := by
  induction d with
  | zero =>
    intro i hi hd
    obtain rfl : i = n := by omega
    refine Ev.step (fun _ => trunnionref02_Two.l0.eq_2 ..) ?_
    exact Ev.neg (by omega) (Ev.out rfl)
  | succ d ih =>
    intro i hi hd
    refine Ev.step (fun _ => trunnionref02_Two.l0.eq_2 ..) ?_
    refine Ev.pos (by omega) ?_
    have h := ih (i + 1) (by omega) (by omega)
    have hp : 2 ^ i ≤ 4611686018427387904 * 2 := by
      have : 2 ^ i ≤ 2 ^ 63 := Nat.pow_le_pow_right (by decide) (by omega)
      simpa using this
    have hp2 : 2 ^ (i + 1) ≤ 9223372036854775808 := by
      have : 2 ^ (i + 1) ≤ 2 ^ 63 := Nat.pow_le_pow_right (by decide) (by omega)
      simpa using this
    rw [Nat.pow_succ] at h hp2
    generalize 2 ^ i = P at *
    rw [u64_id (by omega) (by omega), w64_id (by omega) (by omega), show (2 : Int) * (P : Int) = ((P * 2 : Nat) : Int) by omega, show (i : Int) + 1 = ((i + 1 : Nat) : Int) by omega]
    exact h
theorem two_f (n : Nat) (hn : n < 64) : Ev (fun k => trunnionref02_Two.f k n) ((2 ^ n : Nat) : Int) := two_loop n hn _ 0 (by omega) rfl
end Go.Proofs.Ytmjfenbbgfohlaa.Th

namespace Flo

/-! ### powers of two -/
def tw (k : Int) : Rat := (2 : Rat) ^ k
theorem tw_pos (k : Int) : 0 < tw k := Rat.zpow_pos (by decide)
theorem tw_add (a b : Int) : tw (a + b) = tw a * tw b := Rat.zpow_add (by decide) a b
theorem tw_one : tw 1 = 2 := Rat.zpow_one ..
theorem tw_succ (a : Int) : tw (a + 1) = 2 * tw a := by rw [tw_add, tw_one, Rat.mul_comm]
theorem tw_pred (a : Int) : tw a = 2 * tw (a - 1) := by
  have := tw_succ (a - 1); rwa [Int.sub_add_cancel] at this
theorem tw_nat (n : Nat) : tw n = ((2 ^ n : Nat) : Rat) := by
  unfold tw; rw [Rat.zpow_natCast]; simp
theorem mul_lt {a b t : Rat} (h : a < b) (ht : 0 < t) : a * t < b * t := Rat.mul_lt_mul_of_pos_right h ht
theorem lt_of_mul {a b t : Rat} (h : a * t < b * t) (ht : 0 < t) : a < b := Rat.lt_of_mul_lt_mul_right h (Rat.le_of_lt ht)
theorem le_of_mul {a b t : Rat} (h : a * t ≤ b * t) (ht : 0 < t) : a ≤ b := Rat.le_of_mul_le_mul_right h ht
theorem nat_lt {a b : Nat} : ((a : Nat) : Rat) < (b : Rat) ↔ a < b := Rat.natCast_lt_natCast
theorem nat_le {a b : Nat} : ((a : Nat) : Rat) ≤ (b : Rat) ↔ a ≤ b := Rat.natCast_le_natCast

/-! ### formats -/
structure Fmt where
  f : Nat
  low : Int
  top : Nat
  hf : 1 ≤ f
  ht : 2 ≤ top
namespace Fmt
variable (F : Fmt)
def inf : Nat := F.top * 2 ^ F.f
def sg (m : Nat) : Nat := if m < 2 ^ F.f then m else 2 ^ F.f + m % 2 ^ F.f
def ex (m : Nat) : Int := if m < 2 ^ F.f then F.low else (m / 2 ^ F.f : Nat) - 1 + F.low
def val (m : Nat) : Rat := (F.sg m : Rat) * tw (F.ex m)
def mid (m : Nat) : Rat := ((2 * F.sg m + 1 : Nat) : Rat) * tw (F.ex m - 1)
theorem pow_pos : 0 < 2 ^ F.f := Nat.pow_pos (by decide)
/-- the bits of a power and a number of so many of it -/
theorem sg_mk (q n : Nat) (h : n < 2 ^ (F.f + 1)) (hq : 0 < q → 2 ^ F.f ≤ n) : F.sg (q * 2 ^ F.f + n) = n ∧ F.ex (q * 2 ^ F.f + n) = q + F.low := by
  have hp := F.pow_pos
  rw [Nat.pow_succ] at h
  unfold sg ex
  by_cases h1 : n < 2 ^ F.f
  · have : q = 0 := by
      rcases Nat.eq_zero_or_pos q with h | h
      · exact h
      · have := hq h; omega
    subst this
    simp [h1]
  · have e : q * 2 ^ F.f + n = (n - 2 ^ F.f) + 2 ^ F.f * (q + 1) := by
      rw [Nat.mul_add, Nat.mul_comm q]; omega
    have h2 : ¬ (q * 2 ^ F.f + n < 2 ^ F.f) := by
      have := Nat.zero_le (q * 2 ^ F.f); omega
    rw [if_neg h2, if_neg h2, e, Nat.add_mul_mod_self_left, Nat.add_mul_div_left _ _ hp, Nat.mod_eq_of_lt (by omega), Nat.div_eq_of_lt (by omega)]
    constructor
    · omega
    · omega
theorem sg_ex (m : Nat) : ∃ q n, m = q * 2 ^ F.f + n ∧ n < 2 ^ (F.f + 1) ∧ (0 < q → 2 ^ F.f ≤ n) ∧ F.sg m = n ∧ F.ex m = q + F.low := by
  have hp := F.pow_pos
  by_cases h : m < 2 ^ F.f
  · refine ⟨0, m, by simp, by rw [Nat.pow_succ]; omega, by simp, ?_, ?_⟩ <;> simp [sg, ex, h]
  · have h3 := Nat.div_add_mod m (2 ^ F.f)
    have h4 : 1 ≤ m / 2 ^ F.f := (Nat.le_div_iff_mul_le hp).2 (by omega)
    have h5 := Nat.mod_lt m hp
    have h6 : m = (m / 2 ^ F.f - 1) * 2 ^ F.f + (2 ^ F.f + m % 2 ^ F.f) := by
      rw [Nat.sub_mul, Nat.one_mul, Nat.mul_comm (m / 2 ^ F.f)]
      have : 2 ^ F.f ≤ 2 ^ F.f * (m / 2 ^ F.f) := Nat.le_mul_of_pos_right _ h4
      omega
    have h7 : 2 ^ F.f + m % 2 ^ F.f < 2 ^ (F.f + 1) := by rw [Nat.pow_succ]; omega
    have := F.sg_mk (m / 2 ^ F.f - 1) (2 ^ F.f + m % 2 ^ F.f) h7 (by omega)
    rw [← h6] at this
    exact ⟨_, _, h6, h7, by omega, this.1, this.2⟩
theorem val_succ (m : Nat) : F.val (m + 1) = F.val m + tw (F.ex m) := by
  obtain ⟨q, n, e, hn, hq, h1, h2⟩ := F.sg_ex m
  have hp := F.pow_pos
  by_cases h : n + 1 < 2 ^ (F.f + 1)
  · obtain ⟨h3, h4⟩ := F.sg_mk q (n + 1) h (fun h => by have := hq h; omega)
    unfold val
    rw [h1, h2, e, Nat.add_assoc, h3, h4]
    push_cast
    grind
  · have hn1 : n + 1 = 2 ^ F.f + 2 ^ F.f := by rw [Nat.pow_succ] at h hn; omega
    have e2 : m + 1 = (q + 1) * 2 ^ F.f + 2 ^ F.f := by rw [e, Nat.add_mul]; omega
    obtain ⟨h3, h4⟩ := F.sg_mk (q + 1) (2 ^ F.f) (by rw [Nat.pow_succ]; omega) (fun _ => Nat.le_refl _)
    unfold val
    rw [h1, h2, e2, h3, h4]
    have : (((q + 1 : Nat) : Int) + F.low) = (q + F.low) + 1 := by omega
    rw [this, tw_succ]
    have h5 : ((n : Nat) : Rat) + 1 = ((2 ^ F.f : Nat) : Rat) + ((2 ^ F.f : Nat) : Rat) := by exact_mod_cast hn1
    grind
theorem mid_eq (m : Nat) : F.mid m = F.val m + tw (F.ex m - 1) := by
  unfold mid val
  rw [tw_pred (F.ex m)]
  push_cast
  grind
theorem mid_lt_succ (m : Nat) : F.mid m < F.val (m + 1) := by
  rw [mid_eq, val_succ, tw_pred (F.ex m)]
  have := tw_pos (F.ex m - 1)
  grind
theorem lt_mid (m : Nat) : F.val m < F.mid m := by
  rw [mid_eq]
  have := tw_pos (F.ex m - 1)
  grind
theorem val_lt_succ (m : Nat) : F.val m < F.val (m + 1) := by
  rw [val_succ]
  have := tw_pos (F.ex m)
  grind
theorem val_mono {a b : Nat} (h : a ≤ b) : F.val a ≤ F.val b := by
  induction b with
  | zero => obtain rfl : a = 0 := by omega
            exact Rat.le_refl
  | succ b ih =>
    rcases Nat.lt_or_ge b a with h1 | h1
    · obtain rfl : a = b + 1 := by omega
      exact Rat.le_refl
    · have := ih h1
      have := F.val_lt_succ b
      grind
theorem mid_lt {a b : Nat} (h : a < b) : F.mid a < F.mid b := by
  have h1 := F.mid_lt_succ a
  have h2 := F.val_mono (show a + 1 ≤ b by omega)
  have h3 := F.lt_mid b
  grind
/-! ### rounding: what is above a middle -/
def Up (x : Rat) (m : Nat) : Prop := F.mid m < x ∨ F.mid m = x ∧ m % 2 = 1
def Rnd (U : Nat → Prop) (r : Nat) : Prop := r ≤ F.inf ∧ (∀ m, m < r → U m) ∧ (r < F.inf → ¬ U r)
theorem Rnd.exact {m : Nat} (h : m ≤ F.inf) : F.Rnd (F.Up (F.val m)) m := by
  refine ⟨h, fun k hk => .inl ?_, fun _ u => ?_⟩
  · have h1 := F.mid_lt_succ k
    have h2 := F.val_mono (show k + 1 ≤ m by omega)
    grind
  · have h1 := F.lt_mid m
    rcases u with u | ⟨u, _⟩ <;> grind
/-- The one rule by which all are rounded: to n times 2^(low + q), if that is where its last bit stands. -/
theorem Rnd.make {x : Rat} {q n : Nat} (hx : x < tw (q + F.low + F.f + 1)) (hq : 0 < q → tw (q + F.low + F.f) ≤ x)
    (hd : 0 < n → ((2 * n - 1 : Nat) : Rat) * tw (q + F.low - 1) < x ∨ ((2 * n - 1 : Nat) : Rat) * tw (q + F.low - 1) = x ∧ n % 2 = 0)
    (hu : x < ((2 * n + 1 : Nat) : Rat) * tw (q + F.low - 1) ∨ x = ((2 * n + 1 : Nat) : Rat) * tw (q + F.low - 1) ∧ n % 2 = 0) :
    F.Rnd (F.Up x) (min F.inf (q * 2 ^ F.f + n)) := by
  have hp := F.pow_pos
  have T := tw_pos (q + F.low - 1)
  -- n is at most 2^(f+1), and at least 2^f where q is not 0
  have e1 : tw (q + F.low + F.f + 1) = ((2 ^ (F.f + 2) : Nat) : Rat) * tw (q + F.low - 1) := by
    rw [← tw_nat, ← tw_add]; congr 1; omega
  have e2 : tw (q + F.low + F.f) = ((2 ^ (F.f + 1) : Nat) : Rat) * tw (q + F.low - 1) := by
    rw [← tw_nat, ← tw_add]; congr 1; omega
  have hn : n ≤ 2 ^ (F.f + 1) := by
    rcases Nat.eq_zero_or_pos n with h | h
    · omega
    · have h1 : ((2 * n - 1 : Nat) : Rat) * tw (q + F.low - 1) < ((2 ^ (F.f + 2) : Nat) : Rat) * tw (q + F.low - 1) := by
        rw [← e1]
        rcases hd h with h | ⟨h, _⟩ <;> grind
      have h2 := nat_lt.1 (lt_of_mul h1 T)
      rw [Nat.pow_succ] at h2
      omega
  have hl : 0 < q → 2 ^ F.f ≤ n := by
    intro h
    have h1 := hq h
    have h2 : ((2 ^ (F.f + 1) : Nat) : Rat) * tw (q + F.low - 1) ≤ ((2 * n + 1 : Nat) : Rat) * tw (q + F.low - 1) := by
      rw [← e2]
      rcases hu with h | ⟨h, _⟩ <;> grind
    have h3 := nat_le.1 (le_of_mul h2 T)
    rw [Nat.pow_succ] at h3
    omega
  have par : (q * 2 ^ F.f + n) % 2 = n % 2 := by
    obtain ⟨g, hg⟩ : ∃ g, F.f = g + 1 := ⟨F.f - 1, by have := F.hf; omega⟩
    rw [hg, Nat.pow_succ, ← Nat.mul_assoc]; omega
  -- what is below the answer is above its middle
  have hbelow : ∀ m, m < q * 2 ^ F.f + n → F.Up x m := by
    intro m hm
    have hlast : F.Up x (q * 2 ^ F.f + n - 1) := by
      by_cases h : n ≤ 2 ^ F.f ∧ 0 < q
      · obtain ⟨h, h0⟩ := h
        have h1 : n = 2 ^ F.f := Nat.le_antisymm h (hl h0)
        have e3 : q * 2 ^ F.f + n - 1 = (q - 1) * 2 ^ F.f + (2 ^ (F.f + 1) - 1) := by
          rw [h1, Nat.pow_succ]
          have : q * 2 ^ F.f = (q - 1) * 2 ^ F.f + 2 ^ F.f := by rw [← Nat.succ_mul]; congr 1; omega
          omega
        obtain ⟨h3, h4⟩ := F.sg_mk (q - 1) (2 ^ (F.f + 1) - 1) (by have := Nat.pow_pos (n := F.f + 1) (show 0 < 2 by decide); omega) (by intro _; rw [Nat.pow_succ]; omega)
        refine .inl ?_
        unfold mid
        rw [e3, h3, h4]
        have h5 := hq h0
        have e4 : tw (q + F.low + F.f) = ((2 ^ (F.f + 2) : Nat) : Rat) * tw ((q - 1 : Nat) + F.low - 1) := by
          rw [← tw_nat, ← tw_add]; congr 1; omega
        have h6 : 2 * (2 ^ (F.f + 1) - 1) + 1 < 2 ^ (F.f + 2) := by
          have h7 : 2 ^ (F.f + 2) = 2 ^ (F.f + 1) * 2 := Nat.pow_succ ..
          have h8 := Nat.pow_pos (n := F.f + 1) (show 0 < 2 by decide)
          omega
        have h7 := mul_lt (nat_lt.2 h6) (tw_pos ((q - 1 : Nat) + F.low - 1))
        grind
      · have hn0 : 0 < n := by
          rcases Nat.eq_zero_or_pos n with h0 | h0
          · subst h0
            rcases Nat.eq_zero_or_pos q with h1 | h1
            · subst h1; omega
            · exact absurd ⟨by omega, h1⟩ h
          · exact h0
        have h1 : 0 < q → 2 ^ F.f ≤ n - 1 := by
          intro h0
          have := hl h0
          have : ¬ n ≤ 2 ^ F.f := fun h' => h ⟨h', h0⟩
          omega
        obtain ⟨h3, h4⟩ := F.sg_mk q (n - 1) (by omega) h1
        have e3 : q * 2 ^ F.f + n - 1 = q * 2 ^ F.f + (n - 1) := by omega
        have e4 : 2 * (n - 1) + 1 = 2 * n - 1 := by omega
        unfold Up mid
        rw [e3, h3, h4, e4]
        rcases hd hn0 with h5 | ⟨h5, h6⟩
        · exact .inl h5
        · refine .inr ⟨h5, ?_⟩
          rw [← e3]; omega
    rcases Nat.lt_or_ge m (q * 2 ^ F.f + n - 1) with h1 | h1
    · have h2 := F.mid_lt h1
      rcases hlast with h3 | ⟨h3, _⟩ <;> exact .inl (by grind)
    · obtain rfl : m = q * 2 ^ F.f + n - 1 := by omega
      exact hlast
  refine ⟨Nat.min_le_left _ _, fun m hm => hbelow m (by omega), fun h => ?_⟩
  have hm : min F.inf (q * 2 ^ F.f + n) = q * 2 ^ F.f + n := by omega
  rw [hm]
  by_cases h1 : n < 2 ^ (F.f + 1)
  · obtain ⟨h3, h4⟩ := F.sg_mk q n h1 hl
    unfold Up mid
    rw [h3, h4, par]
    rintro (h5 | ⟨h5, h6⟩) <;> rcases hu with h7 | ⟨h7, h8⟩
    · grind
    · grind
    · grind
    · omega
  · have h1 : n = 2 ^ (F.f + 1) := by omega
    have e3 : q * 2 ^ F.f + n = (q + 1) * 2 ^ F.f + 2 ^ F.f := by rw [h1, Nat.pow_succ, Nat.add_mul]; omega
    obtain ⟨h3, h4⟩ := F.sg_mk (q + 1) (2 ^ F.f) (by rw [Nat.pow_succ]; omega) (fun _ => Nat.le_refl _)
    have h9 := F.lt_mid (q * 2 ^ F.f + n)
    have h10 : F.val (q * 2 ^ F.f + n) = tw (q + F.low + F.f + 1) := by
      unfold val
      rw [e3, h3, h4, ← tw_nat, ← tw_add]; congr 1; omega
    rintro (h5 | ⟨h5, h6⟩) <;> grind
end Fmt
end Flo

set_option linter.unusedVariables false
set_option linter.unusedSimpArgs false
namespace Go.Proofs.Ytmjfenbbgfohlaa.Th
open Go.RowKit Go.Proofs.YtmjfenbbgfohlaaW.PrintWords Go.Proofs.YtmjfenbbgfohlaaW.PrintLast Go.Proofs.YtmjfenbbgfohlaaW.PrintMore Go.Proofs.Ytmjfenbbgfohlaa.PA Bit Flo
/-! ### the formats -/
def f32 : Fmt := ⟨23, -149, 255, by decide, by decide⟩
def f64 : Fmt := ⟨52, -1074, 2047, by decide, by decide⟩
def fmt (w : Int) : Fmt := if w = 32 then f32 else f64
/-- a float taken apart: its sign, kind, exponent, bits -/
def opn (w : Int) (a : Nat) : Bool × Int × Int × Int :=
  let F := fmt w
  let m := magN w a
  if m = 0 then (sgB w a, 0, 0, 0) else if m < F.inf then (sgB w a, 1, F.ex m, (F.sg m : Int)) else if m = F.inf then (sgB w a, 2, 0, 0) else (false, 3, 0, 0)

/-! ### width 32 -/
theorem ones32 : shape_format_ones.f 8 23 = some 255 := by decide +kernel
theorem low32 : shape_format_low.f 8 23 = some (-149) := by decide +kernel
theorem inf32 : f32.inf = 2139095040 := by decide
theorem sg32 (m : Nat) : f32.sg m = if m < 8388608 then m else 8388608 + m % 8388608 := by
  unfold Fmt.sg; rw [show (2 : Nat) ^ f32.f = 8388608 by decide]
theorem ex32 (m : Nat) : f32.ex m = if m < 8388608 then (-149 : Int) else ((m / 8388608 : Nat) : Int) - 1 + (-149) := by
  unfold Fmt.ex; rw [show (2 : Nat) ^ f32.f = 8388608 by decide]; rfl
theorem opn32 (a : Nat) : opn 32 a = if a % 2147483648 = 0 then (decide (a / 2147483648 % 2 = 1), 0, 0, 0) else if a % 2147483648 < 2139095040 then (decide (a / 2147483648 % 2 = 1), 1, (if a % 2147483648 < 8388608 then (-149 : Int) else ((a % 2147483648 / 8388608 : Nat) : Int) - 1 + (-149)), ((if a % 2147483648 < 8388608 then a % 2147483648 else 8388608 + a % 2147483648 % 8388608 : Nat) : Int))
    else if a % 2147483648 = 2139095040 then (decide (a / 2147483648 % 2 = 1), 2, 0, 0) else (false, 3, 0, 0) := by
  unfold opn
  simp only [show fmt 32 = f32 from rfl, inf32, sg32, ex32, magN, sgB, show sb 32 = 2147483648 by decide]
theorem split32 (a : Nat) (ha : a < 18446744073709551616) : shape_format_split.f 8 23 a = some (8, 23, decide (a / 2147483648 % 2 = 1), ((a / 8388608 % 256 : Nat) : Int), ((a % 8388608 : Nat) : Int)) := by
  unfold shape_format_split.f
  rw [show wrap64 (8 + 23) = 31 by decide +kernel, if_pos (by decide), if_pos (by decide), ones32, Option.bind_some]
  have e1 : shr .u64 (a : Int) 31 = ((a / 2147483648 : Nat) : Int) := by
    unfold shr; rw [show min (31 : Int).toNat IntKind.u64.bits = 31 by decide, show (2 : Int) ^ 31 = 2147483648 by decide]; omega
  have e2 : shr .u64 (a : Int) 23 = ((a / 8388608 : Nat) : Int) := by
    unfold shr; rw [show min (23 : Int).toNat IntKind.u64.bits = 23 by decide, show (2 : Int) ^ 23 = 8388608 by decide]; omega
  have e3 : IntKind.u64.wrap ((shl .u64 1 23) - 1) = ((8388607 : Nat) : Int) := by decide +kernel
  rw [e1, e2, e3, show (1 : Int) = ((1 : Nat) : Int) from rfl, show (255 : Int) = ((255 : Nat) : Int) from rfl,
    u64_and_nat _ 1 (by omega) (by decide), u64_and_nat _ 255 (by omega) (by decide), u64_and_nat a 8388607 ha (by decide)]
  have h1 := and_low (a / 2147483648) 1
  have h2 := and_low (a / 8388608) 8
  have h3 := and_low a 23
  rw [show (2 : Nat) ^ 1 - 1 = 1 by decide, show (2 : Nat) ^ 1 = 2 by decide] at h1
  rw [show (2 : Nat) ^ 8 - 1 = 255 by decide, show (2 : Nat) ^ 8 = 256 by decide] at h2
  rw [show (2 : Nat) ^ 23 - 1 = 8388607 by decide, show (2 : Nat) ^ 23 = 8388608 by decide] at h3
  rw [h1, h2, h3]
  have hb : ((((a / 2147483648 % 2 : Nat) : Int) == ((1 : Nat) : Int)) : Bool) = decide (a / 2147483648 % 2 = 1) := by
    rw [Bool.eq_iff_iff]; simp; omega
  rw [hb]
theorem open32 (a : Nat) (ha : a < 18446744073709551616) : Ev (fun k => shape_Open.f k 32 a) (opn 32 a) := by
  rw [opn32]
  unfold shape_Open.f
  refine Ev.bs (show shape_of.f 32 = some (8, 23, true) by decide) (Ev.pos rfl (Ev.bs (split32 a ha) (Ev.bs ones32 ?_)))
  simp only
  have hP : a % 2147483648 % 8388608 = a % 8388608 := by omega
  have hQ : a % 2147483648 / 8388608 = a / 8388608 % 256 := by omega
  have hT : a / 8388608 % 256 < 256 := Nat.mod_lt _ (by decide)
  have hE : a % 2147483648 = a / 8388608 % 256 * 8388608 + a % 8388608 := by omega
  rw [hP, hQ, hE]
  generalize a / 8388608 % 256 = e at *
  have hF : a % 8388608 < 8388608 := Nat.mod_lt _ (by decide)
  generalize a % 8388608 = fr at *
  generalize decide (a / 2147483648 % 2 = 1) = s
  by_cases h1 : e = 255
  · subst h1
    refine Ev.pos rfl ?_
    refine Ev.step (fun _ => shape_Open.j0.eq_2 ..) ?_
    by_cases h2 : fr = 0
    · subst h2
      refine Ev.neg (by decide) (Ev.bs ones32 (Ev.pos rfl (Ev.out ?_)))
      rw [if_neg (by omega), if_neg (by omega), if_pos (by omega)]
    · refine Ev.pos (by simp; omega) (Ev.out ?_)
      rw [if_neg (by omega), if_neg (by omega), if_neg (by omega)]
  · refine Ev.neg (by omega) ?_
    refine Ev.step (fun _ => shape_Open.j0.eq_2 ..) ?_
    refine Ev.neg (by decide) (Ev.bs ones32 (Ev.neg (by omega) ?_))
    by_cases h2 : e = 0
    · subst h2
      refine Ev.pos rfl (Ev.step (fun _ => shape_Open.j1.eq_2 ..) ?_)
      by_cases h3 : fr = 0
      · subst h3
        refine Ev.pos (by decide) (Ev.out ?_)
        rw [Nat.zero_mul, Nat.zero_add, if_pos rfl]
      · refine Ev.neg (by simp; omega) (Ev.pos rfl (Ev.bs low32 (Ev.out ?_)))
        rw [if_neg (by omega), if_pos (by omega), if_pos (by omega), if_pos (by omega)]
        simp
    · refine Ev.neg (by omega) (Ev.step (fun _ => shape_Open.j1.eq_2 ..) ?_)
      refine Ev.neg (by decide) (Ev.neg (by omega) (Ev.bs low32 (Ev.pos (by decide) (Ev.out ?_))))
      rw [if_neg (by omega), if_pos (by omega), if_neg (by omega), if_neg (by omega)]
      rw [w64_id (n := ((e : Nat) : Int)) (by omega) (by omega), w64_id (n := (-149 : Int) + _) (by omega) (by omega), w64_id (by omega) (by omega)]
      have e4 : shl .u64 1 23 = ((8388608 : Nat) : Int) := by decide +kernel
      rw [e4, u64_or_nat _ _ (by decide) (by omega)]
      have h4 := or_pow fr 1 23 (by rw [show (2 : Nat) ^ 23 = 8388608 by decide]; exact hF)
      rw [Nat.one_mul, show (2 : Nat) ^ 23 = 8388608 by decide, Nat.or_comm] at h4
      rw [h4, Nat.add_comm fr]
      congr 2
      congr 1
      omega

/-! ### width 64 -/
theorem ones64 : shape_format_ones.f 11 52 = some 2047 := by decide +kernel
theorem inf64 : f64.inf = 9218868437227405312 := by decide
end Go.Proofs.Ytmjfenbbgfohlaa.Th

namespace Go.Proofs.Ytmjfenbbgfohlaa.PA
open Go.RowKit Go.Proofs.YtmjfenbbgfohlaaW.PrintWords Go.Proofs.YtmjfenbbgfohlaaW.PrintLast Go.Proofs.YtmjfenbbgfohlaaW.PrintMore
attribute [local go_sem] max2_int min2_int max_two min_two max_three min_three max_four min_four   -- for this text's walks alone
set_option linter.unusedVariables false
set_option linter.unusedSimpArgs false

/-! ### shape_format_finite: function 155 -/
def shape_format_finite.j0 : Nat → Int → Bool → Int → Int → Bool → Int → Int → Int → Option (Int × Bool)
  | 0, _, _, _, _, _, _, _, _ => none
  | k + 1, x6, x9, x708000, x708001, x709000, x709001, x709002, x709003 => if x9 = true then (some (0, false)) else (if 0 ≤ x708001 then (if x709003 < (shl .u64 1 x708001) then ((shape_format_join.f x708000 x708001 x709000 0 x709003).bind fun t710 => (some (t710, (x709002 == x6)))) else ((shape_format_ones.f x708000 x708001).bind fun t711 => (if (wrap64 (x709002 - x6)) > (wrap64 ((wrap64 (t711)) - 2)) then (some (0, false)) else ((shape_format_join.f x708000 x708001 x709000 (IntKind.u64.wrap ((IntKind.u64.wrap (wrap64 (x709002 - x6))) + 1)) (Go.bits .and .u64 x709003 (IntKind.u64.wrap ((shl .u64 1 x708001) - 1)))).bind fun t712 => (some (t712, true)))))) else (none))
def shape_format_finite.f (k : Nat) (a0_0 : Int) (a0_1 : Int) (a1_0 : Bool) (a1_1 : Int) (a1_2 : Int) (a1_3 : Int) : Option (Int × Bool) := (shape_format_low.f a0_0 a0_1).bind fun t709 => (if a1_3 = 0 then (shape_format_finite.j0 k t709 true a0_0 a0_1 a1_0 a1_1 a1_2 a1_3) else (if 0 ≤ a0_1 then (if a1_3 ≥ (shl .u64 2 a0_1) then (shape_format_finite.j0 k t709 true a0_0 a0_1 a1_0 a1_1 a1_2 a1_3) else (shape_format_finite.j0 k t709 (decide (a1_2 < t709)) a0_0 a0_1 a1_0 a1_1 a1_2 a1_3)) else (none)))
theorem shape_format_finite.mono_l : ∀ k, (∀ y0 y1 y2 y3 y4 y5 y6 y7, LeO (shape_format_finite.j0 k y0 y1 y2 y3 y4 y5 y6 y7) (shape_format_finite.j0 (k + 1) y0 y1 y2 y3 y4 y5 y6 y7))
  | 0 => fun _ _ _ _ _ _ _ _ r h => by simp [shape_format_finite.j0] at h
  | k + 1 => by
    have ih0 := shape_format_finite.mono_l k
    · intro y0 y1 y2 y3 y4 y5 y6 y7
      unfold shape_format_finite.j0
      repeat' first
      | (with_reducible exact ih0 _ _ _ _ _ _ _ _)
      | (with_reducible exact LeO.refl _)
      | (with_reducible exact LeO.none _)
      | (with_reducible refine LeO.ite ?_ ?_)
      | (with_reducible refine LeO.bind ?_ (fun _ => ?_))
      | exact ih0 _ _ _ _ _ _ _ _
      | exact LeO.none _
      | refine LeO.ite ?_ ?_
      | refine LeO.bind ?_ (fun _ => ?_)
theorem shape_format_finite.mono : ∀ a0 a1 a2 a3 a4 a5 k, LeO (shape_format_finite.f k a0 a1 a2 a3 a4 a5) (shape_format_finite.f (k + 1) a0 a1 a2 a3 a4 a5) := by
  intro a0 a1 a2 a3 a4 a5 k
  have ih0 := shape_format_finite.mono_l k
  unfold shape_format_finite.f
  repeat' first
      | (with_reducible exact ih0 _ _ _ _ _ _ _ _)
      | (with_reducible exact LeO.refl _)
      | (with_reducible exact LeO.none _)
      | (with_reducible refine LeO.ite ?_ ?_)
      | (with_reducible refine LeO.bind ?_ (fun _ => ?_))
      | exact ih0 _ _ _ _ _ _ _ _
      | exact LeO.none _
      | refine LeO.ite ?_ ?_
      | refine LeO.bind ?_ (fun _ => ?_)
def shape_format_finite.T2 : Bool × List (List Nat × List Nat) := (true, [([], []), ([0], [0]), ([1], [1]), ([2], [2]), ([3], [3]), ([4, 3], [3, 4]), ([3], [3]), ([6, 3], [3, 6]), ([7, 3], [3, 7]), ([5, 8, 3], [3, 5, 8]), ([3, 9], [3, 9]), ([10, 3], [10]), ([11], [11]), ([12, 11], [11, 12]), ([11], [11]), ([13, 14, 11], [11, 13, 14]), ([11, 15], [11, 15]), ([16, 11], [16])])
def shape_format_finite.B2 : List Nat := [0, 1, 3, 7, 15, 31, 15, 79, 207, 511, 1023, 2047, 4095, 8191, 4095, 32767, 65535, 131071]
theorem shape_format_finite.tab2 : rtab .any (opsOf Try.f155 2) = shape_format_finite.T2 := by kernel_rfl
theorem shape_format_finite.bits2 : waitsOk shape_format_finite.T2.2 shape_format_finite.B2 = true := by kernel_rfl
def shape_format_finite.T5 : Bool × List (List Nat × List Nat) := (true, [([], []), ([], []), ([1], [1]), ([], []), ([3], [3]), ([0, 2, 4], [0, 2, 4]), ([], []), ([6], [6]), ([], []), ([7, 8], [7, 8]), ([5, 5, 0, 1, 2, 3, 4, 5], [5]), ([9, 10, 0, 1, 2, 3, 4, 5, 6, 7, 8, 9, 10], [9])])
def shape_format_finite.B5 : List Nat := [0, 0, 2, 0, 8, 31, 0, 64, 0, 448, 63, 2047]
theorem shape_format_finite.tab5 : rtab .any (opsOf Try.f155 5) = shape_format_finite.T5 := by kernel_rfl
theorem shape_format_finite.bits5 : waitsOk shape_format_finite.T5.2 shape_format_finite.B5 = true := by kernel_rfl
def shape_format_finite.T6 : Bool × List (List Nat × List Nat) := (true, [([], []), ([0], [0]), ([], []), ([1, 2], [1, 2]), ([], []), ([4], [4]), ([5], [5]), ([6], [6]), ([3, 7], [3, 7]), ([8, 5], [8])])
def shape_format_finite.B6 : List Nat := [0, 1, 0, 7, 0, 16, 48, 112, 255, 511]
theorem shape_format_finite.tab6 : rtab .any (opsOf Try.f155 6) = shape_format_finite.T6 := by kernel_rfl
theorem shape_format_finite.bits6 : waitsOk shape_format_finite.T6.2 shape_format_finite.B6 = true := by kernel_rfl
def shape_format_finite.T8 : Bool × List (List Nat × List Nat) := (true, [([], []), ([], []), ([1], [1]), ([], []), ([3], [3]), ([], []), ([4, 5], [4, 5]), ([6], [6]), ([7], [7]), ([], []), ([9], [9]), ([], []), ([11], [11]), ([12], [12]), ([13], [13]), ([10, 14], [10, 14]), ([0, 2, 8, 15], [0, 2, 8, 15]), ([16, 16, 0, 1, 2, 3, 4, 5, 6, 7, 8, 9, 10, 11, 12, 13, 14, 15, 16], [16]), ([17, 0, 1, 2, 3, 4, 5, 6, 7, 8, 9, 10, 11, 12, 13, 14, 15, 16, 17], [])])
def shape_format_finite.B8 : List Nat := [0, 0, 2, 0, 8, 0, 56, 120, 248, 0, 512, 0, 2048, 6144, 14336, 32256, 65535, 131071, 262143]
theorem shape_format_finite.tab8 : rtab .any (opsOf Try.f155 8) = shape_format_finite.T8 := by kernel_rfl
theorem shape_format_finite.bits8 : waitsOk shape_format_finite.T8.2 shape_format_finite.B8 = true := by kernel_rfl
set_option maxHeartbeats 8000000 in
set_option maxRecDepth 100000 in
theorem shape_format_finite.calls (k : Nat) (a0_0 : Int) (a0_1 : Int) (a1_0 : Bool) (a1_1 : Int) (a1_2 : Int) (a1_3 : Int) (r1 : Int) (r2 : Bool) (w : World) (h : shape_format_finite.f k a0_0 a0_1 a1_0 a1_1 a1_2 a1_3 = some (r1, r2)) :
    Calls Try.prog 155 #[.agg #[.int .i64 a0_0, .int .i64 a0_1], .agg #[.bool a1_0, .int .i64 a1_1, .int .i64 a1_2, .int .u64 a1_3]] w fun e w' => e = .returned (.tuple #[.int .u64 r1, .bool r2]) ∧ Below w.heap.size w w' := by
  have hu106 := Try.underlying106
  have hu34 := Try.underlying34
  have HB := Aside0.mk (Below.refl w.heap.size w)
  have H : ((shape_format_low.f a0_0 a0_1).bind fun t709 => (if a1_3 = 0 then (shape_format_finite.j0 k t709 true a0_0 a0_1 a1_0 a1_1 a1_2 a1_3) else (if 0 ≤ a0_1 then (if a1_3 ≥ (shl .u64 2 a0_1) then (shape_format_finite.j0 k t709 true a0_0 a0_1 a1_0 a1_1 a1_2 a1_3) else (shape_format_finite.j0 k t709 (decide (a1_2 < t709)) a0_0 a0_1 a1_0 a1_1 a1_2 a1_3)) else (none)))) = some (r1, r2) := h
  clear h
  replace H := Option.bind_eq_some_iff.mp H
  obtain ⟨t709, A30, H⟩ := H
  replace H : (if a1_3 = 0 then (shape_format_finite.j0 k t709 true a0_0 a0_1 a1_0 a1_1 a1_2 a1_3) else (if 0 ≤ a0_1 then (if a1_3 ≥ (shl .u64 2 a0_1) then (shape_format_finite.j0 k t709 true a0_0 a0_1 a1_0 a1_1 a1_2 a1_3) else (shape_format_finite.j0 k t709 (decide (a1_2 < t709)) a0_0 a0_1 a1_0 a1_1 a1_2 a1_3)) else (none))) = some (r1, r2) := H
  have A3 := Aside0.mk A30
  clear A30
  have HC4 := Aside0.mk H
  clear H
  go_enter Try.func155, Try.ntmps155
  go_upto_region 2 with (first | ((with_reducible refine gate_dst (N := 2) rfl ?_); refine box_event ?hg (N := 2) ?hd (cs := #[.int .i64 a0_0, .int .i64 a0_1]) (t := 106) ?hr ?_; (case hd => rfl); (case hg => rfl); (case hr => first | (go_simp; done) | (go_simp; rfl)); intro gb707 hg w5 hbox hb; have n0_ := Aside0.mk (below_step (by repeat (first | (with_reducible first | exact HB.out | apply below_alloc | apply pw_below_drewN | apply below_drew1) | exact HB.out)) hb); have n1_ := Aside0.mk (hbox); have n2_ := Aside0.mk ((by rw [hg]; exact (below_size (by repeat (first | (with_reducible first | exact HB.out | apply below_alloc | apply pw_below_drewN | apply below_drew1) | exact HB.out))) : w.heap.size ≤ gb707)); have n3_ := Aside0.mk ((by rw [hg]; exact (below_size (by repeat (first | (with_reducible first | exact HB.out | apply below_alloc | apply pw_below_drewN | apply below_drew1) | exact HB.out))) : w.heap.size ≤ gb707)); clear HB; have HB := n0_; have BK707 := n1_; have GW707 := n2_; have GE707 := n3_; clear n0_ n1_ n2_ n3_; clear hb hbox hg) | ((with_reducible refine gate_dst (N := 3) rfl ?_); refine box_event ?hg (N := 3) ?hd (cs := #[.bool a1_0, .int .i64 a1_1, .int .i64 a1_2, .int .u64 a1_3]) (t := 34) ?hr ?_; (case hd => rfl); (case hg => rfl); (case hr => first | (go_simp; done) | (go_simp; rfl)); intro gb708 hg w6 hbox hb; have n0_ := Aside0.mk (blk_below (g := gb707) (o := .cells #[.int .i64 a0_0, .int .i64 a0_1] 106 (0, 0)) (by (with_reducible repeat (first | refine blk_drewN ?_ _ | refine blk_drew ?_ | refine blk_alloc ?_ _)); exact BK707.out) hb); have n1_ := Aside0.mk (below_step (by repeat (first | (with_reducible first | exact HB.out | apply below_alloc | apply pw_below_drewN | apply below_drew1 | refine below_set ?_ GE707.out) | exact HB.out)) hb); have n2_ := Aside0.mk (hbox); have n3_ := Aside0.mk ((by rw [hg]; exact (below_size (by repeat (first | (with_reducible first | exact HB.out | apply below_alloc | apply pw_below_drewN | apply below_drew1 | refine below_set ?_ GE707.out) | exact HB.out))) : w.heap.size ≤ gb708)); have n4_ := Aside0.mk ((by rw [hg]; exact (below_size (by repeat (first | (with_reducible first | exact HB.out | apply below_alloc | apply pw_below_drewN | apply below_drew1 | refine below_set ?_ GE707.out) | exact HB.out))) : w.heap.size ≤ gb708)); have n5_ := Aside0.mk ((by rw [hg]; exact Nat.ne_of_lt (blk_lt (g := gb707) (o := .cells #[.int .i64 a0_0, .int .i64 a0_1] 106 (0, 0)) (by (with_reducible repeat (first | refine blk_drewN ?_ _ | refine blk_drew ?_ | refine blk_alloc ?_ _)); exact BK707.out)) : gb707 ≠ gb708)); have n6_ := Aside0.mk ((by rw [hg]; exact Nat.ne_of_gt (blk_lt (g := gb707) (o := .cells #[.int .i64 a0_0, .int .i64 a0_1] 106 (0, 0)) (by (with_reducible repeat (first | refine blk_drewN ?_ _ | refine blk_drew ?_ | refine blk_alloc ?_ _)); exact BK707.out)) : gb708 ≠ gb707)); clear BK707; clear HB; have BK707 := n0_; have HB := n1_; have BK708 := n2_; have GW708 := n3_; have GE708 := n4_; have NB707_708 := n5_; have NB708_707 := n6_; clear n0_ n1_ n2_ n3_ n4_ n5_ n6_; clear hb hbox hg; have hnb7 := NB707_708.out; have hnc7 := NB708_707.out; have hcz8_0 : w6.cell? ⟨gb707, 0, none⟩ = some (.int .i64 a0_0) := (blk_cell BK707.out 0).trans rfl; have hcz8_1 : w6.cell? ⟨gb707, 1, none⟩ = some (.int .i64 a0_1) := (blk_cell BK707.out 1).trans rfl; have hfz8_0 := blk_frozen BK707.out 0; have hfz8_1 := blk_frozen BK707.out 1) | ((with_reducible refine gate_callee (f := 123) rfl ?_); refine goesL_ (some 8) rfl rfl Try.func123 (by kernel_rfl) rfl #[.agg #[.int .i64 a0_0, .int .i64 a0_1]] rfl (by (try simp only [List.map_toArray, List.map_cons, List.map_nil]); first | done | rfl | (simp only [List.length_drop, List.length_take]; rfl)) ?_; (with_reducible refine (shape_format_low.calls a0_0 a0_1 t709 _ A3.out).mono ?_); rintro e w9 ⟨rfl, hb⟩; refine ⟨_, rfl, ?_⟩; have n0_ := Aside0.mk (blk_below (g := gb707) (o := .cells #[.int .i64 a0_0, .int .i64 a0_1] 106 (0, 0)) (by (with_reducible repeat (first | refine blk_drewN ?_ _ | refine blk_drew ?_ | refine blk_alloc ?_ _)); exact BK707.out) hb); have n1_ := Aside0.mk (blk_below (g := gb708) (o := .cells #[.bool a1_0, .int .i64 a1_1, .int .i64 a1_2, .int .u64 a1_3] 34 (0, 0)) (by (with_reducible repeat (first | refine blk_drewN ?_ _ | refine blk_drew ?_ | refine blk_alloc ?_ _)); exact BK708.out) hb); have n2_ := Aside0.mk (below_step (by repeat (first | (with_reducible first | exact HB.out | apply below_alloc | apply pw_below_drewN | apply below_drew1 | refine below_set ?_ GE707.out | refine below_set ?_ GE708.out) | exact HB.out)) hb); clear BK707; clear BK708; clear HB; have BK707 := n0_; have BK708 := n1_; have HB := n2_; clear n0_ n1_ n2_; (try clear hb); (try clear hb2); (try clear hk); (try clear hi)))
  (try simp only [Act.put, List.setIfInBounds_toArray, List.set_cons_zero, List.set_cons_succ])
  go_cut [9] (fun v9 wc => ∃ (kq : Nat) (x9_3 : Bool), v9 = .bool x9_3 ∧ Aside0 (shape_format_finite.j0 kq t709 x9_3 a0_0 a0_1 a1_0 a1_1 a1_2 a1_3 = some (r1, r2)) ∧ Aside0 (kq ≤ k) ∧ Aside0 (wc.heap[gb707]? = some (.cells #[.int .i64 a0_0, .int .i64 a0_1] 106 (0, 0))) ∧ Aside0 (wc.heap[gb708]? = some (.cells #[.bool a1_0, .int .i64 a1_1, .int .i64 a1_2, .int .u64 a1_3] 34 (0, 0))) ∧ Aside0 (Below w.heap.size w wc))
  case first =>
    have H := HC4.out
    clear HC4
    by_cases c10 : a1_3 = 0
    · rw [if_pos c10] at H
      have c10b0 : (a1_3 == 0) = true := beq_iff_eq.mpr c10
      have c10b1 : (a1_3 != 0) = false := bne_eq_false_iff_eq.mpr c10
      clear c10
      (first | rw [c10b0] | (simp only [i64_w, i32_w]; rw [c10b0]) | skip)
      have H' := Aside0.mk H
      clear H
      try go_wp2
      have n0_ := Aside0.mk (blk_drew BK707.out)
      have n1_ := Aside0.mk (blk_drew BK708.out)
      have n2_ := Aside0.mk (below_drew1 HB.out)
      clear BK707
      clear BK708
      clear HB
      have BK707 := n0_
      have BK708 := n1_
      have HB := n2_
      clear n0_ n1_ n2_
      refine start_ (n := 18) (S := fun w' => w'.cell? ⟨gb708, 0, none⟩ = some (.bool a1_0) ∧ w'.cell? ⟨gb708, 1, none⟩ = some (.int .i64 a1_1) ∧ w'.cell? ⟨gb708, 2, none⟩ = some (.int .i64 a1_2) ∧ w'.cell? ⟨gb708, 3, none⟩ = some (.int .u64 a1_3)) (ds := []) #[false, false, false, false, false, false, false, false, false, false, false, false, false, false, false, false, false, false] (by kernel_rfl) rfl rfl ⟨(blk_cell BK708.out 0).trans rfl, (blk_cell BK708.out 1).trans rfl, (blk_cell BK708.out 2).trans rfl, (blk_cell BK708.out 3).trans rfl⟩ (fun hHeld => ?_); refine with_tabW shape_format_finite.tab2 shape_format_finite.bits2 (fun HT_ HW_ => ?_)
      generalize w9.drew = w11 at BK707 BK708 HB hHeld ⊢
      refine pure_ (i := 0) (N := some 10) (v := ?_) (a' := ?_) #[true, false, false, false, false, false, false, false, false, false, false, false, false, false, false, false, false, false] rfl rfl (any_of HT_.out (by kernel_rfl)) (fun _ _ _ h => h) (Or.inl ⟨by rfl, ?_⟩) ?_ ?_
      rotate_left
      · intro w'
        go_simp
        with_reducible rfl
      rotate_left
      · simp only [Act.put, List.setIfInBounds_toArray, List.set_cons_zero, List.set_cons_succ, i64_w, i32_w]
        rfl
      refine take_ (i := 1) (N := some 11) (v := ?_) (a' := ?_) #[true, true, false, false, false, false, false, false, false, false, false, false, false, false, false, false, false, false] rfl rfl (take_ofW HT_.out HW_.out (by kernel_rfl)) (fun _ _ _ h => h) (Or.inl ⟨by rfl, ?_⟩) hHeld ?_ ?_
      rotate_left
      · rintro w' ⟨s0, s1, s2, s3⟩
        go_simp
        with_reducible rfl
      rotate_left
      · simp only [Act.put, List.setIfInBounds_toArray, List.set_cons_zero, List.set_cons_succ, i64_w, i32_w]
        rfl
      refine pure_ (i := 2) (N := some 12) (v := ?_) (a' := ?_) #[true, true, true, false, false, false, false, false, false, false, false, false, false, false, false, false, false, false] rfl rfl (any_of HT_.out (by kernel_rfl)) (fun _ _ _ h => h) (Or.inl ⟨by rfl, ?_⟩) ?_ ?_
      rotate_left
      · intro w'
        go_simp
        with_reducible rfl
      rotate_left
      · simp only [Act.put, List.setIfInBounds_toArray, List.set_cons_zero, List.set_cons_succ, i64_w, i32_w]
        rfl
      refine pure_ (i := 3) (N := some 13) (v := ?_) (a' := ?_) #[true, true, true, true, false, false, false, false, false, false, false, false, false, false, false, false, false, false] rfl rfl (any_of HT_.out (by kernel_rfl)) (fun _ _ _ h => h) (Or.inl ⟨by rfl, ?_⟩) ?_ ?_
      rotate_left
      · intro w'
        go_simp
        with_reducible rfl
      rotate_left
      · simp only [Act.put, List.setIfInBounds_toArray, List.set_cons_zero, List.set_cons_succ, i64_w, i32_w]
        rfl
      refine pure_ (i := 4) (N := some 14) (v := undef) (a' := ?_) #[true, true, true, true, true, false, false, false, false, false, false, false, false, false, false, false, false, false] rfl rfl (any_of HT_.out (by kernel_rfl)) (fun _ _ _ h => h) (Or.inr ⟨by rfl, rfl⟩) ?_ ?_
      rotate_left
      · simp only [Act.put, List.setIfInBounds_toArray, List.set_cons_zero, List.set_cons_succ, i64_w, i32_w]
        rfl
      refine pure_ (i := 5) (N := some 15) (v := undef) (a' := ?_) #[true, true, true, true, true, true, false, false, false, false, false, false, false, false, false, false, false, false] rfl rfl (any_of HT_.out (by kernel_rfl)) (fun _ _ _ h => h) (Or.inr ⟨by rfl, rfl⟩) ?_ ?_
      rotate_left
      · simp only [Act.put, List.setIfInBounds_toArray, List.set_cons_zero, List.set_cons_succ, i64_w, i32_w]
        rfl
      refine pure_ (i := 6) (N := some 16) (v := undef) (a' := ?_) #[true, true, true, true, true, true, true, false, false, false, false, false, false, false, false, false, false, false] rfl rfl (any_of HT_.out (by kernel_rfl)) (fun _ _ _ h => h) (Or.inr ⟨by rfl, rfl⟩) ?_ ?_
      rotate_left
      · simp only [Act.put, List.setIfInBounds_toArray, List.set_cons_zero, List.set_cons_succ, i64_w, i32_w]
        rfl
      refine pure_ (i := 7) (N := some 17) (v := undef) (a' := ?_) #[true, true, true, true, true, true, true, true, false, false, false, false, false, false, false, false, false, false] rfl rfl (any_of HT_.out (by kernel_rfl)) (fun _ _ _ h => h) (Or.inr ⟨by rfl, rfl⟩) ?_ ?_
      rotate_left
      · simp only [Act.put, List.setIfInBounds_toArray, List.set_cons_zero, List.set_cons_succ, i64_w, i32_w]
        rfl
      refine pure_ (i := 8) (N := some 18) (v := undef) (a' := ?_) #[true, true, true, true, true, true, true, true, true, false, false, false, false, false, false, false, false, false] rfl rfl (any_of HT_.out (by kernel_rfl)) (fun _ _ _ h => h) (Or.inr ⟨by rfl, rfl⟩) ?_ ?_
      rotate_left
      · simp only [Act.put, List.setIfInBounds_toArray, List.set_cons_zero, List.set_cons_succ, i64_w, i32_w]
        rfl
      refine pure_ (i := 9) (N := some 19) (v := undef) (a' := ?_) #[true, true, true, true, true, true, true, true, true, true, false, false, false, false, false, false, false, false] rfl rfl (any_of HT_.out (by kernel_rfl)) (fun _ _ _ h => h) (Or.inr ⟨by rfl, rfl⟩) ?_ ?_
      rotate_left
      · simp only [Act.put, List.setIfInBounds_toArray, List.set_cons_zero, List.set_cons_succ, i64_w, i32_w]
        rfl
      refine pure_ (i := 10) (N := some 20) (v := ?_) (a' := ?_) #[true, true, true, true, true, true, true, true, true, true, true, false, false, false, false, false, false, false] rfl rfl (any_of HT_.out (by kernel_rfl)) (fun _ _ _ h => h) (Or.inl ⟨by rfl, ?_⟩) ?_ ?_
      rotate_left
      · intro w'
        go_simp
        with_reducible rfl
      rotate_left
      · simp only [Act.put, List.setIfInBounds_toArray, List.set_cons_zero, List.set_cons_succ, i64_w, i32_w]
        rfl
      refine pure_ (i := 11) (N := some 21) (v := ?_) (a' := ?_) #[true, true, true, true, true, true, true, true, true, true, true, true, false, false, false, false, false, false] rfl rfl (any_of HT_.out (by kernel_rfl)) (fun _ _ _ h => h) (Or.inl ⟨by rfl, ?_⟩) ?_ ?_
      rotate_left
      · intro w'
        go_simp
        with_reducible rfl
      rotate_left
      · simp only [Act.put, List.setIfInBounds_toArray, List.set_cons_zero, List.set_cons_succ, i64_w, i32_w]
        rfl
      refine pure_ (i := 12) (N := some 22) (v := undef) (a' := ?_) #[true, true, true, true, true, true, true, true, true, true, true, true, true, false, false, false, false, false] rfl rfl (any_of HT_.out (by kernel_rfl)) (fun _ _ _ h => h) (Or.inr ⟨by rfl, rfl⟩) ?_ ?_
      rotate_left
      · simp only [Act.put, List.setIfInBounds_toArray, List.set_cons_zero, List.set_cons_succ, i64_w, i32_w]
        rfl
      refine pure_ (i := 13) (N := some 23) (v := undef) (a' := ?_) #[true, true, true, true, true, true, true, true, true, true, true, true, true, true, false, false, false, false] rfl rfl (any_of HT_.out (by kernel_rfl)) (fun _ _ _ h => h) (Or.inr ⟨by rfl, rfl⟩) ?_ ?_
      rotate_left
      · simp only [Act.put, List.setIfInBounds_toArray, List.set_cons_zero, List.set_cons_succ, i64_w, i32_w]
        rfl
      refine pure_ (i := 14) (N := some 24) (v := undef) (a' := ?_) #[true, true, true, true, true, true, true, true, true, true, true, true, true, true, true, false, false, false] rfl rfl (any_of HT_.out (by kernel_rfl)) (fun _ _ _ h => h) (Or.inr ⟨by rfl, rfl⟩) ?_ ?_
      rotate_left
      · simp only [Act.put, List.setIfInBounds_toArray, List.set_cons_zero, List.set_cons_succ, i64_w, i32_w]
        rfl
      refine pure_ (i := 15) (N := some 25) (v := undef) (a' := ?_) #[true, true, true, true, true, true, true, true, true, true, true, true, true, true, true, true, false, false] rfl rfl (any_of HT_.out (by kernel_rfl)) (fun _ _ _ h => h) (Or.inr ⟨by rfl, rfl⟩) ?_ ?_
      rotate_left
      · simp only [Act.put, List.setIfInBounds_toArray, List.set_cons_zero, List.set_cons_succ, i64_w, i32_w]
        rfl
      refine pure_ (i := 16) (N := some 26) (v := ?_) (a' := ?_) #[true, true, true, true, true, true, true, true, true, true, true, true, true, true, true, true, true, false] rfl rfl (any_of HT_.out (by kernel_rfl)) (fun _ _ _ h => h) (Or.inl ⟨by rfl, ?_⟩) ?_ ?_
      rotate_left
      · intro w'
        go_simp
        with_reducible rfl
      rotate_left
      · simp only [Act.put, List.setIfInBounds_toArray, List.set_cons_zero, List.set_cons_succ, i64_w, i32_w]
        rfl
      refine pure_ (i := 17) (N := some 9) (v := ?_) (a' := ?_) #[true, true, true, true, true, true, true, true, true, true, true, true, true, true, true, true, true, true] rfl rfl (any_of HT_.out (by kernel_rfl)) (fun _ _ _ h => h) (Or.inl ⟨by rfl, ?_⟩) ?_ ?_
      rotate_left
      · intro w'
        go_simp
        with_reducible rfl
      rotate_left
      · simp only [Act.put, List.setIfInBounds_toArray, List.set_cons_zero, List.set_cons_succ, i64_w, i32_w]
        rfl
      refine done_ (done_of HT_.out (by kernel_rfl)) ?_
      try go_wp2
      go_meet
      case rel => exact ⟨_, (true), (by first | rfl | (simp; done) | (simp [*]; done)), H', ⟨by first | omega | exact Nat.le_refl _⟩, ⟨by (with_reducible repeat (first | refine blk_drewN ?_ _ | refine blk_drew ?_ | refine blk_alloc ?_ _)); exact BK707.out⟩, ⟨by (with_reducible repeat (first | refine blk_drewN ?_ _ | refine blk_drew ?_ | refine blk_alloc ?_ _)); exact BK708.out⟩, ⟨by repeat (first | (with_reducible first | exact HB.out | apply below_alloc | apply pw_below_drewN | apply below_drew1 | refine below_set ?_ GE707.out | refine below_set ?_ GE708.out) | exact HB.out)⟩⟩
    · rw [if_neg c10] at H
      have c10b0 : (a1_3 == 0) = false := beq_eq_false_iff_ne.mpr c10
      have c10b1 : (a1_3 != 0) = true := bne_iff_ne.mpr c10
      (first | rw [c10b0] | (simp only [i64_w, i32_w]; rw [c10b0]) | skip)
      by_cases c12 : 0 ≤ a0_1
      · rw [if_pos c12] at H
        have c12b0 := eq_true c12
        have c12b1 : decide (0 ≤ a0_1) = true := decide_eq_true c12
        clear c12
        obtain ⟨ji13, hji13⟩ : ∃ j_ : Int, (shl .u64 2 a0_1) = j_ := ⟨_, rfl⟩
        replace H : (if a1_3 ≥ (ji13) then (shape_format_finite.j0 k t709 true a0_0 a0_1 a1_0 a1_1 a1_2 a1_3) else (shape_format_finite.j0 k t709 (decide (a1_2 < t709)) a0_0 a0_1 a1_0 a1_1 a1_2 a1_3)) = some (r1, r2) := by first | (rw [hji13] at H; exact H) | (simp only [hji13] at H ⊢; exact H)
        have hji13_ : (IntKind.u64.wrap (2 * 2 ^ min a0_1.toNat 64)) = ji13 := hji13
        have hji13z : a0_1 ≤ 64 → (IntKind.u64.wrap (2 * 2 ^ a0_1.toNat)) = ji13 := shl_small hji13
        by_cases c14 : a1_3 ≥ (ji13)
        · rw [if_pos c14] at H
          have c14b0 : decide ((ji13) ≤ a1_3) = true := decide_eq_true c14
          clear c14
          have H' := Aside0.mk H
          clear H
          try go_wp2
          have n0_ := Aside0.mk (blk_drew BK707.out)
          have n1_ := Aside0.mk (blk_drew BK708.out)
          have n2_ := Aside0.mk (below_drew1 HB.out)
          clear BK707
          clear BK708
          clear HB
          have BK707 := n0_
          have BK708 := n1_
          have HB := n2_
          clear n0_ n1_ n2_
          refine start_ (n := 18) (S := fun w' => w'.cell? ⟨gb708, 0, none⟩ = some (.bool a1_0) ∧ w'.cell? ⟨gb708, 1, none⟩ = some (.int .i64 a1_1) ∧ w'.cell? ⟨gb708, 2, none⟩ = some (.int .i64 a1_2) ∧ w'.cell? ⟨gb708, 3, none⟩ = some (.int .u64 a1_3) ∧ w'.cell? ⟨gb707, 0, none⟩ = some (.int .i64 a0_0) ∧ w'.cell? ⟨gb707, 1, none⟩ = some (.int .i64 a0_1)) (ds := []) #[false, false, false, false, false, false, false, false, false, false, false, false, false, false, false, false, false, false] (by kernel_rfl) rfl rfl ⟨(blk_cell BK708.out 0).trans rfl, (blk_cell BK708.out 1).trans rfl, (blk_cell BK708.out 2).trans rfl, (blk_cell BK708.out 3).trans rfl, (blk_cell BK707.out 0).trans rfl, (blk_cell BK707.out 1).trans rfl⟩ (fun hHeld => ?_); refine with_tabW shape_format_finite.tab2 shape_format_finite.bits2 (fun HT_ HW_ => ?_)
          generalize w9.drew = w15 at BK707 BK708 HB hHeld ⊢
          refine pure_ (i := 0) (N := some 10) (v := ?_) (a' := ?_) #[true, false, false, false, false, false, false, false, false, false, false, false, false, false, false, false, false, false] rfl rfl (any_of HT_.out (by kernel_rfl)) (fun _ _ _ h => h) (Or.inl ⟨by rfl, ?_⟩) ?_ ?_
          rotate_left
          · intro w'
            go_simp
            with_reducible rfl
          rotate_left
          · simp only [Act.put, List.setIfInBounds_toArray, List.set_cons_zero, List.set_cons_succ, i64_w, i32_w]
            rfl
          refine take_ (i := 1) (N := some 11) (v := ?_) (a' := ?_) #[true, true, false, false, false, false, false, false, false, false, false, false, false, false, false, false, false, false] rfl rfl (take_ofW HT_.out HW_.out (by kernel_rfl)) (fun _ _ _ h => h) (Or.inl ⟨by rfl, ?_⟩) hHeld ?_ ?_
          rotate_left
          · rintro w' ⟨s0, s1, s2, s3, s4, s5⟩
            go_simp
            with_reducible rfl
          rotate_left
          · simp only [Act.put, List.setIfInBounds_toArray, List.set_cons_zero, List.set_cons_succ, i64_w, i32_w]
            rfl
          refine pure_ (i := 2) (N := some 12) (v := ?_) (a' := ?_) #[true, true, true, false, false, false, false, false, false, false, false, false, false, false, false, false, false, false] rfl rfl (any_of HT_.out (by kernel_rfl)) (fun _ _ _ h => h) (Or.inl ⟨by rfl, ?_⟩) ?_ ?_
          rotate_left
          · intro w'
            go_simp
            with_reducible rfl
          rotate_left
          · simp only [Act.put, List.setIfInBounds_toArray, List.set_cons_zero, List.set_cons_succ, i64_w, i32_w]
            rfl
          refine pure_ (i := 3) (N := some 13) (v := ?_) (a' := ?_) #[true, true, true, true, false, false, false, false, false, false, false, false, false, false, false, false, false, false] rfl rfl (any_of HT_.out (by kernel_rfl)) (fun _ _ _ h => h) (Or.inl ⟨by rfl, ?_⟩) ?_ ?_
          rotate_left
          · intro w'
            go_simp
            with_reducible rfl
          rotate_left
          · simp only [Act.put, List.setIfInBounds_toArray, List.set_cons_zero, List.set_cons_succ, i64_w, i32_w]
            rfl
          refine pure_ (i := 4) (N := some 14) (v := ?_) (a' := ?_) #[true, true, true, true, true, false, false, false, false, false, false, false, false, false, false, false, false, false] rfl rfl (any_of HT_.out (by kernel_rfl)) (fun _ _ _ h => h) (Or.inl ⟨by rfl, ?_⟩) ?_ ?_
          rotate_left
          · intro w'
            go_simp
            with_reducible rfl
          rotate_left
          · simp only [Act.put, List.setIfInBounds_toArray, List.set_cons_zero, List.set_cons_succ, i64_w, i32_w]
            rfl
          refine pure_ (i := 6) (N := some 16) (v := ?_) (a' := ?_) #[true, true, true, true, true, false, true, false, false, false, false, false, false, false, false, false, false, false] rfl rfl (any_of HT_.out (by kernel_rfl)) (fun _ _ _ h => h) (Or.inl ⟨by rfl, ?_⟩) ?_ ?_
          rotate_left
          · intro w'
            go_simp
            with_reducible rfl
          rotate_left
          · simp only [Act.put, List.setIfInBounds_toArray, List.set_cons_zero, List.set_cons_succ, i64_w, i32_w]
            rfl
          refine take_ (i := 5) (N := some 15) (v := ?_) (a' := ?_) #[true, true, true, true, true, true, true, false, false, false, false, false, false, false, false, false, false, false] rfl rfl (take_ofW HT_.out HW_.out (by kernel_rfl)) (fun _ _ _ h => h) (Or.inl ⟨by rfl, ?_⟩) hHeld ?_ ?_
          rotate_left
          · rintro w' ⟨s0, s1, s2, s3, s4, s5⟩
            go_simp
            with_reducible rfl
          rotate_left
          · simp only [Act.put, List.setIfInBounds_toArray, List.set_cons_zero, List.set_cons_succ, i64_w, i32_w]
            rfl
          refine take_ (i := 7) (N := some 17) (v := ?_) (a' := ?_) #[true, true, true, true, true, true, true, true, false, false, false, false, false, false, false, false, false, false] rfl rfl (take_ofW HT_.out HW_.out (by kernel_rfl)) (fun _ _ _ h => h) (Or.inl ⟨by rfl, ?_⟩) hHeld ?_ ?_
          rotate_left
          · rintro w' ⟨s0, s1, s2, s3, s4, s5⟩
            go_simp
            with_reducible rfl
          rotate_left
          · simp only [Act.put, List.setIfInBounds_toArray, List.set_cons_zero, List.set_cons_succ, i64_w, i32_w]
            rfl
          refine pure_ (i := 8) (N := some 18) (v := ?_) (a' := ?_) #[true, true, true, true, true, true, true, true, true, false, false, false, false, false, false, false, false, false] rfl rfl (any_of HT_.out (by kernel_rfl)) (fun _ _ _ h => h) (Or.inl ⟨by rfl, ?_⟩) ?_ ?_
          rotate_left
          · intro w'
            go_simp
            with_reducible rfl
          rotate_left
          · simp only [Act.put, List.setIfInBounds_toArray, List.set_cons_zero, List.set_cons_succ, i64_w, i32_w]
            rfl
          refine pure_ (i := 9) (N := some 19) (v := ?_) (a' := ?_) #[true, true, true, true, true, true, true, true, true, true, false, false, false, false, false, false, false, false] rfl rfl (any_of HT_.out (by kernel_rfl)) (fun _ _ _ h => h) (Or.inl ⟨by rfl, ?_⟩) ?_ ?_
          rotate_left
          · intro w'
            go_simp
            with_reducible rfl
          rotate_left
          · simp only [Act.put, List.setIfInBounds_toArray, List.set_cons_zero, List.set_cons_succ, i64_w, i32_w]
            rfl
          refine pure_ (i := 10) (N := some 20) (v := ?_) (a' := ?_) #[true, true, true, true, true, true, true, true, true, true, true, false, false, false, false, false, false, false] rfl rfl (any_of HT_.out (by kernel_rfl)) (fun _ _ _ h => h) (Or.inl ⟨by rfl, ?_⟩) ?_ ?_
          rotate_left
          · intro w'
            go_simp
            with_reducible rfl
          rotate_left
          · simp only [Act.put, List.setIfInBounds_toArray, List.set_cons_zero, List.set_cons_succ, i64_w, i32_w]
            rfl
          refine pure_ (i := 11) (N := some 21) (v := ?_) (a' := ?_) #[true, true, true, true, true, true, true, true, true, true, true, true, false, false, false, false, false, false] rfl rfl (any_of HT_.out (by kernel_rfl)) (fun _ _ _ h => h) (Or.inl ⟨by rfl, ?_⟩) ?_ ?_
          rotate_left
          · intro w'
            go_simp
            with_reducible rfl
          rotate_left
          · simp only [Act.put, List.setIfInBounds_toArray, List.set_cons_zero, List.set_cons_succ, i64_w, i32_w]
            rfl
          refine pure_ (i := 12) (N := some 22) (v := undef) (a' := ?_) #[true, true, true, true, true, true, true, true, true, true, true, true, true, false, false, false, false, false] rfl rfl (any_of HT_.out (by kernel_rfl)) (fun _ _ _ h => h) (Or.inr ⟨by rfl, rfl⟩) ?_ ?_
          rotate_left
          · simp only [Act.put, List.setIfInBounds_toArray, List.set_cons_zero, List.set_cons_succ, i64_w, i32_w]
            rfl
          refine pure_ (i := 13) (N := some 23) (v := undef) (a' := ?_) #[true, true, true, true, true, true, true, true, true, true, true, true, true, true, false, false, false, false] rfl rfl (any_of HT_.out (by kernel_rfl)) (fun _ _ _ h => h) (Or.inr ⟨by rfl, rfl⟩) ?_ ?_
          rotate_left
          · simp only [Act.put, List.setIfInBounds_toArray, List.set_cons_zero, List.set_cons_succ, i64_w, i32_w]
            rfl
          refine pure_ (i := 14) (N := some 24) (v := undef) (a' := ?_) #[true, true, true, true, true, true, true, true, true, true, true, true, true, true, true, false, false, false] rfl rfl (any_of HT_.out (by kernel_rfl)) (fun _ _ _ h => h) (Or.inr ⟨by rfl, rfl⟩) ?_ ?_
          rotate_left
          · simp only [Act.put, List.setIfInBounds_toArray, List.set_cons_zero, List.set_cons_succ, i64_w, i32_w]
            rfl
          refine pure_ (i := 15) (N := some 25) (v := undef) (a' := ?_) #[true, true, true, true, true, true, true, true, true, true, true, true, true, true, true, true, false, false] rfl rfl (any_of HT_.out (by kernel_rfl)) (fun _ _ _ h => h) (Or.inr ⟨by rfl, rfl⟩) ?_ ?_
          rotate_left
          · simp only [Act.put, List.setIfInBounds_toArray, List.set_cons_zero, List.set_cons_succ, i64_w, i32_w]
            rfl
          refine pure_ (i := 16) (N := some 26) (v := ?_) (a' := ?_) #[true, true, true, true, true, true, true, true, true, true, true, true, true, true, true, true, true, false] rfl rfl (any_of HT_.out (by kernel_rfl)) (fun _ _ _ h => h) (Or.inl ⟨by rfl, ?_⟩) ?_ ?_
          rotate_left
          · intro w'
            go_simp
            with_reducible rfl
          rotate_left
          · simp only [Act.put, List.setIfInBounds_toArray, List.set_cons_zero, List.set_cons_succ, i64_w, i32_w]
            rfl
          refine pure_ (i := 17) (N := some 9) (v := ?_) (a' := ?_) #[true, true, true, true, true, true, true, true, true, true, true, true, true, true, true, true, true, true] rfl rfl (any_of HT_.out (by kernel_rfl)) (fun _ _ _ h => h) (Or.inl ⟨by rfl, ?_⟩) ?_ ?_
          rotate_left
          · intro w'
            go_simp
            with_reducible rfl
          rotate_left
          · simp only [Act.put, List.setIfInBounds_toArray, List.set_cons_zero, List.set_cons_succ, i64_w, i32_w]
            rfl
          refine done_ (done_of HT_.out (by kernel_rfl)) ?_
          try go_wp2
          go_meet
          case rel => exact ⟨_, (true), (by first | rfl | (simp; done) | (simp [*]; done)), H', ⟨by first | omega | exact Nat.le_refl _⟩, ⟨by (with_reducible repeat (first | refine blk_drewN ?_ _ | refine blk_drew ?_ | refine blk_alloc ?_ _)); exact BK707.out⟩, ⟨by (with_reducible repeat (first | refine blk_drewN ?_ _ | refine blk_drew ?_ | refine blk_alloc ?_ _)); exact BK708.out⟩, ⟨by repeat (first | (with_reducible first | exact HB.out | apply below_alloc | apply pw_below_drewN | apply below_drew1 | refine below_set ?_ GE707.out | refine below_set ?_ GE708.out) | exact HB.out)⟩⟩
        · rw [if_neg c14] at H
          have c14b0 : decide ((ji13) ≤ a1_3) = false := decide_eq_false c14
          clear c14
          have H' := Aside0.mk H
          clear H
          try go_wp2
          have n0_ := Aside0.mk (blk_drew BK707.out)
          have n1_ := Aside0.mk (blk_drew BK708.out)
          have n2_ := Aside0.mk (below_drew1 HB.out)
          clear BK707
          clear BK708
          clear HB
          have BK707 := n0_
          have BK708 := n1_
          have HB := n2_
          clear n0_ n1_ n2_
          refine start_ (n := 18) (S := fun w' => w'.cell? ⟨gb708, 0, none⟩ = some (.bool a1_0) ∧ w'.cell? ⟨gb708, 1, none⟩ = some (.int .i64 a1_1) ∧ w'.cell? ⟨gb708, 2, none⟩ = some (.int .i64 a1_2) ∧ w'.cell? ⟨gb708, 3, none⟩ = some (.int .u64 a1_3) ∧ w'.cell? ⟨gb707, 0, none⟩ = some (.int .i64 a0_0) ∧ w'.cell? ⟨gb707, 1, none⟩ = some (.int .i64 a0_1)) (ds := []) #[false, false, false, false, false, false, false, false, false, false, false, false, false, false, false, false, false, false] (by kernel_rfl) rfl rfl ⟨(blk_cell BK708.out 0).trans rfl, (blk_cell BK708.out 1).trans rfl, (blk_cell BK708.out 2).trans rfl, (blk_cell BK708.out 3).trans rfl, (blk_cell BK707.out 0).trans rfl, (blk_cell BK707.out 1).trans rfl⟩ (fun hHeld => ?_); refine with_tabW shape_format_finite.tab2 shape_format_finite.bits2 (fun HT_ HW_ => ?_)
          generalize w9.drew = w16 at BK707 BK708 HB hHeld ⊢
          refine pure_ (i := 0) (N := some 10) (v := ?_) (a' := ?_) #[true, false, false, false, false, false, false, false, false, false, false, false, false, false, false, false, false, false] rfl rfl (any_of HT_.out (by kernel_rfl)) (fun _ _ _ h => h) (Or.inl ⟨by rfl, ?_⟩) ?_ ?_
          rotate_left
          · intro w'
            go_simp
            with_reducible rfl
          rotate_left
          · simp only [Act.put, List.setIfInBounds_toArray, List.set_cons_zero, List.set_cons_succ, i64_w, i32_w]
            rfl
          refine take_ (i := 1) (N := some 11) (v := ?_) (a' := ?_) #[true, true, false, false, false, false, false, false, false, false, false, false, false, false, false, false, false, false] rfl rfl (take_ofW HT_.out HW_.out (by kernel_rfl)) (fun _ _ _ h => h) (Or.inl ⟨by rfl, ?_⟩) hHeld ?_ ?_
          rotate_left
          · rintro w' ⟨s0, s1, s2, s3, s4, s5⟩
            go_simp
            with_reducible rfl
          rotate_left
          · simp only [Act.put, List.setIfInBounds_toArray, List.set_cons_zero, List.set_cons_succ, i64_w, i32_w]
            rfl
          refine pure_ (i := 2) (N := some 12) (v := ?_) (a' := ?_) #[true, true, true, false, false, false, false, false, false, false, false, false, false, false, false, false, false, false] rfl rfl (any_of HT_.out (by kernel_rfl)) (fun _ _ _ h => h) (Or.inl ⟨by rfl, ?_⟩) ?_ ?_
          rotate_left
          · intro w'
            go_simp
            with_reducible rfl
          rotate_left
          · simp only [Act.put, List.setIfInBounds_toArray, List.set_cons_zero, List.set_cons_succ, i64_w, i32_w]
            rfl
          refine pure_ (i := 3) (N := some 13) (v := ?_) (a' := ?_) #[true, true, true, true, false, false, false, false, false, false, false, false, false, false, false, false, false, false] rfl rfl (any_of HT_.out (by kernel_rfl)) (fun _ _ _ h => h) (Or.inl ⟨by rfl, ?_⟩) ?_ ?_
          rotate_left
          · intro w'
            go_simp
            with_reducible rfl
          rotate_left
          · simp only [Act.put, List.setIfInBounds_toArray, List.set_cons_zero, List.set_cons_succ, i64_w, i32_w]
            rfl
          refine pure_ (i := 4) (N := some 14) (v := ?_) (a' := ?_) #[true, true, true, true, true, false, false, false, false, false, false, false, false, false, false, false, false, false] rfl rfl (any_of HT_.out (by kernel_rfl)) (fun _ _ _ h => h) (Or.inl ⟨by rfl, ?_⟩) ?_ ?_
          rotate_left
          · intro w'
            go_simp
            with_reducible rfl
          rotate_left
          · simp only [Act.put, List.setIfInBounds_toArray, List.set_cons_zero, List.set_cons_succ, i64_w, i32_w]
            rfl
          refine pure_ (i := 6) (N := some 16) (v := ?_) (a' := ?_) #[true, true, true, true, true, false, true, false, false, false, false, false, false, false, false, false, false, false] rfl rfl (any_of HT_.out (by kernel_rfl)) (fun _ _ _ h => h) (Or.inl ⟨by rfl, ?_⟩) ?_ ?_
          rotate_left
          · intro w'
            go_simp
            with_reducible rfl
          rotate_left
          · simp only [Act.put, List.setIfInBounds_toArray, List.set_cons_zero, List.set_cons_succ, i64_w, i32_w]
            rfl
          refine take_ (i := 5) (N := some 15) (v := ?_) (a' := ?_) #[true, true, true, true, true, true, true, false, false, false, false, false, false, false, false, false, false, false] rfl rfl (take_ofW HT_.out HW_.out (by kernel_rfl)) (fun _ _ _ h => h) (Or.inl ⟨by rfl, ?_⟩) hHeld ?_ ?_
          rotate_left
          · rintro w' ⟨s0, s1, s2, s3, s4, s5⟩
            go_simp
            with_reducible rfl
          rotate_left
          · simp only [Act.put, List.setIfInBounds_toArray, List.set_cons_zero, List.set_cons_succ, i64_w, i32_w]
            rfl
          refine take_ (i := 7) (N := some 17) (v := ?_) (a' := ?_) #[true, true, true, true, true, true, true, true, false, false, false, false, false, false, false, false, false, false] rfl rfl (take_ofW HT_.out HW_.out (by kernel_rfl)) (fun _ _ _ h => h) (Or.inl ⟨by rfl, ?_⟩) hHeld ?_ ?_
          rotate_left
          · rintro w' ⟨s0, s1, s2, s3, s4, s5⟩
            go_simp
            with_reducible rfl
          rotate_left
          · simp only [Act.put, List.setIfInBounds_toArray, List.set_cons_zero, List.set_cons_succ, i64_w, i32_w]
            rfl
          refine pure_ (i := 8) (N := some 18) (v := ?_) (a' := ?_) #[true, true, true, true, true, true, true, true, true, false, false, false, false, false, false, false, false, false] rfl rfl (any_of HT_.out (by kernel_rfl)) (fun _ _ _ h => h) (Or.inl ⟨by rfl, ?_⟩) ?_ ?_
          rotate_left
          · intro w'
            go_simp
            with_reducible rfl
          rotate_left
          · simp only [Act.put, List.setIfInBounds_toArray, List.set_cons_zero, List.set_cons_succ, i64_w, i32_w]
            rfl
          refine pure_ (i := 9) (N := some 19) (v := ?_) (a' := ?_) #[true, true, true, true, true, true, true, true, true, true, false, false, false, false, false, false, false, false] rfl rfl (any_of HT_.out (by kernel_rfl)) (fun _ _ _ h => h) (Or.inl ⟨by rfl, ?_⟩) ?_ ?_
          rotate_left
          · intro w'
            go_simp
            with_reducible rfl
          rotate_left
          · simp only [Act.put, List.setIfInBounds_toArray, List.set_cons_zero, List.set_cons_succ, i64_w, i32_w]
            rfl
          refine pure_ (i := 10) (N := some 20) (v := ?_) (a' := ?_) #[true, true, true, true, true, true, true, true, true, true, true, false, false, false, false, false, false, false] rfl rfl (any_of HT_.out (by kernel_rfl)) (fun _ _ _ h => h) (Or.inl ⟨by rfl, ?_⟩) ?_ ?_
          rotate_left
          · intro w'
            go_simp
            with_reducible rfl
          rotate_left
          · simp only [Act.put, List.setIfInBounds_toArray, List.set_cons_zero, List.set_cons_succ, i64_w, i32_w]
            rfl
          refine pure_ (i := 11) (N := some 21) (v := ?_) (a' := ?_) #[true, true, true, true, true, true, true, true, true, true, true, true, false, false, false, false, false, false] rfl rfl (any_of HT_.out (by kernel_rfl)) (fun _ _ _ h => h) (Or.inl ⟨by rfl, ?_⟩) ?_ ?_
          rotate_left
          · intro w'
            go_simp
            with_reducible rfl
          rotate_left
          · simp only [Act.put, List.setIfInBounds_toArray, List.set_cons_zero, List.set_cons_succ, i64_w, i32_w]
            rfl
          refine pure_ (i := 12) (N := some 22) (v := ?_) (a' := ?_) #[true, true, true, true, true, true, true, true, true, true, true, true, true, false, false, false, false, false] rfl rfl (any_of HT_.out (by kernel_rfl)) (fun _ _ _ h => h) (Or.inl ⟨by rfl, ?_⟩) ?_ ?_
          rotate_left
          · intro w'
            go_simp
            with_reducible rfl
          rotate_left
          · simp only [Act.put, List.setIfInBounds_toArray, List.set_cons_zero, List.set_cons_succ, i64_w, i32_w]
            rfl
          refine pure_ (i := 14) (N := some 24) (v := ?_) (a' := ?_) #[true, true, true, true, true, true, true, true, true, true, true, true, true, false, true, false, false, false] rfl rfl (any_of HT_.out (by kernel_rfl)) (fun _ _ _ h => h) (Or.inl ⟨by rfl, ?_⟩) ?_ ?_
          rotate_left
          · intro w'
            go_simp
            with_reducible rfl
          rotate_left
          · simp only [Act.put, List.setIfInBounds_toArray, List.set_cons_zero, List.set_cons_succ, i64_w, i32_w]
            rfl
          refine take_ (i := 13) (N := some 23) (v := ?_) (a' := ?_) #[true, true, true, true, true, true, true, true, true, true, true, true, true, true, true, false, false, false] rfl rfl (take_ofW HT_.out HW_.out (by kernel_rfl)) (fun _ _ _ h => h) (Or.inl ⟨by rfl, ?_⟩) hHeld ?_ ?_
          rotate_left
          · rintro w' ⟨s0, s1, s2, s3, s4, s5⟩
            go_simp
            with_reducible rfl
          rotate_left
          · simp only [Act.put, List.setIfInBounds_toArray, List.set_cons_zero, List.set_cons_succ, i64_w, i32_w]
            rfl
          refine pure_ (i := 15) (N := some 25) (v := ?_) (a' := ?_) #[true, true, true, true, true, true, true, true, true, true, true, true, true, true, true, true, false, false] rfl rfl (any_of HT_.out (by kernel_rfl)) (fun _ _ _ h => h) (Or.inl ⟨by rfl, ?_⟩) ?_ ?_
          rotate_left
          · intro w'
            go_simp
            with_reducible rfl
          rotate_left
          · simp only [Act.put, List.setIfInBounds_toArray, List.set_cons_zero, List.set_cons_succ, i64_w, i32_w]
            rfl
          refine pure_ (i := 16) (N := some 26) (v := ?_) (a' := ?_) #[true, true, true, true, true, true, true, true, true, true, true, true, true, true, true, true, true, false] rfl rfl (any_of HT_.out (by kernel_rfl)) (fun _ _ _ h => h) (Or.inl ⟨by rfl, ?_⟩) ?_ ?_
          rotate_left
          · intro w'
            go_simp
            with_reducible rfl
          rotate_left
          · simp only [Act.put, List.setIfInBounds_toArray, List.set_cons_zero, List.set_cons_succ, i64_w, i32_w]
            rfl
          refine pure_ (i := 17) (N := some 9) (v := ?_) (a' := ?_) #[true, true, true, true, true, true, true, true, true, true, true, true, true, true, true, true, true, true] rfl rfl (any_of HT_.out (by kernel_rfl)) (fun _ _ _ h => h) (Or.inl ⟨by rfl, ?_⟩) ?_ ?_
          rotate_left
          · intro w'
            go_simp
            with_reducible rfl
          rotate_left
          · simp only [Act.put, List.setIfInBounds_toArray, List.set_cons_zero, List.set_cons_succ, i64_w, i32_w]
            rfl
          refine done_ (done_of HT_.out (by kernel_rfl)) ?_
          try go_wp2
          go_meet
          case rel => exact ⟨_, (decide (a1_2 < t709)), (by first | rfl | (simp; done) | (simp [*]; done)), H', ⟨by first | omega | exact Nat.le_refl _⟩, ⟨by (with_reducible repeat (first | refine blk_drewN ?_ _ | refine blk_drew ?_ | refine blk_alloc ?_ _)); exact BK707.out⟩, ⟨by (with_reducible repeat (first | refine blk_drewN ?_ _ | refine blk_drew ?_ | refine blk_alloc ?_ _)); exact BK708.out⟩, ⟨by repeat (first | (with_reducible first | exact HB.out | apply below_alloc | apply pw_below_drewN | apply below_drew1 | refine below_set ?_ GE707.out | refine below_set ?_ GE708.out) | exact HB.out)⟩⟩
      · rw [if_neg c12] at H
        exact absurd H (by simp)
  case rest =>
    clear HC4
    try clear c1
    try clear p2
    try clear c7
    try clear c10
    try clear c10b0
    try clear c10b1
    try clear c12
    try clear c12b0
    try clear c12b1
    try clear c14
    try clear c14b0
    try clear c15
    try clear hcz8_0
    try clear hcz8_1
    try clear hfz8_0
    try clear hfz8_1
    obtain ⟨kq, x9_3, rfl, HA, HJ3, BK707, BK708, HB⟩ := hcut
    cases kq with
    | zero => exact absurd HA.out (by simp [shape_format_finite.j0])
    | succ kj3 =>
      have H := HA.out
      clear HA
      simp only [shape_format_finite.j0] at H
      by_cases c17 : x9_3 = true
      · subst c17
        have H1 : (some (0, false)) = some (r1, r2) := by rw [if_pos rfl] at H; exact H
        clear H
        have H := H1
        clear H1
        simp only [Option.some.injEq, Prod.mk.injEq] at H
        obtain ⟨rfl, rfl⟩ := H
        go_wp2
        go_ret2
        exact ⟨by first | rfl | (simp [errW_none, errW_some] <;> rfl) | (simp [*, errW_none, errW_some] <;> rfl), by repeat (first | (with_reducible first | exact HB.out | apply below_alloc | apply pw_below_drewN | apply below_drew1 | refine below_set ?_ GE707.out | refine below_set ?_ GE708.out) | exact HB.out)⟩
      · replace c17 := Bool.eq_false_iff.mpr c17
        subst c17
        have H1 : (if 0 ≤ a0_1 then (if a1_3 < (shl .u64 1 a0_1) then ((shape_format_join.f a0_0 a0_1 a1_0 0 a1_3).bind fun t710 => (some (t710, (a1_2 == t709)))) else ((shape_format_ones.f a0_0 a0_1).bind fun t711 => (if (wrap64 (a1_2 - t709)) > (wrap64 ((wrap64 (t711)) - 2)) then (some (0, false)) else ((shape_format_join.f a0_0 a0_1 a1_0 (IntKind.u64.wrap ((IntKind.u64.wrap (wrap64 (a1_2 - t709))) + 1)) (Go.bits .and .u64 a1_3 (IntKind.u64.wrap ((shl .u64 1 a0_1) - 1)))).bind fun t712 => (some (t712, true)))))) else (none)) = some (r1, r2) := by rw [if_neg (show ¬ (false = true) by decide)] at H; exact H
        clear H
        have H := H1
        clear H1
        by_cases c18 : 0 ≤ a0_1
        · rw [if_pos c18] at H
          have c18b0 := eq_true c18
          have c18b1 : decide (0 ≤ a0_1) = true := decide_eq_true c18
          clear c18
          obtain ⟨ji19, hji19⟩ : ∃ j_ : Int, (shl .u64 1 a0_1) = j_ := ⟨_, rfl⟩
          replace H : (if a1_3 < (ji19) then ((shape_format_join.f a0_0 a0_1 a1_0 0 a1_3).bind fun t710 => (some (t710, (a1_2 == t709)))) else ((shape_format_ones.f a0_0 a0_1).bind fun t711 => (if (wrap64 (a1_2 - t709)) > (wrap64 ((wrap64 (t711)) - 2)) then (some (0, false)) else ((shape_format_join.f a0_0 a0_1 a1_0 (IntKind.u64.wrap ((IntKind.u64.wrap (wrap64 (a1_2 - t709))) + 1)) (Go.bits .and .u64 a1_3 (IntKind.u64.wrap ((ji19) - 1)))).bind fun t712 => (some (t712, true)))))) = some (r1, r2) := by first | (rw [hji19] at H; exact H) | (simp only [hji19] at H ⊢; exact H)
          have hji19_ : (IntKind.u64.wrap (1 * 2 ^ min a0_1.toNat 64)) = ji19 := hji19
          have hji19z : a0_1 ≤ 64 → (IntKind.u64.wrap (1 * 2 ^ a0_1.toNat)) = ji19 := shl_small hji19
          have hji19u : (IntKind.u64.wrap (2 ^ min a0_1.toNat 64)) = ji19 := by have h_ := hji19_; rw [Int.one_mul] at h_; exact h_
          have hji19v : a0_1 ≤ 64 → (IntKind.u64.wrap (2 ^ a0_1.toNat)) = ji19 := fun hle_ => by have h_ := hji19z hle_; rw [Int.one_mul] at h_; exact h_
          by_cases c20 : a1_3 < (ji19)
          · rw [if_pos c20] at H
            have c20b0 : decide (a1_3 < (ji19)) = true := decide_eq_true c20
            clear c20
            replace H := Option.bind_eq_some_iff.mp H
            obtain ⟨t710, A210, H⟩ := H
            replace H : (some (t710, (a1_2 == t709))) = some (r1, r2) := H
            have A21 := Aside0.mk A210
            clear A210
            simp only [Option.some.injEq, Prod.mk.injEq] at H
            obtain ⟨rfl, rfl⟩ := H
            try go_wp2
            have n0_ := Aside0.mk (blk_drew BK707.out)
            have n1_ := Aside0.mk (blk_drew BK708.out)
            have n2_ := Aside0.mk (below_drew1 HB.out)
            clear BK707
            clear BK708
            clear HB
            have BK707 := n0_
            have BK708 := n1_
            have HB := n2_
            clear n0_ n1_ n2_
            refine start_ (n := 7) (S := fun w' => w'.cell? ⟨gb708, 0, none⟩ = some (.bool a1_0) ∧ w'.cell? ⟨gb708, 1, none⟩ = some (.int .i64 a1_1) ∧ w'.cell? ⟨gb708, 2, none⟩ = some (.int .i64 a1_2) ∧ w'.cell? ⟨gb708, 3, none⟩ = some (.int .u64 a1_3) ∧ w'.cell? ⟨gb707, 0, none⟩ = some (.int .i64 a0_0) ∧ w'.cell? ⟨gb707, 1, none⟩ = some (.int .i64 a0_1)) (ds := []) #[false, false, false, false, false, false, false] (by kernel_rfl) rfl rfl ⟨(blk_cell BK708.out 0).trans rfl, (blk_cell BK708.out 1).trans rfl, (blk_cell BK708.out 2).trans rfl, (blk_cell BK708.out 3).trans rfl, (blk_cell BK707.out 0).trans rfl, (blk_cell BK707.out 1).trans rfl⟩ (fun hHeld => ?_)
            generalize wc.drew = w22 at BK707 BK708 HB hHeld ⊢
            refine pure_ (i := 0) (N := some 28) (v := ?_) (a' := ?_) #[true, false, false, false, false, false, false] rfl rfl (by kernel_rfl) (fun _ _ _ h => h) (Or.inl ⟨by rfl, ?_⟩) ?_ ?_
            rotate_left
            · intro w'
              go_simp
              with_reducible rfl
            rotate_left
            · simp only [Act.put, List.setIfInBounds_toArray, List.set_cons_zero, List.set_cons_succ, i64_w, i32_w]
              rfl
            refine pure_ (i := 2) (N := some 30) (v := ?_) (a' := ?_) #[true, false, true, false, false, false, false] rfl rfl (by kernel_rfl) (fun _ _ _ h => h) (Or.inl ⟨by rfl, ?_⟩) ?_ ?_
            rotate_left
            · intro w'
              go_simp
              with_reducible rfl
            rotate_left
            · simp only [Act.put, List.setIfInBounds_toArray, List.set_cons_zero, List.set_cons_succ, i64_w, i32_w]
              rfl
            refine take_ (i := 1) (N := some 29) (v := ?_) (a' := ?_) #[true, true, true, false, false, false, false] rfl rfl (by kernel_rfl) (fun _ _ _ h => h) (Or.inl ⟨by rfl, ?_⟩) hHeld ?_ ?_
            rotate_left
            · rintro w' ⟨s0, s1, s2, s3, s4, s5⟩
              go_simp
              with_reducible rfl
            rotate_left
            · simp only [Act.put, List.setIfInBounds_toArray, List.set_cons_zero, List.set_cons_succ, i64_w, i32_w]
              rfl
            refine take_ (i := 3) (N := some 31) (v := ?_) (a' := ?_) #[true, true, true, true, false, false, false] rfl rfl (by kernel_rfl) (fun _ _ _ h => h) (Or.inl ⟨by rfl, ?_⟩) hHeld ?_ ?_
            rotate_left
            · rintro w' ⟨s0, s1, s2, s3, s4, s5⟩
              go_simp
              with_reducible rfl
            rotate_left
            · simp only [Act.put, List.setIfInBounds_toArray, List.set_cons_zero, List.set_cons_succ, i64_w, i32_w]
              rfl
            refine pure_ (i := 4) (N := some 32) (v := ?_) (a' := ?_) #[true, true, true, true, true, false, false] rfl rfl (by kernel_rfl) (fun _ _ _ h => h) (Or.inl ⟨by rfl, ?_⟩) ?_ ?_
            rotate_left
            · intro w'
              go_simp
              with_reducible rfl
            rotate_left
            · simp only [Act.put, List.setIfInBounds_toArray, List.set_cons_zero, List.set_cons_succ, i64_w, i32_w]
              rfl
            refine pure_ (i := 5) (N := some 33) (v := ?_) (a' := ?_) #[true, true, true, true, true, true, false] rfl rfl (by kernel_rfl) (fun _ _ _ h => h) (Or.inl ⟨by rfl, ?_⟩) ?_ ?_
            rotate_left
            · intro w'
              go_simp
              with_reducible rfl
            rotate_left
            · simp only [Act.put, List.setIfInBounds_toArray, List.set_cons_zero, List.set_cons_succ, i64_w, i32_w]
              rfl
            refine pure_ (i := 6) (N := some 27) (v := ?_) (a' := ?_) #[true, true, true, true, true, true, true] rfl rfl (by kernel_rfl) (fun _ _ _ h => h) (Or.inl ⟨by rfl, ?_⟩) ?_ ?_
            rotate_left
            · intro w'
              go_simp
              with_reducible rfl
            rotate_left
            · simp only [Act.put, List.setIfInBounds_toArray, List.set_cons_zero, List.set_cons_succ, i64_w, i32_w]
              rfl
            refine done_ (by kernel_rfl) ?_
            try go_wp2
            have n0_ := Aside0.mk (blk_drew BK707.out)
            have n1_ := Aside0.mk (blk_drew BK708.out)
            have n2_ := Aside0.mk (below_drew1 HB.out)
            clear BK707
            clear BK708
            clear HB
            have BK707 := n0_
            have BK708 := n1_
            have HB := n2_
            clear n0_ n1_ n2_
            refine start_ (n := 12) (S := fun w' => w'.cell? ⟨gb707, 0, none⟩ = some (.int .i64 a0_0) ∧ w'.cell? ⟨gb707, 1, none⟩ = some (.int .i64 a0_1) ∧ w'.cell? ⟨gb708, 0, none⟩ = some (.bool a1_0) ∧ w'.cell? ⟨gb708, 1, none⟩ = some (.int .i64 a1_1) ∧ w'.cell? ⟨gb708, 2, none⟩ = some (.int .i64 a1_2) ∧ w'.cell? ⟨gb708, 3, none⟩ = some (.int .u64 a1_3)) (ds := []) #[false, false, false, false, false, false, false, false, false, false, false, false] (by kernel_rfl) rfl rfl ⟨(blk_cell BK707.out 0).trans rfl, (blk_cell BK707.out 1).trans rfl, (blk_cell BK708.out 0).trans rfl, (blk_cell BK708.out 1).trans rfl, (blk_cell BK708.out 2).trans rfl, (blk_cell BK708.out 3).trans rfl⟩ (fun hHeld => ?_); refine with_tabW shape_format_finite.tab5 shape_format_finite.bits5 (fun HT_ HW_ => ?_)
            generalize w22.drew = w23 at BK707 BK708 HB hHeld ⊢
            refine pure_ (i := 1) (N := some 35) (v := ?_) (a' := ?_) #[false, true, false, false, false, false, false, false, false, false, false, false] rfl rfl (any_of HT_.out (by kernel_rfl)) (fun _ _ _ h => h) (Or.inl ⟨by rfl, ?_⟩) ?_ ?_
            rotate_left
            · intro w'
              go_simp
              with_reducible rfl
            rotate_left
            · simp only [Act.put, List.setIfInBounds_toArray, List.set_cons_zero, List.set_cons_succ, i64_w, i32_w]
              rfl
            refine pure_ (i := 3) (N := some 37) (v := ?_) (a' := ?_) #[false, true, false, true, false, false, false, false, false, false, false, false] rfl rfl (any_of HT_.out (by kernel_rfl)) (fun _ _ _ h => h) (Or.inl ⟨by rfl, ?_⟩) ?_ ?_
            rotate_left
            · intro w'
              go_simp
              with_reducible rfl
            rotate_left
            · simp only [Act.put, List.setIfInBounds_toArray, List.set_cons_zero, List.set_cons_succ, i64_w, i32_w]
              rfl
            refine pure_ (i := 6) (N := some 40) (v := ?_) (a' := ?_) #[false, true, false, true, false, false, true, false, false, false, false, false] rfl rfl (any_of HT_.out (by kernel_rfl)) (fun _ _ _ h => h) (Or.inl ⟨by rfl, ?_⟩) ?_ ?_
            rotate_left
            · intro w'
              go_simp
              with_reducible rfl
            rotate_left
            · simp only [Act.put, List.setIfInBounds_toArray, List.set_cons_zero, List.set_cons_succ, i64_w, i32_w]
              rfl
            refine pure_ (i := 8) (N := some 42) (v := ?_) (a' := ?_) #[false, true, false, true, false, false, true, false, true, false, false, false] rfl rfl (any_of HT_.out (by kernel_rfl)) (fun _ _ _ h => h) (Or.inl ⟨by rfl, ?_⟩) ?_ ?_
            rotate_left
            · intro w'
              go_simp
              with_reducible rfl
            rotate_left
            · simp only [Act.put, List.setIfInBounds_toArray, List.set_cons_zero, List.set_cons_succ, i64_w, i32_w]
              rfl
            refine take_ (i := 0) (N := some 34) (v := ?_) (a' := ?_) #[true, true, false, true, false, false, true, false, true, false, false, false] rfl rfl (take_ofW HT_.out HW_.out (by kernel_rfl)) (fun _ _ _ h => h) (Or.inl ⟨by rfl, ?_⟩) hHeld ?_ ?_
            rotate_left
            · rintro w' ⟨s0, s1, s2, s3, s4, s5⟩
              go_simp
              with_reducible rfl
            rotate_left
            · simp only [Act.put, List.setIfInBounds_toArray, List.set_cons_zero, List.set_cons_succ, i64_w, i32_w]
              rfl
            refine take_ (i := 2) (N := some 36) (v := ?_) (a' := ?_) #[true, true, true, true, false, false, true, false, true, false, false, false] rfl rfl (take_ofW HT_.out HW_.out (by kernel_rfl)) (fun _ _ _ h => h) (Or.inl ⟨by rfl, ?_⟩) hHeld ?_ ?_
            rotate_left
            · rintro w' ⟨s0, s1, s2, s3, s4, s5⟩
              go_simp
              with_reducible rfl
            rotate_left
            · simp only [Act.put, List.setIfInBounds_toArray, List.set_cons_zero, List.set_cons_succ, i64_w, i32_w]
              rfl
            refine take_ (i := 4) (N := some 38) (v := ?_) (a' := ?_) #[true, true, true, true, true, false, true, false, true, false, false, false] rfl rfl (take_ofW HT_.out HW_.out (by kernel_rfl)) (fun _ _ _ h => h) (Or.inl ⟨by rfl, ?_⟩) hHeld ?_ ?_
            rotate_left
            · rintro w' ⟨s0, s1, s2, s3, s4, s5⟩
              go_simp
              with_reducible rfl
            rotate_left
            · simp only [Act.put, List.setIfInBounds_toArray, List.set_cons_zero, List.set_cons_succ, i64_w, i32_w]
              rfl
            refine take_ (i := 7) (N := some 41) (v := ?_) (a' := ?_) #[true, true, true, true, true, false, true, true, true, false, false, false] rfl rfl (take_ofW HT_.out HW_.out (by kernel_rfl)) (fun _ _ _ h => h) (Or.inl ⟨by rfl, ?_⟩) hHeld ?_ ?_
            rotate_left
            · rintro w' ⟨s0, s1, s2, s3, s4, s5⟩
              go_simp
              with_reducible rfl
            rotate_left
            · simp only [Act.put, List.setIfInBounds_toArray, List.set_cons_zero, List.set_cons_succ, i64_w, i32_w]
              rfl
            refine pure_ (i := 9) (N := some 43) (v := ?_) (a' := ?_) #[true, true, true, true, true, false, true, true, true, true, false, false] rfl rfl (any_of HT_.out (by kernel_rfl)) (fun _ _ _ h => h) (Or.inl ⟨by rfl, ?_⟩) ?_ ?_
            rotate_left
            · intro w'
              go_simp
              with_reducible rfl
            rotate_left
            · simp only [Act.put, List.setIfInBounds_toArray, List.set_cons_zero, List.set_cons_succ, i64_w, i32_w]
              rfl
            refine one_ (i := 5) (N := some 39) #[true, true, true, true, true, true, true, true, true, true, false, false] rfl rfl (one_of HT_.out (by kernel_rfl)) (by decide) (fun K hK => ?_)
            refine goes_ Try.func140 (by kernel_rfl) rfl #[.agg #[.int .i64 a0_0, .int .i64 a0_1], .bool a1_0, .int .u64 0, .int .u64 a1_3] (by rfl) rfl rfl (by (try simp only [List.map_toArray, List.map_cons, List.map_nil]); first | done | rfl | (simp only [List.length_drop, List.length_take]; rfl)) ?_
            with_reducible refine (shape_format_join.calls a0_0 a0_1 a1_0 0 a1_3 t710 _ A21.out).mono ?_
            rintro e w24 ⟨rfl, hb⟩
            refine ⟨_, rfl, ?_⟩
            have n0_ := Aside0.mk (blk_below (g := gb707) (o := .cells #[.int .i64 a0_0, .int .i64 a0_1] 106 (0, 0)) (by (with_reducible repeat (first | refine blk_drewN ?_ _ | refine blk_drew ?_ | refine blk_alloc ?_ _)); exact BK707.out) hb)
            have n1_ := Aside0.mk (blk_below (g := gb708) (o := .cells #[.bool a1_0, .int .i64 a1_1, .int .i64 a1_2, .int .u64 a1_3] 34 (0, 0)) (by (with_reducible repeat (first | refine blk_drewN ?_ _ | refine blk_drew ?_ | refine blk_alloc ?_ _)); exact BK708.out) hb)
            have n2_ := Aside0.mk (below_step (by repeat (first | (with_reducible first | exact HB.out | apply below_alloc | apply pw_below_drewN | apply below_drew1 | refine below_set ?_ GE707.out | refine below_set ?_ GE708.out) | exact HB.out)) hb)
            clear BK707
            clear BK708
            clear HB
            have BK707 := n0_
            have BK708 := n1_
            have HB := n2_
            clear n0_ n1_ n2_
            (try clear hb)
            (try clear hb2)
            (try clear hk)
            (try clear hi)
            refine hK.out _ _ ⟨(blk_cell BK707.out 0).trans rfl, (blk_cell BK707.out 1).trans rfl, (blk_cell BK708.out 0).trans rfl, (blk_cell BK708.out 1).trans rfl, (blk_cell BK708.out 2).trans rfl, (blk_cell BK708.out 3).trans rfl⟩ (fun hHeld => ?_)
            clear hK K
            refine norm_ (a' := ?_) ?_ ?_
            rotate_left
            · show Act.put _ (some 39) _ = _
              simp only [Act.put, List.setIfInBounds_toArray, List.set_cons_zero, List.set_cons_succ, i64_w, i32_w]
              rfl
            refine pure_ (i := 10) (N := some 4) (v := ?_) (a' := ?_) #[true, true, true, true, true, true, true, true, true, true, true, false] rfl rfl (any_of HT_.out (by kernel_rfl)) (fun _ _ _ h => h) (Or.inl ⟨by rfl, ?_⟩) ?_ ?_
            rotate_left
            · intro w'
              go_simp
              with_reducible rfl
            rotate_left
            · simp only [Act.put, List.setIfInBounds_toArray, List.set_cons_zero, List.set_cons_succ, i64_w, i32_w]
              rfl
            refine pure_ (i := 11) (N := some 5) (v := ?_) (a' := ?_) #[true, true, true, true, true, true, true, true, true, true, true, true] rfl rfl (any_of HT_.out (by kernel_rfl)) (fun _ _ _ h => h) (Or.inl ⟨by rfl, ?_⟩) ?_ ?_
            rotate_left
            · intro w'
              go_simp
              with_reducible rfl
            rotate_left
            · simp only [Act.put, List.setIfInBounds_toArray, List.set_cons_zero, List.set_cons_succ, i64_w, i32_w]
              rfl
            refine done_ (done_of HT_.out (by kernel_rfl)) ?_
            try go_wp2
            go_ret2
            exact ⟨by first | rfl | (simp [errW_none, errW_some] <;> rfl) | (simp only [← hji19]; first | rfl | (simp [errW_none, errW_some] <;> rfl)) | (simp [*, errW_none, errW_some] <;> rfl), by repeat (first | (with_reducible first | exact HB.out | apply below_alloc | apply pw_below_drewN | apply below_drew1 | refine below_set ?_ GE707.out | refine below_set ?_ GE708.out) | exact HB.out)⟩
          · rw [if_neg c20] at H
            have c20b0 : decide (a1_3 < (ji19)) = false := decide_eq_false c20
            clear c20
            replace H := Option.bind_eq_some_iff.mp H
            obtain ⟨t711, A250, H⟩ := H
            replace H : (if (wrap64 (a1_2 - t709)) > (wrap64 ((wrap64 (t711)) - 2)) then (some (0, false)) else ((shape_format_join.f a0_0 a0_1 a1_0 (IntKind.u64.wrap ((IntKind.u64.wrap (wrap64 (a1_2 - t709))) + 1)) (Go.bits .and .u64 a1_3 (IntKind.u64.wrap ((ji19) - 1)))).bind fun t712 => (some (t712, true)))) = some (r1, r2) := H
            have A25 := Aside0.mk A250
            clear A250
            by_cases c26 : (wrap64 (a1_2 - t709)) > (wrap64 ((wrap64 (t711)) - 2))
            · rw [if_pos c26] at H
              have c26b0 : decide ((wrap64 ((wrap64 (t711)) - 2)) < (wrap64 (a1_2 - t709))) = true := decide_eq_true c26
              clear c26
              simp only [Option.some.injEq, Prod.mk.injEq] at H
              obtain ⟨rfl, rfl⟩ := H
              try go_wp2
              have n0_ := Aside0.mk (blk_drew BK707.out)
              have n1_ := Aside0.mk (blk_drew BK708.out)
              have n2_ := Aside0.mk (below_drew1 HB.out)
              clear BK707
              clear BK708
              clear HB
              have BK707 := n0_
              have BK708 := n1_
              have HB := n2_
              clear n0_ n1_ n2_
              refine start_ (n := 7) (S := fun w' => w'.cell? ⟨gb708, 0, none⟩ = some (.bool a1_0) ∧ w'.cell? ⟨gb708, 1, none⟩ = some (.int .i64 a1_1) ∧ w'.cell? ⟨gb708, 2, none⟩ = some (.int .i64 a1_2) ∧ w'.cell? ⟨gb708, 3, none⟩ = some (.int .u64 a1_3) ∧ w'.cell? ⟨gb707, 0, none⟩ = some (.int .i64 a0_0) ∧ w'.cell? ⟨gb707, 1, none⟩ = some (.int .i64 a0_1)) (ds := []) #[false, false, false, false, false, false, false] (by kernel_rfl) rfl rfl ⟨(blk_cell BK708.out 0).trans rfl, (blk_cell BK708.out 1).trans rfl, (blk_cell BK708.out 2).trans rfl, (blk_cell BK708.out 3).trans rfl, (blk_cell BK707.out 0).trans rfl, (blk_cell BK707.out 1).trans rfl⟩ (fun hHeld => ?_)
              generalize wc.drew = w27 at BK707 BK708 HB hHeld ⊢
              refine pure_ (i := 0) (N := some 28) (v := ?_) (a' := ?_) #[true, false, false, false, false, false, false] rfl rfl (by kernel_rfl) (fun _ _ _ h => h) (Or.inl ⟨by rfl, ?_⟩) ?_ ?_
              rotate_left
              · intro w'
                go_simp
                with_reducible rfl
              rotate_left
              · simp only [Act.put, List.setIfInBounds_toArray, List.set_cons_zero, List.set_cons_succ, i64_w, i32_w]
                rfl
              refine pure_ (i := 2) (N := some 30) (v := ?_) (a' := ?_) #[true, false, true, false, false, false, false] rfl rfl (by kernel_rfl) (fun _ _ _ h => h) (Or.inl ⟨by rfl, ?_⟩) ?_ ?_
              rotate_left
              · intro w'
                go_simp
                with_reducible rfl
              rotate_left
              · simp only [Act.put, List.setIfInBounds_toArray, List.set_cons_zero, List.set_cons_succ, i64_w, i32_w]
                rfl
              refine take_ (i := 1) (N := some 29) (v := ?_) (a' := ?_) #[true, true, true, false, false, false, false] rfl rfl (by kernel_rfl) (fun _ _ _ h => h) (Or.inl ⟨by rfl, ?_⟩) hHeld ?_ ?_
              rotate_left
              · rintro w' ⟨s0, s1, s2, s3, s4, s5⟩
                go_simp
                with_reducible rfl
              rotate_left
              · simp only [Act.put, List.setIfInBounds_toArray, List.set_cons_zero, List.set_cons_succ, i64_w, i32_w]
                rfl
              refine take_ (i := 3) (N := some 31) (v := ?_) (a' := ?_) #[true, true, true, true, false, false, false] rfl rfl (by kernel_rfl) (fun _ _ _ h => h) (Or.inl ⟨by rfl, ?_⟩) hHeld ?_ ?_
              rotate_left
              · rintro w' ⟨s0, s1, s2, s3, s4, s5⟩
                go_simp
                with_reducible rfl
              rotate_left
              · simp only [Act.put, List.setIfInBounds_toArray, List.set_cons_zero, List.set_cons_succ, i64_w, i32_w]
                rfl
              refine pure_ (i := 4) (N := some 32) (v := ?_) (a' := ?_) #[true, true, true, true, true, false, false] rfl rfl (by kernel_rfl) (fun _ _ _ h => h) (Or.inl ⟨by rfl, ?_⟩) ?_ ?_
              rotate_left
              · intro w'
                go_simp
                with_reducible rfl
              rotate_left
              · simp only [Act.put, List.setIfInBounds_toArray, List.set_cons_zero, List.set_cons_succ, i64_w, i32_w]
                rfl
              refine pure_ (i := 5) (N := some 33) (v := ?_) (a' := ?_) #[true, true, true, true, true, true, false] rfl rfl (by kernel_rfl) (fun _ _ _ h => h) (Or.inl ⟨by rfl, ?_⟩) ?_ ?_
              rotate_left
              · intro w'
                go_simp
                with_reducible rfl
              rotate_left
              · simp only [Act.put, List.setIfInBounds_toArray, List.set_cons_zero, List.set_cons_succ, i64_w, i32_w]
                rfl
              refine pure_ (i := 6) (N := some 27) (v := ?_) (a' := ?_) #[true, true, true, true, true, true, true] rfl rfl (by kernel_rfl) (fun _ _ _ h => h) (Or.inl ⟨by rfl, ?_⟩) ?_ ?_
              rotate_left
              · intro w'
                go_simp
                with_reducible rfl
              rotate_left
              · simp only [Act.put, List.setIfInBounds_toArray, List.set_cons_zero, List.set_cons_succ, i64_w, i32_w]
                rfl
              refine done_ (by kernel_rfl) ?_
              try go_wp2
              have n0_ := Aside0.mk (blk_drew BK707.out)
              have n1_ := Aside0.mk (blk_drew BK708.out)
              have n2_ := Aside0.mk (below_drew1 HB.out)
              clear BK707
              clear BK708
              clear HB
              have BK707 := n0_
              have BK708 := n1_
              have HB := n2_
              clear n0_ n1_ n2_
              refine start_ (n := 10) (S := fun w' => w'.cell? ⟨gb708, 0, none⟩ = some (.bool a1_0) ∧ w'.cell? ⟨gb708, 1, none⟩ = some (.int .i64 a1_1) ∧ w'.cell? ⟨gb708, 2, none⟩ = some (.int .i64 a1_2) ∧ w'.cell? ⟨gb708, 3, none⟩ = some (.int .u64 a1_3) ∧ w'.cell? ⟨gb707, 0, none⟩ = some (.int .i64 a0_0) ∧ w'.cell? ⟨gb707, 1, none⟩ = some (.int .i64 a0_1)) (ds := []) #[false, false, false, false, false, false, false, false, false, false] (by kernel_rfl) rfl rfl ⟨(blk_cell BK708.out 0).trans rfl, (blk_cell BK708.out 1).trans rfl, (blk_cell BK708.out 2).trans rfl, (blk_cell BK708.out 3).trans rfl, (blk_cell BK707.out 0).trans rfl, (blk_cell BK707.out 1).trans rfl⟩ (fun hHeld => ?_); refine with_tabW shape_format_finite.tab6 shape_format_finite.bits6 (fun HT_ HW_ => ?_)
              generalize w27.drew = w28 at BK707 BK708 HB hHeld ⊢
              refine pure_ (i := 0) (N := some 45) (v := ?_) (a' := ?_) #[true, false, false, false, false, false, false, false, false, false] rfl rfl (any_of HT_.out (by kernel_rfl)) (fun _ _ _ h => h) (Or.inl ⟨by rfl, ?_⟩) ?_ ?_
              rotate_left
              · intro w'
                go_simp
                with_reducible rfl
              rotate_left
              · simp only [Act.put, List.setIfInBounds_toArray, List.set_cons_zero, List.set_cons_succ, i64_w, i32_w]
                rfl
              refine pure_ (i := 2) (N := some 47) (v := ?_) (a' := ?_) #[true, false, true, false, false, false, false, false, false, false] rfl rfl (any_of HT_.out (by kernel_rfl)) (fun _ _ _ h => h) (Or.inl ⟨by rfl, ?_⟩) ?_ ?_
              rotate_left
              · intro w'
                go_simp
                with_reducible rfl
              rotate_left
              · simp only [Act.put, List.setIfInBounds_toArray, List.set_cons_zero, List.set_cons_succ, i64_w, i32_w]
                rfl
              refine take_ (i := 1) (N := some 46) (v := ?_) (a' := ?_) #[true, true, true, false, false, false, false, false, false, false] rfl rfl (take_ofW HT_.out HW_.out (by kernel_rfl)) (fun _ _ _ h => h) (Or.inl ⟨by rfl, ?_⟩) hHeld ?_ ?_
              rotate_left
              · rintro w' ⟨s0, s1, s2, s3, s4, s5⟩
                go_simp
                with_reducible rfl
              rotate_left
              · simp only [Act.put, List.setIfInBounds_toArray, List.set_cons_zero, List.set_cons_succ, i64_w, i32_w]
                rfl
              refine pure_ (i := 3) (N := some 48) (v := ?_) (a' := ?_) #[true, true, true, true, false, false, false, false, false, false] rfl rfl (any_of HT_.out (by kernel_rfl)) (fun _ _ _ h => h) (Or.inl ⟨by rfl, ?_⟩) ?_ ?_
              rotate_left
              · intro w'
                go_simp
                with_reducible rfl
              rotate_left
              · simp only [Act.put, List.setIfInBounds_toArray, List.set_cons_zero, List.set_cons_succ, i64_w, i32_w]
                rfl
              refine take_ (i := 4) (N := some 49) (v := ?_) (a' := ?_) #[true, true, true, true, true, false, false, false, false, false] rfl rfl (take_ofW HT_.out HW_.out (by kernel_rfl)) (fun _ _ _ h => h) (Or.inl ⟨by rfl, ?_⟩) hHeld ?_ ?_
              rotate_left
              · rintro w' ⟨s0, s1, s2, s3, s4, s5⟩
                go_simp
                with_reducible rfl
              rotate_left
              · simp only [Act.put, List.setIfInBounds_toArray, List.set_cons_zero, List.set_cons_succ, i64_w, i32_w]
                rfl
              refine one_ (i := 5) (N := some 50) #[true, true, true, true, true, true, false, false, false, false] rfl rfl (one_of HT_.out (by kernel_rfl)) (by decide) (fun K hK => ?_)
              refine goes_ Try.func122 (by kernel_rfl) rfl #[.agg #[.int .i64 a0_0, .int .i64 a0_1]] (by rfl) rfl rfl (by (try simp only [List.map_toArray, List.map_cons, List.map_nil]); first | done | rfl | (simp only [List.length_drop, List.length_take]; rfl)) ?_
              with_reducible refine (shape_format_ones.calls a0_0 a0_1 t711 _ A25.out).mono ?_
              rintro e w29 ⟨rfl, hb⟩
              refine ⟨_, rfl, ?_⟩
              have n0_ := Aside0.mk (blk_below (g := gb707) (o := .cells #[.int .i64 a0_0, .int .i64 a0_1] 106 (0, 0)) (by (with_reducible repeat (first | refine blk_drewN ?_ _ | refine blk_drew ?_ | refine blk_alloc ?_ _)); exact BK707.out) hb)
              have n1_ := Aside0.mk (blk_below (g := gb708) (o := .cells #[.bool a1_0, .int .i64 a1_1, .int .i64 a1_2, .int .u64 a1_3] 34 (0, 0)) (by (with_reducible repeat (first | refine blk_drewN ?_ _ | refine blk_drew ?_ | refine blk_alloc ?_ _)); exact BK708.out) hb)
              have n2_ := Aside0.mk (below_step (by repeat (first | (with_reducible first | exact HB.out | apply below_alloc | apply pw_below_drewN | apply below_drew1 | refine below_set ?_ GE707.out | refine below_set ?_ GE708.out) | exact HB.out)) hb)
              clear BK707
              clear BK708
              clear HB
              have BK707 := n0_
              have BK708 := n1_
              have HB := n2_
              clear n0_ n1_ n2_
              (try clear hb)
              (try clear hb2)
              (try clear hk)
              (try clear hi)
              refine hK.out _ _ ⟨(blk_cell BK708.out 0).trans rfl, (blk_cell BK708.out 1).trans rfl, (blk_cell BK708.out 2).trans rfl, (blk_cell BK708.out 3).trans rfl, (blk_cell BK707.out 0).trans rfl, (blk_cell BK707.out 1).trans rfl⟩ (fun hHeld => ?_)
              clear hK K
              refine norm_ (a' := ?_) ?_ ?_
              rotate_left
              · show Act.put _ (some 50) _ = _
                simp only [Act.put, List.setIfInBounds_toArray, List.set_cons_zero, List.set_cons_succ, i64_w, i32_w]
                rfl
              refine pure_ (i := 6) (N := some 51) (v := ?_) (a' := ?_) #[true, true, true, true, true, true, true, false, false, false] rfl rfl (any_of HT_.out (by kernel_rfl)) (fun _ _ _ h => h) (Or.inl ⟨by rfl, ?_⟩) ?_ ?_
              rotate_left
              · intro w'
                go_simp
                with_reducible rfl
              rotate_left
              · simp only [Act.put, List.setIfInBounds_toArray, List.set_cons_zero, List.set_cons_succ, i64_w, i32_w]
                rfl
              refine pure_ (i := 7) (N := some 52) (v := ?_) (a' := ?_) #[true, true, true, true, true, true, true, true, false, false] rfl rfl (any_of HT_.out (by kernel_rfl)) (fun _ _ _ h => h) (Or.inl ⟨by rfl, ?_⟩) ?_ ?_
              rotate_left
              · intro w'
                go_simp
                with_reducible rfl
              rotate_left
              · simp only [Act.put, List.setIfInBounds_toArray, List.set_cons_zero, List.set_cons_succ, i64_w, i32_w]
                rfl
              refine pure_ (i := 8) (N := some 53) (v := ?_) (a' := ?_) #[true, true, true, true, true, true, true, true, true, false] rfl rfl (any_of HT_.out (by kernel_rfl)) (fun _ _ _ h => h) (Or.inl ⟨by rfl, ?_⟩) ?_ ?_
              rotate_left
              · intro w'
                go_simp
                with_reducible rfl
              rotate_left
              · simp only [Act.put, List.setIfInBounds_toArray, List.set_cons_zero, List.set_cons_succ, i64_w, i32_w]
                rfl
              refine pure_ (i := 9) (N := some 44) (v := ?_) (a' := ?_) #[true, true, true, true, true, true, true, true, true, true] rfl rfl (any_of HT_.out (by kernel_rfl)) (fun _ _ _ h => h) (Or.inl ⟨by rfl, ?_⟩) ?_ ?_
              rotate_left
              · intro w'
                go_simp
                with_reducible rfl
              rotate_left
              · simp only [Act.put, List.setIfInBounds_toArray, List.set_cons_zero, List.set_cons_succ, i64_w, i32_w]
                rfl
              refine done_ (done_of HT_.out (by kernel_rfl)) ?_
              try go_wp2
              go_ret2
              exact ⟨by first | rfl | (simp [errW_none, errW_some] <;> rfl) | (simp only [← hji19]; first | rfl | (simp [errW_none, errW_some] <;> rfl)) | (simp [*, errW_none, errW_some] <;> rfl), by repeat (first | (with_reducible first | exact HB.out | apply below_alloc | apply pw_below_drewN | apply below_drew1 | refine below_set ?_ GE707.out | refine below_set ?_ GE708.out) | exact HB.out)⟩
            · rw [if_neg c26] at H
              have c26b0 : decide ((wrap64 ((wrap64 (t711)) - 2)) < (wrap64 (a1_2 - t709))) = false := decide_eq_false c26
              clear c26
              have c30b0 := eq_true (of_decide_eq_true (by first | (with_reducible assumption) | assumption) : 0 ≤ a0_1)
              replace H := Option.bind_eq_some_iff.mp H
              obtain ⟨t712, A310, H⟩ := H
              replace H : (some (t712, true)) = some (r1, r2) := H
              have A31 := Aside0.mk A310
              clear A310
              simp only [Option.some.injEq, Prod.mk.injEq] at H
              obtain ⟨rfl, rfl⟩ := H
              try go_wp2
              have n0_ := Aside0.mk (blk_drew BK707.out)
              have n1_ := Aside0.mk (blk_drew BK708.out)
              have n2_ := Aside0.mk (below_drew1 HB.out)
              clear BK707
              clear BK708
              clear HB
              have BK707 := n0_
              have BK708 := n1_
              have HB := n2_
              clear n0_ n1_ n2_
              refine start_ (n := 7) (S := fun w' => w'.cell? ⟨gb708, 0, none⟩ = some (.bool a1_0) ∧ w'.cell? ⟨gb708, 1, none⟩ = some (.int .i64 a1_1) ∧ w'.cell? ⟨gb708, 2, none⟩ = some (.int .i64 a1_2) ∧ w'.cell? ⟨gb708, 3, none⟩ = some (.int .u64 a1_3) ∧ w'.cell? ⟨gb707, 0, none⟩ = some (.int .i64 a0_0) ∧ w'.cell? ⟨gb707, 1, none⟩ = some (.int .i64 a0_1)) (ds := []) #[false, false, false, false, false, false, false] (by kernel_rfl) rfl rfl ⟨(blk_cell BK708.out 0).trans rfl, (blk_cell BK708.out 1).trans rfl, (blk_cell BK708.out 2).trans rfl, (blk_cell BK708.out 3).trans rfl, (blk_cell BK707.out 0).trans rfl, (blk_cell BK707.out 1).trans rfl⟩ (fun hHeld => ?_)
              generalize wc.drew = w32 at BK707 BK708 HB hHeld ⊢
              refine pure_ (i := 0) (N := some 28) (v := ?_) (a' := ?_) #[true, false, false, false, false, false, false] rfl rfl (by kernel_rfl) (fun _ _ _ h => h) (Or.inl ⟨by rfl, ?_⟩) ?_ ?_
              rotate_left
              · intro w'
                go_simp
                with_reducible rfl
              rotate_left
              · simp only [Act.put, List.setIfInBounds_toArray, List.set_cons_zero, List.set_cons_succ, i64_w, i32_w]
                rfl
              refine pure_ (i := 2) (N := some 30) (v := ?_) (a' := ?_) #[true, false, true, false, false, false, false] rfl rfl (by kernel_rfl) (fun _ _ _ h => h) (Or.inl ⟨by rfl, ?_⟩) ?_ ?_
              rotate_left
              · intro w'
                go_simp
                with_reducible rfl
              rotate_left
              · simp only [Act.put, List.setIfInBounds_toArray, List.set_cons_zero, List.set_cons_succ, i64_w, i32_w]
                rfl
              refine take_ (i := 1) (N := some 29) (v := ?_) (a' := ?_) #[true, true, true, false, false, false, false] rfl rfl (by kernel_rfl) (fun _ _ _ h => h) (Or.inl ⟨by rfl, ?_⟩) hHeld ?_ ?_
              rotate_left
              · rintro w' ⟨s0, s1, s2, s3, s4, s5⟩
                go_simp
                with_reducible rfl
              rotate_left
              · simp only [Act.put, List.setIfInBounds_toArray, List.set_cons_zero, List.set_cons_succ, i64_w, i32_w]
                rfl
              refine take_ (i := 3) (N := some 31) (v := ?_) (a' := ?_) #[true, true, true, true, false, false, false] rfl rfl (by kernel_rfl) (fun _ _ _ h => h) (Or.inl ⟨by rfl, ?_⟩) hHeld ?_ ?_
              rotate_left
              · rintro w' ⟨s0, s1, s2, s3, s4, s5⟩
                go_simp
                with_reducible rfl
              rotate_left
              · simp only [Act.put, List.setIfInBounds_toArray, List.set_cons_zero, List.set_cons_succ, i64_w, i32_w]
                rfl
              refine pure_ (i := 4) (N := some 32) (v := ?_) (a' := ?_) #[true, true, true, true, true, false, false] rfl rfl (by kernel_rfl) (fun _ _ _ h => h) (Or.inl ⟨by rfl, ?_⟩) ?_ ?_
              rotate_left
              · intro w'
                go_simp
                with_reducible rfl
              rotate_left
              · simp only [Act.put, List.setIfInBounds_toArray, List.set_cons_zero, List.set_cons_succ, i64_w, i32_w]
                rfl
              refine pure_ (i := 5) (N := some 33) (v := ?_) (a' := ?_) #[true, true, true, true, true, true, false] rfl rfl (by kernel_rfl) (fun _ _ _ h => h) (Or.inl ⟨by rfl, ?_⟩) ?_ ?_
              rotate_left
              · intro w'
                go_simp
                with_reducible rfl
              rotate_left
              · simp only [Act.put, List.setIfInBounds_toArray, List.set_cons_zero, List.set_cons_succ, i64_w, i32_w]
                rfl
              refine pure_ (i := 6) (N := some 27) (v := ?_) (a' := ?_) #[true, true, true, true, true, true, true] rfl rfl (by kernel_rfl) (fun _ _ _ h => h) (Or.inl ⟨by rfl, ?_⟩) ?_ ?_
              rotate_left
              · intro w'
                go_simp
                with_reducible rfl
              rotate_left
              · simp only [Act.put, List.setIfInBounds_toArray, List.set_cons_zero, List.set_cons_succ, i64_w, i32_w]
                rfl
              refine done_ (by kernel_rfl) ?_
              try go_wp2
              have n0_ := Aside0.mk (blk_drew BK707.out)
              have n1_ := Aside0.mk (blk_drew BK708.out)
              have n2_ := Aside0.mk (below_drew1 HB.out)
              clear BK707
              clear BK708
              clear HB
              have BK707 := n0_
              have BK708 := n1_
              have HB := n2_
              clear n0_ n1_ n2_
              refine start_ (n := 10) (S := fun w' => w'.cell? ⟨gb708, 0, none⟩ = some (.bool a1_0) ∧ w'.cell? ⟨gb708, 1, none⟩ = some (.int .i64 a1_1) ∧ w'.cell? ⟨gb708, 2, none⟩ = some (.int .i64 a1_2) ∧ w'.cell? ⟨gb708, 3, none⟩ = some (.int .u64 a1_3) ∧ w'.cell? ⟨gb707, 0, none⟩ = some (.int .i64 a0_0) ∧ w'.cell? ⟨gb707, 1, none⟩ = some (.int .i64 a0_1)) (ds := []) #[false, false, false, false, false, false, false, false, false, false] (by kernel_rfl) rfl rfl ⟨(blk_cell BK708.out 0).trans rfl, (blk_cell BK708.out 1).trans rfl, (blk_cell BK708.out 2).trans rfl, (blk_cell BK708.out 3).trans rfl, (blk_cell BK707.out 0).trans rfl, (blk_cell BK707.out 1).trans rfl⟩ (fun hHeld => ?_); refine with_tabW shape_format_finite.tab6 shape_format_finite.bits6 (fun HT_ HW_ => ?_)
              generalize w32.drew = w33 at BK707 BK708 HB hHeld ⊢
              refine pure_ (i := 0) (N := some 45) (v := ?_) (a' := ?_) #[true, false, false, false, false, false, false, false, false, false] rfl rfl (any_of HT_.out (by kernel_rfl)) (fun _ _ _ h => h) (Or.inl ⟨by rfl, ?_⟩) ?_ ?_
              rotate_left
              · intro w'
                go_simp
                with_reducible rfl
              rotate_left
              · simp only [Act.put, List.setIfInBounds_toArray, List.set_cons_zero, List.set_cons_succ, i64_w, i32_w]
                rfl
              refine pure_ (i := 2) (N := some 47) (v := ?_) (a' := ?_) #[true, false, true, false, false, false, false, false, false, false] rfl rfl (any_of HT_.out (by kernel_rfl)) (fun _ _ _ h => h) (Or.inl ⟨by rfl, ?_⟩) ?_ ?_
              rotate_left
              · intro w'
                go_simp
                with_reducible rfl
              rotate_left
              · simp only [Act.put, List.setIfInBounds_toArray, List.set_cons_zero, List.set_cons_succ, i64_w, i32_w]
                rfl
              refine take_ (i := 1) (N := some 46) (v := ?_) (a' := ?_) #[true, true, true, false, false, false, false, false, false, false] rfl rfl (take_ofW HT_.out HW_.out (by kernel_rfl)) (fun _ _ _ h => h) (Or.inl ⟨by rfl, ?_⟩) hHeld ?_ ?_
              rotate_left
              · rintro w' ⟨s0, s1, s2, s3, s4, s5⟩
                go_simp
                with_reducible rfl
              rotate_left
              · simp only [Act.put, List.setIfInBounds_toArray, List.set_cons_zero, List.set_cons_succ, i64_w, i32_w]
                rfl
              refine pure_ (i := 3) (N := some 48) (v := ?_) (a' := ?_) #[true, true, true, true, false, false, false, false, false, false] rfl rfl (any_of HT_.out (by kernel_rfl)) (fun _ _ _ h => h) (Or.inl ⟨by rfl, ?_⟩) ?_ ?_
              rotate_left
              · intro w'
                go_simp
                with_reducible rfl
              rotate_left
              · simp only [Act.put, List.setIfInBounds_toArray, List.set_cons_zero, List.set_cons_succ, i64_w, i32_w]
                rfl
              refine take_ (i := 4) (N := some 49) (v := ?_) (a' := ?_) #[true, true, true, true, true, false, false, false, false, false] rfl rfl (take_ofW HT_.out HW_.out (by kernel_rfl)) (fun _ _ _ h => h) (Or.inl ⟨by rfl, ?_⟩) hHeld ?_ ?_
              rotate_left
              · rintro w' ⟨s0, s1, s2, s3, s4, s5⟩
                go_simp
                with_reducible rfl
              rotate_left
              · simp only [Act.put, List.setIfInBounds_toArray, List.set_cons_zero, List.set_cons_succ, i64_w, i32_w]
                rfl
              refine one_ (i := 5) (N := some 50) #[true, true, true, true, true, true, false, false, false, false] rfl rfl (one_of HT_.out (by kernel_rfl)) (by decide) (fun K hK => ?_)
              refine goes_ Try.func122 (by kernel_rfl) rfl #[.agg #[.int .i64 a0_0, .int .i64 a0_1]] (by rfl) rfl rfl (by (try simp only [List.map_toArray, List.map_cons, List.map_nil]); first | done | rfl | (simp only [List.length_drop, List.length_take]; rfl)) ?_
              with_reducible refine (shape_format_ones.calls a0_0 a0_1 t711 _ A25.out).mono ?_
              rintro e w34 ⟨rfl, hb⟩
              refine ⟨_, rfl, ?_⟩
              have n0_ := Aside0.mk (blk_below (g := gb707) (o := .cells #[.int .i64 a0_0, .int .i64 a0_1] 106 (0, 0)) (by (with_reducible repeat (first | refine blk_drewN ?_ _ | refine blk_drew ?_ | refine blk_alloc ?_ _)); exact BK707.out) hb)
              have n1_ := Aside0.mk (blk_below (g := gb708) (o := .cells #[.bool a1_0, .int .i64 a1_1, .int .i64 a1_2, .int .u64 a1_3] 34 (0, 0)) (by (with_reducible repeat (first | refine blk_drewN ?_ _ | refine blk_drew ?_ | refine blk_alloc ?_ _)); exact BK708.out) hb)
              have n2_ := Aside0.mk (below_step (by repeat (first | (with_reducible first | exact HB.out | apply below_alloc | apply pw_below_drewN | apply below_drew1 | refine below_set ?_ GE707.out | refine below_set ?_ GE708.out) | exact HB.out)) hb)
              clear BK707
              clear BK708
              clear HB
              have BK707 := n0_
              have BK708 := n1_
              have HB := n2_
              clear n0_ n1_ n2_
              (try clear hb)
              (try clear hb2)
              (try clear hk)
              (try clear hi)
              refine hK.out _ _ ⟨(blk_cell BK708.out 0).trans rfl, (blk_cell BK708.out 1).trans rfl, (blk_cell BK708.out 2).trans rfl, (blk_cell BK708.out 3).trans rfl, (blk_cell BK707.out 0).trans rfl, (blk_cell BK707.out 1).trans rfl⟩ (fun hHeld => ?_)
              clear hK K
              refine norm_ (a' := ?_) ?_ ?_
              rotate_left
              · show Act.put _ (some 50) _ = _
                simp only [Act.put, List.setIfInBounds_toArray, List.set_cons_zero, List.set_cons_succ, i64_w, i32_w]
                rfl
              refine pure_ (i := 6) (N := some 51) (v := ?_) (a' := ?_) #[true, true, true, true, true, true, true, false, false, false] rfl rfl (any_of HT_.out (by kernel_rfl)) (fun _ _ _ h => h) (Or.inl ⟨by rfl, ?_⟩) ?_ ?_
              rotate_left
              · intro w'
                go_simp
                with_reducible rfl
              rotate_left
              · simp only [Act.put, List.setIfInBounds_toArray, List.set_cons_zero, List.set_cons_succ, i64_w, i32_w]
                rfl
              refine pure_ (i := 7) (N := some 52) (v := ?_) (a' := ?_) #[true, true, true, true, true, true, true, true, false, false] rfl rfl (any_of HT_.out (by kernel_rfl)) (fun _ _ _ h => h) (Or.inl ⟨by rfl, ?_⟩) ?_ ?_
              rotate_left
              · intro w'
                go_simp
                with_reducible rfl
              rotate_left
              · simp only [Act.put, List.setIfInBounds_toArray, List.set_cons_zero, List.set_cons_succ, i64_w, i32_w]
                rfl
              refine pure_ (i := 8) (N := some 53) (v := ?_) (a' := ?_) #[true, true, true, true, true, true, true, true, true, false] rfl rfl (any_of HT_.out (by kernel_rfl)) (fun _ _ _ h => h) (Or.inl ⟨by rfl, ?_⟩) ?_ ?_
              rotate_left
              · intro w'
                go_simp
                with_reducible rfl
              rotate_left
              · simp only [Act.put, List.setIfInBounds_toArray, List.set_cons_zero, List.set_cons_succ, i64_w, i32_w]
                rfl
              refine pure_ (i := 9) (N := some 44) (v := ?_) (a' := ?_) #[true, true, true, true, true, true, true, true, true, true] rfl rfl (any_of HT_.out (by kernel_rfl)) (fun _ _ _ h => h) (Or.inl ⟨by rfl, ?_⟩) ?_ ?_
              rotate_left
              · intro w'
                go_simp
                with_reducible rfl
              rotate_left
              · simp only [Act.put, List.setIfInBounds_toArray, List.set_cons_zero, List.set_cons_succ, i64_w, i32_w]
                rfl
              refine done_ (done_of HT_.out (by kernel_rfl)) ?_
              try go_wp2
              have n0_ := Aside0.mk (blk_drew BK707.out)
              have n1_ := Aside0.mk (blk_drew BK708.out)
              have n2_ := Aside0.mk (below_drew1 HB.out)
              clear BK707
              clear BK708
              clear HB
              have BK707 := n0_
              have BK708 := n1_
              have HB := n2_
              clear n0_ n1_ n2_
              refine start_ (n := 19) (S := fun w' => w'.cell? ⟨gb707, 0, none⟩ = some (.int .i64 a0_0) ∧ w'.cell? ⟨gb707, 1, none⟩ = some (.int .i64 a0_1) ∧ w'.cell? ⟨gb708, 0, none⟩ = some (.bool a1_0) ∧ w'.cell? ⟨gb708, 1, none⟩ = some (.int .i64 a1_1) ∧ w'.cell? ⟨gb708, 2, none⟩ = some (.int .i64 a1_2) ∧ w'.cell? ⟨gb708, 3, none⟩ = some (.int .u64 a1_3)) (ds := []) #[false, false, false, false, false, false, false, false, false, false, false, false, false, false, false, false, false, false, false] (by kernel_rfl) rfl rfl ⟨(blk_cell BK707.out 0).trans rfl, (blk_cell BK707.out 1).trans rfl, (blk_cell BK708.out 0).trans rfl, (blk_cell BK708.out 1).trans rfl, (blk_cell BK708.out 2).trans rfl, (blk_cell BK708.out 3).trans rfl⟩ (fun hHeld => ?_); refine with_tabW shape_format_finite.tab8 shape_format_finite.bits8 (fun HT_ HW_ => ?_)
              generalize w34.drew = w35 at BK707 BK708 HB hHeld ⊢
              refine pure_ (i := 1) (N := some 55) (v := ?_) (a' := ?_) #[false, true, false, false, false, false, false, false, false, false, false, false, false, false, false, false, false, false, false] rfl rfl (any_of HT_.out (by kernel_rfl)) (fun _ _ _ h => h) (Or.inl ⟨by rfl, ?_⟩) ?_ ?_
              rotate_left
              · intro w'
                go_simp
                with_reducible rfl
              rotate_left
              · simp only [Act.put, List.setIfInBounds_toArray, List.set_cons_zero, List.set_cons_succ, i64_w, i32_w]
                rfl
              refine pure_ (i := 3) (N := some 57) (v := ?_) (a' := ?_) #[false, true, false, true, false, false, false, false, false, false, false, false, false, false, false, false, false, false, false] rfl rfl (any_of HT_.out (by kernel_rfl)) (fun _ _ _ h => h) (Or.inl ⟨by rfl, ?_⟩) ?_ ?_
              rotate_left
              · intro w'
                go_simp
                with_reducible rfl
              rotate_left
              · simp only [Act.put, List.setIfInBounds_toArray, List.set_cons_zero, List.set_cons_succ, i64_w, i32_w]
                rfl
              refine pure_ (i := 5) (N := some 59) (v := ?_) (a' := ?_) #[false, true, false, true, false, true, false, false, false, false, false, false, false, false, false, false, false, false, false] rfl rfl (any_of HT_.out (by kernel_rfl)) (fun _ _ _ h => h) (Or.inl ⟨by rfl, ?_⟩) ?_ ?_
              rotate_left
              · intro w'
                go_simp
                with_reducible rfl
              rotate_left
              · simp only [Act.put, List.setIfInBounds_toArray, List.set_cons_zero, List.set_cons_succ, i64_w, i32_w]
                rfl
              refine pure_ (i := 9) (N := some 63) (v := ?_) (a' := ?_) #[false, true, false, true, false, true, false, false, false, true, false, false, false, false, false, false, false, false, false] rfl rfl (any_of HT_.out (by kernel_rfl)) (fun _ _ _ h => h) (Or.inl ⟨by rfl, ?_⟩) ?_ ?_
              rotate_left
              · intro w'
                go_simp
                with_reducible rfl
              rotate_left
              · simp only [Act.put, List.setIfInBounds_toArray, List.set_cons_zero, List.set_cons_succ, i64_w, i32_w]
                rfl
              refine pure_ (i := 11) (N := some 65) (v := ?_) (a' := ?_) #[false, true, false, true, false, true, false, false, false, true, false, true, false, false, false, false, false, false, false] rfl rfl (any_of HT_.out (by kernel_rfl)) (fun _ _ _ h => h) (Or.inl ⟨by rfl, ?_⟩) ?_ ?_
              rotate_left
              · intro w'
                go_simp
                with_reducible rfl
              rotate_left
              · simp only [Act.put, List.setIfInBounds_toArray, List.set_cons_zero, List.set_cons_succ, i64_w, i32_w]
                rfl
              refine take_ (i := 0) (N := some 54) (v := ?_) (a' := ?_) #[true, true, false, true, false, true, false, false, false, true, false, true, false, false, false, false, false, false, false] rfl rfl (take_ofW HT_.out HW_.out (by kernel_rfl)) (fun _ _ _ h => h) (Or.inl ⟨by rfl, ?_⟩) hHeld ?_ ?_
              rotate_left
              · rintro w' ⟨s0, s1, s2, s3, s4, s5⟩
                go_simp
                with_reducible rfl
              rotate_left
              · simp only [Act.put, List.setIfInBounds_toArray, List.set_cons_zero, List.set_cons_succ, i64_w, i32_w]
                rfl
              refine take_ (i := 2) (N := some 56) (v := ?_) (a' := ?_) #[true, true, true, true, false, true, false, false, false, true, false, true, false, false, false, false, false, false, false] rfl rfl (take_ofW HT_.out HW_.out (by kernel_rfl)) (fun _ _ _ h => h) (Or.inl ⟨by rfl, ?_⟩) hHeld ?_ ?_
              rotate_left
              · rintro w' ⟨s0, s1, s2, s3, s4, s5⟩
                go_simp
                with_reducible rfl
              rotate_left
              · simp only [Act.put, List.setIfInBounds_toArray, List.set_cons_zero, List.set_cons_succ, i64_w, i32_w]
                rfl
              refine take_ (i := 4) (N := some 58) (v := ?_) (a' := ?_) #[true, true, true, true, true, true, false, false, false, true, false, true, false, false, false, false, false, false, false] rfl rfl (take_ofW HT_.out HW_.out (by kernel_rfl)) (fun _ _ _ h => h) (Or.inl ⟨by rfl, ?_⟩) hHeld ?_ ?_
              rotate_left
              · rintro w' ⟨s0, s1, s2, s3, s4, s5⟩
                go_simp
                with_reducible rfl
              rotate_left
              · simp only [Act.put, List.setIfInBounds_toArray, List.set_cons_zero, List.set_cons_succ, i64_w, i32_w]
                rfl
              refine pure_ (i := 6) (N := some 60) (v := ?_) (a' := ?_) #[true, true, true, true, true, true, true, false, false, true, false, true, false, false, false, false, false, false, false] rfl rfl (any_of HT_.out (by kernel_rfl)) (fun _ _ _ h => h) (Or.inl ⟨by rfl, ?_⟩) ?_ ?_
              rotate_left
              · intro w'
                go_simp
                with_reducible rfl
              rotate_left
              · simp only [Act.put, List.setIfInBounds_toArray, List.set_cons_zero, List.set_cons_succ, i64_w, i32_w]
                rfl
              refine pure_ (i := 7) (N := some 61) (v := ?_) (a' := ?_) #[true, true, true, true, true, true, true, true, false, true, false, true, false, false, false, false, false, false, false] rfl rfl (any_of HT_.out (by kernel_rfl)) (fun _ _ _ h => h) (Or.inl ⟨by rfl, ?_⟩) ?_ ?_
              rotate_left
              · intro w'
                go_simp
                with_reducible rfl
              rotate_left
              · simp only [Act.put, List.setIfInBounds_toArray, List.set_cons_zero, List.set_cons_succ, i64_w, i32_w]
                rfl
              refine pure_ (i := 8) (N := some 62) (v := ?_) (a' := ?_) #[true, true, true, true, true, true, true, true, true, true, false, true, false, false, false, false, false, false, false] rfl rfl (any_of HT_.out (by kernel_rfl)) (fun _ _ _ h => h) (Or.inl ⟨by rfl, ?_⟩) ?_ ?_
              rotate_left
              · intro w'
                go_simp
                with_reducible rfl
              rotate_left
              · simp only [Act.put, List.setIfInBounds_toArray, List.set_cons_zero, List.set_cons_succ, i64_w, i32_w]
                rfl
              refine take_ (i := 10) (N := some 64) (v := ?_) (a' := ?_) #[true, true, true, true, true, true, true, true, true, true, true, true, false, false, false, false, false, false, false] rfl rfl (take_ofW HT_.out HW_.out (by kernel_rfl)) (fun _ _ _ h => h) (Or.inl ⟨by rfl, ?_⟩) hHeld ?_ ?_
              rotate_left
              · rintro w' ⟨s0, s1, s2, s3, s4, s5⟩
                go_simp
                with_reducible rfl
              rotate_left
              · simp only [Act.put, List.setIfInBounds_toArray, List.set_cons_zero, List.set_cons_succ, i64_w, i32_w]
                rfl
              refine take_ (i := 12) (N := some 66) (v := ?_) (a' := ?_) #[true, true, true, true, true, true, true, true, true, true, true, true, true, false, false, false, false, false, false] rfl rfl (take_ofW HT_.out HW_.out (by kernel_rfl)) (fun _ _ _ h => h) (Or.inl ⟨by rfl, ?_⟩) hHeld ?_ ?_
              rotate_left
              · rintro w' ⟨s0, s1, s2, s3, s4, s5⟩
                go_simp
                with_reducible rfl
              rotate_left
              · simp only [Act.put, List.setIfInBounds_toArray, List.set_cons_zero, List.set_cons_succ, i64_w, i32_w]
                rfl
              refine pure_ (i := 13) (N := some 67) (v := ?_) (a' := ?_) #[true, true, true, true, true, true, true, true, true, true, true, true, true, true, false, false, false, false, false] rfl rfl (any_of HT_.out (by kernel_rfl)) (fun _ _ _ h => h) (Or.inl ⟨by rfl, ?_⟩) ?_ ?_
              rotate_left
              · intro w'
                go_simp
                with_reducible rfl
              rotate_left
              · simp only [Act.put, List.setIfInBounds_toArray, List.set_cons_zero, List.set_cons_succ, i64_w, i32_w]
                rfl
              refine pure_ (i := 14) (N := some 68) (v := ?_) (a' := ?_) #[true, true, true, true, true, true, true, true, true, true, true, true, true, true, true, false, false, false, false] rfl rfl (any_of HT_.out (by kernel_rfl)) (fun _ _ _ h => h) (Or.inl ⟨by rfl, ?_⟩) ?_ ?_
              rotate_left
              · intro w'
                go_simp
                with_reducible rfl
              rotate_left
              · simp only [Act.put, List.setIfInBounds_toArray, List.set_cons_zero, List.set_cons_succ, i64_w, i32_w]
                rfl
              refine pure_ (i := 15) (N := some 69) (v := ?_) (a' := ?_) #[true, true, true, true, true, true, true, true, true, true, true, true, true, true, true, true, false, false, false] rfl rfl (any_of HT_.out (by kernel_rfl)) (fun _ _ _ h => h) (Or.inl ⟨by rfl, ?_⟩) ?_ ?_
              rotate_left
              · intro w'
                go_simp
                with_reducible rfl
              rotate_left
              · simp only [Act.put, List.setIfInBounds_toArray, List.set_cons_zero, List.set_cons_succ, i64_w, i32_w]
                rfl
              refine one_ (i := 16) (N := some 70) #[true, true, true, true, true, true, true, true, true, true, true, true, true, true, true, true, true, false, false] rfl rfl (one_of HT_.out (by kernel_rfl)) (by decide) (fun K hK => ?_)
              refine goes_ Try.func140 (by kernel_rfl) rfl #[.agg #[.int .i64 a0_0, .int .i64 a0_1], .bool a1_0, .int .u64 (IntKind.u64.wrap ((IntKind.u64.wrap (wrap64 (a1_2 - t709))) + 1)), .int .u64 (Go.bits .and .u64 a1_3 (IntKind.u64.wrap ((ji19) - 1)))] (by rfl) rfl rfl (by (try simp only [List.map_toArray, List.map_cons, List.map_nil]); first | done | (simp only [hji19]; rfl) | rfl | (simp only [List.length_drop, List.length_take]; rfl)) ?_
              with_reducible refine (shape_format_join.calls a0_0 a0_1 a1_0 (IntKind.u64.wrap ((IntKind.u64.wrap (wrap64 (a1_2 - t709))) + 1)) (Go.bits .and .u64 a1_3 (IntKind.u64.wrap ((ji19) - 1))) t712 _ A31.out).mono ?_
              rintro e w36 ⟨rfl, hb⟩
              refine ⟨_, rfl, ?_⟩
              have n0_ := Aside0.mk (blk_below (g := gb707) (o := .cells #[.int .i64 a0_0, .int .i64 a0_1] 106 (0, 0)) (by (with_reducible repeat (first | refine blk_drewN ?_ _ | refine blk_drew ?_ | refine blk_alloc ?_ _)); exact BK707.out) hb)
              have n1_ := Aside0.mk (blk_below (g := gb708) (o := .cells #[.bool a1_0, .int .i64 a1_1, .int .i64 a1_2, .int .u64 a1_3] 34 (0, 0)) (by (with_reducible repeat (first | refine blk_drewN ?_ _ | refine blk_drew ?_ | refine blk_alloc ?_ _)); exact BK708.out) hb)
              have n2_ := Aside0.mk (below_step (by repeat (first | (with_reducible first | exact HB.out | apply below_alloc | apply pw_below_drewN | apply below_drew1 | refine below_set ?_ GE707.out | refine below_set ?_ GE708.out) | exact HB.out)) hb)
              clear BK707
              clear BK708
              clear HB
              have BK707 := n0_
              have BK708 := n1_
              have HB := n2_
              clear n0_ n1_ n2_
              (try clear hb)
              (try clear hb2)
              (try clear hk)
              (try clear hi)
              refine hK.out _ _ ⟨(blk_cell BK707.out 0).trans rfl, (blk_cell BK707.out 1).trans rfl, (blk_cell BK708.out 0).trans rfl, (blk_cell BK708.out 1).trans rfl, (blk_cell BK708.out 2).trans rfl, (blk_cell BK708.out 3).trans rfl⟩ (fun hHeld => ?_)
              clear hK K
              refine norm_ (a' := ?_) ?_ ?_
              rotate_left
              · show Act.put _ (some 70) _ = _
                simp only [Act.put, List.setIfInBounds_toArray, List.set_cons_zero, List.set_cons_succ, i64_w, i32_w]
                rfl
              refine pure_ (i := 17) (N := some 4) (v := ?_) (a' := ?_) #[true, true, true, true, true, true, true, true, true, true, true, true, true, true, true, true, true, true, false] rfl rfl (any_of HT_.out (by kernel_rfl)) (fun _ _ _ h => h) (Or.inl ⟨by rfl, ?_⟩) ?_ ?_
              rotate_left
              · intro w'
                go_simp
                with_reducible rfl
              rotate_left
              · simp only [Act.put, List.setIfInBounds_toArray, List.set_cons_zero, List.set_cons_succ, i64_w, i32_w]
                rfl
              refine pure_ (i := 18) (N := some 5) (v := ?_) (a' := ?_) #[true, true, true, true, true, true, true, true, true, true, true, true, true, true, true, true, true, true, true] rfl rfl (any_of HT_.out (by kernel_rfl)) (fun _ _ _ h => h) (Or.inl ⟨by rfl, ?_⟩) ?_ ?_
              rotate_left
              · intro w'
                go_simp
                with_reducible rfl
              rotate_left
              · simp only [Act.put, List.setIfInBounds_toArray, List.set_cons_zero, List.set_cons_succ, i64_w, i32_w]
                rfl
              refine done_ (done_of HT_.out (by kernel_rfl)) ?_
              try go_wp2
              go_ret2
              exact ⟨by first | rfl | (simp [errW_none, errW_some] <;> rfl) | (simp only [← hji19]; first | rfl | (simp [errW_none, errW_some] <;> rfl)) | (simp [*, errW_none, errW_some] <;> rfl), by repeat (first | (with_reducible first | exact HB.out | apply below_alloc | apply pw_below_drewN | apply below_drew1 | refine below_set ?_ GE707.out | refine below_set ?_ GE708.out) | exact HB.out)⟩
        · rw [if_neg c18] at H
          exact absurd H (by simp)

end Go.Proofs.Ytmjfenbbgfohlaa.PA

set_option linter.unusedVariables false
set_option linter.unusedSimpArgs false
namespace Go.Proofs.Ytmjfenbbgfohlaa.Th
open Go.RowKit Go.Proofs.YtmjfenbbgfohlaaW.PrintWords Go.Proofs.YtmjfenbbgfohlaaW.PrintLast Go.Proofs.YtmjfenbbgfohlaaW.PrintMore Go.Proofs.Ytmjfenbbgfohlaa.PA Bit Flo
def nanN (w : Int) : Nat := if w = 32 then 2143289344 else 9221120237041090560

/-! ### width 32 -/
theorem join32 (s : Bool) (e fr : Nat) (he : e ≤ 255) (hf : fr < 8388608) : shape_format_join.f 8 23 s e fr = some ((mkN 32 (e * 8388608 + fr) s : Nat) : Int) := by
  unfold shape_format_join.f
  have hs : shape_format_sign.f 8 23 s = some ((((if s then 1 else 0) * 2 ^ 31 : Nat) : Int)) := by cases s <;> decide +kernel
  rw [hs, Option.bind_some, if_pos (by decide)]
  have e1 : shl .u64 (e : Int) 23 = ((e * 8388608 : Nat) : Int) := by
    unfold shl; rw [show min (23 : Int).toNat IntKind.u64.bits = 23 by decide, show (2 : Int) ^ 23 = 8388608 by decide, IntKind.wrap_u64]; omega
  rw [e1]
  have hc : (if s then 1 else 0) ≤ 1 := by cases s <;> decide
  have h2 : mkN 32 (e * 8388608 + fr) s = e * 8388608 + fr + (if s then 1 else 0) * 2147483648 := by
    unfold mkN; rw [show sb 32 = 2147483648 by decide]; cases s <;> simp
  rw [h2]
  generalize (if s then 1 else 0) = c at *
  rw [show (2 : Nat) ^ 31 = 2147483648 by decide, u64_or_nat _ _ (by omega) (by omega)]
  have h3 := or_pow (e * 8388608) c 31 (by rw [show (2 : Nat) ^ 31 = 2147483648 by decide]; omega)
  rw [show (2 : Nat) ^ 31 = 2147483648 by decide, Nat.or_comm] at h3
  rw [h3, u64_or_nat _ _ (by omega) (by omega)]
  have h4 := or_pow fr (e + c * 256) 23 (by rw [show (2 : Nat) ^ 23 = 8388608 by decide]; exact hf)
  rw [show (2 : Nat) ^ 23 = 8388608 by decide, Nat.or_comm, show (e + c * 256) * 8388608 = e * 8388608 + c * 2147483648 by omega] at h4
  rw [h4]
  congr 2
  omega
theorem shNan32 : shape_Nan.f 32 = some ((nanN 32 : Nat) : Int) := by
  unfold shape_Nan.f
  rw [show shape_of.f 32 = some (8, 23, true) by decide, Option.bind_some, if_pos rfl, ones32, Option.bind_some, if_pos (by decide +kernel)]
  have e1 : shl .u64 1 (wrap64 (23 - 1)) = ((4194304 : Nat) : Int) := by decide +kernel
  have e2 := join32 false 255 4194304 (by decide) (by decide)
  simp only [e1]
  rw [show (255 : Int) = ((255 : Nat) : Int) from rfl, e2, Option.bind_some]
  decide
theorem shInf32 (s : Bool) : shape_Inf.f 32 s = some ((mkN 32 f32.inf s : Nat) : Int) := by
  unfold shape_Inf.f
  rw [show shape_of.f 32 = some (8, 23, true) by decide, Option.bind_some, if_pos rfl, ones32, Option.bind_some]
  have e2 := join32 s 255 0 (by decide) (by decide)
  simp only
  rw [show (255 : Int) = ((255 : Nat) : Int) from rfl, show (0 : Int) = ((0 : Nat) : Int) from rfl, e2, Option.bind_some, inf32]
theorem shZero32 (s : Bool) : shape_Zero.f 32 s = some ((mkN 32 0 s : Nat) : Int) := by
  cases s <;> decide +kernel
theorem shMost32 (s : Bool) : shape_Most.f 32 s = some ((mkN 32 (f32.inf - 1) s : Nat) : Int) := by
  unfold shape_Most.f
  rw [show shape_of.f 32 = some (8, 23, true) by decide, Option.bind_some, if_pos rfl, ones32, Option.bind_some, if_pos (by decide +kernel)]
  have e1 : IntKind.u64.wrap ((shl .u64 1 23) - 1) = ((8388607 : Nat) : Int) := by decide +kernel
  have e3 : IntKind.u64.wrap ((255 : Int) - 1) = ((254 : Nat) : Int) := by decide +kernel
  have e2 := join32 s 254 8388607 (by decide) (by decide)
  simp only [e1, e3]
  rw [e2, Option.bind_some, inf32]
/-! ### width 64 -/
theorem join64 (s : Bool) (e fr : Nat) (he : e ≤ 2047) (hf : fr < 4503599627370496) : shape_format_join.f 11 52 s e fr = some ((mkN 64 (e * 4503599627370496 + fr) s : Nat) : Int) := by
  unfold shape_format_join.f
  have hs : shape_format_sign.f 11 52 s = some ((((if s then 1 else 0) * 2 ^ 63 : Nat) : Int)) := by cases s <;> decide +kernel
  rw [hs, Option.bind_some, if_pos (by decide)]
  have e1 : shl .u64 (e : Int) 52 = ((e * 4503599627370496 : Nat) : Int) := by
    unfold shl; rw [show min (52 : Int).toNat IntKind.u64.bits = 52 by decide, show (2 : Int) ^ 52 = 4503599627370496 by decide, IntKind.wrap_u64]; omega
  rw [e1]
  have hc : (if s then 1 else 0) ≤ 1 := by cases s <;> decide
  have h2 : mkN 64 (e * 4503599627370496 + fr) s = e * 4503599627370496 + fr + (if s then 1 else 0) * 9223372036854775808 := by
    unfold mkN; rw [show sb 64 = 9223372036854775808 by decide]; cases s <;> simp
  rw [h2]
  generalize (if s then 1 else 0) = c at *
  rw [show (2 : Nat) ^ 63 = 9223372036854775808 by decide, u64_or_nat _ _ (by omega) (by omega)]
  have h3 := or_pow (e * 4503599627370496) c 63 (by rw [show (2 : Nat) ^ 63 = 9223372036854775808 by decide]; omega)
  rw [show (2 : Nat) ^ 63 = 9223372036854775808 by decide, Nat.or_comm] at h3
  rw [h3, u64_or_nat _ _ (by omega) (by omega)]
  have h4 := or_pow fr (e + c * 2048) 52 (by rw [show (2 : Nat) ^ 52 = 4503599627370496 by decide]; exact hf)
  rw [show (2 : Nat) ^ 52 = 4503599627370496 by decide, Nat.or_comm, show (e + c * 2048) * 4503599627370496 = e * 4503599627370496 + c * 9223372036854775808 by omega] at h4
  rw [h4]
  congr 2
  omega
theorem shNan64 : shape_Nan.f 64 = some ((nanN 64 : Nat) : Int) := by
  unfold shape_Nan.f
  rw [show shape_of.f 64 = some (11, 52, true) by decide, Option.bind_some, if_pos rfl, ones64, Option.bind_some, if_pos (by decide +kernel)]
  have e1 : shl .u64 1 (wrap64 (52 - 1)) = ((2251799813685248 : Nat) : Int) := by decide +kernel
  have e2 := join64 false 2047 2251799813685248 (by decide) (by decide)
  simp only [e1]
  rw [show (2047 : Int) = ((2047 : Nat) : Int) from rfl, e2, Option.bind_some]
  decide
theorem shInf64 (s : Bool) : shape_Inf.f 64 s = some ((mkN 64 f64.inf s : Nat) : Int) := by
  unfold shape_Inf.f
  rw [show shape_of.f 64 = some (11, 52, true) by decide, Option.bind_some, if_pos rfl, ones64, Option.bind_some]
  have e2 := join64 s 2047 0 (by decide) (by decide)
  simp only
  rw [show (2047 : Int) = ((2047 : Nat) : Int) from rfl, show (0 : Int) = ((0 : Nat) : Int) from rfl, e2, Option.bind_some, inf64]
theorem shZero64 (s : Bool) : shape_Zero.f 64 s = some ((mkN 64 0 s : Nat) : Int) := by
  cases s <;> decide +kernel
theorem shMost64 (s : Bool) : shape_Most.f 64 s = some ((mkN 64 (f64.inf - 1) s : Nat) : Int) := by
  unfold shape_Most.f
  rw [show shape_of.f 64 = some (11, 52, true) by decide, Option.bind_some, if_pos rfl, ones64, Option.bind_some, if_pos (by decide +kernel)]
  have e1 : IntKind.u64.wrap ((shl .u64 1 52) - 1) = ((4503599627370495 : Nat) : Int) := by decide +kernel
  have e3 : IntKind.u64.wrap ((2047 : Int) - 1) = ((2046 : Nat) : Int) := by decide +kernel
  have e2 := join64 s 2046 4503599627370495 (by decide) (by decide)
  simp only [e1, e3]
  rw [e2, Option.bind_some, inf64]
theorem awake02 : Ev (fun k => trunnionlaw02_awake.f k) true := by
  unfold trunnionlaw02_awake.f
  have h1 := open32 1065353216 (by decide)
  rw [show ((1065353216 : Nat) : Int) = 1065353216 from rfl] at h1
  refine Ev.bind h1 (Ev.pos (by decide +kernel) (Ev.bs shNan32 (Ev.out (by decide))))
end Go.Proofs.Ytmjfenbbgfohlaa.Th

set_option linter.unusedVariables false
set_option linter.unusedSimpArgs false
namespace Go.Proofs.Ytmjfenbbgfohlaa.Th
open Go.RowKit Go.Proofs.YtmjfenbbgfohlaaW.PrintWords Go.Proofs.YtmjfenbbgfohlaaW.PrintLast Go.Proofs.YtmjfenbbgfohlaaW.PrintMore Go.Proofs.Ytmjfenbbgfohlaa.PA Bit Flo
theorem two_i {n : Int} (m : Nat) (h : n = m) (hm : m < 64) : Ev (fun k => trunnionref02_Two.f k n) ((2 ^ m : Nat) : Int) := by subst h; exact two_f m hm

/-! ### width 32 -/
theorem r2E32 : trunnionref02_E.f 32 = some 8 := by decide +kernel
theorem r2F32 : trunnionref02_F.f 32 = some 23 := by decide +kernel
theorem r2Tf32 : Ev (fun k => trunnionref02_Two.f k 23) ((8388608 : Nat) : Int) := by have h := two_i (n := 23) 23 rfl (by decide); rw [show (2 : Nat) ^ 23 = 8388608 by decide] at h; exact h
theorem r2Te32 : Ev (fun k => trunnionref02_Two.f k 8) ((256 : Nat) : Int) := by have h := two_i (n := 8) 8 rfl (by decide); rw [show (2 : Nat) ^ 8 = 256 by decide] at h; exact h
theorem r2Ts32 : Ev (fun k => trunnionref02_Two.f k (wrap64 (32 - 1))) ((2147483648 : Nat) : Int) := by have h := two_i (n := wrap64 (32 - 1)) 31 (by decide +kernel) (by decide); rw [show (2 : Nat) ^ 31 = 2147483648 by decide] at h; exact h
theorem r2Th32 : Ev (fun k => trunnionref02_Two.f k (wrap64 (23 - 1))) ((4194304 : Nat) : Int) := by have h := two_i (n := wrap64 (23 - 1)) 22 (by decide +kernel) (by decide); rw [show (2 : Nat) ^ 22 = 4194304 by decide] at h; exact h
theorem r2Top32 : Ev (fun k => trunnionref02_Top.f k 32) ((255 : Nat) : Int) := by
  unfold trunnionref02_Top.f
  exact Ev.bs r2E32 (Ev.bind r2Te32 (Ev.out (by decide +kernel)))
theorem r2Make32 (s : Bool) (e fr : Nat) (he : e ≤ 255) (hf : fr < 8388608) : Ev (fun k => trunnionref02_Make.f k 32 s e fr) ((mkN 32 (e * 8388608 + fr) s : Nat) : Int) := by
  unfold trunnionref02_Make.f
  refine Ev.bs r2F32 (Ev.bind r2Tf32 ?_)
  rw [u64_id (n := (e : Int)) (by omega) (by omega), u64_id (n := (e : Int) * ((8388608 : Nat) : Int)) (by omega) (by omega), u64_id (n := (e : Int) * ((8388608 : Nat) : Int) + fr) (by omega) (by omega)]
  unfold mkN
  rw [show sb 32 = 2147483648 by decide]
  cases s
  · exact Ev.neg (by decide) (Ev.out (by simp))
  · refine Ev.pos rfl (Ev.bind r2Ts32 (Ev.out ?_))
    rw [u64_id (by omega) (by omega)]; simp only [if_true]; omega
theorem r2Nan32 : Ev (fun k => trunnionref02_Nan.f k 32) ((nanN 32 : Nat) : Int) := by
  unfold trunnionref02_Nan.f
  refine Ev.bind r2Top32 (Ev.bs r2F32 (Ev.bind r2Th32 (Ev.bind (r2Make32 false 255 4194304 (by decide) (by decide)) (Ev.out (by decide)))))
theorem r2Inf32 (s : Bool) : Ev (fun k => trunnionref02_Inf.f k 32 s) ((mkN 32 f32.inf s : Nat) : Int) := by
  unfold trunnionref02_Inf.f
  have h := r2Make32 s 255 0 (by decide) (by decide)
  exact Ev.bind r2Top32 (Ev.bind h (Ev.out (by rw [inf32])))
/-! ### width 64 -/
theorem r2E64 : trunnionref02_E.f 64 = some 11 := by decide +kernel
theorem r2F64 : trunnionref02_F.f 64 = some 52 := by decide +kernel
theorem r2Tf64 : Ev (fun k => trunnionref02_Two.f k 52) ((4503599627370496 : Nat) : Int) := by have h := two_i (n := 52) 52 rfl (by decide); rw [show (2 : Nat) ^ 52 = 4503599627370496 by decide] at h; exact h
theorem r2Te64 : Ev (fun k => trunnionref02_Two.f k 11) ((2048 : Nat) : Int) := by have h := two_i (n := 11) 11 rfl (by decide); rw [show (2 : Nat) ^ 11 = 2048 by decide] at h; exact h
theorem r2Ts64 : Ev (fun k => trunnionref02_Two.f k (wrap64 (64 - 1))) ((9223372036854775808 : Nat) : Int) := by have h := two_i (n := wrap64 (64 - 1)) 63 (by decide +kernel) (by decide); rw [show (2 : Nat) ^ 63 = 9223372036854775808 by decide] at h; exact h
theorem r2Th64 : Ev (fun k => trunnionref02_Two.f k (wrap64 (52 - 1))) ((2251799813685248 : Nat) : Int) := by have h := two_i (n := wrap64 (52 - 1)) 51 (by decide +kernel) (by decide); rw [show (2 : Nat) ^ 51 = 2251799813685248 by decide] at h; exact h
theorem r2Top64 : Ev (fun k => trunnionref02_Top.f k 64) ((2047 : Nat) : Int) := by
  unfold trunnionref02_Top.f
  exact Ev.bs r2E64 (Ev.bind r2Te64 (Ev.out (by decide +kernel)))
theorem r2Make64 (s : Bool) (e fr : Nat) (he : e ≤ 2047) (hf : fr < 4503599627370496) : Ev (fun k => trunnionref02_Make.f k 64 s e fr) ((mkN 64 (e * 4503599627370496 + fr) s : Nat) : Int) := by
  unfold trunnionref02_Make.f
  refine Ev.bs r2F64 (Ev.bind r2Tf64 ?_)
  rw [u64_id (n := (e : Int)) (by omega) (by omega), u64_id (n := (e : Int) * ((4503599627370496 : Nat) : Int)) (by omega) (by omega), u64_id (n := (e : Int) * ((4503599627370496 : Nat) : Int) + fr) (by omega) (by omega)]
  unfold mkN
  rw [show sb 64 = 9223372036854775808 by decide]
  cases s
  · exact Ev.neg (by decide) (Ev.out (by simp))
  · refine Ev.pos rfl (Ev.bind r2Ts64 (Ev.out ?_))
    rw [u64_id (by omega) (by omega)]; simp only [if_true]; omega
theorem r2Nan64 : Ev (fun k => trunnionref02_Nan.f k 64) ((nanN 64 : Nat) : Int) := by
  unfold trunnionref02_Nan.f
  refine Ev.bind r2Top64 (Ev.bs r2F64 (Ev.bind r2Th64 (Ev.bind (r2Make64 false 2047 2251799813685248 (by decide) (by decide)) (Ev.out (by decide)))))
theorem r2Inf64 (s : Bool) : Ev (fun k => trunnionref02_Inf.f k 64 s) ((mkN 64 f64.inf s : Nat) : Int) := by
  unfold trunnionref02_Inf.f
  have h := r2Make64 s 2047 0 (by decide) (by decide)
  exact Ev.bind r2Top64 (Ev.bind h (Ev.out (by rw [inf64])))
theorem not_known {w : Int} (h : ¬ (w = 32 ∨ w = 64)) : shape_of.f w = some (0, 0, false) := by unfold shape_of.f; rw [if_neg (by omega), if_neg (by omega)]
theorem ShapeEndsP : trunnionlaw02_ShapeEnds.Pure := by
  intro w s hw0
  refine Ev.rounds ?_
  unfold trunnionlaw02_ShapeEnds.f
  refine Ev.bind awake02 (Ev.pos rfl ?_)
  by_cases hw : w = 32 ∨ w = 64
  · rcases hw with rfl | rfl
    · refine Ev.bs (show shape_Fields.f 32 = some (8, 23) by decide +kernel) (Ev.bs (known_f 32) (Ev.pos (by decide) (Ev.bind r2Top32 (Ev.bs r2E32 (Ev.pos rfl (Ev.bs r2F32 (Ev.pos rfl (Ev.bs shNan32 (Ev.bind r2Nan32 (Ev.pos rfl (Ev.bs (shInf32 s) (Ev.bind (r2Inf32 s) (Ev.pos rfl (Ev.bs (shZero32 s) ?_))))))))))))))
      have h1 := r2Make32 s 0 0 (by decide) (by decide)
      refine Ev.bind h1 (Ev.pos (by simp) (Ev.bs (shMost32 s) (Ev.bind r2Tf32 ?_)))
      have h2 := r2Make32 s 254 8388607 (by decide) (by decide)
      rw [show wrap64 (((255 : Nat) : Int) - 1) = ((254 : Nat) : Int) by decide +kernel, show IntKind.u64.wrap (((8388608 : Nat) : Int) - 1) = ((8388607 : Nat) : Int) by decide +kernel]
      refine Ev.bind h2 (Ev.out ?_)
      rw [inf32]; simp
    · refine Ev.bs (show shape_Fields.f 64 = some (11, 52) by decide +kernel) (Ev.bs (known_f 64) (Ev.pos (by decide) (Ev.bind r2Top64 (Ev.bs r2E64 (Ev.pos rfl (Ev.bs r2F64 (Ev.pos rfl (Ev.bs shNan64 (Ev.bind r2Nan64 (Ev.pos rfl (Ev.bs (shInf64 s) (Ev.bind (r2Inf64 s) (Ev.pos rfl (Ev.bs (shZero64 s) ?_))))))))))))))
      have h1 := r2Make64 s 0 0 (by decide) (by decide)
      refine Ev.bind h1 (Ev.pos (by simp) (Ev.bs (shMost64 s) (Ev.bind r2Tf64 ?_)))
      have h2 := r2Make64 s 2046 4503599627370495 (by decide) (by decide)
      rw [show wrap64 (((2047 : Nat) : Int) - 1) = ((2046 : Nat) : Int) by decide +kernel, show IntKind.u64.wrap (((4503599627370496 : Nat) : Int) - 1) = ((4503599627370495 : Nat) : Int) by decide +kernel]
      refine Ev.bind h2 (Ev.out ?_)
      rw [inf64]; simp
  · have h0 := not_known hw
    have h1 : shape_Fields.f w = some (0, 0) := by unfold shape_Fields.f; rw [h0]; rfl
    have h2 : shape_Nan.f w = some 0 := by unfold shape_Nan.f; rw [h0]; rfl
    have h3 : shape_Inf.f w s = some 0 := by unfold shape_Inf.f; rw [h0]; rfl
    have h4 : shape_Zero.f w s = some 0 := by unfold shape_Zero.f; rw [h0]; rfl
    have h5 : shape_Most.f w s = some 0 := by unfold shape_Most.f; rw [h0]; rfl
    refine Ev.bs h1 (Ev.bs (known_f w) ?_)
    rw [decide_eq_false hw]
    exact Ev.neg (by decide) (Ev.pos rfl (Ev.pos rfl (Ev.bs h2 (Ev.pos rfl (Ev.bs h3 (Ev.pos rfl (Ev.bs h4 (Ev.pos rfl (Ev.bs h5 (Ev.out rfl))))))))))
end Go.Proofs.Ytmjfenbbgfohlaa.Th

namespace Go.Proofs.Ytmjfenbbgfohlaa.Pure
theorem ShapeEnds : Go.Proofs.Ytmjfenbbgfohlaa.PA.trunnionlaw02_ShapeEnds.Pure := Go.Proofs.Ytmjfenbbgfohlaa.Th.ShapeEndsP
end Go.Proofs.Ytmjfenbbgfohlaa.Pure

namespace Go.Proofs.Ytmjfenbbgfohlaa.Facts
theorem words_word (w : List Char) (r : List Char) (h : w.all (fun c => c != Char.ofNat 32) = true) : wordsSigns (w ++ Char.ofNat 32 :: r) = w :: wordsSigns r := by
  induction w with
  | nil => rfl
  | cons c w ih =>
    rw [List.all_cons, Bool.and_eq_true] at h
    have hc : c ≠ Char.ofNat 32 := bne_iff_ne.1 h.1
    rw [List.cons_append]
    rw [wordsSigns.eq_3 c _ (fun e => hc e), ih h.2]
def w1 : List Char := [Char.ofNat 104, Char.ofNat 97, Char.ofNat 114, Char.ofNat 110, Char.ofNat 101, Char.ofNat 115, Char.ofNat 115]
def w2 : List Char := [Char.ofNat 101, Char.ofNat 57, Char.ofNat 57, Char.ofNat 97, Char.ofNat 57, Char.ofNat 55, Char.ofNat 53, Char.ofNat 98, Char.ofNat 102, Char.ofNat 48, Char.ofNat 101, Char.ofNat 53, Char.ofNat 99, Char.ofNat 55, Char.ofNat 52, Char.ofNat 56, Char.ofNat 48, Char.ofNat 48, Char.ofNat 48, Char.ofNat 98, Char.ofNat 51, Char.ofNat 97, Char.ofNat 56, Char.ofNat 52, Char.ofNat 54, Char.ofNat 50, Char.ofNat 99, Char.ofNat 99, Char.ofNat 52, Char.ofNat 50, Char.ofNat 57, Char.ofNat 51, Char.ofNat 51, Char.ofNat 49, Char.ofNat 51, Char.ofNat 99, Char.ofNat 57, Char.ofNat 55, Char.ofNat 51, Char.ofNat 57, Char.ofNat 52, Char.ofNat 98, Char.ofNat 52, Char.ofNat 51, Char.ofNat 57, Char.ofNat 101, Char.ofNat 54, Char.ofNat 51, Char.ofNat 53, Char.ofNat 55, Char.ofNat 52, Char.ofNat 56, Char.ofNat 49, Char.ofNat 54, Char.ofNat 97, Char.ofNat 56, Char.ofNat 56, Char.ofNat 51, Char.ofNat 98, Char.ofNat 49, Char.ofNat 50, Char.ofNat 52, Char.ofNat 48, Char.ofNat 56]
def w3 : List Char := [Char.ofNat 99, Char.ofNat 117, Char.ofNat 116]
set_option maxRecDepth 100000 in
def tailSigns : List Char := [Char.ofNat 97, Char.ofNat 116, Char.ofNat 32, Char.ofNat 116, Char.ofNat 114, Char.ofNat 117, Char.ofNat 110, Char.ofNat 110, Char.ofNat 105, Char.ofNat 111, Char.ofNat 110, Char.ofNat 47, Char.ofNat 116, Char.ofNat 114, Char.ofNat 117, Char.ofNat 110, Char.ofNat 110, Char.ofNat 105, Char.ofNat 111, Char.ofNat 110, Char.ofNat 108, Char.ofNat 97, Char.ofNat 119, Char.ofNat 49, Char.ofNat 48, Char.ofNat 46, Char.ofNat 83, Char.ofNat 105, Char.ofNat 103, Char.ofNat 110, Char.ofNat 65, Char.ofNat 103, Char.ofNat 97, Char.ofNat 105, Char.ofNat 110, Char.ofNat 32, Char.ofNat 116, Char.ofNat 114, Char.ofNat 117, Char.ofNat 110, Char.ofNat 110, Char.ofNat 105, Char.ofNat 111, Char.ofNat 110, Char.ofNat 47, Char.ofNat 116, Char.ofNat 114, Char.ofNat 117, Char.ofNat 110, Char.ofNat 110, Char.ofNat 105, Char.ofNat 111, Char.ofNat 110, Char.ofNat 108, Char.ofNat 97, Char.ofNat 119, Char.ofNat 49, Char.ofNat 48, Char.ofNat 46, Char.ofNat 83, Char.ofNat 105, Char.ofNat 103, Char.ofNat 110, Char.ofNat 84, Char.ofNat 117, Char.ofNat 114, Char.ofNat 110, Char.ofNat 115, Char.ofNat 32, Char.ofNat 116, Char.ofNat 114, Char.ofNat 117, Char.ofNat 110, Char.ofNat 110, Char.ofNat 105, Char.ofNat 111, Char.ofNat 110, Char.ofNat 47, Char.ofNat 116, Char.ofNat 114, Char.ofNat 117, Char.ofNat 110, Char.ofNat 110, Char.ofNat 105, Char.ofNat 111, Char.ofNat 110, Char.ofNat 108, Char.ofNat 97, Char.ofNat 119, Char.ofNat 49, Char.ofNat 48, Char.ofNat 46, Char.ofNat 83, Char.ofNat 105, Char.ofNat 103, Char.ofNat 110, Char.ofNat 66, Char.ofNat 97, Char.ofNat 99, Char.ofNat 107, Char.ofNat 32, Char.ofNat 116, Char.ofNat 114, Char.ofNat 117, Char.ofNat 110, Char.ofNat 110, Char.ofNat 105, Char.ofNat 111, Char.ofNat 110, Char.ofNat 47, Char.ofNat 116, Char.ofNat 114, Char.ofNat 117, Char.ofNat 110, Char.ofNat 110, Char.ofNat 105, Char.ofNat 111, Char.ofNat 110, Char.ofNat 108, Char.ofNat 97, Char.ofNat 119, Char.ofNat 49, Char.ofNat 51, Char.ofNat 46, Char.ofNat 73, Char.ofNat 110, Char.ofNat 116, Char.ofNat 115, Char.ofNat 83, Char.ofNat 117, Char.ofNat 109, Char.ofNat 115, Char.ofNat 32, Char.ofNat 116, Char.ofNat 114, Char.ofNat 117, Char.ofNat 110, Char.ofNat 110, Char.ofNat 105, Char.ofNat 111, Char.ofNat 110, Char.ofNat 47, Char.ofNat 116, Char.ofNat 114, Char.ofNat 117, Char.ofNat 110, Char.ofNat 110, Char.ofNat 105, Char.ofNat 111, Char.ofNat 110, Char.ofNat 108, Char.ofNat 97, Char.ofNat 119, Char.ofNat 48, Char.ofNat 50, Char.ofNat 46, Char.ofNat 83, Char.ofNat 104, Char.ofNat 97, Char.ofNat 112, Char.ofNat 101, Char.ofNat 79, Char.ofNat 114, Char.ofNat 100, Char.ofNat 101, Char.ofNat 114, Char.ofNat 32, Char.ofNat 116, Char.ofNat 114, Char.ofNat 117, Char.ofNat 110, Char.ofNat 110, Char.ofNat 105, Char.ofNat 111, Char.ofNat 110, Char.ofNat 47, Char.ofNat 116, Char.ofNat 114, Char.ofNat 117, Char.ofNat 110, Char.ofNat 110, Char.ofNat 105, Char.ofNat 111, Char.ofNat 110, Char.ofNat 108, Char.ofNat 97, Char.ofNat 119, Char.ofNat 48, Char.ofNat 50, Char.ofNat 46, Char.ofNat 83, Char.ofNat 104, Char.ofNat 97, Char.ofNat 112, Char.ofNat 101, Char.ofNat 79, Char.ofNat 112, Char.ofNat 101, Char.ofNat 110, Char.ofNat 115, Char.ofNat 32, Char.ofNat 116, Char.ofNat 114, Char.ofNat 117, Char.ofNat 110, Char.ofNat 110, Char.ofNat 105, Char.ofNat 111, Char.ofNat 110, Char.ofNat 47, Char.ofNat 116, Char.ofNat 114, Char.ofNat 117, Char.ofNat 110, Char.ofNat 110, Char.ofNat 105, Char.ofNat 111, Char.ofNat 110, Char.ofNat 108, Char.ofNat 97, Char.ofNat 119, Char.ofNat 49, Char.ofNat 51, Char.ofNat 46, Char.ofNat 73, Char.ofNat 110, Char.ofNat 116, Char.ofNat 115, Char.ofNat 83, Char.ofNat 104, Char.ofNat 105, Char.ofNat 102, Char.ofNat 116, Char.ofNat 115, Char.ofNat 32, Char.ofNat 116, Char.ofNat 114, Char.ofNat 117, Char.ofNat 110, Char.ofNat 110, Char.ofNat 105, Char.ofNat 111, Char.ofNat 110, Char.ofNat 47, Char.ofNat 116, Char.ofNat 114, Char.ofNat 117, Char.ofNat 110, Char.ofNat 110, Char.ofNat 105, Char.ofNat 111, Char.ofNat 110, Char.ofNat 108, Char.ofNat 97, Char.ofNat 119, Char.ofNat 48, Char.ofNat 49, Char.ofNat 46, Char.ofNat 87, Char.ofNat 105, Char.ofNat 100, Char.ofNat 101, Char.ofNat 82, Char.ofNat 111, Char.ofNat 111, Char.ofNat 116, Char.ofNat 115, Char.ofNat 32, Char.ofNat 116, Char.ofNat 114, Char.ofNat 117, Char.ofNat 110, Char.ofNat 110, Char.ofNat 105, Char.ofNat 111, Char.ofNat 110, Char.ofNat 47, Char.ofNat 116, Char.ofNat 114, Char.ofNat 117, Char.ofNat 110, Char.ofNat 110, Char.ofNat 105, Char.ofNat 111, Char.ofNat 110, Char.ofNat 108, Char.ofNat 97, Char.ofNat 119, Char.ofNat 48, Char.ofNat 50, Char.ofNat 46, Char.ofNat 83, Char.ofNat 104, Char.ofNat 97, Char.ofNat 112, Char.ofNat 101, Char.ofNat 69, Char.ofNat 110, Char.ofNat 100, Char.ofNat 115, Char.ofNat 32, Char.ofNat 116, Char.ofNat 114, Char.ofNat 117, Char.ofNat 110, Char.ofNat 110, Char.ofNat 105, Char.ofNat 111, Char.ofNat 110, Char.ofNat 47, Char.ofNat 116, Char.ofNat 114, Char.ofNat 117, Char.ofNat 110, Char.ofNat 110, Char.ofNat 105, Char.ofNat 111, Char.ofNat 110, Char.ofNat 108, Char.ofNat 97, Char.ofNat 119, Char.ofNat 49, Char.ofNat 51, Char.ofNat 46, Char.ofNat 73, Char.ofNat 110, Char.ofNat 116, Char.ofNat 115, Char.ofNat 68, Char.ofNat 105, Char.ofNat 118, Char.ofNat 115, Char.ofNat 32, Char.ofNat 116, Char.ofNat 114, Char.ofNat 117, Char.ofNat 110, Char.ofNat 110, Char.ofNat 105, Char.ofNat 111, Char.ofNat 110, Char.ofNat 47, Char.ofNat 116, Char.ofNat 114, Char.ofNat 117, Char.ofNat 110, Char.ofNat 110, Char.ofNat 105, Char.ofNat 111, Char.ofNat 110, Char.ofNat 108, Char.ofNat 97, Char.ofNat 119, Char.ofNat 49, Char.ofNat 51, Char.ofNat 46, Char.ofNat 73, Char.ofNat 110, Char.ofNat 116, Char.ofNat 115, Char.ofNat 80, Char.ofNat 111, Char.ofNat 119, Char.ofNat 101, Char.ofNat 114, Char.ofNat 115, Char.ofNat 32, Char.ofNat 116, Char.ofNat 114, Char.ofNat 117, Char.ofNat 110, Char.ofNat 110, Char.ofNat 105, Char.ofNat 111, Char.ofNat 110, Char.ofNat 47, Char.ofNat 116, Char.ofNat 114, Char.ofNat 117, Char.ofNat 110, Char.ofNat 110, Char.ofNat 105, Char.ofNat 111, Char.ofNat 110, Char.ofNat 108, Char.ofNat 97, Char.ofNat 119, Char.ofNat 48, Char.ofNat 49, Char.ofNat 46, Char.ofNat 87, Char.ofNat 105, Char.ofNat 100, Char.ofNat 101, Char.ofNat 83, Char.ofNat 104, Char.ofNat 105, Char.ofNat 102, Char.ofNat 116, Char.ofNat 115, Char.ofNat 32, Char.ofNat 116, Char.ofNat 114, Char.ofNat 117, Char.ofNat 110, Char.ofNat 110, Char.ofNat 105, Char.ofNat 111, Char.ofNat 110, Char.ofNat 47, Char.ofNat 116, Char.ofNat 114, Char.ofNat 117, Char.ofNat 110, Char.ofNat 110, Char.ofNat 105, Char.ofNat 111, Char.ofNat 110, Char.ofNat 108, Char.ofNat 97, Char.ofNat 119, Char.ofNat 48, Char.ofNat 49, Char.ofNat 46, Char.ofNat 87, Char.ofNat 105, Char.ofNat 100, Char.ofNat 101, Char.ofNat 76, Char.ofNat 101, Char.ofNat 110, Char.ofNat 115, Char.ofNat 32, Char.ofNat 116, Char.ofNat 114, Char.ofNat 117, Char.ofNat 110, Char.ofNat 110, Char.ofNat 105, Char.ofNat 111, Char.ofNat 110, Char.ofNat 47, Char.ofNat 116, Char.ofNat 114, Char.ofNat 117, Char.ofNat 110, Char.ofNat 110, Char.ofNat 105, Char.ofNat 111, Char.ofNat 110, Char.ofNat 108, Char.ofNat 97, Char.ofNat 119, Char.ofNat 48, Char.ofNat 49, Char.ofNat 46, Char.ofNat 87, Char.ofNat 105, Char.ofNat 100, Char.ofNat 101, Char.ofNat 83, Char.ofNat 117, Char.ofNat 109, Char.ofNat 115, Char.ofNat 32, Char.ofNat 116, Char.ofNat 114, Char.ofNat 117, Char.ofNat 110, Char.ofNat 110, Char.ofNat 105, Char.ofNat 111, Char.ofNat 110, Char.ofNat 47, Char.ofNat 116, Char.ofNat 114, Char.ofNat 117, Char.ofNat 110, Char.ofNat 110, Char.ofNat 105, Char.ofNat 111, Char.ofNat 110, Char.ofNat 108, Char.ofNat 97, Char.ofNat 119, Char.ofNat 48, Char.ofNat 56, Char.ofNat 46, Char.ofNat 79, Char.ofNat 114, Char.ofNat 100, Char.ofNat 101, Char.ofNat 114, Char.ofNat 80, Char.ofNat 105, Char.ofNat 99, Char.ofNat 107, Char.ofNat 115, Char.ofNat 32, Char.ofNat 116, Char.ofNat 114, Char.ofNat 117, Char.ofNat 110, Char.ofNat 110, Char.ofNat 105, Char.ofNat 111, Char.ofNat 110, Char.ofNat 47, Char.ofNat 116, Char.ofNat 114, Char.ofNat 117, Char.ofNat 110, Char.ofNat 110, Char.ofNat 105, Char.ofNat 111, Char.ofNat 110, Char.ofNat 108, Char.ofNat 97, Char.ofNat 119, Char.ofNat 48, Char.ofNat 50, Char.ofNat 46, Char.ofNat 83, Char.ofNat 104, Char.ofNat 97, Char.ofNat 112, Char.ofNat 101, Char.ofNat 66, Char.ofNat 97, Char.ofNat 99, Char.ofNat 107, Char.ofNat 32, Char.ofNat 116, Char.ofNat 114, Char.ofNat 117, Char.ofNat 110, Char.ofNat 110, Char.ofNat 105, Char.ofNat 111, Char.ofNat 110, Char.ofNat 47, Char.ofNat 116, Char.ofNat 114, Char.ofNat 117, Char.ofNat 110, Char.ofNat 110, Char.ofNat 105, Char.ofNat 111, Char.ofNat 110, Char.ofNat 108, Char.ofNat 97, Char.ofNat 119, Char.ofNat 48, Char.ofNat 56, Char.ofNat 46, Char.ofNat 79, Char.ofNat 114, Char.ofNat 100, Char.ofNat 101, Char.ofNat 114, Char.ofNat 65, Char.ofNat 115, Char.ofNat 107, Char.ofNat 115, Char.ofNat 32, Char.ofNat 116, Char.ofNat 114, Char.ofNat 117, Char.ofNat 110, Char.ofNat 110, Char.ofNat 105, Char.ofNat 111, Char.ofNat 110, Char.ofNat 47, Char.ofNat 116, Char.ofNat 114, Char.ofNat 117, Char.ofNat 110, Char.ofNat 110, Char.ofNat 105, Char.ofNat 111, Char.ofNat 110, Char.ofNat 108, Char.ofNat 97, Char.ofNat 119, Char.ofNat 48, Char.ofNat 56, Char.ofNat 46, Char.ofNat 79, Char.ofNat 114, Char.ofNat 100, Char.ofNat 101, Char.ofNat 114, Char.ofNat 75, Char.ofNat 101, Char.ofNat 101, Char.ofNat 112, Char.ofNat 115, Char.ofNat 32, Char.ofNat 116, Char.ofNat 114, Char.ofNat 117, Char.ofNat 110, Char.ofNat 110, Char.ofNat 105, Char.ofNat 111, Char.ofNat 110, Char.ofNat 47, Char.ofNat 116, Char.ofNat 114, Char.ofNat 117, Char.ofNat 110, Char.ofNat 110, Char.ofNat 105, Char.ofNat 111, Char.ofNat 110, Char.ofNat 108, Char.ofNat 97, Char.ofNat 119, Char.ofNat 48, Char.ofNat 56, Char.ofNat 46, Char.ofNat 79, Char.ofNat 114, Char.ofNat 100, Char.ofNat 101, Char.ofNat 114, Char.ofNat 67, Char.ofNat 104, Char.ofNat 97, Char.ofNat 105, Char.ofNat 110, Char.ofNat 32, Char.ofNat 116, Char.ofNat 114, Char.ofNat 117, Char.ofNat 110, Char.ofNat 110, Char.ofNat 105, Char.ofNat 111, Char.ofNat 110, Char.ofNat 47, Char.ofNat 116, Char.ofNat 114, Char.ofNat 117, Char.ofNat 110, Char.ofNat 110, Char.ofNat 105, Char.ofNat 111, Char.ofNat 110, Char.ofNat 108, Char.ofNat 97, Char.ofNat 119, Char.ofNat 49, Char.ofNat 51, Char.ofNat 46, Char.ofNat 73, Char.ofNat 110, Char.ofNat 116, Char.ofNat 115, Char.ofNat 66, Char.ofNat 97, Char.ofNat 99, Char.ofNat 107, Char.ofNat 32, Char.ofNat 116, Char.ofNat 114, Char.ofNat 117, Char.ofNat 110, Char.ofNat 110, Char.ofNat 105, Char.ofNat 111, Char.ofNat 110, Char.ofNat 47, Char.ofNat 116, Char.ofNat 114, Char.ofNat 117, Char.ofNat 110, Char.ofNat 110, Char.ofNat 105, Char.ofNat 111, Char.ofNat 110, Char.ofNat 108, Char.ofNat 97, Char.ofNat 119, Char.ofNat 48, Char.ofNat 49, Char.ofNat 46, Char.ofNat 87, Char.ofNat 105, Char.ofNat 100, Char.ofNat 101, Char.ofNat 68, Char.ofNat 105, Char.ofNat 118, Char.ofNat 115, Char.ofNat 32, Char.ofNat 116, Char.ofNat 114, Char.ofNat 117, Char.ofNat 110, Char.ofNat 110, Char.ofNat 105, Char.ofNat 111, Char.ofNat 110, Char.ofNat 47, Char.ofNat 116, Char.ofNat 114, Char.ofNat 117, Char.ofNat 110, Char.ofNat 110, Char.ofNat 105, Char.ofNat 111, Char.ofNat 110, Char.ofNat 108, Char.ofNat 97, Char.ofNat 119, Char.ofNat 48, Char.ofNat 49, Char.ofNat 46, Char.ofNat 87, Char.ofNat 105, Char.ofNat 100, Char.ofNat 101, Char.ofNat 66, Char.ofNat 97, Char.ofNat 99, Char.ofNat 107]
set_option maxRecDepth 100000 in
theorem head_list : Try.prog.initOrder.toList = w1 ++ Char.ofNat 32 :: (w2 ++ Char.ofNat 32 :: (w3 ++ Char.ofNat 32 :: tailSigns)) :=
  (congrArg String.toList (show Try.prog.initOrder = String.ofList (w1 ++ Char.ofNat 32 :: (w2 ++ Char.ofNat 32 :: (w3 ++ Char.ofNat 32 :: tailSigns))) from rfl)).trans String.toList_ofList
theorem words : ∃ rest, behindMainWord (wordsSigns Try.prog.initOrder.toList) = w3 :: rest := by
  refine ⟨wordsSigns tailSigns, ?_⟩
  rw [head_list, words_word w1 _ (by kernel_rfl), words_word w2 _ (by kernel_rfl), words_word w3 _ (by kernel_rfl)]
  generalize wordsSigns tailSigns = rest
  have e : ((w1 == "harness".toList || w1 == "ownmain".toList) && isSumSigns w2) = true := by kernel_rfl
  show (if ((w1 == "harness".toList || w1 == "ownmain".toList) && isSumSigns w2) = true then w3 :: rest else w1 :: w2 :: w3 :: rest) = w3 :: rest
  rw [if_pos e]
theorem c3 : (w3 == "gc".toList) = false ∧ (w3 == "spec".toList) = false ∧ (w3 == "cut".toList) = true ∧ (w3 == "carried".toList) = false ∧ (w3 == "finals".toList) = false := ⟨by kernel_rfl, by kernel_rfl, by kernel_rfl, by kernel_rfl, by kernel_rfl⟩
theorem strip (rest : List (List Char)) : stripLifts liftWords (w3 :: rest) = ([], w3 :: rest) := by
  have key : ∀ l : List String, l.all (fun o => !(w3 == o.toList)) = true → stripLifts l (w3 :: rest) = ([], w3 :: rest) := by
    intro l
    induction l with
    | nil => intro _; rfl
    | cons o l ih =>
      intro h
      rw [List.all_cons, Bool.and_eq_true] at h
      unfold stripLifts
      rw [if_neg (fun e => by have h1 := h.1; rw [e] at h1; cases h1)]
      exact ih h.2
  exact key liftWords (by kernel_rfl)
theorem make_of (P : Program) (h : ∃ rest, behindMainWord (wordsSigns P.initOrder.toList) = w3 :: rest) : P.make = some .cut := by
  obtain ⟨rest, h⟩ := h
  unfold Program.make
  rw [h]
  show (if (w3 == "gc".toList || w3 == "spec".toList) = true then some Make.whole else if (w3 == "cut".toList || (w3 == "finals".toList && rest.head? == some "cut".toList)) = true then some Make.cut else _) = some Make.cut
  rw [if_neg (by rw [c3.1, c3.2.1]; decide), if_pos (by rw [c3.2.2.1, Bool.true_or])]
set_option maxRecDepth 100000 in
theorem liftsFact : Try.prog.liftsFinal = false := by
  unfold Program.liftsFinal Program.headLifts
  rw [head_list]
  kernel_rfl
theorem doorFact : (!Try.prog.laysLater && !Try.prog.bearsReflect && Try.prog.doorFits []) = true := by kernel_rfl
theorem makeFact : Try.prog.make = some .cut := make_of _ words
theorem enter_of (P : Program) (h : ∃ rest, behindMainWord (wordsSigns P.initOrder.toList) = w3 :: rest) (d : (!P.laysLater && !P.bearsReflect && P.doorFits []) = true) : P.mayEnter = true := by
  obtain ⟨rest, h⟩ := h
  rw [Bool.and_eq_true, Bool.and_eq_true] at d
  have e : ((some w3 == some "cut".toList) : Bool) = true := by kernel_rfl
  unfold Program.mayEnter
  rw [h]
  show ((_ || _) || ((stripLifts liftWords (w3 :: rest)).2.head? == some "cut".toList && ((stripLifts liftWords (w3 :: rest)).1.contains "finals" || !P.laysLater) && ((stripLifts liftWords (w3 :: rest)).1.contains "reflectrows" || !P.bearsReflect) &&
      ((stripLifts liftWords (w3 :: rest)).1.contains "reflectrows" || !(stripLifts liftWords (w3 :: rest)).1.contains "leanrows") && P.doorFits (stripLifts liftWords (w3 :: rest)).1)) = true
  rw [strip, Bool.or_eq_true]
  refine .inr ?_
  rw [Bool.and_eq_true, Bool.and_eq_true, Bool.and_eq_true, Bool.and_eq_true, Bool.or_eq_true, Bool.or_eq_true]
  exact ⟨⟨⟨⟨e, .inr d.1.1⟩, .inr d.1.2⟩, rfl⟩, d.2⟩
theorem enterFact : Try.prog.mayEnter = true := enter_of _ words doorFact
end Go.Proofs.Ytmjfenbbgfohlaa.Facts
