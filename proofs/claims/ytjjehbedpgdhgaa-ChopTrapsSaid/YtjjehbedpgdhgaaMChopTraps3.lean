/- What the Go functions that the statement ChopTraps reaches compute, and the mathematics on it, in the order in which one leans on the other; for every input. -/
import Derived.Test.YtjjehbedpgdhgaaVChopTraps0
import Derived.Test.YtjjehbedpgdhgaaMChopTraps0
import Derived.Test.YtjjehbedpgdhgaaMChopTraps2
import Derived.Deep.RegionHeld3
namespace Go.Proofs.Ytjjehbedpgdhgaa.PA
open Go.RowKit Go.Proofs.YtjjehbedpgdhgaaW.PrintWords Go.Proofs.YtjjehbedpgdhgaaW.PrintLast Go.Proofs.YtjjehbedpgdhgaaW.PrintMore
attribute [local go_sem] max2_int min2_int max_two min_two max_three min_three max_four min_four   -- for this text's walks alone
set_option linter.unusedVariables false
set_option linter.unusedSimpArgs false
set_option maxHeartbeats 8000000
set_option maxRecDepth 100000
def r2_Two.l0 : Nat → Int → Int → Int → Option (Int)
 | 0, _, _, _ => none
 | k + 1, x0, x3, x4 => if x4 < x0 then (r2_Two.l0 k x0 (IntKind.u64.wrap (2 * x3)) (wrap64 (x4 + 1))) else (some x3)
def r2_Two.f (k : Nat) (a0 : Int) : Option (Int) := r2_Two.l0 k a0 1 0
theorem r2_Two.mono_l : ∀ k, (∀ y0 y1 y2, LeO (r2_Two.l0 k y0 y1 y2) (r2_Two.l0 (k + 1) y0 y1 y2))
 | 0 => fun _ _ _ r h => by simp [r2_Two.l0] at h
 | k + 1 => by
  have ih0 := r2_Two.mono_l k
  ·intro y0 y1 y2
   unfold r2_Two.l0
   repeat' first
   | (with_reducible exact ih0 _ _ _)
   | (with_reducible exact LeO.refl _)
   | (with_reducible exact LeO.none _)
   | (with_reducible refine LeO.ite ?_ ?_)
   | (with_reducible refine LeO.bind ?_ (fun _ => ?_))
   | exact ih0 _ _ _
   | exact LeO.none _
   | refine LeO.ite ?_ ?_
   | refine LeO.bind ?_ (fun _ => ?_)
theorem r2_Two.mono : ∀ a0 k, LeO (r2_Two.f k a0) (r2_Two.f (k + 1) a0) := by
 intro a0 k
 have ih0 := r2_Two.mono_l k
 unfold r2_Two.f
 repeat' first
   | (with_reducible exact ih0 _ _ _)
   | (with_reducible exact LeO.refl _)
   | (with_reducible exact LeO.none _)
   | (with_reducible refine LeO.ite ?_ ?_)
   | (with_reducible refine LeO.bind ?_ (fun _ => ?_))
   | exact ih0 _ _ _
   | exact LeO.none _
   | refine LeO.ite ?_ ?_
   | refine LeO.bind ?_ (fun _ => ?_)
theorem r2_Two.calls (k : Nat) (a0 : Int) (r : Int) (w : World) (h : r2_Two.f k a0 = some r) :
  Calls Try.prog 58 #[.int .i64 a0] w fun e w' => e = .returned (.int .u64 r) ∧ Drawn0 w w' := by
 have H : (r2_Two.l0 k a0 1 0) = some r := h
 clear h
 have H' := A_ H
 clear H
 go_enter Try.func58, Try.ntmps58
 go_wp2
 go_loopg [3, 4] k (fun kq v3 v4 w' => ∃ (x3_1 : Int) (x4_1 : Int), v3 = .int .u64 x3_1 ∧ v4 = .int .i64 x4_1 ∧ Aside0 (r2_Two.l0 kq a0 x3_1 x4_1 = some r) ∧ Aside0 (kq ≤ k) ∧ Drawn0 w w')
 case atStart => exact ⟨(1), (0), sm_, sm_, H', ⟨Nat.le_refl _⟩, by repeat (first | exact Drawn0.refl _ | apply Drawn0.step)⟩
 case round =>
  clear H'
  obtain ⟨x3_1, x4_1, rfl, rfl, HA, HK1, ⟨m1, rfl⟩⟩ := hrel
  cases gk with
  | zero => exact absurd HA.out (by simp [r2_Two.l0])
  | succ k1 =>
   have H := HA.out
   clear HA
   simp only [r2_Two.l0] at H
   by_cases c2 : x4_1 < a0
   ·rw [if_pos c2] at H
    have c2b0 : decide (x4_1 < a0) = true := decide_eq_true c2
    clear c2
    have H' := A_ H
    clear H
    go_wp2
    go_roundg k1
    case measure => have := HK1.out; omega
    case rel => exact ⟨(IntKind.u64.wrap (2 * x3_1)), (wrap64 (x4_1 + 1)), sm_, sm_, H', ⟨by have := HK1.out; omega⟩, by repeat (first | exact Drawn0.refl _ | apply Drawn0.step)⟩
   ·rw [if_neg c2] at H
    have c2b0 : decide (x4_1 < a0) = false := decide_eq_false c2
    clear c2
    obtain rfl := Option.some.inj H
    go_wp2
    go_ret
    exact ⟨sm_, by repeat (first | exact Drawn0.refl _ | apply Drawn0.step)⟩
def r2_Exp.f (k : Nat) (a0 : Int) (a1 : Int) : Option (Int) := (r2_Cut.f a0 a1).bind fun t236 => ((r2_F.f a0).bind fun t237 => ((r2_Two.f k t237).bind fun t238 => (if t238 = 0 then (none) else ((r2_E.f a0).bind fun t239 => ((r2_Two.f k t239).bind fun t240 => (if t240 = 0 then (none) else (some (wrap64 (Int.tmod (IntKind.u64.wrap (Int.tdiv t236 t238)) t240)))))))))
theorem r2_Exp.mono : ∀ a0 a1 k, LeO (r2_Exp.f k a0 a1) (r2_Exp.f (k + 1) a0 a1) := by
 intro a0 a1 k
 unfold r2_Exp.f
 repeat' first
   | (with_reducible exact r2_Two.mono _ _)
   | (with_reducible exact LeO.refl _)
   | (with_reducible exact LeO.none _)
   | (with_reducible refine LeO.ite ?_ ?_)
   | (with_reducible refine LeO.bind ?_ (fun _ => ?_))
   | exact r2_Two.mono _ _
   | exact LeO.none _
   | refine LeO.ite ?_ ?_
   | refine LeO.bind ?_ (fun _ => ?_)
theorem r2_Exp.calls (k : Nat) (a0 : Int) (a1 : Int) (r : Int) (w : World) (h : r2_Exp.f k a0 a1 = some r) :
  Calls Try.prog 17 #[.int .i64 a0, .int .u64 a1] w fun e w' => e = .returned (.int .i64 r) ∧ Drawn0 w w' := by
 have H : ((r2_Cut.f a0 a1).bind fun t236 => ((r2_F.f a0).bind fun t237 => ((r2_Two.f k t237).bind fun t238 => (if t238 = 0 then (none) else ((r2_E.f a0).bind fun t239 => ((r2_Two.f k t239).bind fun t240 => (if t240 = 0 then (none) else (some (wrap64 (Int.tmod (IntKind.u64.wrap (Int.tdiv t236 t238)) t240)))))))))) = some r := h
 clear h
 replace H := ob_ H
 obtain ⟨t236, A30, H⟩ := H
 replace H : ((r2_F.f a0).bind fun t237 => ((r2_Two.f k t237).bind fun t238 => (if t238 = 0 then (none) else ((r2_E.f a0).bind fun t239 => ((r2_Two.f k t239).bind fun t240 => (if t240 = 0 then (none) else (some (wrap64 (Int.tmod (IntKind.u64.wrap (Int.tdiv t236 t238)) t240))))))))) = some r := H
 have A3 := A_ A30;clear A30
 replace H := ob_ H
 obtain ⟨t237, A40, H⟩ := H
 replace H : ((r2_Two.f k t237).bind fun t238 => (if t238 = 0 then (none) else ((r2_E.f a0).bind fun t239 => ((r2_Two.f k t239).bind fun t240 => (if t240 = 0 then (none) else (some (wrap64 (Int.tmod (IntKind.u64.wrap (Int.tdiv t236 t238)) t240)))))))) = some r := H
 have A4 := A_ A40;clear A40
 replace H := ob_ H
 obtain ⟨t238, A50, H⟩ := H
 replace H : (if t238 = 0 then (none) else ((r2_E.f a0).bind fun t239 => ((r2_Two.f k t239).bind fun t240 => (if t240 = 0 then (none) else (some (wrap64 (Int.tmod (IntKind.u64.wrap (Int.tdiv t236 t238)) t240))))))) = some r := H
 have A5 := A_ A50;clear A50
 by_cases c6 : t238 = 0
 ·rw [if_pos c6] at H
  exact absurd H (by simp)
 ·rw [if_neg c6] at H
  have c6b0 : (t238 == 0) = false := beq_eq_false_iff_ne.mpr c6
  have c6b1 : (t238 != 0) = true := bne_iff_ne.mpr c6
  replace H := ob_ H
  obtain ⟨t239, A70, H⟩ := H
  replace H : ((r2_Two.f k t239).bind fun t240 => (if t240 = 0 then (none) else (some (wrap64 (Int.tmod (IntKind.u64.wrap (Int.tdiv t236 t238)) t240))))) = some r := H
  have A7 := A_ A70;clear A70
  replace H := ob_ H
  obtain ⟨t240, A80, H⟩ := H
  replace H : (if t240 = 0 then (none) else (some (wrap64 (Int.tmod (IntKind.u64.wrap (Int.tdiv t236 t238)) t240)))) = some r := H
  have A8 := A_ A80;clear A80
  by_cases c9 : t240 = 0
  ·rw [if_pos c9] at H
   exact absurd H (by simp)
  ·rw [if_neg c9] at H
   have c9b0 : (t240 == 0) = false := beq_eq_false_iff_ne.mpr c9
   have c9b1 : (t240 != 0) = true := bne_iff_ne.mpr c9
   obtain rfl := Option.some.inj H
   go_enter Try.func17, Try.ntmps17
   go_wp2_with (first | (go_at_call 57; (with_reducible refine (r2_Cut.calls a0 a1 t236 _ A3.out).mono ?_); rintro e w' ⟨rfl, ⟨nd, rfl⟩⟩; (try first | exact ⟨rfl, _, World.drewN_drewN _ _ _⟩ | exact ⟨rfl, _, Eq.trans (World.drewN_drewN _ _ _) (congrArg (World.drewN _) (Nat.add_assoc _ _ _))⟩)) | (go_at_call 59; (with_reducible refine (r2_F.calls a0 t237 _ A4.out).mono ?_); rintro e w' ⟨rfl, ⟨nd, rfl⟩⟩; (try first | exact ⟨rfl, _, World.drewN_drewN _ _ _⟩ | exact ⟨rfl, _, Eq.trans (World.drewN_drewN _ _ _) (congrArg (World.drewN _) (Nat.add_assoc _ _ _))⟩)) | (go_at_call 58; (with_reducible refine (r2_Two.calls k t237 t238 _ A5.out).mono ?_); rintro e w' ⟨rfl, ⟨nd, rfl⟩⟩; (try first | exact ⟨rfl, _, World.drewN_drewN _ _ _⟩ | exact ⟨rfl, _, Eq.trans (World.drewN_drewN _ _ _) (congrArg (World.drewN _) (Nat.add_assoc _ _ _))⟩)) | (go_at_call 60; (with_reducible refine (r2_E.calls a0 t239 _ A7.out).mono ?_); rintro e w' ⟨rfl, ⟨nd, rfl⟩⟩; (try first | exact ⟨rfl, _, World.drewN_drewN _ _ _⟩ | exact ⟨rfl, _, Eq.trans (World.drewN_drewN _ _ _) (congrArg (World.drewN _) (Nat.add_assoc _ _ _))⟩)) | (go_at_call 58; (with_reducible refine (r2_Two.calls k t239 t240 _ A8.out).mono ?_); rintro e w' ⟨rfl, ⟨nd, rfl⟩⟩; (try first | exact ⟨rfl, _, World.drewN_drewN _ _ _⟩ | exact ⟨rfl, _, Eq.trans (World.drewN_drewN _ _ _) (congrArg (World.drewN _) (Nat.add_assoc _ _ _))⟩)))
   repeat (go_quiet (first | (go_at_call 57; (with_reducible refine (r2_Cut.calls a0 a1 t236 _ A3.out).mono ?_); rintro e w' ⟨rfl, ⟨nd, rfl⟩⟩; (try first | exact ⟨rfl, _, World.drewN_drewN _ _ _⟩ | exact ⟨rfl, _, Eq.trans (World.drewN_drewN _ _ _) (congrArg (World.drewN _) (Nat.add_assoc _ _ _))⟩)) | (go_at_call 59; (with_reducible refine (r2_F.calls a0 t237 _ A4.out).mono ?_); rintro e w' ⟨rfl, ⟨nd, rfl⟩⟩; (try first | exact ⟨rfl, _, World.drewN_drewN _ _ _⟩ | exact ⟨rfl, _, Eq.trans (World.drewN_drewN _ _ _) (congrArg (World.drewN _) (Nat.add_assoc _ _ _))⟩)) | (go_at_call 58; (with_reducible refine (r2_Two.calls k t237 t238 _ A5.out).mono ?_); rintro e w' ⟨rfl, ⟨nd, rfl⟩⟩; (try first | exact ⟨rfl, _, World.drewN_drewN _ _ _⟩ | exact ⟨rfl, _, Eq.trans (World.drewN_drewN _ _ _) (congrArg (World.drewN _) (Nat.add_assoc _ _ _))⟩)) | (go_at_call 60; (with_reducible refine (r2_E.calls a0 t239 _ A7.out).mono ?_); rintro e w' ⟨rfl, ⟨nd, rfl⟩⟩; (try first | exact ⟨rfl, _, World.drewN_drewN _ _ _⟩ | exact ⟨rfl, _, Eq.trans (World.drewN_drewN _ _ _) (congrArg (World.drewN _) (Nat.add_assoc _ _ _))⟩)) | (go_at_call 58; (with_reducible refine (r2_Two.calls k t239 t240 _ A8.out).mono ?_); rintro e w' ⟨rfl, ⟨nd, rfl⟩⟩; (try first | exact ⟨rfl, _, World.drewN_drewN _ _ _⟩ | exact ⟨rfl, _, Eq.trans (World.drewN_drewN _ _ _) (congrArg (World.drewN _) (Nat.add_assoc _ _ _))⟩))); try go_wp2_with (first | (go_at_call 57; (with_reducible refine (r2_Cut.calls a0 a1 t236 _ A3.out).mono ?_); rintro e w' ⟨rfl, ⟨nd, rfl⟩⟩; (try first | exact ⟨rfl, _, World.drewN_drewN _ _ _⟩ | exact ⟨rfl, _, Eq.trans (World.drewN_drewN _ _ _) (congrArg (World.drewN _) (Nat.add_assoc _ _ _))⟩)) | (go_at_call 59; (with_reducible refine (r2_F.calls a0 t237 _ A4.out).mono ?_); rintro e w' ⟨rfl, ⟨nd, rfl⟩⟩; (try first | exact ⟨rfl, _, World.drewN_drewN _ _ _⟩ | exact ⟨rfl, _, Eq.trans (World.drewN_drewN _ _ _) (congrArg (World.drewN _) (Nat.add_assoc _ _ _))⟩)) | (go_at_call 58; (with_reducible refine (r2_Two.calls k t237 t238 _ A5.out).mono ?_); rintro e w' ⟨rfl, ⟨nd, rfl⟩⟩; (try first | exact ⟨rfl, _, World.drewN_drewN _ _ _⟩ | exact ⟨rfl, _, Eq.trans (World.drewN_drewN _ _ _) (congrArg (World.drewN _) (Nat.add_assoc _ _ _))⟩)) | (go_at_call 60; (with_reducible refine (r2_E.calls a0 t239 _ A7.out).mono ?_); rintro e w' ⟨rfl, ⟨nd, rfl⟩⟩; (try first | exact ⟨rfl, _, World.drewN_drewN _ _ _⟩ | exact ⟨rfl, _, Eq.trans (World.drewN_drewN _ _ _) (congrArg (World.drewN _) (Nat.add_assoc _ _ _))⟩)) | (go_at_call 58; (with_reducible refine (r2_Two.calls k t239 t240 _ A8.out).mono ?_); rintro e w' ⟨rfl, ⟨nd, rfl⟩⟩; (try first | exact ⟨rfl, _, World.drewN_drewN _ _ _⟩ | exact ⟨rfl, _, Eq.trans (World.drewN_drewN _ _ _) (congrArg (World.drewN _) (Nat.add_assoc _ _ _))⟩))))
   go_ret
   exact ⟨sm_, by repeat (first | exact Drawn0.refl _ | apply Drawn0.step)⟩
def r2_Frac.f (k : Nat) (a0 : Int) (a1 : Int) : Option (Int) := (r2_F.f a0).bind fun t245 => ((r2_Two.f k t245).bind fun t246 => (if t246 = 0 then (none) else (some (Int.tmod a1 t246))))
theorem r2_Frac.mono : ∀ a0 a1 k, LeO (r2_Frac.f k a0 a1) (r2_Frac.f (k + 1) a0 a1) := by
 intro a0 a1 k
 unfold r2_Frac.f
 repeat' first
   | (with_reducible exact r2_Two.mono _ _)
   | (with_reducible exact LeO.refl _)
   | (with_reducible exact LeO.none _)
   | (with_reducible refine LeO.ite ?_ ?_)
   | (with_reducible refine LeO.bind ?_ (fun _ => ?_))
   | exact r2_Two.mono _ _
   | exact LeO.none _
   | refine LeO.ite ?_ ?_
   | refine LeO.bind ?_ (fun _ => ?_)
theorem r2_Frac.calls (k : Nat) (a0 : Int) (a1 : Int) (r : Int) (w : World) (h : r2_Frac.f k a0 a1 = some r) :
  Calls Try.prog 82 #[.int .i64 a0, .int .u64 a1] w fun e w' => e = .returned (.int .u64 r) ∧ Drawn0 w w' := by
 have H : ((r2_F.f a0).bind fun t245 => ((r2_Two.f k t245).bind fun t246 => (if t246 = 0 then (none) else (some (Int.tmod a1 t246))))) = some r := h
 clear h
 replace H := ob_ H
 obtain ⟨t245, A30, H⟩ := H
 replace H : ((r2_Two.f k t245).bind fun t246 => (if t246 = 0 then (none) else (some (Int.tmod a1 t246)))) = some r := H
 have A3 := A_ A30;clear A30
 replace H := ob_ H
 obtain ⟨t246, A40, H⟩ := H
 replace H : (if t246 = 0 then (none) else (some (Int.tmod a1 t246))) = some r := H
 have A4 := A_ A40;clear A40
 by_cases c5 : t246 = 0
 ·rw [if_pos c5] at H
  exact absurd H (by simp)
 ·rw [if_neg c5] at H
  have c5b0 : (t246 == 0) = false := beq_eq_false_iff_ne.mpr c5
  have c5b1 : (t246 != 0) = true := bne_iff_ne.mpr c5
  obtain rfl := Option.some.inj H
  go_enter Try.func82, Try.ntmps82
  go_wp2_with (first | ((with_reducible refine gate_callee (f := 59) rfl ?_); refine gl_ (some 7) Try.func59 #[.int .i64 a0] ?_; (with_reducible refine (r2_F.calls a0 t245 _ A3.out).mono ?_); rintro e w' ⟨rfl, ⟨nd, rfl⟩⟩; refine ⟨_, rfl, ?_⟩) | ((with_reducible refine gate_callee (f := 58) rfl ?_); refine gl_ (some 8) Try.func58 #[.int .i64 t245] ?_; (with_reducible refine (r2_Two.calls k t245 t246 _ A4.out).mono ?_); rintro e w' ⟨rfl, ⟨nd, rfl⟩⟩; refine ⟨_, rfl, ?_⟩))
  go_ret
  exact ⟨sm_, by repeat (first | exact Drawn0.refl _ | apply Drawn0.step)⟩
def r2_Neg.f (k : Nat) (a0 : Int) (a1 : Int) : Option (Bool) := (r2_Cut.f a0 a1).bind fun t241 => ((r2_Two.f k (wrap64 (a0 - 1))).bind fun t242 => (if t242 = 0 then (none) else (some ((IntKind.u64.wrap (Int.tdiv t241 t242)) == 1))))
theorem r2_Neg.mono : ∀ a0 a1 k, LeO (r2_Neg.f k a0 a1) (r2_Neg.f (k + 1) a0 a1) := by
 intro a0 a1 k
 unfold r2_Neg.f
 repeat' first
   | (with_reducible exact r2_Two.mono _ _)
   | (with_reducible exact LeO.refl _)
   | (with_reducible exact LeO.none _)
   | (with_reducible refine LeO.ite ?_ ?_)
   | (with_reducible refine LeO.bind ?_ (fun _ => ?_))
   | exact r2_Two.mono _ _
   | exact LeO.none _
   | refine LeO.ite ?_ ?_
   | refine LeO.bind ?_ (fun _ => ?_)
theorem r2_Neg.calls (k : Nat) (a0 : Int) (a1 : Int) (r : Bool) (w : World) (h : r2_Neg.f k a0 a1 = some r) :
  Calls Try.prog 18 #[.int .i64 a0, .int .u64 a1] w fun e w' => e = .returned (.bool r) ∧ Drawn0 w w' := by
 have H : ((r2_Cut.f a0 a1).bind fun t241 => ((r2_Two.f k (wrap64 (a0 - 1))).bind fun t242 => (if t242 = 0 then (none) else (some ((IntKind.u64.wrap (Int.tdiv t241 t242)) == 1))))) = some r := h
 clear h
 replace H := ob_ H
 obtain ⟨t241, A30, H⟩ := H
 replace H : ((r2_Two.f k (wrap64 (a0 - 1))).bind fun t242 => (if t242 = 0 then (none) else (some ((IntKind.u64.wrap (Int.tdiv t241 t242)) == 1)))) = some r := H
 have A3 := A_ A30;clear A30
 replace H := ob_ H
 obtain ⟨t242, A40, H⟩ := H
 replace H : (if t242 = 0 then (none) else (some ((IntKind.u64.wrap (Int.tdiv t241 t242)) == 1))) = some r := H
 have A4 := A_ A40;clear A40
 by_cases c5 : t242 = 0
 ·rw [if_pos c5] at H
  exact absurd H (by simp)
 ·rw [if_neg c5] at H
  have c5b0 : (t242 == 0) = false := beq_eq_false_iff_ne.mpr c5
  have c5b1 : (t242 != 0) = true := bne_iff_ne.mpr c5
  obtain rfl := Option.some.inj H
  go_enter Try.func18, Try.ntmps18
  go_wp2_with (first | ((with_reducible refine gate_callee (f := 57) rfl ?_); refine gl_ (some 7) Try.func57 #[.int .i64 a0, .int .u64 a1] ?_; (with_reducible refine (r2_Cut.calls a0 a1 t241 _ A3.out).mono ?_); rintro e w' ⟨rfl, ⟨nd, rfl⟩⟩; refine ⟨_, rfl, ?_⟩) | ((with_reducible refine gate_callee (f := 58) rfl ?_); refine gl_ (some 10) Try.func58 #[.int .i64 (wrap64 (a0 - 1))] ?_; (with_reducible refine (r2_Two.calls k (wrap64 (a0 - 1)) t242 _ A4.out).mono ?_); rintro e w' ⟨rfl, ⟨nd, rfl⟩⟩; refine ⟨_, rfl, ?_⟩))
  go_ret
  exact ⟨sm_, by repeat (first | exact Drawn0.refl _ | apply Drawn0.step)⟩
def r2_Top.f (k : Nat) (a0 : Int) : Option (Int) := (r2_E.f a0).bind fun t243 => ((r2_Two.f k t243).bind fun t244 => (some (wrap64 ((wrap64 (t244)) - 1))))
theorem r2_Top.mono : ∀ a0 k, LeO (r2_Top.f k a0) (r2_Top.f (k + 1) a0) := by
 intro a0 k
 unfold r2_Top.f
 repeat' first
   | (with_reducible exact r2_Two.mono _ _)
   | (with_reducible exact LeO.refl _)
   | (with_reducible exact LeO.none _)
   | (with_reducible refine LeO.ite ?_ ?_)
   | (with_reducible refine LeO.bind ?_ (fun _ => ?_))
   | exact r2_Two.mono _ _
   | exact LeO.none _
   | refine LeO.ite ?_ ?_
   | refine LeO.bind ?_ (fun _ => ?_)
theorem r2_Top.calls (k : Nat) (a0 : Int) (r : Int) (w : World) (h : r2_Top.f k a0 = some r) :
  Calls Try.prog 19 #[.int .i64 a0] w fun e w' => e = .returned (.int .i64 r) ∧ Drawn0 w w' := by
 have H : ((r2_E.f a0).bind fun t243 => ((r2_Two.f k t243).bind fun t244 => (some (wrap64 ((wrap64 (t244)) - 1))))) = some r := h
 clear h
 replace H := ob_ H
 obtain ⟨t243, A20, H⟩ := H
 replace H : ((r2_Two.f k t243).bind fun t244 => (some (wrap64 ((wrap64 (t244)) - 1)))) = some r := H
 have A2 := A_ A20;clear A20
 replace H := ob_ H
 obtain ⟨t244, A30, H⟩ := H
 replace H : (some (wrap64 ((wrap64 (t244)) - 1))) = some r := H
 have A3 := A_ A30;clear A30
 obtain rfl := Option.some.inj H
 go_enter Try.func19, Try.ntmps19
 go_wp2_with (first | ((with_reducible refine gate_callee (f := 60) rfl ?_); refine gl_ (some 4) Try.func60 #[.int .i64 a0] ?_; (with_reducible refine (r2_E.calls a0 t243 _ A2.out).mono ?_); rintro e w' ⟨rfl, ⟨nd, rfl⟩⟩; refine ⟨_, rfl, ?_⟩) | ((with_reducible refine gate_callee (f := 58) rfl ?_); refine gl_ (some 5) Try.func58 #[.int .i64 t243] ?_; (with_reducible refine (r2_Two.calls k t243 t244 _ A3.out).mono ?_); rintro e w' ⟨rfl, ⟨nd, rfl⟩⟩; refine ⟨_, rfl, ?_⟩))
 go_ret
 exact ⟨sm_, by repeat (first | exact Drawn0.refl _ | apply Drawn0.step)⟩
def r2_Open.f (k : Nat) (a0 : Int) (a1 : Int) : Option (Bool × Int × Int × Int) := (r2_Exp.f k a0 a1).bind fun t248 => ((r2_Frac.f k a0 a1).bind fun t249 => ((r2_Neg.f k a0 a1).bind fun t250 => ((r2_Top.f k a0).bind fun t251 => (if t248 = t251 then (if t249 = 0 then (some (t250, 2, 0, 0)) else (some (false, 3, 0, 0))) else (if t248 = 0 then (if t249 = 0 then (some (t250, 0, 0, 0)) else ((r2_B.f a0).bind fun t252 => ((r2_F.f a0).bind fun t253 => (some (t250, 1, wrap64 ((wrap64 (1 - t252)) - t253), t249))))) else ((r2_B.f a0).bind fun t254 => ((r2_F.f a0).bind fun t255 => ((r2_F.f a0).bind fun t256 => ((r2_Two.f k t256).bind fun t257 => (some (t250, 1, wrap64 ((wrap64 (t248 - t254)) - t255), IntKind.u64.wrap (t257 + t249))))))))))))
theorem r2_Open.mono : ∀ a0 a1 k, LeO (r2_Open.f k a0 a1) (r2_Open.f (k + 1) a0 a1) := by
 intro a0 a1 k
 unfold r2_Open.f
 repeat' first
   | (with_reducible exact r2_Exp.mono _ _ _)
   | (with_reducible exact r2_Frac.mono _ _ _)
   | (with_reducible exact r2_Neg.mono _ _ _)
   | (with_reducible exact r2_Top.mono _ _)
   | (with_reducible exact r2_Two.mono _ _)
   | (with_reducible exact LeO.refl _)
   | (with_reducible exact LeO.none _)
   | (with_reducible refine LeO.ite ?_ ?_)
   | (with_reducible refine LeO.bind ?_ (fun _ => ?_))
   | exact r2_Exp.mono _ _ _
   | exact r2_Frac.mono _ _ _
   | exact r2_Neg.mono _ _ _
   | exact r2_Top.mono _ _
   | exact r2_Two.mono _ _
   | exact LeO.none _
   | refine LeO.ite ?_ ?_
   | refine LeO.bind ?_ (fun _ => ?_)
theorem r2_Open.calls (k : Nat) (a0 : Int) (a1 : Int) (r1 : Bool) (r2 : Int) (r3 : Int) (r4 : Int) (w : World) (h : r2_Open.f k a0 a1 = some (r1, r2, r3, r4)) :
  Calls Try.prog 46 #[.int .i64 a0, .int .u64 a1] w fun e w' => e = .returned (.agg #[.bool r1, .int .i64 r2, .int .i64 r3, .int .u64 r4]) ∧ Below w.heap.size w w' := by
 have hu67 := Try.underlying67
 have HB := A_ (Below.refl w.heap.size w)
 have H : ((r2_Exp.f k a0 a1).bind fun t248 => ((r2_Frac.f k a0 a1).bind fun t249 => ((r2_Neg.f k a0 a1).bind fun t250 => ((r2_Top.f k a0).bind fun t251 => (if t248 = t251 then (if t249 = 0 then (some (t250, 2, 0, 0)) else (some (false, 3, 0, 0))) else (if t248 = 0 then (if t249 = 0 then (some (t250, 0, 0, 0)) else ((r2_B.f a0).bind fun t252 => ((r2_F.f a0).bind fun t253 => (some (t250, 1, wrap64 ((wrap64 (1 - t252)) - t253), t249))))) else ((r2_B.f a0).bind fun t254 => ((r2_F.f a0).bind fun t255 => ((r2_F.f a0).bind fun t256 => ((r2_Two.f k t256).bind fun t257 => (some (t250, 1, wrap64 ((wrap64 (t248 - t254)) - t255), IntKind.u64.wrap (t257 + t249))))))))))))) = some (r1, r2, r3, r4) := h
 clear h
 replace H := ob_ H
 obtain ⟨t248, A30, H⟩ := H
 replace H : ((r2_Frac.f k a0 a1).bind fun t249 => ((r2_Neg.f k a0 a1).bind fun t250 => ((r2_Top.f k a0).bind fun t251 => (if t248 = t251 then (if t249 = 0 then (some (t250, 2, 0, 0)) else (some (false, 3, 0, 0))) else (if t248 = 0 then (if t249 = 0 then (some (t250, 0, 0, 0)) else ((r2_B.f a0).bind fun t252 => ((r2_F.f a0).bind fun t253 => (some (t250, 1, wrap64 ((wrap64 (1 - t252)) - t253), t249))))) else ((r2_B.f a0).bind fun t254 => ((r2_F.f a0).bind fun t255 => ((r2_F.f a0).bind fun t256 => ((r2_Two.f k t256).bind fun t257 => (some (t250, 1, wrap64 ((wrap64 (t248 - t254)) - t255), IntKind.u64.wrap (t257 + t249)))))))))))) = some (r1, r2, r3, r4) := H
 have A3 := A_ A30;clear A30
 replace H := ob_ H
 obtain ⟨t249, A40, H⟩ := H
 replace H : ((r2_Neg.f k a0 a1).bind fun t250 => ((r2_Top.f k a0).bind fun t251 => (if t248 = t251 then (if t249 = 0 then (some (t250, 2, 0, 0)) else (some (false, 3, 0, 0))) else (if t248 = 0 then (if t249 = 0 then (some (t250, 0, 0, 0)) else ((r2_B.f a0).bind fun t252 => ((r2_F.f a0).bind fun t253 => (some (t250, 1, wrap64 ((wrap64 (1 - t252)) - t253), t249))))) else ((r2_B.f a0).bind fun t254 => ((r2_F.f a0).bind fun t255 => ((r2_F.f a0).bind fun t256 => ((r2_Two.f k t256).bind fun t257 => (some (t250, 1, wrap64 ((wrap64 (t248 - t254)) - t255), IntKind.u64.wrap (t257 + t249))))))))))) = some (r1, r2, r3, r4) := H
 have A4 := A_ A40;clear A40
 replace H := ob_ H
 obtain ⟨t250, A50, H⟩ := H
 replace H : ((r2_Top.f k a0).bind fun t251 => (if t248 = t251 then (if t249 = 0 then (some (t250, 2, 0, 0)) else (some (false, 3, 0, 0))) else (if t248 = 0 then (if t249 = 0 then (some (t250, 0, 0, 0)) else ((r2_B.f a0).bind fun t252 => ((r2_F.f a0).bind fun t253 => (some (t250, 1, wrap64 ((wrap64 (1 - t252)) - t253), t249))))) else ((r2_B.f a0).bind fun t254 => ((r2_F.f a0).bind fun t255 => ((r2_F.f a0).bind fun t256 => ((r2_Two.f k t256).bind fun t257 => (some (t250, 1, wrap64 ((wrap64 (t248 - t254)) - t255), IntKind.u64.wrap (t257 + t249)))))))))) = some (r1, r2, r3, r4) := H
 have A5 := A_ A50;clear A50
 replace H := ob_ H
 obtain ⟨t251, A60, H⟩ := H
 replace H : (if t248 = t251 then (if t249 = 0 then (some (t250, 2, 0, 0)) else (some (false, 3, 0, 0))) else (if t248 = 0 then (if t249 = 0 then (some (t250, 0, 0, 0)) else ((r2_B.f a0).bind fun t252 => ((r2_F.f a0).bind fun t253 => (some (t250, 1, wrap64 ((wrap64 (1 - t252)) - t253), t249))))) else ((r2_B.f a0).bind fun t254 => ((r2_F.f a0).bind fun t255 => ((r2_F.f a0).bind fun t256 => ((r2_Two.f k t256).bind fun t257 => (some (t250, 1, wrap64 ((wrap64 (t248 - t254)) - t255), IntKind.u64.wrap (t257 + t249))))))))) = some (r1, r2, r3, r4) := H
 have A6 := A_ A60;clear A60
 by_cases c7 : t248 = t251
 ·rw [if_pos c7] at H
  have c7b0 : (t248 == t251) = true := beq_iff_eq.mpr c7
  have c7b1 : (t248 != t251) = false := bne_eq_false_iff_eq.mpr c7
  clear c7
  by_cases c8 : t249 = 0
  ·rw [if_pos c8] at H
   have c8b0 : (t249 == 0) = true := beq_iff_eq.mpr c8
   have c8b1 : (t249 != 0) = false := bne_eq_false_iff_eq.mpr c8
   clear c8
   simp only [Option.some.injEq, Prod.mk.injEq] at H
   obtain ⟨rfl, rfl, rfl, rfl⟩ := H
   go_enter Try.func46, Try.ntmps46
   go_wp2_with (first | ((with_reducible refine gate_dst (N := 4) rfl ?_); refine be_ 4 #[.bool false, .int .i64 0, .int .i64 0, .int .u64 0] 67 ?_; intro gb247 hg w9 hbox hb; have BK247 := A_ (hbox); have GW247 := A_ (sz_ hg (hb_ HB.out)); have GE247 := A_ (sz_ hg (hb_ HB.out)); replace HB := A_ (below_step (hb_ HB.out) hb); clear hb hbox hg) | ((with_reducible refine gate_callee (f := 17) rfl ?_); refine gl_ (some 10) Try.func17 #[.int .i64 a0, .int .u64 a1] ?_; (with_reducible refine (r2_Exp.calls k a0 a1 t248 _ A3.out).mono ?_); rintro e w' ⟨rfl, ⟨nd, rfl⟩⟩; refine ⟨_, rfl, ?_⟩; (try (rw [drewN_self w9]; generalize hq_ : World.drewN w9 _ = w9; have n0_ : Aside0 (w9.heap[gb247]? = some (.cells #[.bool false, .int .i64 0, .int .i64 0, .int .u64 0] 67 (0, 0))) := ⟨by rw [← hq_]; exact (bk_ BK247.out)⟩; have n1_ : Aside0 (Below w.heap.size w w9) := ⟨by rw [← hq_]; exact (hb1_ HB.out GE247.out)⟩; clear BK247 HB hq_; have BK247 := n0_; have HB := n1_; clear n0_ n1_))) | ((with_reducible refine gate_callee (f := 82) rfl ?_); refine gl_ (some 13) Try.func82 #[.int .i64 a0, .int .u64 a1] ?_; (with_reducible refine (r2_Frac.calls k a0 a1 t249 _ A4.out).mono ?_); rintro e w' ⟨rfl, ⟨nd, rfl⟩⟩; refine ⟨_, rfl, ?_⟩; (try (rw [drewN_self w9]; generalize hq_ : World.drewN w9 _ = w9; have n0_ : Aside0 (w9.heap[gb247]? = some (.cells #[.bool false, .int .i64 0, .int .i64 0, .int .u64 0] 67 (0, 0))) := ⟨by rw [← hq_]; exact (bk_ BK247.out)⟩; have n1_ : Aside0 (Below w.heap.size w w9) := ⟨by rw [← hq_]; exact (hb1_ HB.out GE247.out)⟩; clear BK247 HB hq_; have BK247 := n0_; have HB := n1_; clear n0_ n1_))) | ((with_reducible refine gate_callee (f := 18) rfl ?_); refine gl_ (some 16) Try.func18 #[.int .i64 a0, .int .u64 a1] ?_; (with_reducible refine (r2_Neg.calls k a0 a1 t250 _ A5.out).mono ?_); rintro e w' ⟨rfl, ⟨nd, rfl⟩⟩; refine ⟨_, rfl, ?_⟩; (try (rw [drewN_self w9]; generalize hq_ : World.drewN w9 _ = w9; have n0_ : Aside0 (w9.heap[gb247]? = some (.cells #[.bool false, .int .i64 0, .int .i64 0, .int .u64 0] 67 (0, 0))) := ⟨by rw [← hq_]; exact (bk_ BK247.out)⟩; have n1_ : Aside0 (Below w.heap.size w w9) := ⟨by rw [← hq_]; exact (hb1_ HB.out GE247.out)⟩; clear BK247 HB hq_; have BK247 := n0_; have HB := n1_; clear n0_ n1_))) | ((with_reducible refine gate_callee (f := 19) rfl ?_); refine gl_ (some 19) Try.func19 #[.int .i64 a0] ?_; (with_reducible refine (r2_Top.calls k a0 t251 _ A6.out).mono ?_); rintro e w' ⟨rfl, ⟨nd, rfl⟩⟩; refine ⟨_, rfl, ?_⟩; (try (rw [drewN_self w9]; generalize hq_ : World.drewN w9 _ = w9; have n0_ : Aside0 (w9.heap[gb247]? = some (.cells #[.bool false, .int .i64 0, .int .i64 0, .int .u64 0] 67 (0, 0))) := ⟨by rw [← hq_]; exact (bk_ BK247.out)⟩; have n1_ : Aside0 (Below w.heap.size w w9) := ⟨by rw [← hq_]; exact (hb1_ HB.out GE247.out)⟩; clear BK247 HB hq_; have BK247 := n0_; have HB := n1_; clear n0_ n1_)); have hcz10_0 := bv_ BK247.out 0; have hcz10_1 := bv_ BK247.out 1; have hcz10_2 := bv_ BK247.out 2; have hcz10_3 := bv_ BK247.out 3; have hfz10_0 := blk_frozen BK247.out 0; have hfz10_1 := blk_frozen BK247.out 1; have hfz10_2 := blk_frozen BK247.out 2; have hfz10_3 := blk_frozen BK247.out 3))
   refine bodyPost_ret (results_cell_row rfl _ _ gb247 67 #[.bool t250, .int .i64 2, .int .i64 0, .int .u64 0] (0, 0) _ rfl (by (with_reducible repeat (first | refine blk_drewN ?_ _ | refine blk_drew ?_ | refine blk_alloc ?_ _)); refine blk_put (cs := #[.bool t250, .int .i64 2, .int .i64 0, .int .u64 0]) ?_ 3 _ rfl; (with_reducible repeat (first | refine blk_drewN ?_ _ | refine blk_drew ?_ | refine blk_alloc ?_ _)); refine blk_put (cs := #[.bool t250, .int .i64 2, .int .i64 0, .int .u64 0]) ?_ 2 _ rfl; (with_reducible repeat (first | refine blk_drewN ?_ _ | refine blk_drew ?_ | refine blk_alloc ?_ _)); refine blk_put (cs := #[.bool t250, .int .i64 0, .int .i64 0, .int .u64 0]) ?_ 1 _ rfl; (with_reducible repeat (first | refine blk_drewN ?_ _ | refine blk_drew ?_ | refine blk_alloc ?_ _)); refine blk_put (cs := #[.bool false, .int .i64 0, .int .i64 0, .int .u64 0]) ?_ 0 _ rfl; (with_reducible repeat (first | refine blk_drewN ?_ _ | refine blk_drew ?_ | refine blk_alloc ?_ _)); exact BK247.out) Try.underlying67 rfl (by kernel_rfl)) rfl ?_
   exact ⟨er_, hb1_ HB.out GE247.out⟩
  ·rw [if_neg c8] at H
   have c8b0 : (t249 == 0) = false := beq_eq_false_iff_ne.mpr c8
   have c8b1 : (t249 != 0) = true := bne_iff_ne.mpr c8
   simp only [Option.some.injEq, Prod.mk.injEq] at H
   obtain ⟨rfl, rfl, rfl, rfl⟩ := H
   go_enter Try.func46, Try.ntmps46
   go_wp2_with (first | ((with_reducible refine gate_dst (N := 4) rfl ?_); refine be_ 4 #[.bool false, .int .i64 0, .int .i64 0, .int .u64 0] 67 ?_; intro gb247 hg w11 hbox hb; have BK247 := A_ (hbox); have GW247 := A_ (sz_ hg (hb_ HB.out)); have GE247 := A_ (sz_ hg (hb_ HB.out)); replace HB := A_ (below_step (hb_ HB.out) hb); clear hb hbox hg) | ((with_reducible refine gate_callee (f := 17) rfl ?_); refine gl_ (some 10) Try.func17 #[.int .i64 a0, .int .u64 a1] ?_; (with_reducible refine (r2_Exp.calls k a0 a1 t248 _ A3.out).mono ?_); rintro e w' ⟨rfl, ⟨nd, rfl⟩⟩; refine ⟨_, rfl, ?_⟩; (try (rw [drewN_self w11]; generalize hq_ : World.drewN w11 _ = w11; have n0_ : Aside0 (w11.heap[gb247]? = some (.cells #[.bool false, .int .i64 0, .int .i64 0, .int .u64 0] 67 (0, 0))) := ⟨by rw [← hq_]; exact (bk_ BK247.out)⟩; have n1_ : Aside0 (Below w.heap.size w w11) := ⟨by rw [← hq_]; exact (hb1_ HB.out GE247.out)⟩; clear BK247 HB hq_; have BK247 := n0_; have HB := n1_; clear n0_ n1_))) | ((with_reducible refine gate_callee (f := 82) rfl ?_); refine gl_ (some 13) Try.func82 #[.int .i64 a0, .int .u64 a1] ?_; (with_reducible refine (r2_Frac.calls k a0 a1 t249 _ A4.out).mono ?_); rintro e w' ⟨rfl, ⟨nd, rfl⟩⟩; refine ⟨_, rfl, ?_⟩; (try (rw [drewN_self w11]; generalize hq_ : World.drewN w11 _ = w11; have n0_ : Aside0 (w11.heap[gb247]? = some (.cells #[.bool false, .int .i64 0, .int .i64 0, .int .u64 0] 67 (0, 0))) := ⟨by rw [← hq_]; exact (bk_ BK247.out)⟩; have n1_ : Aside0 (Below w.heap.size w w11) := ⟨by rw [← hq_]; exact (hb1_ HB.out GE247.out)⟩; clear BK247 HB hq_; have BK247 := n0_; have HB := n1_; clear n0_ n1_))) | ((with_reducible refine gate_callee (f := 18) rfl ?_); refine gl_ (some 16) Try.func18 #[.int .i64 a0, .int .u64 a1] ?_; (with_reducible refine (r2_Neg.calls k a0 a1 t250 _ A5.out).mono ?_); rintro e w' ⟨rfl, ⟨nd, rfl⟩⟩; refine ⟨_, rfl, ?_⟩; (try (rw [drewN_self w11]; generalize hq_ : World.drewN w11 _ = w11; have n0_ : Aside0 (w11.heap[gb247]? = some (.cells #[.bool false, .int .i64 0, .int .i64 0, .int .u64 0] 67 (0, 0))) := ⟨by rw [← hq_]; exact (bk_ BK247.out)⟩; have n1_ : Aside0 (Below w.heap.size w w11) := ⟨by rw [← hq_]; exact (hb1_ HB.out GE247.out)⟩; clear BK247 HB hq_; have BK247 := n0_; have HB := n1_; clear n0_ n1_))) | ((with_reducible refine gate_callee (f := 19) rfl ?_); refine gl_ (some 19) Try.func19 #[.int .i64 a0] ?_; (with_reducible refine (r2_Top.calls k a0 t251 _ A6.out).mono ?_); rintro e w' ⟨rfl, ⟨nd, rfl⟩⟩; refine ⟨_, rfl, ?_⟩; (try (rw [drewN_self w11]; generalize hq_ : World.drewN w11 _ = w11; have n0_ : Aside0 (w11.heap[gb247]? = some (.cells #[.bool false, .int .i64 0, .int .i64 0, .int .u64 0] 67 (0, 0))) := ⟨by rw [← hq_]; exact (bk_ BK247.out)⟩; have n1_ : Aside0 (Below w.heap.size w w11) := ⟨by rw [← hq_]; exact (hb1_ HB.out GE247.out)⟩; clear BK247 HB hq_; have BK247 := n0_; have HB := n1_; clear n0_ n1_)); have hcz12_0 := bv_ BK247.out 0; have hcz12_1 := bv_ BK247.out 1; have hcz12_2 := bv_ BK247.out 2; have hcz12_3 := bv_ BK247.out 3; have hfz12_0 := blk_frozen BK247.out 0; have hfz12_1 := blk_frozen BK247.out 1; have hfz12_2 := blk_frozen BK247.out 2; have hfz12_3 := blk_frozen BK247.out 3))
   refine bodyPost_ret (results_cell_row rfl _ _ gb247 67 #[.bool false, .int .i64 3, .int .i64 0, .int .u64 0] (0, 0) _ rfl (by (with_reducible repeat (first | refine blk_drewN ?_ _ | refine blk_drew ?_ | refine blk_alloc ?_ _)); refine blk_put (cs := #[.bool false, .int .i64 3, .int .i64 0, .int .u64 0]) ?_ 3 _ rfl; (with_reducible repeat (first | refine blk_drewN ?_ _ | refine blk_drew ?_ | refine blk_alloc ?_ _)); refine blk_put (cs := #[.bool false, .int .i64 3, .int .i64 0, .int .u64 0]) ?_ 2 _ rfl; (with_reducible repeat (first | refine blk_drewN ?_ _ | refine blk_drew ?_ | refine blk_alloc ?_ _)); refine blk_put (cs := #[.bool false, .int .i64 0, .int .i64 0, .int .u64 0]) ?_ 1 _ rfl; (with_reducible repeat (first | refine blk_drewN ?_ _ | refine blk_drew ?_ | refine blk_alloc ?_ _)); refine blk_put (cs := #[.bool false, .int .i64 0, .int .i64 0, .int .u64 0]) ?_ 0 _ rfl; (with_reducible repeat (first | refine blk_drewN ?_ _ | refine blk_drew ?_ | refine blk_alloc ?_ _)); exact BK247.out) Try.underlying67 rfl (by kernel_rfl)) rfl ?_
   exact ⟨er_, hb1_ HB.out GE247.out⟩
 ·rw [if_neg c7] at H
  have c7b0 : (t248 == t251) = false := beq_eq_false_iff_ne.mpr c7
  have c7b1 : (t248 != t251) = true := bne_iff_ne.mpr c7
  by_cases c13 : t248 = 0
  ·rw [if_pos c13] at H
   have c13b0 : (t248 == 0) = true := beq_iff_eq.mpr c13
   have c13b1 : (t248 != 0) = false := bne_eq_false_iff_eq.mpr c13
   clear c13
   by_cases c14 : t249 = 0
   ·rw [if_pos c14] at H
    have c14b0 : (t249 == 0) = true := beq_iff_eq.mpr c14
    have c14b1 : (t249 != 0) = false := bne_eq_false_iff_eq.mpr c14
    clear c14
    simp only [Option.some.injEq, Prod.mk.injEq] at H
    obtain ⟨rfl, rfl, rfl, rfl⟩ := H
    go_enter Try.func46, Try.ntmps46
    go_wp2_with (first | ((with_reducible refine gate_dst (N := 4) rfl ?_); refine be_ 4 #[.bool false, .int .i64 0, .int .i64 0, .int .u64 0] 67 ?_; intro gb247 hg w15 hbox hb; have BK247 := A_ (hbox); have GW247 := A_ (sz_ hg (hb_ HB.out)); have GE247 := A_ (sz_ hg (hb_ HB.out)); replace HB := A_ (below_step (hb_ HB.out) hb); clear hb hbox hg) | ((with_reducible refine gate_callee (f := 17) rfl ?_); refine gl_ (some 10) Try.func17 #[.int .i64 a0, .int .u64 a1] ?_; (with_reducible refine (r2_Exp.calls k a0 a1 t248 _ A3.out).mono ?_); rintro e w' ⟨rfl, ⟨nd, rfl⟩⟩; refine ⟨_, rfl, ?_⟩; (try (rw [drewN_self w15]; generalize hq_ : World.drewN w15 _ = w15; have n0_ : Aside0 (w15.heap[gb247]? = some (.cells #[.bool false, .int .i64 0, .int .i64 0, .int .u64 0] 67 (0, 0))) := ⟨by rw [← hq_]; exact (bk_ BK247.out)⟩; have n1_ : Aside0 (Below w.heap.size w w15) := ⟨by rw [← hq_]; exact (hb1_ HB.out GE247.out)⟩; clear BK247 HB hq_; have BK247 := n0_; have HB := n1_; clear n0_ n1_))) | ((with_reducible refine gate_callee (f := 82) rfl ?_); refine gl_ (some 13) Try.func82 #[.int .i64 a0, .int .u64 a1] ?_; (with_reducible refine (r2_Frac.calls k a0 a1 t249 _ A4.out).mono ?_); rintro e w' ⟨rfl, ⟨nd, rfl⟩⟩; refine ⟨_, rfl, ?_⟩; (try (rw [drewN_self w15]; generalize hq_ : World.drewN w15 _ = w15; have n0_ : Aside0 (w15.heap[gb247]? = some (.cells #[.bool false, .int .i64 0, .int .i64 0, .int .u64 0] 67 (0, 0))) := ⟨by rw [← hq_]; exact (bk_ BK247.out)⟩; have n1_ : Aside0 (Below w.heap.size w w15) := ⟨by rw [← hq_]; exact (hb1_ HB.out GE247.out)⟩; clear BK247 HB hq_; have BK247 := n0_; have HB := n1_; clear n0_ n1_))) | ((with_reducible refine gate_callee (f := 18) rfl ?_); refine gl_ (some 16) Try.func18 #[.int .i64 a0, .int .u64 a1] ?_; (with_reducible refine (r2_Neg.calls k a0 a1 t250 _ A5.out).mono ?_); rintro e w' ⟨rfl, ⟨nd, rfl⟩⟩; refine ⟨_, rfl, ?_⟩; (try (rw [drewN_self w15]; generalize hq_ : World.drewN w15 _ = w15; have n0_ : Aside0 (w15.heap[gb247]? = some (.cells #[.bool false, .int .i64 0, .int .i64 0, .int .u64 0] 67 (0, 0))) := ⟨by rw [← hq_]; exact (bk_ BK247.out)⟩; have n1_ : Aside0 (Below w.heap.size w w15) := ⟨by rw [← hq_]; exact (hb1_ HB.out GE247.out)⟩; clear BK247 HB hq_; have BK247 := n0_; have HB := n1_; clear n0_ n1_))) | ((with_reducible refine gate_callee (f := 19) rfl ?_); refine gl_ (some 19) Try.func19 #[.int .i64 a0] ?_; (with_reducible refine (r2_Top.calls k a0 t251 _ A6.out).mono ?_); rintro e w' ⟨rfl, ⟨nd, rfl⟩⟩; refine ⟨_, rfl, ?_⟩; (try (rw [drewN_self w15]; generalize hq_ : World.drewN w15 _ = w15; have n0_ : Aside0 (w15.heap[gb247]? = some (.cells #[.bool false, .int .i64 0, .int .i64 0, .int .u64 0] 67 (0, 0))) := ⟨by rw [← hq_]; exact (bk_ BK247.out)⟩; have n1_ : Aside0 (Below w.heap.size w w15) := ⟨by rw [← hq_]; exact (hb1_ HB.out GE247.out)⟩; clear BK247 HB hq_; have BK247 := n0_; have HB := n1_; clear n0_ n1_)); have hcz16_0 := bv_ BK247.out 0; have hcz16_1 := bv_ BK247.out 1; have hcz16_2 := bv_ BK247.out 2; have hcz16_3 := bv_ BK247.out 3; have hfz16_0 := blk_frozen BK247.out 0; have hfz16_1 := blk_frozen BK247.out 1; have hfz16_2 := blk_frozen BK247.out 2; have hfz16_3 := blk_frozen BK247.out 3))
    refine bodyPost_ret (results_cell_row rfl _ _ gb247 67 #[.bool t250, .int .i64 0, .int .i64 0, .int .u64 0] (0, 0) _ rfl (by (with_reducible repeat (first | refine blk_drewN ?_ _ | refine blk_drew ?_ | refine blk_alloc ?_ _)); refine blk_put (cs := #[.bool t250, .int .i64 0, .int .i64 0, .int .u64 0]) ?_ 3 _ rfl; (with_reducible repeat (first | refine blk_drewN ?_ _ | refine blk_drew ?_ | refine blk_alloc ?_ _)); refine blk_put (cs := #[.bool t250, .int .i64 0, .int .i64 0, .int .u64 0]) ?_ 2 _ rfl; (with_reducible repeat (first | refine blk_drewN ?_ _ | refine blk_drew ?_ | refine blk_alloc ?_ _)); refine blk_put (cs := #[.bool t250, .int .i64 0, .int .i64 0, .int .u64 0]) ?_ 1 _ rfl; (with_reducible repeat (first | refine blk_drewN ?_ _ | refine blk_drew ?_ | refine blk_alloc ?_ _)); refine blk_put (cs := #[.bool false, .int .i64 0, .int .i64 0, .int .u64 0]) ?_ 0 _ rfl; (with_reducible repeat (first | refine blk_drewN ?_ _ | refine blk_drew ?_ | refine blk_alloc ?_ _)); exact BK247.out) Try.underlying67 rfl (by kernel_rfl)) rfl ?_
    exact ⟨er_, hb1_ HB.out GE247.out⟩
   ·rw [if_neg c14] at H
    have c14b0 : (t249 == 0) = false := beq_eq_false_iff_ne.mpr c14
    have c14b1 : (t249 != 0) = true := bne_iff_ne.mpr c14
    replace H := ob_ H
    obtain ⟨t252, A170, H⟩ := H
    replace H : ((r2_F.f a0).bind fun t253 => (some (t250, 1, wrap64 ((wrap64 (1 - t252)) - t253), t249))) = some (r1, r2, r3, r4) := H
    have A17 := A_ A170;clear A170
    replace H := ob_ H
    obtain ⟨t253, A180, H⟩ := H
    replace H : (some (t250, 1, wrap64 ((wrap64 (1 - t252)) - t253), t249)) = some (r1, r2, r3, r4) := H
    have A18 := A_ A180;clear A180
    simp only [Option.some.injEq, Prod.mk.injEq] at H
    obtain ⟨rfl, rfl, rfl, rfl⟩ := H
    go_enter Try.func46, Try.ntmps46
    go_wp2_with (first | ((with_reducible refine gate_dst (N := 4) rfl ?_); refine be_ 4 #[.bool false, .int .i64 0, .int .i64 0, .int .u64 0] 67 ?_; intro gb247 hg w19 hbox hb; have BK247 := A_ (hbox); have GW247 := A_ (sz_ hg (hb_ HB.out)); have GE247 := A_ (sz_ hg (hb_ HB.out)); replace HB := A_ (below_step (hb_ HB.out) hb); clear hb hbox hg) | ((with_reducible refine gate_callee (f := 17) rfl ?_); refine gl_ (some 10) Try.func17 #[.int .i64 a0, .int .u64 a1] ?_; (with_reducible refine (r2_Exp.calls k a0 a1 t248 _ A3.out).mono ?_); rintro e w' ⟨rfl, ⟨nd, rfl⟩⟩; refine ⟨_, rfl, ?_⟩; (try (rw [drewN_self w19]; generalize hq_ : World.drewN w19 _ = w19; have n0_ : Aside0 (w19.heap[gb247]? = some (.cells #[.bool false, .int .i64 0, .int .i64 0, .int .u64 0] 67 (0, 0))) := ⟨by rw [← hq_]; exact (bk_ BK247.out)⟩; have n1_ : Aside0 (Below w.heap.size w w19) := ⟨by rw [← hq_]; exact (hb1_ HB.out GE247.out)⟩; clear BK247 HB hq_; have BK247 := n0_; have HB := n1_; clear n0_ n1_))) | ((with_reducible refine gate_callee (f := 82) rfl ?_); refine gl_ (some 13) Try.func82 #[.int .i64 a0, .int .u64 a1] ?_; (with_reducible refine (r2_Frac.calls k a0 a1 t249 _ A4.out).mono ?_); rintro e w' ⟨rfl, ⟨nd, rfl⟩⟩; refine ⟨_, rfl, ?_⟩; (try (rw [drewN_self w19]; generalize hq_ : World.drewN w19 _ = w19; have n0_ : Aside0 (w19.heap[gb247]? = some (.cells #[.bool false, .int .i64 0, .int .i64 0, .int .u64 0] 67 (0, 0))) := ⟨by rw [← hq_]; exact (bk_ BK247.out)⟩; have n1_ : Aside0 (Below w.heap.size w w19) := ⟨by rw [← hq_]; exact (hb1_ HB.out GE247.out)⟩; clear BK247 HB hq_; have BK247 := n0_; have HB := n1_; clear n0_ n1_))) | ((with_reducible refine gate_callee (f := 18) rfl ?_); refine gl_ (some 16) Try.func18 #[.int .i64 a0, .int .u64 a1] ?_; (with_reducible refine (r2_Neg.calls k a0 a1 t250 _ A5.out).mono ?_); rintro e w' ⟨rfl, ⟨nd, rfl⟩⟩; refine ⟨_, rfl, ?_⟩; (try (rw [drewN_self w19]; generalize hq_ : World.drewN w19 _ = w19; have n0_ : Aside0 (w19.heap[gb247]? = some (.cells #[.bool false, .int .i64 0, .int .i64 0, .int .u64 0] 67 (0, 0))) := ⟨by rw [← hq_]; exact (bk_ BK247.out)⟩; have n1_ : Aside0 (Below w.heap.size w w19) := ⟨by rw [← hq_]; exact (hb1_ HB.out GE247.out)⟩; clear BK247 HB hq_; have BK247 := n0_; have HB := n1_; clear n0_ n1_))) | ((with_reducible refine gate_callee (f := 19) rfl ?_); refine gl_ (some 19) Try.func19 #[.int .i64 a0] ?_; (with_reducible refine (r2_Top.calls k a0 t251 _ A6.out).mono ?_); rintro e w' ⟨rfl, ⟨nd, rfl⟩⟩; refine ⟨_, rfl, ?_⟩; (try (rw [drewN_self w19]; generalize hq_ : World.drewN w19 _ = w19; have n0_ : Aside0 (w19.heap[gb247]? = some (.cells #[.bool false, .int .i64 0, .int .i64 0, .int .u64 0] 67 (0, 0))) := ⟨by rw [← hq_]; exact (bk_ BK247.out)⟩; have n1_ : Aside0 (Below w.heap.size w w19) := ⟨by rw [← hq_]; exact (hb1_ HB.out GE247.out)⟩; clear BK247 HB hq_; have BK247 := n0_; have HB := n1_; clear n0_ n1_))) | ((with_reducible refine gate_callee (f := 83) rfl ?_); refine gl_ (some 34) Try.func83 #[.int .i64 a0] ?_; (with_reducible refine (r2_B.calls a0 t252 _ A17.out).mono ?_); rintro e w' ⟨rfl, ⟨nd, rfl⟩⟩; refine ⟨_, rfl, ?_⟩; (try (rw [drewN_self w19]; generalize hq_ : World.drewN w19 _ = w19; have n0_ : Aside0 (w19.heap[gb247]? = some (.cells #[.bool false, .int .i64 0, .int .i64 0, .int .u64 0] 67 (0, 0))) := ⟨by rw [← hq_]; exact (bk_ BK247.out)⟩; have n1_ : Aside0 (Below w.heap.size w w19) := ⟨by rw [← hq_]; exact (hb1_ HB.out GE247.out)⟩; clear BK247 HB hq_; have BK247 := n0_; have HB := n1_; clear n0_ n1_))) | ((with_reducible refine gate_callee (f := 59) rfl ?_); refine gl_ (some 37) Try.func59 #[.int .i64 a0] ?_; (with_reducible refine (r2_F.calls a0 t253 _ A18.out).mono ?_); rintro e w' ⟨rfl, ⟨nd, rfl⟩⟩; refine ⟨_, rfl, ?_⟩; (try (rw [drewN_self w19]; generalize hq_ : World.drewN w19 _ = w19; have n0_ : Aside0 (w19.heap[gb247]? = some (.cells #[.bool false, .int .i64 0, .int .i64 0, .int .u64 0] 67 (0, 0))) := ⟨by rw [← hq_]; exact (bk_ BK247.out)⟩; have n1_ : Aside0 (Below w.heap.size w w19) := ⟨by rw [← hq_]; exact (hb1_ HB.out GE247.out)⟩; clear BK247 HB hq_; have BK247 := n0_; have HB := n1_; clear n0_ n1_)); have hcz20_0 := bv_ BK247.out 0; have hcz20_1 := bv_ BK247.out 1; have hcz20_2 := bv_ BK247.out 2; have hcz20_3 := bv_ BK247.out 3; have hfz20_0 := blk_frozen BK247.out 0; have hfz20_1 := blk_frozen BK247.out 1; have hfz20_2 := blk_frozen BK247.out 2; have hfz20_3 := blk_frozen BK247.out 3))
    refine bodyPost_ret (results_cell_row rfl _ _ gb247 67 #[.bool t250, .int .i64 1, .int .i64 (wrap64 ((wrap64 (1 - t252)) - t253)), .int .u64 t249] (0, 0) _ rfl (by (with_reducible repeat (first | refine blk_drewN ?_ _ | refine blk_drew ?_ | refine blk_alloc ?_ _)); refine blk_put (cs := #[.bool t250, .int .i64 1, .int .i64 (wrap64 ((wrap64 (1 - t252)) - t253)), .int .u64 0]) ?_ 3 _ rfl; (with_reducible repeat (first | refine blk_drewN ?_ _ | refine blk_drew ?_ | refine blk_alloc ?_ _)); refine blk_put (cs := #[.bool t250, .int .i64 1, .int .i64 0, .int .u64 0]) ?_ 2 _ rfl; (with_reducible repeat (first | refine blk_drewN ?_ _ | refine blk_drew ?_ | refine blk_alloc ?_ _)); refine blk_put (cs := #[.bool t250, .int .i64 0, .int .i64 0, .int .u64 0]) ?_ 1 _ rfl; (with_reducible repeat (first | refine blk_drewN ?_ _ | refine blk_drew ?_ | refine blk_alloc ?_ _)); refine blk_put (cs := #[.bool false, .int .i64 0, .int .i64 0, .int .u64 0]) ?_ 0 _ rfl; (with_reducible repeat (first | refine blk_drewN ?_ _ | refine blk_drew ?_ | refine blk_alloc ?_ _)); exact BK247.out) Try.underlying67 rfl (by kernel_rfl)) rfl ?_
    exact ⟨er_, hb1_ HB.out GE247.out⟩
  ·rw [if_neg c13] at H
   have c13b0 : (t248 == 0) = false := beq_eq_false_iff_ne.mpr c13
   have c13b1 : (t248 != 0) = true := bne_iff_ne.mpr c13
   replace H := ob_ H
   obtain ⟨t254, A210, H⟩ := H
   replace H : ((r2_F.f a0).bind fun t255 => ((r2_F.f a0).bind fun t256 => ((r2_Two.f k t256).bind fun t257 => (some (t250, 1, wrap64 ((wrap64 (t248 - t254)) - t255), IntKind.u64.wrap (t257 + t249)))))) = some (r1, r2, r3, r4) := H
   have A21 := A_ A210;clear A210
   replace H := ob_ H
   obtain ⟨t255, A220, H⟩ := H
   replace H : ((r2_F.f a0).bind fun t256 => ((r2_Two.f k t256).bind fun t257 => (some (t250, 1, wrap64 ((wrap64 (t248 - t254)) - t255), IntKind.u64.wrap (t257 + t249))))) = some (r1, r2, r3, r4) := H
   have A22 := A_ A220;clear A220
   replace H := ob_ H
   obtain ⟨t256, A230, H⟩ := H
   replace H : ((r2_Two.f k t256).bind fun t257 => (some (t250, 1, wrap64 ((wrap64 (t248 - t254)) - t255), IntKind.u64.wrap (t257 + t249)))) = some (r1, r2, r3, r4) := H
   have A23 := A_ A230;clear A230
   replace H := ob_ H
   obtain ⟨t257, A240, H⟩ := H
   replace H : (some (t250, 1, wrap64 ((wrap64 (t248 - t254)) - t255), IntKind.u64.wrap (t257 + t249))) = some (r1, r2, r3, r4) := H
   have A24 := A_ A240;clear A240
   simp only [Option.some.injEq, Prod.mk.injEq] at H
   obtain ⟨rfl, rfl, rfl, rfl⟩ := H
   go_enter Try.func46, Try.ntmps46
   go_wp2_with (first | ((with_reducible refine gate_dst (N := 4) rfl ?_); refine be_ 4 #[.bool false, .int .i64 0, .int .i64 0, .int .u64 0] 67 ?_; intro gb247 hg w25 hbox hb; have BK247 := A_ (hbox); have GW247 := A_ (sz_ hg (hb_ HB.out)); have GE247 := A_ (sz_ hg (hb_ HB.out)); replace HB := A_ (below_step (hb_ HB.out) hb); clear hb hbox hg) | ((with_reducible refine gate_callee (f := 17) rfl ?_); refine gl_ (some 10) Try.func17 #[.int .i64 a0, .int .u64 a1] ?_; (with_reducible refine (r2_Exp.calls k a0 a1 t248 _ A3.out).mono ?_); rintro e w' ⟨rfl, ⟨nd, rfl⟩⟩; refine ⟨_, rfl, ?_⟩; (try (rw [drewN_self w25]; generalize hq_ : World.drewN w25 _ = w25; have n0_ : Aside0 (w25.heap[gb247]? = some (.cells #[.bool false, .int .i64 0, .int .i64 0, .int .u64 0] 67 (0, 0))) := ⟨by rw [← hq_]; exact (bk_ BK247.out)⟩; have n1_ : Aside0 (Below w.heap.size w w25) := ⟨by rw [← hq_]; exact (hb1_ HB.out GE247.out)⟩; clear BK247 HB hq_; have BK247 := n0_; have HB := n1_; clear n0_ n1_))) | ((with_reducible refine gate_callee (f := 82) rfl ?_); refine gl_ (some 13) Try.func82 #[.int .i64 a0, .int .u64 a1] ?_; (with_reducible refine (r2_Frac.calls k a0 a1 t249 _ A4.out).mono ?_); rintro e w' ⟨rfl, ⟨nd, rfl⟩⟩; refine ⟨_, rfl, ?_⟩; (try (rw [drewN_self w25]; generalize hq_ : World.drewN w25 _ = w25; have n0_ : Aside0 (w25.heap[gb247]? = some (.cells #[.bool false, .int .i64 0, .int .i64 0, .int .u64 0] 67 (0, 0))) := ⟨by rw [← hq_]; exact (bk_ BK247.out)⟩; have n1_ : Aside0 (Below w.heap.size w w25) := ⟨by rw [← hq_]; exact (hb1_ HB.out GE247.out)⟩; clear BK247 HB hq_; have BK247 := n0_; have HB := n1_; clear n0_ n1_))) | ((with_reducible refine gate_callee (f := 18) rfl ?_); refine gl_ (some 16) Try.func18 #[.int .i64 a0, .int .u64 a1] ?_; (with_reducible refine (r2_Neg.calls k a0 a1 t250 _ A5.out).mono ?_); rintro e w' ⟨rfl, ⟨nd, rfl⟩⟩; refine ⟨_, rfl, ?_⟩; (try (rw [drewN_self w25]; generalize hq_ : World.drewN w25 _ = w25; have n0_ : Aside0 (w25.heap[gb247]? = some (.cells #[.bool false, .int .i64 0, .int .i64 0, .int .u64 0] 67 (0, 0))) := ⟨by rw [← hq_]; exact (bk_ BK247.out)⟩; have n1_ : Aside0 (Below w.heap.size w w25) := ⟨by rw [← hq_]; exact (hb1_ HB.out GE247.out)⟩; clear BK247 HB hq_; have BK247 := n0_; have HB := n1_; clear n0_ n1_))) | ((with_reducible refine gate_callee (f := 19) rfl ?_); refine gl_ (some 19) Try.func19 #[.int .i64 a0] ?_; (with_reducible refine (r2_Top.calls k a0 t251 _ A6.out).mono ?_); rintro e w' ⟨rfl, ⟨nd, rfl⟩⟩; refine ⟨_, rfl, ?_⟩; (try (rw [drewN_self w25]; generalize hq_ : World.drewN w25 _ = w25; have n0_ : Aside0 (w25.heap[gb247]? = some (.cells #[.bool false, .int .i64 0, .int .i64 0, .int .u64 0] 67 (0, 0))) := ⟨by rw [← hq_]; exact (bk_ BK247.out)⟩; have n1_ : Aside0 (Below w.heap.size w w25) := ⟨by rw [← hq_]; exact (hb1_ HB.out GE247.out)⟩; clear BK247 HB hq_; have BK247 := n0_; have HB := n1_; clear n0_ n1_))) | ((with_reducible refine gate_callee (f := 83) rfl ?_); refine gl_ (some 44) Try.func83 #[.int .i64 a0] ?_; (with_reducible refine (r2_B.calls a0 t254 _ A21.out).mono ?_); rintro e w' ⟨rfl, ⟨nd, rfl⟩⟩; refine ⟨_, rfl, ?_⟩; (try (rw [drewN_self w25]; generalize hq_ : World.drewN w25 _ = w25; have n0_ : Aside0 (w25.heap[gb247]? = some (.cells #[.bool false, .int .i64 0, .int .i64 0, .int .u64 0] 67 (0, 0))) := ⟨by rw [← hq_]; exact (bk_ BK247.out)⟩; have n1_ : Aside0 (Below w.heap.size w w25) := ⟨by rw [← hq_]; exact (hb1_ HB.out GE247.out)⟩; clear BK247 HB hq_; have BK247 := n0_; have HB := n1_; clear n0_ n1_))) | ((with_reducible refine gate_callee (f := 59) rfl ?_); refine gl_ (some 47) Try.func59 #[.int .i64 a0] ?_; (with_reducible refine (r2_F.calls a0 t255 _ A22.out).mono ?_); rintro e w' ⟨rfl, ⟨nd, rfl⟩⟩; refine ⟨_, rfl, ?_⟩; (try (rw [drewN_self w25]; generalize hq_ : World.drewN w25 _ = w25; have n0_ : Aside0 (w25.heap[gb247]? = some (.cells #[.bool false, .int .i64 0, .int .i64 0, .int .u64 0] 67 (0, 0))) := ⟨by rw [← hq_]; exact (bk_ BK247.out)⟩; have n1_ : Aside0 (Below w.heap.size w w25) := ⟨by rw [← hq_]; exact (hb1_ HB.out GE247.out)⟩; clear BK247 HB hq_; have BK247 := n0_; have HB := n1_; clear n0_ n1_))) | ((with_reducible refine gate_callee (f := 59) rfl ?_); refine gl_ (some 50) Try.func59 #[.int .i64 a0] ?_; (with_reducible refine (r2_F.calls a0 t256 _ A23.out).mono ?_); rintro e w' ⟨rfl, ⟨nd, rfl⟩⟩; refine ⟨_, rfl, ?_⟩; (try (rw [drewN_self w25]; generalize hq_ : World.drewN w25 _ = w25; have n0_ : Aside0 (w25.heap[gb247]? = some (.cells #[.bool false, .int .i64 0, .int .i64 0, .int .u64 0] 67 (0, 0))) := ⟨by rw [← hq_]; exact (bk_ BK247.out)⟩; have n1_ : Aside0 (Below w.heap.size w w25) := ⟨by rw [← hq_]; exact (hb1_ HB.out GE247.out)⟩; clear BK247 HB hq_; have BK247 := n0_; have HB := n1_; clear n0_ n1_))) | ((with_reducible refine gate_callee (f := 58) rfl ?_); refine gl_ (some 51) Try.func58 #[.int .i64 t256] ?_; (with_reducible refine (r2_Two.calls k t256 t257 _ A24.out).mono ?_); rintro e w' ⟨rfl, ⟨nd, rfl⟩⟩; refine ⟨_, rfl, ?_⟩; (try (rw [drewN_self w25]; generalize hq_ : World.drewN w25 _ = w25; have n0_ : Aside0 (w25.heap[gb247]? = some (.cells #[.bool false, .int .i64 0, .int .i64 0, .int .u64 0] 67 (0, 0))) := ⟨by rw [← hq_]; exact (bk_ BK247.out)⟩; have n1_ : Aside0 (Below w.heap.size w w25) := ⟨by rw [← hq_]; exact (hb1_ HB.out GE247.out)⟩; clear BK247 HB hq_; have BK247 := n0_; have HB := n1_; clear n0_ n1_)); have hcz26_0 := bv_ BK247.out 0; have hcz26_1 := bv_ BK247.out 1; have hcz26_2 := bv_ BK247.out 2; have hcz26_3 := bv_ BK247.out 3; have hfz26_0 := blk_frozen BK247.out 0; have hfz26_1 := blk_frozen BK247.out 1; have hfz26_2 := blk_frozen BK247.out 2; have hfz26_3 := blk_frozen BK247.out 3))
   refine bodyPost_ret (results_cell_row rfl _ _ gb247 67 #[.bool t250, .int .i64 1, .int .i64 (wrap64 ((wrap64 (t248 - t254)) - t255)), .int .u64 (IntKind.u64.wrap (t257 + t249))] (0, 0) _ rfl (by (with_reducible repeat (first | refine blk_drewN ?_ _ | refine blk_drew ?_ | refine blk_alloc ?_ _)); refine blk_put (cs := #[.bool t250, .int .i64 1, .int .i64 (wrap64 ((wrap64 (t248 - t254)) - t255)), .int .u64 0]) ?_ 3 _ rfl; (with_reducible repeat (first | refine blk_drewN ?_ _ | refine blk_drew ?_ | refine blk_alloc ?_ _)); refine blk_put (cs := #[.bool t250, .int .i64 1, .int .i64 0, .int .u64 0]) ?_ 2 _ rfl; (with_reducible repeat (first | refine blk_drewN ?_ _ | refine blk_drew ?_ | refine blk_alloc ?_ _)); refine blk_put (cs := #[.bool t250, .int .i64 0, .int .i64 0, .int .u64 0]) ?_ 1 _ rfl; (with_reducible repeat (first | refine blk_drewN ?_ _ | refine blk_drew ?_ | refine blk_alloc ?_ _)); refine blk_put (cs := #[.bool false, .int .i64 0, .int .i64 0, .int .u64 0]) ?_ 0 _ rfl; (with_reducible repeat (first | refine blk_drewN ?_ _ | refine blk_drew ?_ | refine blk_alloc ?_ _)); exact BK247.out) Try.underlying67 rfl (by kernel_rfl)) rfl ?_
   exact ⟨er_, hb1_ HB.out GE247.out⟩
end Go.Proofs.Ytjjehbedpgdhgaa.PA
set_option linter.unusedVariables false
set_option linter.unusedSimpArgs false
namespace Go.Proofs.Ytjjehbedpgdhgaa.Nr
open Go.RowKit Go.Proofs.YtjjehbedpgdhgaaW.PrintWords Go.Proofs.YtjjehbedpgdhgaaW.PrintLast Go.Proofs.YtjjehbedpgdhgaaW.PrintMore
def Nr (w : World) (v : Value) (l : List Int) : Prop := ∃ A c, v = .slice A l.length c ∧ l.length ≤ c ∧ Kd.C (Kd.int .u64) w A l.length l
def IsRow (v : Option Value) : Prop := ∃ A n c, v = some (.slice A n c)
theorem Nr.below {w w1 : World} {v : Value} {l : List Int} (h : Nr w v l) (hb : Below w.heap.size w w1) : Nr w1 v l := by
  obtain ⟨A, c, e, hc, h⟩ := h
  exact ⟨A, c, e, hc, Kd.C_below h hb⟩
theorem Nr.alloc {w : World} {v : Value} {l : List Int} (h : Nr w v l) (o : Obj) : Nr (w.alloc o) v l := h.below (below_alloc (Below.refl _ _) o)
theorem Nr.drew {w : World} {v : Value} {l : List Int} (h : Nr w v l) : Nr w.drew v l := h.below (below_drew1 (Below.refl _ _))
theorem Nr.drewN {w : World} {v : Value} {l : List Int} (h : Nr w v l) (n : Nat) : Nr (w.drewN n) v l := h.below (pw_below_drewN (Below.refl _ _) n)
theorem Nr.set {w : World} {v : Value} {l : List Int} (h : Nr w v l) {p : Addr} (x : Value) (hp : IsRow (w.cell? p)) : Nr (w.setCell p x) v l := by
  obtain ⟨A, c, e, hc, h1, h2, h3⟩ := h
  refine ⟨A, c, e, hc, h1, h2, fun hn => ?_⟩
  obtain ⟨ad, e1, h4⟩ := h3 hn
  refine ⟨ad, e1, fun j q hj => ?_⟩
  obtain ⟨cs, k1, k2, k3⟩ := h4 j q hj
  refine ⟨cs, k1, k2, fun i u hu => ?_⟩
  have k4 := k3 i u hu
  have k5 : u = .int .u64 q := by
    have k6 : cs = [Value.int .u64 q] := k2
    rw [k6] at hu
    rcases i with _ | i
    · simpa using hu.symm
    · simp at hu
  rw [World.cell?_setCell_other]
  · exact k4
  · intro e2
    obtain ⟨B, n, d, hp⟩ := hp
    rw [e2, k4, k5] at hp
    cases hp
theorem Nr.nil (w : World) : Nr w (.slice none 0 0) [] := ⟨none, 0, rfl, Nat.le_refl _, Kd.C_nil _ w⟩
theorem Nr.of_R {w : World} {e base : Nat} {ok : Nat → Prop} {v : Value} {l : List Int} (h : Kd.R (Kd.int .u64) e w base ok v l) : Nr w v l := Kd.R_reads h
theorem Nr.of_C {w : World} {A : Option Addr} {c : Nat} {l : List Int} (hc : l.length ≤ c) (h : Kd.C (Kd.int .u64) w A l.length l) : Nr w (.slice A l.length c) l := ⟨A, c, rfl, hc, h⟩
theorem IsRow.slice (A : Option Addr) (n c : Nat) : IsRow (some (.slice A n c)) := ⟨A, n, c, rfl⟩
theorem bcell {W w1 : World} (hb : Below W.heap.size W w1) : (∀ b o, b < W.heap.size → w1.cell? ⟨b, o, none⟩ = W.cell? ⟨b, o, none⟩) ∧ (∀ b o, b < W.heap.size → w1.frozen? ⟨b, o, none⟩ = W.frozen? ⟨b, o, none⟩) :=
  ⟨fun b o h => hb.cell (p := ⟨b, o, none⟩) h, fun b o h => hb.frozen (p := ⟨b, o, none⟩) h⟩
theorem al {W : World} {b : Nat} (h : b < W.heap.size) (o : Nat) (x : Obj) : (W.alloc x).cell? ⟨b, o, none⟩ = W.cell? ⟨b, o, none⟩ := (bcell (below_alloc (Below.refl _ W) x)).1 b o h
theorem alf {W : World} {b : Nat} (h : b < W.heap.size) (o : Nat) (x : Obj) : (W.alloc x).frozen? ⟨b, o, none⟩ = W.frozen? ⟨b, o, none⟩ := (bcell (below_alloc (Below.refl _ W) x)).2 b o h
theorem lt_al {n : Nat} {W : World} {x : Obj} (h : n < W.heap.size) : n < (W.alloc x).heap.size := Nat.lt_of_lt_of_le h (below_alloc (Below.refl _ W) x).size
theorem Nr.of_V {w : World} {e base : Nat} {ok : Nat → Prop} {v : Value} {l : List Int} (h : Kd.V (Kd.int .u64) e w base ok v l) : Nr w v l := by
  obtain ⟨A, c, hv, hl, hf⟩ := h
  exact ⟨A, c, hv, hl, Kd.F_now hf⟩
def At (ok : Nat → Prop) (v : Value) : Prop := ∀ ad n c, v = .slice (some ad) n c → 0 < n → ok ad.block
theorem At.mono {ok ok' : Nat → Prop} {v : Value} (h : At ok v) (i : ∀ k, ok k → ok' k) : At ok' v := fun ad n c e hn => i _ (h ad n c e hn)
theorem At.of_V {w : World} {e base : Nat} {ok : Nat → Prop} {v : Value} {l : List Int} (h : Kd.V (Kd.int .u64) e w base ok v l) : At ok v := by
  obtain ⟨A, c, hv, hl, hf⟩ := h
  intro ad n c' e1 hn
  rw [hv] at e1
  injection e1 with e1 e2 e3
  subst e2
  exact Kd.F_in hf e1 hn (by decide)
theorem At.of_R {w : World} {e base : Nat} {ok : Nat → Prop} {v : Value} {l : List Int} (h : Kd.R (Kd.int .u64) e w base ok v l) : At (fun k => base ≤ k ∧ k < w.heap.size) v := by
  intro ad n c e1 hn
  obtain ⟨A, c', e2, hl, _⟩ := Kd.R_reads h
  have hlen : 0 < l.length := by
    rw [e2] at e1
    injection e1 with _ e3 _
    omega
  obtain ⟨g, cap, e3, hb, hlt, _⟩ := Kd.R_form h hlen
  rw [e3] at e1
  injection e1 with e4 _ _
  injection e4 with e4
  rw [← e4]; exact ⟨hb, hlt⟩
theorem Nr.toV {w : World} {e base : Nat} {ok : Nat → Prop} {v : Value} {l : List Int} (h : Nr w v l) (ha : At ok v) : Kd.V (Kd.int .u64) e w base ok v l := by
  obtain ⟨A, c, hv, hl, hc⟩ := h
  refine ⟨A, c, hv, hl, ?_⟩
  intro W' hW'
  obtain ⟨h1, h2, h3⟩ := hc
  refine ⟨h1, h2, fun hn => ?_⟩
  obtain ⟨ad, e1, h4⟩ := h3 hn
  refine ⟨ad, e1, fun j p hj => ?_⟩
  obtain ⟨cs, k1, k2, k3⟩ := h4 j p hj
  refine ⟨cs, k1, k2, fun i u hu => ?_⟩
  have k4 := k3 i u hu
  have hok : ok ad.block := ha ad l.length c (by rw [hv, e1]) hn
  have hb := World.block_lt_of_cell? w _ k4
  have hblk : ∀ n, (ad.add n).block = ad.block := fun n => by rw [add_block]
  rw [hblk] at hb
  have e := hW' ad.block hok hb
  have e2 : W'.heap[(ad.add (j * (Kd.int .u64).sz + i)).block]? = w.heap[(ad.add (j * (Kd.int .u64).sz + i)).block]? := by rw [hblk]; exact e
  simpa [World.cell?, e2] using k4
theorem Rs {w : World} {e base : Nat} {ok : Nat → Prop} {v : Value} {l : List Int} (h : Kd.R (Kd.int .u64) e w base ok v l) {p : Addr} (hne : v.ownBlock ≠ some p.block) (x : Value) : Kd.R (Kd.int .u64) e (w.setCell p x) base ok v l :=
  Kd.R_mono (Kd.R_far (Kd.R_far1 h rfl (g := p.block) (fun e => hne e.symm)) (fun _ hk => hk.2) x) (fun _ hk => hk.1)
theorem Rok {w : World} {e base base' : Nat} {ok ok' : Nat → Prop} {v : Value} {l : List Int} (h : Kd.R (Kd.int .u64) e w base ok v l) (hb : base' ≤ base) (hok : ∀ k, v.ownBlock = some k → base ≤ k → k < w.heap.size → ok' k) : Kd.R (Kd.int .u64) e w base' ok' v l :=
  Kd.R_reok rfl (Kd.R_lower h hb) (fun k hk => hok k hk (Kd.R_base h k hk) (Kd.R_lt h k hk))
structure Ow (e base : Nat) (w : World) (v : Value) (l : List Int) : Prop where
  out : Kd.R (Kd.int .u64) e w base (fun k => base ≤ k) v l
theorem Ow.nil (e base : Nat) (w : World) : Ow e base w (.slice none 0 0) [] := ⟨Kd.R_nil _ _ _ _ _⟩
theorem Ow.below {e base : Nat} {w w1 : World} {v : Value} {l : List Int} (h : Ow e base w v l) (hb : Below w.heap.size w w1) : Ow e base w1 v l := ⟨Kd.R_below h.out hb⟩
theorem Ow.alloc {e base : Nat} {w : World} {v : Value} {l : List Int} (h : Ow e base w v l) (o : Obj) : Ow e base (w.alloc o) v l := ⟨Kd.R_alloc h.out o⟩
theorem Ow.drew {e base : Nat} {w : World} {v : Value} {l : List Int} (h : Ow e base w v l) : Ow e base w.drew v l := ⟨Kd.R_drew h.out⟩
theorem Ow.drewN {e base : Nat} {w : World} {v : Value} {l : List Int} (h : Ow e base w v l) (n : Nat) : Ow e base (w.drewN n) v l := ⟨Kd.R_drewN h.out n⟩
theorem Ow.set {e base : Nat} {w : World} {v : Value} {l : List Int} (h : Ow e base w v l) {p : Addr} (x : Value) (hne : v.ownBlock ≠ some p.block) : Ow e base (w.setCell p x) v l := ⟨Rs h.out hne x⟩
theorem Ow.of_R {e base base' : Nat} {w : World} {ok : Nat → Prop} {v : Value} {l : List Int} (h : Kd.R (Kd.int .u64) e w base ok v l) (hb : base' ≤ base) : Ow e base' w v l := ⟨Rok h hb (fun k _ h1 _ => Nat.le_trans hb h1)⟩
theorem Ow.nr {e base : Nat} {w : World} {v : Value} {l : List Int} (h : Ow e base w v l) : Nr w v l := Nr.of_R h.out
end Go.Proofs.Ytjjehbedpgdhgaa.Nr
namespace Go.Proofs.Ytjjehbedpgdhgaa.PA
open Go.RowKit Go.Proofs.YtjjehbedpgdhgaaW.PrintWords Go.Proofs.YtjjehbedpgdhgaaW.PrintLast Go.Proofs.YtjjehbedpgdhgaaW.PrintMore
attribute [local go_sem] max2_int min2_int max_two min_two max_three min_three max_four min_four   -- for this text's walks alone
set_option linter.unusedVariables false
set_option linter.unusedSimpArgs false
set_option maxHeartbeats 8000000
set_option maxRecDepth 100000
mutual
def r1_Add.l0 : Nat → List Int → Int → Int → List Int → List Int → Option (List Int)
 | 0, _, _, _, _, _ => none
 | k + 1, x5, x6, x7, x468000, x469000 => if x7 < (mx (x468000.length : Int) (x469000.length : Int)) then (r1_Add.j1 k x5 x6 x7 true x468000 x469000) else (r1_Add.j1 k x5 x6 x7 (decide (x6 > 0)) x468000 x469000)
def r1_Add.j1 : Nat → List Int → Int → Int → Bool → List Int → List Int → Option (List Int)
 | 0, _, _, _, _, _, _ => none
 | k + 1, x5, x6, x7, x21, x468000, x469000 => if x21 = true then ((r1_at.f x468000 x7).bind fun t470 => ((r1_at.f x469000 x7).bind fun t471 => (if x5.length < 17592186044416 then (r1_Add.l0 k (x5 ++ [Int.tmod (IntKind.u64.wrap ((IntKind.u64.wrap (t470 + t471)) + x6)) 4294967296]) (IntKind.u64.wrap (Int.tdiv (IntKind.u64.wrap ((IntKind.u64.wrap (t470 + t471)) + x6)) 4294967296)) (wrap64 (x7 + 1)) x468000 x469000) else (none)))) else ((r1_trim.f k x5).bind fun t475 => (some t475))
end
def r1_Add.f (k : Nat) (l0_0 : List Int) (l1_0 : List Int) : Option (List Int) := r1_Add.l0 k ([] : List Int) 0 0 l0_0 l1_0
theorem r1_Add.mono_l : ∀ k, (∀ y0 y1 y2 y3 y4, LeO (r1_Add.l0 k y0 y1 y2 y3 y4) (r1_Add.l0 (k + 1) y0 y1 y2 y3 y4)) ∧ (∀ y0 y1 y2 y3 y4 y5, LeO (r1_Add.j1 k y0 y1 y2 y3 y4 y5) (r1_Add.j1 (k + 1) y0 y1 y2 y3 y4 y5))
 | 0 => ⟨fun _ _ _ _ _ r h => by simp [r1_Add.l0] at h, fun _ _ _ _ _ _ r h => by simp [r1_Add.j1] at h⟩
 | k + 1 => by
  obtain ⟨ih0, ih1⟩ := r1_Add.mono_l k
  refine ⟨?_, ?_⟩
  ·intro y0 y1 y2 y3 y4
   unfold r1_Add.l0
   repeat' first
   | (with_reducible exact ih0 _ _ _ _ _)
   | (with_reducible exact ih1 _ _ _ _ _ _)
   | (with_reducible exact r1_trim.mono _ _)
   | (with_reducible exact LeO.refl _)
   | (with_reducible exact LeO.none _)
   | (with_reducible refine LeO.ite ?_ ?_)
   | (with_reducible refine LeO.bind ?_ (fun _ => ?_))
   | exact ih0 _ _ _ _ _
   | exact ih1 _ _ _ _ _ _
   | exact r1_trim.mono _ _
   | exact LeO.none _
   | refine LeO.ite ?_ ?_
   | refine LeO.bind ?_ (fun _ => ?_)
  ·intro y0 y1 y2 y3 y4 y5
   unfold r1_Add.j1
   repeat' first
   | (with_reducible exact ih0 _ _ _ _ _)
   | (with_reducible exact ih1 _ _ _ _ _ _)
   | (with_reducible exact r1_trim.mono _ _)
   | (with_reducible exact LeO.refl _)
   | (with_reducible exact LeO.none _)
   | (with_reducible refine LeO.ite ?_ ?_)
   | (with_reducible refine LeO.bind ?_ (fun _ => ?_))
   | exact ih0 _ _ _ _ _
   | exact ih1 _ _ _ _ _ _
   | exact r1_trim.mono _ _
   | exact LeO.none _
   | refine LeO.ite ?_ ?_
   | refine LeO.bind ?_ (fun _ => ?_)
theorem r1_Add.mono : ∀ a0 a1 k, LeO (r1_Add.f k a0 a1) (r1_Add.f (k + 1) a0 a1) := by
 intro a0 a1 k
 obtain ⟨ih0, ih1⟩ := r1_Add.mono_l k
 unfold r1_Add.f
 repeat' first
   | (with_reducible exact ih0 _ _ _ _ _)
   | (with_reducible exact ih1 _ _ _ _ _ _)
   | (with_reducible exact r1_trim.mono _ _)
   | (with_reducible exact LeO.refl _)
   | (with_reducible exact LeO.none _)
   | (with_reducible refine LeO.ite ?_ ?_)
   | (with_reducible refine LeO.bind ?_ (fun _ => ?_))
   | exact ih0 _ _ _ _ _
   | exact ih1 _ _ _ _ _ _
   | exact r1_trim.mono _ _
   | exact LeO.none _
   | refine LeO.ite ?_ ?_
   | refine LeO.bind ?_ (fun _ => ?_)
theorem r1_Add.calls (k : Nat) (A0_0 : Option Addr) (c0_0 : Nat) (l0_0 : List Int) (A1_0 : Option Addr) (c1_0 : Nat) (l1_0 : List Int) (r : List Int) (w : World) (hr0_0 : Kd.C (Kd.int .u64) w A0_0 l0_0.length l0_0) (hc0_0 : l0_0.length ≤ c0_0) (hr1_0 : Kd.C (Kd.int .u64) w A1_0 l1_0.length l1_0) (hc1_0 : l1_0.length ≤ c1_0) (h : r1_Add.f k l0_0 l1_0 = some r) :
  Calls Try.prog 31 #[.agg #[.slice A0_0 l0_0.length c0_0], .agg #[.slice A1_0 l1_0.length c1_0]] w fun e w' => ∃ v0_ : Value, e = .returned (.agg #[v0_]) ∧ Kd.R (Kd.int .u64) 22 w' w.heap.size (fun _ => True) v0_ r ∧ Below w.heap.size w w' := by
 have hu53 := Try.underlying53
 have HR0_0 := A_ hr0_0;have HC0_0 := A_ hc0_0;clear hr0_0 hc0_0;have HR1_0 := A_ hr1_0;have HC1_0 := A_ hc1_0;clear hr1_0 hc1_0
 have HB := A_ (Below.refl w.heap.size w)
 have H : (r1_Add.l0 k ([] : List Int) 0 0 l0_0 l1_0) = some r := h
 clear h
 have H' := A_ H
 clear H
 go_enter Try.func31, Try.ntmps31
 go_wp2_with (first | ((with_reducible refine gate_dst (N := 2) rfl ?_); refine be_ 2 #[.slice A0_0 l0_0.length c0_0] 53 ?_; intro gb467 hg w3 hbox hb; have BK467 := A_ (hbox); have GW467 := A_ (sz_ hg (hb_ HB.out)); have GE467 := A_ (sz_ hg (hb_ HB.out)); replace HB := A_ (below_step (hb_ HB.out) hb); clear hb hbox hg) | ((with_reducible refine gate_dst (N := 3) rfl ?_); refine be_ 3 #[.slice A1_0 l1_0.length c1_0] 53 ?_; intro gb468 hg w4 hbox hb; have BK468 := A_ (hbox); have GW468 := A_ (sz_ hg (hb1_ HB.out GE467.out)); have GE468 := A_ (sz_ hg (hb1_ HB.out GE467.out)); have NB467_468 := A_ (nl_ hg BK467.out); have NB468_467 := A_ (ng_ hg BK467.out); replace BK467 := A_ (bb_ BK467.out hb); replace HB := A_ (below_step (hb1_ HB.out GE467.out) hb); clear hb hbox hg) | ((with_reducible refine gate_dst (N := 4) rfl ?_); refine be_ 4 #[.slice none 0 0] 53 ?_; intro gb469 hg w5 hbox hb; have BK469 := A_ (hbox); have GW469 := A_ (sz_ hg (hb2_ HB.out GE467.out GE468.out)); have GE469 := A_ (sz_ hg (hb2_ HB.out GE467.out GE468.out)); have NB467_469 := A_ (nl_ hg BK467.out); have NB469_467 := A_ (ng_ hg BK467.out); have NB468_469 := A_ (nl_ hg BK468.out); have NB469_468 := A_ (ng_ hg BK468.out); replace BK467 := A_ (bb_ BK467.out hb); replace BK468 := A_ (bb_ BK468.out hb); replace HB := A_ (below_step (hb2_ HB.out GE467.out GE468.out) hb); clear hb hbox hg))
 repeat (go_quiet (first | ((with_reducible refine gate_dst (N := 2) rfl ?_); refine be_ 2 #[.slice A0_0 l0_0.length c0_0] 53 ?_; intro gb467 hg w3 hbox hb; have BK467 := A_ (hbox); have GW467 := A_ (sz_ hg (hb_ HB.out)); have GE467 := A_ (sz_ hg (hb_ HB.out)); replace HB := A_ (below_step (hb_ HB.out) hb); clear hb hbox hg) | ((with_reducible refine gate_dst (N := 3) rfl ?_); refine be_ 3 #[.slice A1_0 l1_0.length c1_0] 53 ?_; intro gb468 hg w4 hbox hb; have BK468 := A_ (hbox); have GW468 := A_ (sz_ hg (hb1_ HB.out GE467.out)); have GE468 := A_ (sz_ hg (hb1_ HB.out GE467.out)); have NB467_468 := A_ (nl_ hg BK467.out); have NB468_467 := A_ (ng_ hg BK467.out); replace BK467 := A_ (bb_ BK467.out hb); replace HB := A_ (below_step (hb1_ HB.out GE467.out) hb); clear hb hbox hg) | ((with_reducible refine gate_dst (N := 4) rfl ?_); refine be_ 4 #[.slice none 0 0] 53 ?_; intro gb469 hg w5 hbox hb; have BK469 := A_ (hbox); have GW469 := A_ (sz_ hg (hb2_ HB.out GE467.out GE468.out)); have GE469 := A_ (sz_ hg (hb2_ HB.out GE467.out GE468.out)); have NB467_469 := A_ (nl_ hg BK467.out); have NB469_467 := A_ (ng_ hg BK467.out); have NB468_469 := A_ (nl_ hg BK468.out); have NB469_468 := A_ (ng_ hg BK468.out); replace BK467 := A_ (bb_ BK467.out hb); replace BK468 := A_ (bb_ BK468.out hb); replace HB := A_ (below_step (hb2_ HB.out GE467.out GE468.out) hb); clear hb hbox hg)); try go_wp2_with (first | ((with_reducible refine gate_dst (N := 2) rfl ?_); refine be_ 2 #[.slice A0_0 l0_0.length c0_0] 53 ?_; intro gb467 hg w3 hbox hb; have BK467 := A_ (hbox); have GW467 := A_ (sz_ hg (hb_ HB.out)); have GE467 := A_ (sz_ hg (hb_ HB.out)); replace HB := A_ (below_step (hb_ HB.out) hb); clear hb hbox hg) | ((with_reducible refine gate_dst (N := 3) rfl ?_); refine be_ 3 #[.slice A1_0 l1_0.length c1_0] 53 ?_; intro gb468 hg w4 hbox hb; have BK468 := A_ (hbox); have GW468 := A_ (sz_ hg (hb1_ HB.out GE467.out)); have GE468 := A_ (sz_ hg (hb1_ HB.out GE467.out)); have NB467_468 := A_ (nl_ hg BK467.out); have NB468_467 := A_ (ng_ hg BK467.out); replace BK467 := A_ (bb_ BK467.out hb); replace HB := A_ (below_step (hb1_ HB.out GE467.out) hb); clear hb hbox hg) | ((with_reducible refine gate_dst (N := 4) rfl ?_); refine be_ 4 #[.slice none 0 0] 53 ?_; intro gb469 hg w5 hbox hb; have BK469 := A_ (hbox); have GW469 := A_ (sz_ hg (hb2_ HB.out GE467.out GE468.out)); have GE469 := A_ (sz_ hg (hb2_ HB.out GE467.out GE468.out)); have NB467_469 := A_ (nl_ hg BK467.out); have NB469_467 := A_ (ng_ hg BK467.out); have NB468_469 := A_ (nl_ hg BK468.out); have NB469_468 := A_ (ng_ hg BK468.out); replace BK467 := A_ (bb_ BK467.out hb); replace BK468 := A_ (bb_ BK468.out hb); replace HB := A_ (below_step (hb2_ HB.out GE467.out GE468.out) hb); clear hb hbox hg)))
 go_loopg [5, 6, 7] k (fun kq v5 v6 v7 w' => ∃ (x5_1 : List Int) (x6_1 : Int) (x7_1 : Int), v6 = .int .u64 x6_1 ∧ v7 = .int .i64 x7_1 ∧ Aside0 (r1_Add.l0 kq x5_1 x6_1 x7_1 l0_0 l1_0 = some r) ∧ Aside0 (kq ≤ k) ∧ Aside0 (Kd.R (Kd.int .u64) 22 w' w.heap.size (fun _ => True) v5 x5_1) ∧ Aside0 (w'.heap[gb467]? = some (.cells #[(.slice A0_0 l0_0.length c0_0)] 53 (0, 0))) ∧ Aside0 (w'.heap[gb468]? = some (.cells #[(.slice A1_0 l1_0.length c1_0)] 53 (0, 0))) ∧ Aside0 (w'.heap[gb469]? = some (.cells #[(.slice none 0 0)] 53 (0, 0))) ∧ Aside0 (Below w.heap.size w w'))
 case atStart => exact ⟨(([] : List Int)), (0), (0), sm_, sm_, H', ⟨Nat.le_refl _⟩, ⟨by first | exact Kd.R_nil _ _ _ _ _ | exact Kd.N_nil _ _ _ _ _ | exact Kd.V_nil _ _ _ _ _ | exact Kd.Q_nil _ _ _ _ _ | exact Kd.S_nil _ _ _ _ _⟩, ⟨bk_ BK467.out⟩, ⟨bk_ BK468.out⟩, ⟨bk_ BK469.out⟩, ⟨hb3_ HB.out GE467.out GE468.out GE469.out⟩⟩
 case round =>
  clear H'
  try clear c1
  try clear p2
  try clear c3
  obtain ⟨x5_1, x6_1, x7_1, rfl, rfl, HA, HK1, HO_5, BK467, BK468, BK469, HB⟩ := hrel
  cases gk with
  | zero => exact absurd HA.out (by simp [r1_Add.l0])
  | succ k1 =>
   have H := HA.out
   clear HA
   simp only [r1_Add.l0] at H
   have HC6 := A_ H;clear H
   go_upto_region 4 with (fail)
   repeat (go_quiet (fail); go_upto_region 4 with (fail))
   go_cut [21] (fun v21 wc => ∃ (kq : Nat) (x21_5 : Bool), v21 = .bool x21_5 ∧ Aside0 (r1_Add.j1 kq x5_1 x6_1 x7_1 x21_5 l0_0 l1_0 = some r) ∧ Aside0 (kq ≤ k1) ∧ Aside0 (Kd.R (Kd.int .u64) 22 wc w.heap.size (fun _ => True) u5 x5_1) ∧ Aside0 (wc.heap[gb467]? = some (.cells #[(.slice A0_0 l0_0.length c0_0)] 53 (0, 0))) ∧ Aside0 (wc.heap[gb468]? = some (.cells #[(.slice A1_0 l1_0.length c1_0)] 53 (0, 0))) ∧ Aside0 (wc.heap[gb469]? = some (.cells #[(.slice none 0 0)] 53 (0, 0))) ∧ Aside0 (Below w.heap.size w wc))
   case first =>
    have H := HC6.out
    clear HC6
    obtain ⟨ji7, hji7⟩ : ∃ j_ : Int, (mx (l0_0.length : Int) (l1_0.length : Int)) = j_ := ⟨_, rfl⟩
    replace H : (if x7_1 < (ji7) then (r1_Add.j1 k1 x5_1 x6_1 x7_1 true l0_0 l1_0) else (r1_Add.j1 k1 x5_1 x6_1 x7_1 (decide (x6_1 > 0)) l0_0 l1_0)) = some r := by first | (rw [hji7] at H; exact H) | (simp only [hji7] at H ⊢; exact H)
    (try (have hji7l : 0 ≤ ji7 := by (rw [← hji7]; unfold mx; (repeat' split) <;> omega)))
    (try (have hji7m : 0 ≤ ji7 := by omega))
    have hji7_ : (if (l0_0.length : Int) < (l1_0.length : Int) then (l1_0.length : Int) else (l0_0.length : Int)) = ji7 := hji7
    have hji7n_ : (if l0_0.length < l1_0.length then (l1_0.length : Int) else (l0_0.length : Int)) = ji7 := by have h_ := hji7_; simpa only [Int.ofNat_lt] using h_
    by_cases c8 : x7_1 < (ji7)
    ·rw [if_pos c8] at H
     have c8b0 : decide (x7_1 < (ji7)) = true := decide_eq_true c8
     clear c8
     (first | rw [c8b0] | (simp only [i64_w, i32_w]; rw [c8b0]) | skip)
     have H' := A_ H
     clear H
     have hnb9 := NB467_468.out
     have hnc9 := NB468_467.out
     have hnb10 := NB467_469.out
     have hnc10 := NB469_467.out
     have hcz11_0 := bv_ BK467.out 0
     have hfz11_0 := blk_frozen BK467.out 0
     have hnb12 := NB468_469.out
     have hnc12 := NB469_468.out
     have hcz13_0 := bv_ BK468.out 0
     have hfz13_0 := blk_frozen BK468.out 0
     go_wp2
     repeat (go_quiet (fail); try go_wp2)
     go_meet
     case rel => exact ⟨_, (true), sm_, H', ⟨by have := HK1.out; first | omega | exact Nat.le_refl _⟩, ⟨by (with_reducible repeat (first | apply Kd.R_alloc | apply Kd.R_drewN | apply Kd.R_drew)); exact HO_5.out⟩, ⟨bk_ BK467.out⟩, ⟨bk_ BK468.out⟩, ⟨bk_ BK469.out⟩, ⟨hb3_ HB.out GE467.out GE468.out GE469.out⟩⟩
    ·rw [if_neg c8] at H
     have c8b0 : decide (x7_1 < (ji7)) = false := decide_eq_false c8
     clear c8
     (first | rw [c8b0] | (simp only [i64_w, i32_w]; rw [c8b0]) | skip)
     have H' := A_ H
     clear H
     have hnb14 := NB467_468.out
     have hnc14 := NB468_467.out
     have hnb15 := NB467_469.out
     have hnc15 := NB469_467.out
     have hcz16_0 := bv_ BK467.out 0
     have hfz16_0 := blk_frozen BK467.out 0
     have hnb17 := NB468_469.out
     have hnc17 := NB469_468.out
     have hcz18_0 := bv_ BK468.out 0
     have hfz18_0 := blk_frozen BK468.out 0
     go_wp2
     repeat (go_quiet (fail); try go_wp2)
     go_meet
     case rel => exact ⟨_, (decide (x6_1 > 0)), sm_, H', ⟨by have := HK1.out; first | omega | exact Nat.le_refl _⟩, ⟨by (with_reducible repeat (first | apply Kd.R_alloc | apply Kd.R_drewN | apply Kd.R_drew)); exact HO_5.out⟩, ⟨bk_ BK467.out⟩, ⟨bk_ BK468.out⟩, ⟨bk_ BK469.out⟩, ⟨hb3_ HB.out GE467.out GE468.out GE469.out⟩⟩
   case rest =>
    clear HC6
    try clear c1
    try clear p2
    try clear c3
    try clear c8
    try clear c8b0
    try clear c9
    try clear c10
    try clear c12
    try clear c14
    try clear c15
    try clear c17
    try clear hcz11_0
    try clear hcz13_0
    try clear hcz16_0
    try clear hcz18_0
    try clear hfz11_0
    try clear hfz13_0
    try clear hfz16_0
    try clear hfz18_0
    try clear p2
    obtain ⟨kq, x21_5, rfl, HA, HJ5, HO_5, BK467, BK468, BK469, HB⟩ := hcut
    cases kq with
    | zero => exact absurd HA.out (by simp [r1_Add.j1])
    | succ kj5 =>
     have H := HA.out
     clear HA
     simp only [r1_Add.j1] at H
     by_cases c19 : x21_5 = true
     ·subst c19
      have H1 : ((r1_at.f l0_0 x7_1).bind fun t470 => ((r1_at.f l1_0 x7_1).bind fun t471 => (if x5_1.length < 17592186044416 then (r1_Add.l0 kj5 (x5_1 ++ [Int.tmod (IntKind.u64.wrap ((IntKind.u64.wrap (t470 + t471)) + x6_1)) 4294967296]) (IntKind.u64.wrap (Int.tdiv (IntKind.u64.wrap ((IntKind.u64.wrap (t470 + t471)) + x6_1)) 4294967296)) (wrap64 (x7_1 + 1)) l0_0 l1_0) else (none)))) = some r := by rw [if_pos rfl] at H; exact H
      clear H;have H := H1;clear H1
      replace H := ob_ H
      obtain ⟨t470, A200, H⟩ := H
      replace H : ((r1_at.f l1_0 x7_1).bind fun t471 => (if x5_1.length < 17592186044416 then (r1_Add.l0 kj5 (x5_1 ++ [Int.tmod (IntKind.u64.wrap ((IntKind.u64.wrap (t470 + t471)) + x6_1)) 4294967296]) (IntKind.u64.wrap (Int.tdiv (IntKind.u64.wrap ((IntKind.u64.wrap (t470 + t471)) + x6_1)) 4294967296)) (wrap64 (x7_1 + 1)) l0_0 l1_0) else (none))) = some r := H
      have A20 := A_ A200;clear A200
      replace H := ob_ H
      obtain ⟨t471, A210, H⟩ := H
      replace H : (if x5_1.length < 17592186044416 then (r1_Add.l0 kj5 (x5_1 ++ [Int.tmod (IntKind.u64.wrap ((IntKind.u64.wrap (t470 + t471)) + x6_1)) 4294967296]) (IntKind.u64.wrap (Int.tdiv (IntKind.u64.wrap ((IntKind.u64.wrap (t470 + t471)) + x6_1)) 4294967296)) (wrap64 (x7_1 + 1)) l0_0 l1_0) else (none)) = some r := H
      have A21 := A_ A210;clear A210
      by_cases c22 : x5_1.length < 17592186044416
      ·rw [if_pos c22] at H
       have LMc22 := A_ c22;clear c22
       obtain ⟨y472, hy472⟩ : ∃ y_ : List Int, y_ = (x5_1 ++ [Int.tmod (IntKind.u64.wrap ((IntKind.u64.wrap (t470 + t471)) + x6_1)) 4294967296]) := ⟨_, rfl⟩
       replace H : (r1_Add.l0 kj5 y472 (IntKind.u64.wrap (Int.tdiv (IntKind.u64.wrap ((IntKind.u64.wrap (t470 + t471)) + x6_1)) 4294967296)) (wrap64 (x7_1 + 1)) l0_0 l1_0) = some r := by first | (rw [hy472]; with_reducible exact H) | (have H2_ := (Option.bind_some _ _).symm.trans H; rw [hy472]; with_reducible exact H2_) | (have H2_ := (Option.bind_some _ _).symm.trans H; with_reducible exact H2_) | with_reducible exact H | (rw [hy472]; exact H) | exact H
       have Ny472 := A_ hy472;clear hy472
       have H' := A_ H
       clear H
       have hnb23 := NB467_468.out
       have hnc23 := NB468_467.out
       have hnb24 := NB467_469.out
       have hnc24 := NB469_467.out
       have hcz25_0 := bv_ BK467.out 0
       have hfz25_0 := blk_frozen BK467.out 0
       go_wp2_with (first | (go_at_call 70; (with_reducible refine (r1_at.calls _ _ l0_0 x7_1 t470 _ ?side1 ?side2 A20.out).mono ?_); (case side1 => exact cs_ ((Kd.C_below HR0_0.out HB.out))); (case side2 => exact HC0_0.out); rintro e w' ⟨rfl, ⟨nd, rfl⟩⟩; (try first | exact ⟨rfl, _, World.drewN_drewN _ _ _⟩ | exact ⟨rfl, _, Eq.trans (World.drewN_drewN _ _ _) (congrArg (World.drewN _) (Nat.add_assoc _ _ _))⟩); have hnb26 := NB468_469.out; have hnc26 := NB469_468.out; have hcz27_0 := bv_ BK468.out 0; have hfz27_0 := blk_frozen BK468.out 0) | (go_at_call 70; (with_reducible refine (r1_at.calls _ _ l1_0 x7_1 t471 _ ?side1 ?side2 A21.out).mono ?_); (case side1 => exact cs_ ((Kd.C_below HR1_0.out (hb3_ HB.out GE467.out GE468.out GE469.out)))); (case side2 => exact HC1_0.out); rintro e w' ⟨rfl, ⟨nd, rfl⟩⟩; (try first | exact ⟨rfl, _, World.drewN_drewN _ _ _⟩ | exact ⟨rfl, _, Eq.trans (World.drewN_drewN _ _ _) (congrArg (World.drewN _) (Nat.add_assoc _ _ _))⟩)) | ((with_reducible refine gate_builtin (b := .append) (xs := #[.tmp 35, .tmp 38]) rfl ?_); at_builtin; refine Kd.R_append (Kd.int .u64) (w0 := w) w.heap.size rfl (.tmp 35) (.tmp 38) 51 22 (.int .u64 0) 8 rfl Try.underlying51 info22 rfl (by decide) (by omega) u5 x5_1 (Int.tmod (IntKind.u64.wrap ((IntKind.u64.wrap (t470 + t471)) + x6_1)) 4294967296) [.int .u64 (Int.tmod (IntKind.u64.wrap ((IntKind.u64.wrap (t470 + t471)) + x6_1)) 4294967296)] (fun _ => True) (fun _ => False) rfl rfl ?aP (fun _ hk => hk.elim) ?aF ?aO ?aB ?aS ?aL ?_; (case aP => exact rfl); (case aB => exact (hb3_ HB.out GE467.out GE468.out GE469.out)); (case aF => exact (fun _ _ => trivial)); (case aO => exact (kr_ HO_5.out)); (case aS => exact (below_size (hb3_ HB.out GE467.out GE468.out GE469.out))); (case aL => have := LMc22.out; omega); intro v473 w28 ho hb hg hat; rw [← Ny472.out] at ho; have n0_ := A_ (blk_grown (g := gb467) (o := .cells #[.slice A0_0 l0_0.length c0_0] 53 (0, 0)) (bk_ BK467.out) hg (Kd.R_ne HO_5.out BK467.out (by decide))); have n1_ := A_ (blk_grown (g := gb468) (o := .cells #[.slice A1_0 l1_0.length c1_0] 53 (0, 0)) (bk_ BK468.out) hg (Kd.R_ne HO_5.out BK468.out (by decide))); have n2_ := A_ (blk_grown (g := gb469) (o := .cells #[.slice none 0 0] 53 (0, 0)) (bk_ BK469.out) hg (Kd.R_ne HO_5.out BK469.out (by decide))); have n3_ := A_ (hb); have n4_ := A_ (ho); clear BK467; clear BK468; clear BK469; clear HB; clear HO_5; have BK467 := n0_; have BK468 := n1_; have BK469 := n2_; have HB := n3_; have HO474 := n4_; clear n0_ n1_ n2_ n3_ n4_; clear ho hb hg hat))
       repeat (go_quiet (first | (go_at_call 70; (with_reducible refine (r1_at.calls _ _ l0_0 x7_1 t470 _ ?side1 ?side2 A20.out).mono ?_); (case side1 => exact cs_ ((Kd.C_below HR0_0.out HB.out))); (case side2 => exact HC0_0.out); rintro e w' ⟨rfl, ⟨nd, rfl⟩⟩; (try first | exact ⟨rfl, _, World.drewN_drewN _ _ _⟩ | exact ⟨rfl, _, Eq.trans (World.drewN_drewN _ _ _) (congrArg (World.drewN _) (Nat.add_assoc _ _ _))⟩); have hnb26 := NB468_469.out; have hnc26 := NB469_468.out; have hcz27_0 := bv_ BK468.out 0; have hfz27_0 := blk_frozen BK468.out 0) | (go_at_call 70; (with_reducible refine (r1_at.calls _ _ l1_0 x7_1 t471 _ ?side1 ?side2 A21.out).mono ?_); (case side1 => exact cs_ ((Kd.C_below HR1_0.out (hb3_ HB.out GE467.out GE468.out GE469.out)))); (case side2 => exact HC1_0.out); rintro e w' ⟨rfl, ⟨nd, rfl⟩⟩; (try first | exact ⟨rfl, _, World.drewN_drewN _ _ _⟩ | exact ⟨rfl, _, Eq.trans (World.drewN_drewN _ _ _) (congrArg (World.drewN _) (Nat.add_assoc _ _ _))⟩)) | ((with_reducible refine gate_builtin (b := .append) (xs := #[.tmp 35, .tmp 38]) rfl ?_); at_builtin; refine Kd.R_append (Kd.int .u64) (w0 := w) w.heap.size rfl (.tmp 35) (.tmp 38) 51 22 (.int .u64 0) 8 rfl Try.underlying51 info22 rfl (by decide) (by omega) u5 x5_1 (Int.tmod (IntKind.u64.wrap ((IntKind.u64.wrap (t470 + t471)) + x6_1)) 4294967296) [.int .u64 (Int.tmod (IntKind.u64.wrap ((IntKind.u64.wrap (t470 + t471)) + x6_1)) 4294967296)] (fun _ => True) (fun _ => False) rfl rfl ?aP (fun _ hk => hk.elim) ?aF ?aO ?aB ?aS ?aL ?_; (case aP => exact rfl); (case aB => exact (hb3_ HB.out GE467.out GE468.out GE469.out)); (case aF => exact (fun _ _ => trivial)); (case aO => exact (kr_ HO_5.out)); (case aS => exact (below_size (hb3_ HB.out GE467.out GE468.out GE469.out))); (case aL => have := LMc22.out; omega); intro v473 w28 ho hb hg hat; rw [← Ny472.out] at ho; have n0_ := A_ (blk_grown (g := gb467) (o := .cells #[.slice A0_0 l0_0.length c0_0] 53 (0, 0)) (bk_ BK467.out) hg (Kd.R_ne HO_5.out BK467.out (by decide))); have n1_ := A_ (blk_grown (g := gb468) (o := .cells #[.slice A1_0 l1_0.length c1_0] 53 (0, 0)) (bk_ BK468.out) hg (Kd.R_ne HO_5.out BK468.out (by decide))); have n2_ := A_ (blk_grown (g := gb469) (o := .cells #[.slice none 0 0] 53 (0, 0)) (bk_ BK469.out) hg (Kd.R_ne HO_5.out BK469.out (by decide))); have n3_ := A_ (hb); have n4_ := A_ (ho); clear BK467; clear BK468; clear BK469; clear HB; clear HO_5; have BK467 := n0_; have BK468 := n1_; have BK469 := n2_; have HB := n3_; have HO474 := n4_; clear n0_ n1_ n2_ n3_ n4_; clear ho hb hg hat)); try go_wp2_with (first | (go_at_call 70; (with_reducible refine (r1_at.calls _ _ l0_0 x7_1 t470 _ ?side1 ?side2 A20.out).mono ?_); (case side1 => exact cs_ ((Kd.C_below HR0_0.out HB.out))); (case side2 => exact HC0_0.out); rintro e w' ⟨rfl, ⟨nd, rfl⟩⟩; (try first | exact ⟨rfl, _, World.drewN_drewN _ _ _⟩ | exact ⟨rfl, _, Eq.trans (World.drewN_drewN _ _ _) (congrArg (World.drewN _) (Nat.add_assoc _ _ _))⟩); have hnb26 := NB468_469.out; have hnc26 := NB469_468.out; have hcz27_0 := bv_ BK468.out 0; have hfz27_0 := blk_frozen BK468.out 0) | (go_at_call 70; (with_reducible refine (r1_at.calls _ _ l1_0 x7_1 t471 _ ?side1 ?side2 A21.out).mono ?_); (case side1 => exact cs_ ((Kd.C_below HR1_0.out (hb3_ HB.out GE467.out GE468.out GE469.out)))); (case side2 => exact HC1_0.out); rintro e w' ⟨rfl, ⟨nd, rfl⟩⟩; (try first | exact ⟨rfl, _, World.drewN_drewN _ _ _⟩ | exact ⟨rfl, _, Eq.trans (World.drewN_drewN _ _ _) (congrArg (World.drewN _) (Nat.add_assoc _ _ _))⟩)) | ((with_reducible refine gate_builtin (b := .append) (xs := #[.tmp 35, .tmp 38]) rfl ?_); at_builtin; refine Kd.R_append (Kd.int .u64) (w0 := w) w.heap.size rfl (.tmp 35) (.tmp 38) 51 22 (.int .u64 0) 8 rfl Try.underlying51 info22 rfl (by decide) (by omega) u5 x5_1 (Int.tmod (IntKind.u64.wrap ((IntKind.u64.wrap (t470 + t471)) + x6_1)) 4294967296) [.int .u64 (Int.tmod (IntKind.u64.wrap ((IntKind.u64.wrap (t470 + t471)) + x6_1)) 4294967296)] (fun _ => True) (fun _ => False) rfl rfl ?aP (fun _ hk => hk.elim) ?aF ?aO ?aB ?aS ?aL ?_; (case aP => exact rfl); (case aB => exact (hb3_ HB.out GE467.out GE468.out GE469.out)); (case aF => exact (fun _ _ => trivial)); (case aO => exact (kr_ HO_5.out)); (case aS => exact (below_size (hb3_ HB.out GE467.out GE468.out GE469.out))); (case aL => have := LMc22.out; omega); intro v473 w28 ho hb hg hat; rw [← Ny472.out] at ho; have n0_ := A_ (blk_grown (g := gb467) (o := .cells #[.slice A0_0 l0_0.length c0_0] 53 (0, 0)) (bk_ BK467.out) hg (Kd.R_ne HO_5.out BK467.out (by decide))); have n1_ := A_ (blk_grown (g := gb468) (o := .cells #[.slice A1_0 l1_0.length c1_0] 53 (0, 0)) (bk_ BK468.out) hg (Kd.R_ne HO_5.out BK468.out (by decide))); have n2_ := A_ (blk_grown (g := gb469) (o := .cells #[.slice none 0 0] 53 (0, 0)) (bk_ BK469.out) hg (Kd.R_ne HO_5.out BK469.out (by decide))); have n3_ := A_ (hb); have n4_ := A_ (ho); clear BK467; clear BK468; clear BK469; clear HB; clear HO_5; have BK467 := n0_; have BK468 := n1_; have BK469 := n2_; have HB := n3_; have HO474 := n4_; clear n0_ n1_ n2_ n3_ n4_; clear ho hb hg hat)))
       go_roundg kj5
       case measure => have := HK1.out; have := HJ5.out; omega
       case rel => exact ⟨(y472), (IntKind.u64.wrap (Int.tdiv (IntKind.u64.wrap ((IntKind.u64.wrap (t470 + t471)) + x6_1)) 4294967296)), (wrap64 (x7_1 + 1)), sm_, sm_, H', ⟨by have := HK1.out; have := HJ5.out; omega⟩, ⟨by (with_reducible repeat (first | apply Kd.R_alloc | apply Kd.R_drewN | apply Kd.R_drew)); exact HO474.out⟩, ⟨bk_ BK467.out⟩, ⟨bk_ BK468.out⟩, ⟨bk_ BK469.out⟩, ⟨hb3_ HB.out GE467.out GE468.out GE469.out⟩⟩
      ·rw [if_neg c22] at H
       exact absurd H (by simp)
     ·replace c19 := Bool.eq_false_iff.mpr c19
      subst c19
      have H1 : ((r1_trim.f kj5 x5_1).bind fun t475 => (some t475)) = some r := by rw [if_neg (show ¬ (false = true) by decide)] at H; exact H
      clear H;have H := H1;clear H1
      replace H := ob_ H
      obtain ⟨t475, A290, H⟩ := H
      replace H : (some t475) = some r := H
      have A29 := A_ A290;clear A290
      obtain rfl := Option.some.inj H
      obtain ⟨Ao30, co30, eo30⟩ := Kd.R_slice HO_5.out
      subst eo30
      go_wp2_with (first | (go_at_call 71; (with_reducible refine (r1_trim.calls kj5 (fun k_ => some k_ = (.slice Ao30 x5_1.length co30 : Value).ownBlock) (.slice Ao30 x5_1.length co30) x5_1 t475 w _ ?side1 ?side2 A29.out).mono ?_); (case side1 => exact hb3_ HB.out GE467.out GE468.out GE469.out); (case side2 => exact Kd.R_tight rfl HO_5.out); rintro e w31 ⟨v476, rfl, ho0, hb, hkp⟩; have n0_ := A_ (blk_kept (bk_ BK467.out) hkp (fun hs_ => (fun e_ => (Kd.R_ne HO_5.out BK467.out (by decide)) e_) hs_)); have n1_ := A_ (blk_kept (bk_ BK468.out) hkp (fun hs_ => (fun e_ => (Kd.R_ne HO_5.out BK468.out (by decide)) e_) hs_)); have n2_ := A_ (blk_kept (bk_ BK469.out) hkp (fun hs_ => (fun e_ => (Kd.R_ne HO_5.out BK469.out (by decide)) e_) hs_)); have n3_ := A_ (Kd.R_mono (ok' := fun k_ => True) ho0 (fun k_ hk_ => trivial)); have n4_ := A_ (hb); clear BK467; clear BK468; clear BK469; clear HB; clear HO_5; have BK467 := n0_; have BK468 := n1_; have BK469 := n2_; have HO477 := n3_; have HB := n4_; clear n0_ n1_ n2_ n3_ n4_; (try clear hb); (try clear hkp); (try clear ho0); obtain ⟨Ao32, co32, eo32⟩ := Kd.R_slice HO477.out; subst eo32; have hnb33 := NB469_467.out; have hnc33 := NB467_469.out; have hnb34 := NB469_468.out; have hnc34 := NB468_469.out; have hcz35_0 := bv_ BK469.out 0; have hfz35_0 := blk_frozen BK469.out 0))
      repeat (go_quiet (first | (go_at_call 71; (with_reducible refine (r1_trim.calls kj5 (fun k_ => some k_ = (.slice Ao30 x5_1.length co30 : Value).ownBlock) (.slice Ao30 x5_1.length co30) x5_1 t475 w _ ?side1 ?side2 A29.out).mono ?_); (case side1 => exact hb3_ HB.out GE467.out GE468.out GE469.out); (case side2 => exact Kd.R_tight rfl HO_5.out); rintro e w31 ⟨v476, rfl, ho0, hb, hkp⟩; have n0_ := A_ (blk_kept (bk_ BK467.out) hkp (fun hs_ => (fun e_ => (Kd.R_ne HO_5.out BK467.out (by decide)) e_) hs_)); have n1_ := A_ (blk_kept (bk_ BK468.out) hkp (fun hs_ => (fun e_ => (Kd.R_ne HO_5.out BK468.out (by decide)) e_) hs_)); have n2_ := A_ (blk_kept (bk_ BK469.out) hkp (fun hs_ => (fun e_ => (Kd.R_ne HO_5.out BK469.out (by decide)) e_) hs_)); have n3_ := A_ (Kd.R_mono (ok' := fun k_ => True) ho0 (fun k_ hk_ => trivial)); have n4_ := A_ (hb); clear BK467; clear BK468; clear BK469; clear HB; clear HO_5; have BK467 := n0_; have BK468 := n1_; have BK469 := n2_; have HO477 := n3_; have HB := n4_; clear n0_ n1_ n2_ n3_ n4_; (try clear hb); (try clear hkp); (try clear ho0); obtain ⟨Ao32, co32, eo32⟩ := Kd.R_slice HO477.out; subst eo32; have hnb33 := NB469_467.out; have hnc33 := NB467_469.out; have hnb34 := NB469_468.out; have hnc34 := NB468_469.out; have hcz35_0 := bv_ BK469.out 0; have hfz35_0 := blk_frozen BK469.out 0)); try go_wp2_with (first | (go_at_call 71; (with_reducible refine (r1_trim.calls kj5 (fun k_ => some k_ = (.slice Ao30 x5_1.length co30 : Value).ownBlock) (.slice Ao30 x5_1.length co30) x5_1 t475 w _ ?side1 ?side2 A29.out).mono ?_); (case side1 => exact hb3_ HB.out GE467.out GE468.out GE469.out); (case side2 => exact Kd.R_tight rfl HO_5.out); rintro e w31 ⟨v476, rfl, ho0, hb, hkp⟩; have n0_ := A_ (blk_kept (bk_ BK467.out) hkp (fun hs_ => (fun e_ => (Kd.R_ne HO_5.out BK467.out (by decide)) e_) hs_)); have n1_ := A_ (blk_kept (bk_ BK468.out) hkp (fun hs_ => (fun e_ => (Kd.R_ne HO_5.out BK468.out (by decide)) e_) hs_)); have n2_ := A_ (blk_kept (bk_ BK469.out) hkp (fun hs_ => (fun e_ => (Kd.R_ne HO_5.out BK469.out (by decide)) e_) hs_)); have n3_ := A_ (Kd.R_mono (ok' := fun k_ => True) ho0 (fun k_ hk_ => trivial)); have n4_ := A_ (hb); clear BK467; clear BK468; clear BK469; clear HB; clear HO_5; have BK467 := n0_; have BK468 := n1_; have BK469 := n2_; have HO477 := n3_; have HB := n4_; clear n0_ n1_ n2_ n3_ n4_; (try clear hb); (try clear hkp); (try clear ho0); obtain ⟨Ao32, co32, eo32⟩ := Kd.R_slice HO477.out; subst eo32; have hnb33 := NB469_467.out; have hnc33 := NB467_469.out; have hnb34 := NB469_468.out; have hnc34 := NB468_469.out; have hcz35_0 := bv_ BK469.out 0; have hfz35_0 := blk_frozen BK469.out 0)))
      refine bodyPost_ret (results_cell_row rfl _ _ gb469 53 #[.slice Ao32 t475.length co32] (0, 0) _ rfl (by (with_reducible repeat (first | refine blk_drewN ?_ _ | refine blk_drew ?_ | refine blk_alloc ?_ _)); refine blk_put (cs := #[.slice none 0 0]) ?_ 0 _ rfl; (with_reducible repeat (first | refine blk_drewN ?_ _ | refine blk_drew ?_ | refine blk_alloc ?_ _)); exact BK469.out) Try.underlying53 rfl (by kernel_rfl)) rfl ?_
      exact ⟨_, by first | rfl | (simp [errW_none, errW_some] <;> rfl) | (simp [*, errW_none, errW_some] <;> rfl), by (with_reducible repeat (first | apply Kd.R_alloc | apply Kd.R_drewN | apply Kd.R_drew)); exact Kd.R_mono (Kd.R_far (p := ⟨gb469, 0, none⟩) (Kd.R_types HO477.out BK469.out (by decide)) (fun _ hk => hk.2) (.slice Ao32 t475.length co32)) (fun _ hk => trivial), hb3_ HB.out GE467.out GE468.out GE469.out⟩
def r1_Len.l0 : Nat → Int → Int → Option (Int)
 | 0, _, _ => none
 | k + 1, x3, x4 => if x4 > 0 then (r1_Len.l0 k (wrap64 (x3 + 1)) (IntKind.u64.wrap (Int.tdiv x4 2))) else (some x3)
def r1_Len.f (k : Nat) (l0_0 : List Int) : Option (Int) := if (l0_0.length : Int) = 0 then (some 0) else (if 0 ≤ (wrap64 ((l0_0.length : Int) - 1)) then (if (wrap64 ((l0_0.length : Int) - 1)) < (l0_0.length : Int) then (r1_Len.l0 k (wrap64 (32 * (wrap64 ((l0_0.length : Int) - 1)))) (rd l0_0 (wrap64 ((l0_0.length : Int) - 1)))) else (none)) else (none))
theorem r1_Len.mono_l : ∀ k, (∀ y0 y1, LeO (r1_Len.l0 k y0 y1) (r1_Len.l0 (k + 1) y0 y1))
 | 0 => fun _ _ r h => by simp [r1_Len.l0] at h
 | k + 1 => by
  have ih0 := r1_Len.mono_l k
  ·intro y0 y1
   unfold r1_Len.l0
   repeat' first
   | (with_reducible exact ih0 _ _)
   | (with_reducible exact LeO.refl _)
   | (with_reducible exact LeO.none _)
   | (with_reducible refine LeO.ite ?_ ?_)
   | (with_reducible refine LeO.bind ?_ (fun _ => ?_))
   | exact ih0 _ _
   | exact LeO.none _
   | refine LeO.ite ?_ ?_
   | refine LeO.bind ?_ (fun _ => ?_)
theorem r1_Len.mono : ∀ a0 k, LeO (r1_Len.f k a0) (r1_Len.f (k + 1) a0) := by
 intro a0 k
 have ih0 := r1_Len.mono_l k
 unfold r1_Len.f
 repeat' first
   | (with_reducible exact ih0 _ _)
   | (with_reducible exact LeO.refl _)
   | (with_reducible exact LeO.none _)
   | (with_reducible refine LeO.ite ?_ ?_)
   | (with_reducible refine LeO.bind ?_ (fun _ => ?_))
   | exact ih0 _ _
   | exact LeO.none _
   | refine LeO.ite ?_ ?_
   | refine LeO.bind ?_ (fun _ => ?_)
theorem r1_Len.calls (k : Nat) (A0_0 : Option Addr) (c0_0 : Nat) (l0_0 : List Int) (r : Int) (w : World) (hr0_0 : Kd.C (Kd.int .u64) w A0_0 l0_0.length l0_0) (hc0_0 : l0_0.length ≤ c0_0) (h : r1_Len.f k l0_0 = some r) :
  Calls Try.prog 73 #[.agg #[.slice A0_0 l0_0.length c0_0]] w fun e w' => e = .returned (.int .i64 r) ∧ Below w.heap.size w w' := by
 have hu53 := Try.underlying53
 have HR0_0 := A_ hr0_0;have HC0_0 := A_ hc0_0;clear hr0_0 hc0_0
 have HB := A_ (Below.refl w.heap.size w)
 have H : (if (l0_0.length : Int) = 0 then (some 0) else (if 0 ≤ (wrap64 ((l0_0.length : Int) - 1)) then (if (wrap64 ((l0_0.length : Int) - 1)) < (l0_0.length : Int) then (r1_Len.l0 k (wrap64 (32 * (wrap64 ((l0_0.length : Int) - 1)))) (rd l0_0 (wrap64 ((l0_0.length : Int) - 1)))) else (none)) else (none))) = some r := h
 clear h
 by_cases c2 : (l0_0.length : Int) = 0
 ·rw [if_pos c2] at H
  have c2b0 : ((l0_0.length : Int) == 0) = true := beq_iff_eq.mpr c2
  have c2b1 : ((l0_0.length : Int) != 0) = false := bne_eq_false_iff_eq.mpr c2
  clear c2
  obtain rfl := Option.some.inj H
  go_enter Try.func73, Try.ntmps73
  go_wp2_with (first | ((with_reducible refine gate_dst (N := 1) rfl ?_); refine be_ 1 #[.slice A0_0 l0_0.length c0_0] 53 ?_; intro gb478 hg w3 hbox hb; have BK478 := A_ (hbox); have GW478 := A_ (sz_ hg (hb_ HB.out)); have GE478 := A_ (sz_ hg (hb_ HB.out)); replace HB := A_ (below_step (hb_ HB.out) hb); clear hb hbox hg; have hcz4_0 := bv_ BK478.out 0; have hfz4_0 := blk_frozen BK478.out 0))
  go_ret
  exact ⟨er_, hb1_ HB.out GE478.out⟩
 ·rw [if_neg c2] at H
  have c2b0 : ((l0_0.length : Int) == 0) = false := beq_eq_false_iff_ne.mpr c2
  have c2b1 : ((l0_0.length : Int) != 0) = true := bne_iff_ne.mpr c2
  have c2b2 : ¬ (l0_0 = []) := fun h_ => c2 (by rw [h_]; rfl)
  obtain ⟨ji5, hji5⟩ : ∃ j_ : Int, (wrap64 ((l0_0.length : Int) - 1)) = j_ := ⟨_, rfl⟩
  replace H : (if 0 ≤ (ji5) then (if (ji5) < (l0_0.length : Int) then (r1_Len.l0 k (wrap64 (32 * (ji5))) (rd l0_0 (ji5))) else (none)) else (none)) = some r := by first | (rw [hji5] at H; exact H) | (simp only [hji5] at H ⊢; exact H)
  have hji5w : (IntKind.i64.wrap ((l0_0.length : Int) - 1)) = ji5 := (i64_w _).trans hji5
  by_cases c6 : 0 ≤ (ji5)
  ·rw [if_pos c6] at H
   have c6b0 : decide (0 ≤ (ji5)) = true := decide_eq_true c6
   clear c6
   by_cases c7 : (ji5) < (l0_0.length : Int)
   ·rw [if_pos c7] at H
    have c7b0 : decide ((ji5) < (l0_0.length : Int)) = true := decide_eq_true c7
    clear c7
    have H' := A_ H
    clear H
    go_enter Try.func73, Try.ntmps73
    go_wp2_with (first | ((with_reducible refine gate_dst (N := 1) rfl ?_); refine be_ 1 #[.slice A0_0 l0_0.length c0_0] 53 ?_; intro gb478 hg w8 hbox hb; have BK478 := A_ (hbox); have GW478 := A_ (sz_ hg (hb_ HB.out)); have GE478 := A_ (sz_ hg (hb_ HB.out)); replace HB := A_ (below_step (hb_ HB.out) hb); clear hb hbox hg; have hcz9_0 := bv_ BK478.out 0; have hfz9_0 := blk_frozen BK478.out 0; have p479 : 0 ≤ ((ji5) : Int) := of_decide_eq_true (by first | (with_reducible assumption) | assumption); have q479 : (ji5) < (l0_0.length : Int) := of_decide_eq_true (by first | (with_reducible assumption) | assumption); obtain ⟨ad479, e479, hx479_0⟩ := Kd.at_int HR0_0.out (ji5) p479 q479; cases e479; replace hx479_0 := (HB.out.cell (World.block_lt_of_cell? w _ hx479_0)).trans hx479_0; replace p479 := eq_true p479; replace q479 := eq_true q479))
    go_loopg [3, 4] k (fun kq v3 v4 w' => ∃ (x3_1 : Int) (x4_1 : Int), v3 = .int .i64 x3_1 ∧ v4 = .int .u64 x4_1 ∧ Aside0 (r1_Len.l0 kq x3_1 x4_1 = some r) ∧ Aside0 (kq ≤ k) ∧ Aside0 (w'.heap[gb478]? = some (.cells #[(.slice (some ad479) l0_0.length c0_0)] 53 (0, 0))) ∧ Aside0 (Below w.heap.size w w'))
    case atStart => exact ⟨(wrap64 (32 * (ji5))), (rd l0_0 (ji5)), (by first | rfl | (simp; done) | (simp only [← hji5] <;> (first | rfl | simp)) | (simp [*]; done)), (by first | rfl | (simp; done) | (simp only [← hji5] <;> (first | rfl | simp)) | (simp [*]; done)), H', ⟨Nat.le_refl _⟩, ⟨bk_ BK478.out⟩, ⟨hb1_ HB.out GE478.out⟩⟩
    case round =>
     clear H'
     try clear c2
     try clear c2b0
     try clear c2b1
     try clear c2b2
     try clear p2
     try clear p4
     try clear q4
     try clear hx4
     try clear c6
     try clear c6b0
     try clear p6
     try clear c7
     try clear c7b0
     try clear hcz4_0
     try clear hcz9_0
     try clear hfz4_0
     try clear hfz9_0
     try clear hx479_0
     try clear p479
     try clear q479
     obtain ⟨x3_1, x4_1, rfl, rfl, HA, HK1, BK478, HB⟩ := hrel
     cases gk with
     | zero => exact absurd HA.out (by simp [r1_Len.l0])
     | succ k1 =>
      have H := HA.out
      clear HA
      simp only [r1_Len.l0] at H
      by_cases c10 : x4_1 > 0
      ·rw [if_pos c10] at H
       have c10b0 : decide (0 < x4_1) = true := decide_eq_true c10
       clear c10
       have H' := A_ H
       clear H
       go_wp2
       go_roundg k1
       case measure => have := HK1.out; omega
       case rel => exact ⟨(wrap64 (x3_1 + 1)), (IntKind.u64.wrap (Int.tdiv x4_1 2)), sm_, sm_, H', ⟨by have := HK1.out; omega⟩, ⟨bk_ BK478.out⟩, ⟨hb1_ HB.out GE478.out⟩⟩
      ·rw [if_neg c10] at H
       have c10b0 : decide (0 < x4_1) = false := decide_eq_false c10
       clear c10
       obtain rfl := Option.some.inj H
       go_wp2
       go_ret
       exact ⟨by first | rfl | (simp [errW_none, errW_some] <;> rfl) | (simp only [← hji5]; first | rfl | (simp [errW_none, errW_some] <;> rfl)) | (simp [*, errW_none, errW_some] <;> rfl), hb1_ HB.out GE478.out⟩
   ·rw [if_neg c7] at H
    exact absurd H (by simp)
  ·rw [if_neg c6] at H
   exact absurd H (by simp)
end Go.Proofs.Ytjjehbedpgdhgaa.PA
