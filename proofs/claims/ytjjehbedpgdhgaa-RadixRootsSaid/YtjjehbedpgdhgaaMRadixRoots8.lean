/- What the Go functions that the statement RadixRoots reaches compute, and the mathematics on it, in the order in which one leans on the other; for every input. -/
import Derived.Test.YtjjehbedpgdhgaaVRadixRoots0
import Derived.Test.YtjjehbedpgdhgaaMRadixRoots0
import Derived.Test.YtjjehbedpgdhgaaMRadixRoots7
import Derived.Test.YtjjehbedpgdhgaaMRadixRoots3
import Derived.Test.YtjjehbedpgdhgaaMRadixRoots4
namespace Go.Proofs.Ytjjehbedpgdhgaa.PA
open Go.RowKit Go.Proofs.YtjjehbedpgdhgaaW.PrintWords Go.Proofs.YtjjehbedpgdhgaaW.PrintLast Go.Proofs.YtjjehbedpgdhgaaW.PrintMore
attribute [local go_sem] max2_int min2_int max_two min_two max_three min_three max_four min_four   -- for this text's walks alone
set_option linter.unusedVariables false
set_option linter.unusedSimpArgs false
set_option maxHeartbeats 8000000
set_option maxRecDepth 100000
def r2_Inf.f (k : Nat) (a0 : Int) (a1 : Bool) : Option (Int) := (r2_Top.f k a0).bind fun t265 => ((r2_Make.f k a0 a1 t265 0).bind fun t266 => (some t266))
theorem r2_Inf.mono : ∀ a0 a1 k, LeO (r2_Inf.f k a0 a1) (r2_Inf.f (k + 1) a0 a1) := by
 intro a0 a1 k
 unfold r2_Inf.f
 repeat' first
   | (with_reducible exact r2_Make.mono _ _ _ _ _)
   | (with_reducible exact r2_Top.mono _ _)
   | (with_reducible exact LeO.refl _)
   | (with_reducible exact LeO.none _)
   | (with_reducible refine LeO.ite ?_ ?_)
   | (with_reducible refine LeO.bind ?_ (fun _ => ?_))
   | exact r2_Make.mono _ _ _ _ _
   | exact r2_Top.mono _ _
   | exact LeO.none _
   | refine LeO.ite ?_ ?_
   | refine LeO.bind ?_ (fun _ => ?_)
theorem r2_Inf.calls (k : Nat) (a0 : Int) (a1 : Bool) (r : Int) (w : World) (h : r2_Inf.f k a0 a1 = some r) :
  Calls Try.prog 49 #[.int .i64 a0, .bool a1] w fun e w' => e = .returned (.int .u64 r) ∧ Drawn0 w w' := by
 have H : ((r2_Top.f k a0).bind fun t265 => ((r2_Make.f k a0 a1 t265 0).bind fun t266 => (some t266))) = some r := h
 clear h
 replace H := ob_ H
 obtain ⟨t265, A30, H⟩ := H
 replace H : ((r2_Make.f k a0 a1 t265 0).bind fun t266 => (some t266)) = some r := H
 have A3 := A_ A30;clear A30
 replace H := ob_ H
 obtain ⟨t266, A40, H⟩ := H
 replace H : (some t266) = some r := H
 have A4 := A_ A40;clear A40
 obtain rfl := Option.some.inj H
 go_enter Try.func49, Try.ntmps49
 go_wp2_with (first | ((with_reducible refine gate_callee (f := 19) rfl ?_); refine gl_ (some 8) Try.func19 #[.int .i64 a0] ?_; (with_reducible refine (r2_Top.calls k a0 t265 _ A3.out).mono ?_); rintro e w' ⟨rfl, ⟨nd, rfl⟩⟩; refine ⟨_, rfl, ?_⟩) | ((with_reducible refine gate_callee (f := 47) rfl ?_); refine gl_ (some 9) Try.func47 #[.int .i64 a0, .bool a1, .int .i64 t265, .int .u64 0] ?_; (with_reducible refine (r2_Make.calls k a0 a1 t265 0 t266 _ A4.out).mono ?_); rintro e w' ⟨rfl, ⟨nd, rfl⟩⟩; refine ⟨_, rfl, ?_⟩))
 go_ret
 exact ⟨sm_, by repeat (first | exact Drawn0.refl _ | apply Drawn0.step)⟩
def r2_Nan.f (k : Nat) (a0 : Int) : Option (Int) := (r2_Top.f k a0).bind fun t261 => ((r2_F.f a0).bind fun t262 => ((r2_Two.f k (wrap64 (t262 - 1))).bind fun t263 => ((r2_Make.f k a0 false t261 t263).bind fun t264 => (some t264))))
theorem r2_Nan.mono : ∀ a0 k, LeO (r2_Nan.f k a0) (r2_Nan.f (k + 1) a0) := by
 intro a0 k
 unfold r2_Nan.f
 repeat' first
   | (with_reducible exact r2_Make.mono _ _ _ _ _)
   | (with_reducible exact r2_Top.mono _ _)
   | (with_reducible exact r2_Two.mono _ _)
   | (with_reducible exact LeO.refl _)
   | (with_reducible exact LeO.none _)
   | (with_reducible refine LeO.ite ?_ ?_)
   | (with_reducible refine LeO.bind ?_ (fun _ => ?_))
   | exact r2_Make.mono _ _ _ _ _
   | exact r2_Top.mono _ _
   | exact r2_Two.mono _ _
   | exact LeO.none _
   | refine LeO.ite ?_ ?_
   | refine LeO.bind ?_ (fun _ => ?_)
theorem r2_Nan.calls (k : Nat) (a0 : Int) (r : Int) (w : World) (h : r2_Nan.f k a0 = some r) :
  Calls Try.prog 48 #[.int .i64 a0] w fun e w' => e = .returned (.int .u64 r) ∧ Drawn0 w w' := by
 have H : ((r2_Top.f k a0).bind fun t261 => ((r2_F.f a0).bind fun t262 => ((r2_Two.f k (wrap64 (t262 - 1))).bind fun t263 => ((r2_Make.f k a0 false t261 t263).bind fun t264 => (some t264))))) = some r := h
 clear h
 replace H := ob_ H
 obtain ⟨t261, A20, H⟩ := H
 replace H : ((r2_F.f a0).bind fun t262 => ((r2_Two.f k (wrap64 (t262 - 1))).bind fun t263 => ((r2_Make.f k a0 false t261 t263).bind fun t264 => (some t264)))) = some r := H
 have A2 := A_ A20;clear A20
 replace H := ob_ H
 obtain ⟨t262, A30, H⟩ := H
 replace H : ((r2_Two.f k (wrap64 (t262 - 1))).bind fun t263 => ((r2_Make.f k a0 false t261 t263).bind fun t264 => (some t264))) = some r := H
 have A3 := A_ A30;clear A30
 replace H := ob_ H
 obtain ⟨t263, A40, H⟩ := H
 replace H : ((r2_Make.f k a0 false t261 t263).bind fun t264 => (some t264)) = some r := H
 have A4 := A_ A40;clear A40
 replace H := ob_ H
 obtain ⟨t264, A50, H⟩ := H
 replace H : (some t264) = some r := H
 have A5 := A_ A50;clear A50
 obtain rfl := Option.some.inj H
 go_enter Try.func48, Try.ntmps48
 go_wp2_with (first | ((with_reducible refine gate_callee (f := 19) rfl ?_); refine gl_ (some 5) Try.func19 #[.int .i64 a0] ?_; (with_reducible refine (r2_Top.calls k a0 t261 _ A2.out).mono ?_); rintro e w' ⟨rfl, ⟨nd, rfl⟩⟩; refine ⟨_, rfl, ?_⟩) | ((with_reducible refine gate_callee (f := 59) rfl ?_); refine gl_ (some 7) Try.func59 #[.int .i64 a0] ?_; (with_reducible refine (r2_F.calls a0 t262 _ A3.out).mono ?_); rintro e w' ⟨rfl, ⟨nd, rfl⟩⟩; refine ⟨_, rfl, ?_⟩) | ((with_reducible refine gate_callee (f := 58) rfl ?_); refine gl_ (some 9) Try.func58 #[.int .i64 (wrap64 (t262 - 1))] ?_; (with_reducible refine (r2_Two.calls k (wrap64 (t262 - 1)) t263 _ A4.out).mono ?_); rintro e w' ⟨rfl, ⟨nd, rfl⟩⟩; refine ⟨_, rfl, ?_⟩) | ((with_reducible refine gate_callee (f := 47) rfl ?_); refine gl_ (some 10) Try.func47 #[.int .i64 a0, .bool false, .int .i64 t261, .int .u64 t263] ?_; (with_reducible refine (r2_Make.calls k a0 false t261 t263 t264 _ A5.out).mono ?_); rintro e w' ⟨rfl, ⟨nd, rfl⟩⟩; refine ⟨_, rfl, ?_⟩))
 go_ret
 exact ⟨sm_, by repeat (first | exact Drawn0.refl _ | apply Drawn0.step)⟩
def r2_B.f (a0 : Int) : Option (Int) := if a0 = 32 then (some 127) else (some 1023)
theorem r2_B.calls (a0 : Int) (r : Int) (w : World) (h : r2_B.f a0 = some r) :
  Calls Try.prog 83 #[.int .i64 a0] w fun e w' => e = .returned (.int .i64 r) ∧ Drawn0 w w' := by
 have H : (if a0 = 32 then (some 127) else (some 1023)) = some r := h
 clear h
 by_cases c2 : a0 = 32
 ·rw [if_pos c2] at H
  have c2b0 : (a0 == 32) = true := beq_iff_eq.mpr c2
  have c2b1 : (a0 != 32) = false := bne_eq_false_iff_eq.mpr c2
  clear c2
  obtain rfl := Option.some.inj H
  go_enter Try.func83, Try.ntmps83
  go_wp2
  go_ret
  exact ⟨sm_, by repeat (first | exact Drawn0.refl _ | apply Drawn0.step)⟩
 ·rw [if_neg c2] at H
  have c2b0 : (a0 == 32) = false := beq_eq_false_iff_ne.mpr c2
  have c2b1 : (a0 != 32) = true := bne_iff_ne.mpr c2
  obtain rfl := Option.some.inj H
  go_enter Try.func83, Try.ntmps83
  go_wp2
  go_ret
  exact ⟨sm_, by repeat (first | exact Drawn0.refl _ | apply Drawn0.step)⟩
def r2_Exp.f (k : Nat) (a0 : Int) (a1 : Int) : Option (Int) := (r2_Cut.f a0 a1).bind fun t236 => ((r2_F.f a0).bind fun t237 => ((r2_Two.f k t237).bind fun t238 => (if t238 = 0 then (none) else ((r2_E.f a0).bind fun t239 => ((r2_Two.f k t239).bind fun t240 => (if t240 = 0 then (none) else (some (wrap64 (Int.tmod (IntKind.u64.wrap (Int.tdiv t236 t238)) t240)))))))))
theorem r2_Exp.mono : ∀ a0 a1 k, LeO (r2_Exp.f k a0 a1) (r2_Exp.f (k + 1) a0 a1) := by
 intro a0 a1 k
 unfold r2_Exp.f
 repeat' first
   | (with_reducible exact r2_Two.mono _ _)
   | (with_reducible exact LeO.refl _)
   | (with_reducible exact LeO.none _)
   | (with_reducible refine LeO.ite ?_ ?_)
   | (with_reducible refine LeO.bind ?_ (fun _ => ?_))
   | exact r2_Two.mono _ _
   | exact LeO.none _
   | refine LeO.ite ?_ ?_
   | refine LeO.bind ?_ (fun _ => ?_)
theorem r2_Exp.calls (k : Nat) (a0 : Int) (a1 : Int) (r : Int) (w : World) (h : r2_Exp.f k a0 a1 = some r) :
  Calls Try.prog 17 #[.int .i64 a0, .int .u64 a1] w fun e w' => e = .returned (.int .i64 r) ∧ Drawn0 w w' := by
 have H : ((r2_Cut.f a0 a1).bind fun t236 => ((r2_F.f a0).bind fun t237 => ((r2_Two.f k t237).bind fun t238 => (if t238 = 0 then (none) else ((r2_E.f a0).bind fun t239 => ((r2_Two.f k t239).bind fun t240 => (if t240 = 0 then (none) else (some (wrap64 (Int.tmod (IntKind.u64.wrap (Int.tdiv t236 t238)) t240)))))))))) = some r := h
 clear h
 replace H := ob_ H
 obtain ⟨t236, A30, H⟩ := H
 replace H : ((r2_F.f a0).bind fun t237 => ((r2_Two.f k t237).bind fun t238 => (if t238 = 0 then (none) else ((r2_E.f a0).bind fun t239 => ((r2_Two.f k t239).bind fun t240 => (if t240 = 0 then (none) else (some (wrap64 (Int.tmod (IntKind.u64.wrap (Int.tdiv t236 t238)) t240))))))))) = some r := H
 have A3 := A_ A30;clear A30
 replace H := ob_ H
 obtain ⟨t237, A40, H⟩ := H
 replace H : ((r2_Two.f k t237).bind fun t238 => (if t238 = 0 then (none) else ((r2_E.f a0).bind fun t239 => ((r2_Two.f k t239).bind fun t240 => (if t240 = 0 then (none) else (some (wrap64 (Int.tmod (IntKind.u64.wrap (Int.tdiv t236 t238)) t240)))))))) = some r := H
 have A4 := A_ A40;clear A40
 replace H := ob_ H
 obtain ⟨t238, A50, H⟩ := H
 replace H : (if t238 = 0 then (none) else ((r2_E.f a0).bind fun t239 => ((r2_Two.f k t239).bind fun t240 => (if t240 = 0 then (none) else (some (wrap64 (Int.tmod (IntKind.u64.wrap (Int.tdiv t236 t238)) t240))))))) = some r := H
 have A5 := A_ A50;clear A50
 by_cases c6 : t238 = 0
 ·rw [if_pos c6] at H
  exact absurd H (by simp)
 ·rw [if_neg c6] at H
  have c6b0 : (t238 == 0) = false := beq_eq_false_iff_ne.mpr c6
  have c6b1 : (t238 != 0) = true := bne_iff_ne.mpr c6
  replace H := ob_ H
  obtain ⟨t239, A70, H⟩ := H
  replace H : ((r2_Two.f k t239).bind fun t240 => (if t240 = 0 then (none) else (some (wrap64 (Int.tmod (IntKind.u64.wrap (Int.tdiv t236 t238)) t240))))) = some r := H
  have A7 := A_ A70;clear A70
  replace H := ob_ H
  obtain ⟨t240, A80, H⟩ := H
  replace H : (if t240 = 0 then (none) else (some (wrap64 (Int.tmod (IntKind.u64.wrap (Int.tdiv t236 t238)) t240)))) = some r := H
  have A8 := A_ A80;clear A80
  by_cases c9 : t240 = 0
  ·rw [if_pos c9] at H
   exact absurd H (by simp)
  ·rw [if_neg c9] at H
   have c9b0 : (t240 == 0) = false := beq_eq_false_iff_ne.mpr c9
   have c9b1 : (t240 != 0) = true := bne_iff_ne.mpr c9
   obtain rfl := Option.some.inj H
   go_enter Try.func17, Try.ntmps17
   go_wp2_with (first | (go_at_call 57; (with_reducible refine (r2_Cut.calls a0 a1 t236 _ A3.out).mono ?_); rintro e w' ⟨rfl, ⟨nd, rfl⟩⟩; (try first | exact ⟨rfl, _, World.drewN_drewN _ _ _⟩ | exact ⟨rfl, _, Eq.trans (World.drewN_drewN _ _ _) (congrArg (World.drewN _) (Nat.add_assoc _ _ _))⟩)) | (go_at_call 59; (with_reducible refine (r2_F.calls a0 t237 _ A4.out).mono ?_); rintro e w' ⟨rfl, ⟨nd, rfl⟩⟩; (try first | exact ⟨rfl, _, World.drewN_drewN _ _ _⟩ | exact ⟨rfl, _, Eq.trans (World.drewN_drewN _ _ _) (congrArg (World.drewN _) (Nat.add_assoc _ _ _))⟩)) | (go_at_call 58; (with_reducible refine (r2_Two.calls k t237 t238 _ A5.out).mono ?_); rintro e w' ⟨rfl, ⟨nd, rfl⟩⟩; (try first | exact ⟨rfl, _, World.drewN_drewN _ _ _⟩ | exact ⟨rfl, _, Eq.trans (World.drewN_drewN _ _ _) (congrArg (World.drewN _) (Nat.add_assoc _ _ _))⟩)) | (go_at_call 60; (with_reducible refine (r2_E.calls a0 t239 _ A7.out).mono ?_); rintro e w' ⟨rfl, ⟨nd, rfl⟩⟩; (try first | exact ⟨rfl, _, World.drewN_drewN _ _ _⟩ | exact ⟨rfl, _, Eq.trans (World.drewN_drewN _ _ _) (congrArg (World.drewN _) (Nat.add_assoc _ _ _))⟩)) | (go_at_call 58; (with_reducible refine (r2_Two.calls k t239 t240 _ A8.out).mono ?_); rintro e w' ⟨rfl, ⟨nd, rfl⟩⟩; (try first | exact ⟨rfl, _, World.drewN_drewN _ _ _⟩ | exact ⟨rfl, _, Eq.trans (World.drewN_drewN _ _ _) (congrArg (World.drewN _) (Nat.add_assoc _ _ _))⟩)))
   repeat (go_quiet (first | (go_at_call 57; (with_reducible refine (r2_Cut.calls a0 a1 t236 _ A3.out).mono ?_); rintro e w' ⟨rfl, ⟨nd, rfl⟩⟩; (try first | exact ⟨rfl, _, World.drewN_drewN _ _ _⟩ | exact ⟨rfl, _, Eq.trans (World.drewN_drewN _ _ _) (congrArg (World.drewN _) (Nat.add_assoc _ _ _))⟩)) | (go_at_call 59; (with_reducible refine (r2_F.calls a0 t237 _ A4.out).mono ?_); rintro e w' ⟨rfl, ⟨nd, rfl⟩⟩; (try first | exact ⟨rfl, _, World.drewN_drewN _ _ _⟩ | exact ⟨rfl, _, Eq.trans (World.drewN_drewN _ _ _) (congrArg (World.drewN _) (Nat.add_assoc _ _ _))⟩)) | (go_at_call 58; (with_reducible refine (r2_Two.calls k t237 t238 _ A5.out).mono ?_); rintro e w' ⟨rfl, ⟨nd, rfl⟩⟩; (try first | exact ⟨rfl, _, World.drewN_drewN _ _ _⟩ | exact ⟨rfl, _, Eq.trans (World.drewN_drewN _ _ _) (congrArg (World.drewN _) (Nat.add_assoc _ _ _))⟩)) | (go_at_call 60; (with_reducible refine (r2_E.calls a0 t239 _ A7.out).mono ?_); rintro e w' ⟨rfl, ⟨nd, rfl⟩⟩; (try first | exact ⟨rfl, _, World.drewN_drewN _ _ _⟩ | exact ⟨rfl, _, Eq.trans (World.drewN_drewN _ _ _) (congrArg (World.drewN _) (Nat.add_assoc _ _ _))⟩)) | (go_at_call 58; (with_reducible refine (r2_Two.calls k t239 t240 _ A8.out).mono ?_); rintro e w' ⟨rfl, ⟨nd, rfl⟩⟩; (try first | exact ⟨rfl, _, World.drewN_drewN _ _ _⟩ | exact ⟨rfl, _, Eq.trans (World.drewN_drewN _ _ _) (congrArg (World.drewN _) (Nat.add_assoc _ _ _))⟩))); try go_wp2_with (first | (go_at_call 57; (with_reducible refine (r2_Cut.calls a0 a1 t236 _ A3.out).mono ?_); rintro e w' ⟨rfl, ⟨nd, rfl⟩⟩; (try first | exact ⟨rfl, _, World.drewN_drewN _ _ _⟩ | exact ⟨rfl, _, Eq.trans (World.drewN_drewN _ _ _) (congrArg (World.drewN _) (Nat.add_assoc _ _ _))⟩)) | (go_at_call 59; (with_reducible refine (r2_F.calls a0 t237 _ A4.out).mono ?_); rintro e w' ⟨rfl, ⟨nd, rfl⟩⟩; (try first | exact ⟨rfl, _, World.drewN_drewN _ _ _⟩ | exact ⟨rfl, _, Eq.trans (World.drewN_drewN _ _ _) (congrArg (World.drewN _) (Nat.add_assoc _ _ _))⟩)) | (go_at_call 58; (with_reducible refine (r2_Two.calls k t237 t238 _ A5.out).mono ?_); rintro e w' ⟨rfl, ⟨nd, rfl⟩⟩; (try first | exact ⟨rfl, _, World.drewN_drewN _ _ _⟩ | exact ⟨rfl, _, Eq.trans (World.drewN_drewN _ _ _) (congrArg (World.drewN _) (Nat.add_assoc _ _ _))⟩)) | (go_at_call 60; (with_reducible refine (r2_E.calls a0 t239 _ A7.out).mono ?_); rintro e w' ⟨rfl, ⟨nd, rfl⟩⟩; (try first | exact ⟨rfl, _, World.drewN_drewN _ _ _⟩ | exact ⟨rfl, _, Eq.trans (World.drewN_drewN _ _ _) (congrArg (World.drewN _) (Nat.add_assoc _ _ _))⟩)) | (go_at_call 58; (with_reducible refine (r2_Two.calls k t239 t240 _ A8.out).mono ?_); rintro e w' ⟨rfl, ⟨nd, rfl⟩⟩; (try first | exact ⟨rfl, _, World.drewN_drewN _ _ _⟩ | exact ⟨rfl, _, Eq.trans (World.drewN_drewN _ _ _) (congrArg (World.drewN _) (Nat.add_assoc _ _ _))⟩))))
   go_ret
   exact ⟨sm_, by repeat (first | exact Drawn0.refl _ | apply Drawn0.step)⟩
def r2_Frac.f (k : Nat) (a0 : Int) (a1 : Int) : Option (Int) := (r2_F.f a0).bind fun t245 => ((r2_Two.f k t245).bind fun t246 => (if t246 = 0 then (none) else (some (Int.tmod a1 t246))))
theorem r2_Frac.mono : ∀ a0 a1 k, LeO (r2_Frac.f k a0 a1) (r2_Frac.f (k + 1) a0 a1) := by
 intro a0 a1 k
 unfold r2_Frac.f
 repeat' first
   | (with_reducible exact r2_Two.mono _ _)
   | (with_reducible exact LeO.refl _)
   | (with_reducible exact LeO.none _)
   | (with_reducible refine LeO.ite ?_ ?_)
   | (with_reducible refine LeO.bind ?_ (fun _ => ?_))
   | exact r2_Two.mono _ _
   | exact LeO.none _
   | refine LeO.ite ?_ ?_
   | refine LeO.bind ?_ (fun _ => ?_)
theorem r2_Frac.calls (k : Nat) (a0 : Int) (a1 : Int) (r : Int) (w : World) (h : r2_Frac.f k a0 a1 = some r) :
  Calls Try.prog 82 #[.int .i64 a0, .int .u64 a1] w fun e w' => e = .returned (.int .u64 r) ∧ Drawn0 w w' := by
 have H : ((r2_F.f a0).bind fun t245 => ((r2_Two.f k t245).bind fun t246 => (if t246 = 0 then (none) else (some (Int.tmod a1 t246))))) = some r := h
 clear h
 replace H := ob_ H
 obtain ⟨t245, A30, H⟩ := H
 replace H : ((r2_Two.f k t245).bind fun t246 => (if t246 = 0 then (none) else (some (Int.tmod a1 t246)))) = some r := H
 have A3 := A_ A30;clear A30
 replace H := ob_ H
 obtain ⟨t246, A40, H⟩ := H
 replace H : (if t246 = 0 then (none) else (some (Int.tmod a1 t246))) = some r := H
 have A4 := A_ A40;clear A40
 by_cases c5 : t246 = 0
 ·rw [if_pos c5] at H
  exact absurd H (by simp)
 ·rw [if_neg c5] at H
  have c5b0 : (t246 == 0) = false := beq_eq_false_iff_ne.mpr c5
  have c5b1 : (t246 != 0) = true := bne_iff_ne.mpr c5
  obtain rfl := Option.some.inj H
  go_enter Try.func82, Try.ntmps82
  go_wp2_with (first | ((with_reducible refine gate_callee (f := 59) rfl ?_); refine gl_ (some 7) Try.func59 #[.int .i64 a0] ?_; (with_reducible refine (r2_F.calls a0 t245 _ A3.out).mono ?_); rintro e w' ⟨rfl, ⟨nd, rfl⟩⟩; refine ⟨_, rfl, ?_⟩) | ((with_reducible refine gate_callee (f := 58) rfl ?_); refine gl_ (some 8) Try.func58 #[.int .i64 t245] ?_; (with_reducible refine (r2_Two.calls k t245 t246 _ A4.out).mono ?_); rintro e w' ⟨rfl, ⟨nd, rfl⟩⟩; refine ⟨_, rfl, ?_⟩))
  go_ret
  exact ⟨sm_, by repeat (first | exact Drawn0.refl _ | apply Drawn0.step)⟩
def r2_Open.f (k : Nat) (a0 : Int) (a1 : Int) : Option (Bool × Int × Int × Int) := (r2_Exp.f k a0 a1).bind fun t248 => ((r2_Frac.f k a0 a1).bind fun t249 => ((r2_Neg.f k a0 a1).bind fun t250 => ((r2_Top.f k a0).bind fun t251 => (if t248 = t251 then (if t249 = 0 then (some (t250, 2, 0, 0)) else (some (false, 3, 0, 0))) else (if t248 = 0 then (if t249 = 0 then (some (t250, 0, 0, 0)) else ((r2_B.f a0).bind fun t252 => ((r2_F.f a0).bind fun t253 => (some (t250, 1, wrap64 ((wrap64 (1 - t252)) - t253), t249))))) else ((r2_B.f a0).bind fun t254 => ((r2_F.f a0).bind fun t255 => ((r2_F.f a0).bind fun t256 => ((r2_Two.f k t256).bind fun t257 => (some (t250, 1, wrap64 ((wrap64 (t248 - t254)) - t255), IntKind.u64.wrap (t257 + t249))))))))))))
theorem r2_Open.mono : ∀ a0 a1 k, LeO (r2_Open.f k a0 a1) (r2_Open.f (k + 1) a0 a1) := by
 intro a0 a1 k
 unfold r2_Open.f
 repeat' first
   | (with_reducible exact r2_Exp.mono _ _ _)
   | (with_reducible exact r2_Frac.mono _ _ _)
   | (with_reducible exact r2_Neg.mono _ _ _)
   | (with_reducible exact r2_Top.mono _ _)
   | (with_reducible exact r2_Two.mono _ _)
   | (with_reducible exact LeO.refl _)
   | (with_reducible exact LeO.none _)
   | (with_reducible refine LeO.ite ?_ ?_)
   | (with_reducible refine LeO.bind ?_ (fun _ => ?_))
   | exact r2_Exp.mono _ _ _
   | exact r2_Frac.mono _ _ _
   | exact r2_Neg.mono _ _ _
   | exact r2_Top.mono _ _
   | exact r2_Two.mono _ _
   | exact LeO.none _
   | refine LeO.ite ?_ ?_
   | refine LeO.bind ?_ (fun _ => ?_)
theorem r2_Open.calls (k : Nat) (a0 : Int) (a1 : Int) (r1 : Bool) (r2 : Int) (r3 : Int) (r4 : Int) (w : World) (h : r2_Open.f k a0 a1 = some (r1, r2, r3, r4)) :
  Calls Try.prog 46 #[.int .i64 a0, .int .u64 a1] w fun e w' => e = .returned (.agg #[.bool r1, .int .i64 r2, .int .i64 r3, .int .u64 r4]) ∧ Below w.heap.size w w' := by
 have hu67 := Try.underlying67
 have HB := A_ (Below.refl w.heap.size w)
 have H : ((r2_Exp.f k a0 a1).bind fun t248 => ((r2_Frac.f k a0 a1).bind fun t249 => ((r2_Neg.f k a0 a1).bind fun t250 => ((r2_Top.f k a0).bind fun t251 => (if t248 = t251 then (if t249 = 0 then (some (t250, 2, 0, 0)) else (some (false, 3, 0, 0))) else (if t248 = 0 then (if t249 = 0 then (some (t250, 0, 0, 0)) else ((r2_B.f a0).bind fun t252 => ((r2_F.f a0).bind fun t253 => (some (t250, 1, wrap64 ((wrap64 (1 - t252)) - t253), t249))))) else ((r2_B.f a0).bind fun t254 => ((r2_F.f a0).bind fun t255 => ((r2_F.f a0).bind fun t256 => ((r2_Two.f k t256).bind fun t257 => (some (t250, 1, wrap64 ((wrap64 (t248 - t254)) - t255), IntKind.u64.wrap (t257 + t249))))))))))))) = some (r1, r2, r3, r4) := h
 clear h
 replace H := ob_ H
 obtain ⟨t248, A30, H⟩ := H
 replace H : ((r2_Frac.f k a0 a1).bind fun t249 => ((r2_Neg.f k a0 a1).bind fun t250 => ((r2_Top.f k a0).bind fun t251 => (if t248 = t251 then (if t249 = 0 then (some (t250, 2, 0, 0)) else (some (false, 3, 0, 0))) else (if t248 = 0 then (if t249 = 0 then (some (t250, 0, 0, 0)) else ((r2_B.f a0).bind fun t252 => ((r2_F.f a0).bind fun t253 => (some (t250, 1, wrap64 ((wrap64 (1 - t252)) - t253), t249))))) else ((r2_B.f a0).bind fun t254 => ((r2_F.f a0).bind fun t255 => ((r2_F.f a0).bind fun t256 => ((r2_Two.f k t256).bind fun t257 => (some (t250, 1, wrap64 ((wrap64 (t248 - t254)) - t255), IntKind.u64.wrap (t257 + t249)))))))))))) = some (r1, r2, r3, r4) := H
 have A3 := A_ A30;clear A30
 replace H := ob_ H
 obtain ⟨t249, A40, H⟩ := H
 replace H : ((r2_Neg.f k a0 a1).bind fun t250 => ((r2_Top.f k a0).bind fun t251 => (if t248 = t251 then (if t249 = 0 then (some (t250, 2, 0, 0)) else (some (false, 3, 0, 0))) else (if t248 = 0 then (if t249 = 0 then (some (t250, 0, 0, 0)) else ((r2_B.f a0).bind fun t252 => ((r2_F.f a0).bind fun t253 => (some (t250, 1, wrap64 ((wrap64 (1 - t252)) - t253), t249))))) else ((r2_B.f a0).bind fun t254 => ((r2_F.f a0).bind fun t255 => ((r2_F.f a0).bind fun t256 => ((r2_Two.f k t256).bind fun t257 => (some (t250, 1, wrap64 ((wrap64 (t248 - t254)) - t255), IntKind.u64.wrap (t257 + t249))))))))))) = some (r1, r2, r3, r4) := H
 have A4 := A_ A40;clear A40
 replace H := ob_ H
 obtain ⟨t250, A50, H⟩ := H
 replace H : ((r2_Top.f k a0).bind fun t251 => (if t248 = t251 then (if t249 = 0 then (some (t250, 2, 0, 0)) else (some (false, 3, 0, 0))) else (if t248 = 0 then (if t249 = 0 then (some (t250, 0, 0, 0)) else ((r2_B.f a0).bind fun t252 => ((r2_F.f a0).bind fun t253 => (some (t250, 1, wrap64 ((wrap64 (1 - t252)) - t253), t249))))) else ((r2_B.f a0).bind fun t254 => ((r2_F.f a0).bind fun t255 => ((r2_F.f a0).bind fun t256 => ((r2_Two.f k t256).bind fun t257 => (some (t250, 1, wrap64 ((wrap64 (t248 - t254)) - t255), IntKind.u64.wrap (t257 + t249)))))))))) = some (r1, r2, r3, r4) := H
 have A5 := A_ A50;clear A50
 replace H := ob_ H
 obtain ⟨t251, A60, H⟩ := H
 replace H : (if t248 = t251 then (if t249 = 0 then (some (t250, 2, 0, 0)) else (some (false, 3, 0, 0))) else (if t248 = 0 then (if t249 = 0 then (some (t250, 0, 0, 0)) else ((r2_B.f a0).bind fun t252 => ((r2_F.f a0).bind fun t253 => (some (t250, 1, wrap64 ((wrap64 (1 - t252)) - t253), t249))))) else ((r2_B.f a0).bind fun t254 => ((r2_F.f a0).bind fun t255 => ((r2_F.f a0).bind fun t256 => ((r2_Two.f k t256).bind fun t257 => (some (t250, 1, wrap64 ((wrap64 (t248 - t254)) - t255), IntKind.u64.wrap (t257 + t249))))))))) = some (r1, r2, r3, r4) := H
 have A6 := A_ A60;clear A60
 by_cases c7 : t248 = t251
 ·rw [if_pos c7] at H
  have c7b0 : (t248 == t251) = true := beq_iff_eq.mpr c7
  have c7b1 : (t248 != t251) = false := bne_eq_false_iff_eq.mpr c7
  clear c7
  by_cases c8 : t249 = 0
  ·rw [if_pos c8] at H
   have c8b0 : (t249 == 0) = true := beq_iff_eq.mpr c8
   have c8b1 : (t249 != 0) = false := bne_eq_false_iff_eq.mpr c8
   clear c8
   simp only [Option.some.injEq, Prod.mk.injEq] at H
   obtain ⟨rfl, rfl, rfl, rfl⟩ := H
   go_enter Try.func46, Try.ntmps46
   go_wp2_with (first | ((with_reducible refine gate_dst (N := 4) rfl ?_); refine be_ 4 #[.bool false, .int .i64 0, .int .i64 0, .int .u64 0] 67 ?_; intro gb247 hg w9 hbox hb; have BK247 := A_ (hbox); have GW247 := A_ (sz_ hg (hb_ HB.out)); have GE247 := A_ (sz_ hg (hb_ HB.out)); replace HB := A_ (below_step (hb_ HB.out) hb); clear hb hbox hg) | ((with_reducible refine gate_callee (f := 17) rfl ?_); refine gl_ (some 10) Try.func17 #[.int .i64 a0, .int .u64 a1] ?_; (with_reducible refine (r2_Exp.calls k a0 a1 t248 _ A3.out).mono ?_); rintro e w' ⟨rfl, ⟨nd, rfl⟩⟩; refine ⟨_, rfl, ?_⟩; (try (rw [drewN_self w9]; generalize hq_ : World.drewN w9 _ = w9; have n0_ : Aside0 (w9.heap[gb247]? = some (.cells #[.bool false, .int .i64 0, .int .i64 0, .int .u64 0] 67 (0, 0))) := ⟨by rw [← hq_]; exact (bk_ BK247.out)⟩; have n1_ : Aside0 (Below w.heap.size w w9) := ⟨by rw [← hq_]; exact (hb1_ HB.out GE247.out)⟩; clear BK247 HB hq_; have BK247 := n0_; have HB := n1_; clear n0_ n1_))) | ((with_reducible refine gate_callee (f := 82) rfl ?_); refine gl_ (some 13) Try.func82 #[.int .i64 a0, .int .u64 a1] ?_; (with_reducible refine (r2_Frac.calls k a0 a1 t249 _ A4.out).mono ?_); rintro e w' ⟨rfl, ⟨nd, rfl⟩⟩; refine ⟨_, rfl, ?_⟩; (try (rw [drewN_self w9]; generalize hq_ : World.drewN w9 _ = w9; have n0_ : Aside0 (w9.heap[gb247]? = some (.cells #[.bool false, .int .i64 0, .int .i64 0, .int .u64 0] 67 (0, 0))) := ⟨by rw [← hq_]; exact (bk_ BK247.out)⟩; have n1_ : Aside0 (Below w.heap.size w w9) := ⟨by rw [← hq_]; exact (hb1_ HB.out GE247.out)⟩; clear BK247 HB hq_; have BK247 := n0_; have HB := n1_; clear n0_ n1_))) | ((with_reducible refine gate_callee (f := 18) rfl ?_); refine gl_ (some 16) Try.func18 #[.int .i64 a0, .int .u64 a1] ?_; (with_reducible refine (r2_Neg.calls k a0 a1 t250 _ A5.out).mono ?_); rintro e w' ⟨rfl, ⟨nd, rfl⟩⟩; refine ⟨_, rfl, ?_⟩; (try (rw [drewN_self w9]; generalize hq_ : World.drewN w9 _ = w9; have n0_ : Aside0 (w9.heap[gb247]? = some (.cells #[.bool false, .int .i64 0, .int .i64 0, .int .u64 0] 67 (0, 0))) := ⟨by rw [← hq_]; exact (bk_ BK247.out)⟩; have n1_ : Aside0 (Below w.heap.size w w9) := ⟨by rw [← hq_]; exact (hb1_ HB.out GE247.out)⟩; clear BK247 HB hq_; have BK247 := n0_; have HB := n1_; clear n0_ n1_))) | ((with_reducible refine gate_callee (f := 19) rfl ?_); refine gl_ (some 19) Try.func19 #[.int .i64 a0] ?_; (with_reducible refine (r2_Top.calls k a0 t251 _ A6.out).mono ?_); rintro e w' ⟨rfl, ⟨nd, rfl⟩⟩; refine ⟨_, rfl, ?_⟩; (try (rw [drewN_self w9]; generalize hq_ : World.drewN w9 _ = w9; have n0_ : Aside0 (w9.heap[gb247]? = some (.cells #[.bool false, .int .i64 0, .int .i64 0, .int .u64 0] 67 (0, 0))) := ⟨by rw [← hq_]; exact (bk_ BK247.out)⟩; have n1_ : Aside0 (Below w.heap.size w w9) := ⟨by rw [← hq_]; exact (hb1_ HB.out GE247.out)⟩; clear BK247 HB hq_; have BK247 := n0_; have HB := n1_; clear n0_ n1_)); have hcz10_0 := bv_ BK247.out 0; have hcz10_1 := bv_ BK247.out 1; have hcz10_2 := bv_ BK247.out 2; have hcz10_3 := bv_ BK247.out 3; have hfz10_0 := blk_frozen BK247.out 0; have hfz10_1 := blk_frozen BK247.out 1; have hfz10_2 := blk_frozen BK247.out 2; have hfz10_3 := blk_frozen BK247.out 3))
   refine bodyPost_ret (results_cell_row rfl _ _ gb247 67 #[.bool t250, .int .i64 2, .int .i64 0, .int .u64 0] (0, 0) _ rfl (by (with_reducible repeat (first | refine blk_drewN ?_ _ | refine blk_drew ?_ | refine blk_alloc ?_ _)); refine blk_put (cs := #[.bool t250, .int .i64 2, .int .i64 0, .int .u64 0]) ?_ 3 _ rfl; (with_reducible repeat (first | refine blk_drewN ?_ _ | refine blk_drew ?_ | refine blk_alloc ?_ _)); refine blk_put (cs := #[.bool t250, .int .i64 2, .int .i64 0, .int .u64 0]) ?_ 2 _ rfl; (with_reducible repeat (first | refine blk_drewN ?_ _ | refine blk_drew ?_ | refine blk_alloc ?_ _)); refine blk_put (cs := #[.bool t250, .int .i64 0, .int .i64 0, .int .u64 0]) ?_ 1 _ rfl; (with_reducible repeat (first | refine blk_drewN ?_ _ | refine blk_drew ?_ | refine blk_alloc ?_ _)); refine blk_put (cs := #[.bool false, .int .i64 0, .int .i64 0, .int .u64 0]) ?_ 0 _ rfl; (with_reducible repeat (first | refine blk_drewN ?_ _ | refine blk_drew ?_ | refine blk_alloc ?_ _)); exact BK247.out) Try.underlying67 rfl (by kernel_rfl)) rfl ?_
   exact ⟨er_, hb1_ HB.out GE247.out⟩
  ·rw [if_neg c8] at H
   have c8b0 : (t249 == 0) = false := beq_eq_false_iff_ne.mpr c8
   have c8b1 : (t249 != 0) = true := bne_iff_ne.mpr c8
   simp only [Option.some.injEq, Prod.mk.injEq] at H
   obtain ⟨rfl, rfl, rfl, rfl⟩ := H
   go_enter Try.func46, Try.ntmps46
   go_wp2_with (first | ((with_reducible refine gate_dst (N := 4) rfl ?_); refine be_ 4 #[.bool false, .int .i64 0, .int .i64 0, .int .u64 0] 67 ?_; intro gb247 hg w11 hbox hb; have BK247 := A_ (hbox); have GW247 := A_ (sz_ hg (hb_ HB.out)); have GE247 := A_ (sz_ hg (hb_ HB.out)); replace HB := A_ (below_step (hb_ HB.out) hb); clear hb hbox hg) | ((with_reducible refine gate_callee (f := 17) rfl ?_); refine gl_ (some 10) Try.func17 #[.int .i64 a0, .int .u64 a1] ?_; (with_reducible refine (r2_Exp.calls k a0 a1 t248 _ A3.out).mono ?_); rintro e w' ⟨rfl, ⟨nd, rfl⟩⟩; refine ⟨_, rfl, ?_⟩; (try (rw [drewN_self w11]; generalize hq_ : World.drewN w11 _ = w11; have n0_ : Aside0 (w11.heap[gb247]? = some (.cells #[.bool false, .int .i64 0, .int .i64 0, .int .u64 0] 67 (0, 0))) := ⟨by rw [← hq_]; exact (bk_ BK247.out)⟩; have n1_ : Aside0 (Below w.heap.size w w11) := ⟨by rw [← hq_]; exact (hb1_ HB.out GE247.out)⟩; clear BK247 HB hq_; have BK247 := n0_; have HB := n1_; clear n0_ n1_))) | ((with_reducible refine gate_callee (f := 82) rfl ?_); refine gl_ (some 13) Try.func82 #[.int .i64 a0, .int .u64 a1] ?_; (with_reducible refine (r2_Frac.calls k a0 a1 t249 _ A4.out).mono ?_); rintro e w' ⟨rfl, ⟨nd, rfl⟩⟩; refine ⟨_, rfl, ?_⟩; (try (rw [drewN_self w11]; generalize hq_ : World.drewN w11 _ = w11; have n0_ : Aside0 (w11.heap[gb247]? = some (.cells #[.bool false, .int .i64 0, .int .i64 0, .int .u64 0] 67 (0, 0))) := ⟨by rw [← hq_]; exact (bk_ BK247.out)⟩; have n1_ : Aside0 (Below w.heap.size w w11) := ⟨by rw [← hq_]; exact (hb1_ HB.out GE247.out)⟩; clear BK247 HB hq_; have BK247 := n0_; have HB := n1_; clear n0_ n1_))) | ((with_reducible refine gate_callee (f := 18) rfl ?_); refine gl_ (some 16) Try.func18 #[.int .i64 a0, .int .u64 a1] ?_; (with_reducible refine (r2_Neg.calls k a0 a1 t250 _ A5.out).mono ?_); rintro e w' ⟨rfl, ⟨nd, rfl⟩⟩; refine ⟨_, rfl, ?_⟩; (try (rw [drewN_self w11]; generalize hq_ : World.drewN w11 _ = w11; have n0_ : Aside0 (w11.heap[gb247]? = some (.cells #[.bool false, .int .i64 0, .int .i64 0, .int .u64 0] 67 (0, 0))) := ⟨by rw [← hq_]; exact (bk_ BK247.out)⟩; have n1_ : Aside0 (Below w.heap.size w w11) := ⟨by rw [← hq_]; exact (hb1_ HB.out GE247.out)⟩; clear BK247 HB hq_; have BK247 := n0_; have HB := n1_; clear n0_ n1_))) | ((with_reducible refine gate_callee (f := 19) rfl ?_); refine gl_ (some 19) Try.func19 #[.int .i64 a0] ?_; (with_reducible refine (r2_Top.calls k a0 t251 _ A6.out).mono ?_); rintro e w' ⟨rfl, ⟨nd, rfl⟩⟩; refine ⟨_, rfl, ?_⟩; (try (rw [drewN_self w11]; generalize hq_ : World.drewN w11 _ = w11; have n0_ : Aside0 (w11.heap[gb247]? = some (.cells #[.bool false, .int .i64 0, .int .i64 0, .int .u64 0] 67 (0, 0))) := ⟨by rw [← hq_]; exact (bk_ BK247.out)⟩; have n1_ : Aside0 (Below w.heap.size w w11) := ⟨by rw [← hq_]; exact (hb1_ HB.out GE247.out)⟩; clear BK247 HB hq_; have BK247 := n0_; have HB := n1_; clear n0_ n1_)); have hcz12_0 := bv_ BK247.out 0; have hcz12_1 := bv_ BK247.out 1; have hcz12_2 := bv_ BK247.out 2; have hcz12_3 := bv_ BK247.out 3; have hfz12_0 := blk_frozen BK247.out 0; have hfz12_1 := blk_frozen BK247.out 1; have hfz12_2 := blk_frozen BK247.out 2; have hfz12_3 := blk_frozen BK247.out 3))
   refine bodyPost_ret (results_cell_row rfl _ _ gb247 67 #[.bool false, .int .i64 3, .int .i64 0, .int .u64 0] (0, 0) _ rfl (by (with_reducible repeat (first | refine blk_drewN ?_ _ | refine blk_drew ?_ | refine blk_alloc ?_ _)); refine blk_put (cs := #[.bool false, .int .i64 3, .int .i64 0, .int .u64 0]) ?_ 3 _ rfl; (with_reducible repeat (first | refine blk_drewN ?_ _ | refine blk_drew ?_ | refine blk_alloc ?_ _)); refine blk_put (cs := #[.bool false, .int .i64 3, .int .i64 0, .int .u64 0]) ?_ 2 _ rfl; (with_reducible repeat (first | refine blk_drewN ?_ _ | refine blk_drew ?_ | refine blk_alloc ?_ _)); refine blk_put (cs := #[.bool false, .int .i64 0, .int .i64 0, .int .u64 0]) ?_ 1 _ rfl; (with_reducible repeat (first | refine blk_drewN ?_ _ | refine blk_drew ?_ | refine blk_alloc ?_ _)); refine blk_put (cs := #[.bool false, .int .i64 0, .int .i64 0, .int .u64 0]) ?_ 0 _ rfl; (with_reducible repeat (first | refine blk_drewN ?_ _ | refine blk_drew ?_ | refine blk_alloc ?_ _)); exact BK247.out) Try.underlying67 rfl (by kernel_rfl)) rfl ?_
   exact ⟨er_, hb1_ HB.out GE247.out⟩
 ·rw [if_neg c7] at H
  have c7b0 : (t248 == t251) = false := beq_eq_false_iff_ne.mpr c7
  have c7b1 : (t248 != t251) = true := bne_iff_ne.mpr c7
  by_cases c13 : t248 = 0
  ·rw [if_pos c13] at H
   have c13b0 : (t248 == 0) = true := beq_iff_eq.mpr c13
   have c13b1 : (t248 != 0) = false := bne_eq_false_iff_eq.mpr c13
   clear c13
   by_cases c14 : t249 = 0
   ·rw [if_pos c14] at H
    have c14b0 : (t249 == 0) = true := beq_iff_eq.mpr c14
    have c14b1 : (t249 != 0) = false := bne_eq_false_iff_eq.mpr c14
    clear c14
    simp only [Option.some.injEq, Prod.mk.injEq] at H
    obtain ⟨rfl, rfl, rfl, rfl⟩ := H
    go_enter Try.func46, Try.ntmps46
    go_wp2_with (first | ((with_reducible refine gate_dst (N := 4) rfl ?_); refine be_ 4 #[.bool false, .int .i64 0, .int .i64 0, .int .u64 0] 67 ?_; intro gb247 hg w15 hbox hb; have BK247 := A_ (hbox); have GW247 := A_ (sz_ hg (hb_ HB.out)); have GE247 := A_ (sz_ hg (hb_ HB.out)); replace HB := A_ (below_step (hb_ HB.out) hb); clear hb hbox hg) | ((with_reducible refine gate_callee (f := 17) rfl ?_); refine gl_ (some 10) Try.func17 #[.int .i64 a0, .int .u64 a1] ?_; (with_reducible refine (r2_Exp.calls k a0 a1 t248 _ A3.out).mono ?_); rintro e w' ⟨rfl, ⟨nd, rfl⟩⟩; refine ⟨_, rfl, ?_⟩; (try (rw [drewN_self w15]; generalize hq_ : World.drewN w15 _ = w15; have n0_ : Aside0 (w15.heap[gb247]? = some (.cells #[.bool false, .int .i64 0, .int .i64 0, .int .u64 0] 67 (0, 0))) := ⟨by rw [← hq_]; exact (bk_ BK247.out)⟩; have n1_ : Aside0 (Below w.heap.size w w15) := ⟨by rw [← hq_]; exact (hb1_ HB.out GE247.out)⟩; clear BK247 HB hq_; have BK247 := n0_; have HB := n1_; clear n0_ n1_))) | ((with_reducible refine gate_callee (f := 82) rfl ?_); refine gl_ (some 13) Try.func82 #[.int .i64 a0, .int .u64 a1] ?_; (with_reducible refine (r2_Frac.calls k a0 a1 t249 _ A4.out).mono ?_); rintro e w' ⟨rfl, ⟨nd, rfl⟩⟩; refine ⟨_, rfl, ?_⟩; (try (rw [drewN_self w15]; generalize hq_ : World.drewN w15 _ = w15; have n0_ : Aside0 (w15.heap[gb247]? = some (.cells #[.bool false, .int .i64 0, .int .i64 0, .int .u64 0] 67 (0, 0))) := ⟨by rw [← hq_]; exact (bk_ BK247.out)⟩; have n1_ : Aside0 (Below w.heap.size w w15) := ⟨by rw [← hq_]; exact (hb1_ HB.out GE247.out)⟩; clear BK247 HB hq_; have BK247 := n0_; have HB := n1_; clear n0_ n1_))) | ((with_reducible refine gate_callee (f := 18) rfl ?_); refine gl_ (some 16) Try.func18 #[.int .i64 a0, .int .u64 a1] ?_; (with_reducible refine (r2_Neg.calls k a0 a1 t250 _ A5.out).mono ?_); rintro e w' ⟨rfl, ⟨nd, rfl⟩⟩; refine ⟨_, rfl, ?_⟩; (try (rw [drewN_self w15]; generalize hq_ : World.drewN w15 _ = w15; have n0_ : Aside0 (w15.heap[gb247]? = some (.cells #[.bool false, .int .i64 0, .int .i64 0, .int .u64 0] 67 (0, 0))) := ⟨by rw [← hq_]; exact (bk_ BK247.out)⟩; have n1_ : Aside0 (Below w.heap.size w w15) := ⟨by rw [← hq_]; exact (hb1_ HB.out GE247.out)⟩; clear BK247 HB hq_; have BK247 := n0_; have HB := n1_; clear n0_ n1_))) | ((with_reducible refine gate_callee (f := 19) rfl ?_); refine gl_ (some 19) Try.func19 #[.int .i64 a0] ?_; (with_reducible refine (r2_Top.calls k a0 t251 _ A6.out).mono ?_); rintro e w' ⟨rfl, ⟨nd, rfl⟩⟩; refine ⟨_, rfl, ?_⟩; (try (rw [drewN_self w15]; generalize hq_ : World.drewN w15 _ = w15; have n0_ : Aside0 (w15.heap[gb247]? = some (.cells #[.bool false, .int .i64 0, .int .i64 0, .int .u64 0] 67 (0, 0))) := ⟨by rw [← hq_]; exact (bk_ BK247.out)⟩; have n1_ : Aside0 (Below w.heap.size w w15) := ⟨by rw [← hq_]; exact (hb1_ HB.out GE247.out)⟩; clear BK247 HB hq_; have BK247 := n0_; have HB := n1_; clear n0_ n1_)); have hcz16_0 := bv_ BK247.out 0; have hcz16_1 := bv_ BK247.out 1; have hcz16_2 := bv_ BK247.out 2; have hcz16_3 := bv_ BK247.out 3; have hfz16_0 := blk_frozen BK247.out 0; have hfz16_1 := blk_frozen BK247.out 1; have hfz16_2 := blk_frozen BK247.out 2; have hfz16_3 := blk_frozen BK247.out 3))
    refine bodyPost_ret (results_cell_row rfl _ _ gb247 67 #[.bool t250, .int .i64 0, .int .i64 0, .int .u64 0] (0, 0) _ rfl (by (with_reducible repeat (first | refine blk_drewN ?_ _ | refine blk_drew ?_ | refine blk_alloc ?_ _)); refine blk_put (cs := #[.bool t250, .int .i64 0, .int .i64 0, .int .u64 0]) ?_ 3 _ rfl; (with_reducible repeat (first | refine blk_drewN ?_ _ | refine blk_drew ?_ | refine blk_alloc ?_ _)); refine blk_put (cs := #[.bool t250, .int .i64 0, .int .i64 0, .int .u64 0]) ?_ 2 _ rfl; (with_reducible repeat (first | refine blk_drewN ?_ _ | refine blk_drew ?_ | refine blk_alloc ?_ _)); refine blk_put (cs := #[.bool t250, .int .i64 0, .int .i64 0, .int .u64 0]) ?_ 1 _ rfl; (with_reducible repeat (first | refine blk_drewN ?_ _ | refine blk_drew ?_ | refine blk_alloc ?_ _)); refine blk_put (cs := #[.bool false, .int .i64 0, .int .i64 0, .int .u64 0]) ?_ 0 _ rfl; (with_reducible repeat (first | refine blk_drewN ?_ _ | refine blk_drew ?_ | refine blk_alloc ?_ _)); exact BK247.out) Try.underlying67 rfl (by kernel_rfl)) rfl ?_
    exact ⟨er_, hb1_ HB.out GE247.out⟩
   ·rw [if_neg c14] at H
    have c14b0 : (t249 == 0) = false := beq_eq_false_iff_ne.mpr c14
    have c14b1 : (t249 != 0) = true := bne_iff_ne.mpr c14
    replace H := ob_ H
    obtain ⟨t252, A170, H⟩ := H
    replace H : ((r2_F.f a0).bind fun t253 => (some (t250, 1, wrap64 ((wrap64 (1 - t252)) - t253), t249))) = some (r1, r2, r3, r4) := H
    have A17 := A_ A170;clear A170
    replace H := ob_ H
    obtain ⟨t253, A180, H⟩ := H
    replace H : (some (t250, 1, wrap64 ((wrap64 (1 - t252)) - t253), t249)) = some (r1, r2, r3, r4) := H
    have A18 := A_ A180;clear A180
    simp only [Option.some.injEq, Prod.mk.injEq] at H
    obtain ⟨rfl, rfl, rfl, rfl⟩ := H
    go_enter Try.func46, Try.ntmps46
    go_wp2_with (first | ((with_reducible refine gate_dst (N := 4) rfl ?_); refine be_ 4 #[.bool false, .int .i64 0, .int .i64 0, .int .u64 0] 67 ?_; intro gb247 hg w19 hbox hb; have BK247 := A_ (hbox); have GW247 := A_ (sz_ hg (hb_ HB.out)); have GE247 := A_ (sz_ hg (hb_ HB.out)); replace HB := A_ (below_step (hb_ HB.out) hb); clear hb hbox hg) | ((with_reducible refine gate_callee (f := 17) rfl ?_); refine gl_ (some 10) Try.func17 #[.int .i64 a0, .int .u64 a1] ?_; (with_reducible refine (r2_Exp.calls k a0 a1 t248 _ A3.out).mono ?_); rintro e w' ⟨rfl, ⟨nd, rfl⟩⟩; refine ⟨_, rfl, ?_⟩; (try (rw [drewN_self w19]; generalize hq_ : World.drewN w19 _ = w19; have n0_ : Aside0 (w19.heap[gb247]? = some (.cells #[.bool false, .int .i64 0, .int .i64 0, .int .u64 0] 67 (0, 0))) := ⟨by rw [← hq_]; exact (bk_ BK247.out)⟩; have n1_ : Aside0 (Below w.heap.size w w19) := ⟨by rw [← hq_]; exact (hb1_ HB.out GE247.out)⟩; clear BK247 HB hq_; have BK247 := n0_; have HB := n1_; clear n0_ n1_))) | ((with_reducible refine gate_callee (f := 82) rfl ?_); refine gl_ (some 13) Try.func82 #[.int .i64 a0, .int .u64 a1] ?_; (with_reducible refine (r2_Frac.calls k a0 a1 t249 _ A4.out).mono ?_); rintro e w' ⟨rfl, ⟨nd, rfl⟩⟩; refine ⟨_, rfl, ?_⟩; (try (rw [drewN_self w19]; generalize hq_ : World.drewN w19 _ = w19; have n0_ : Aside0 (w19.heap[gb247]? = some (.cells #[.bool false, .int .i64 0, .int .i64 0, .int .u64 0] 67 (0, 0))) := ⟨by rw [← hq_]; exact (bk_ BK247.out)⟩; have n1_ : Aside0 (Below w.heap.size w w19) := ⟨by rw [← hq_]; exact (hb1_ HB.out GE247.out)⟩; clear BK247 HB hq_; have BK247 := n0_; have HB := n1_; clear n0_ n1_))) | ((with_reducible refine gate_callee (f := 18) rfl ?_); refine gl_ (some 16) Try.func18 #[.int .i64 a0, .int .u64 a1] ?_; (with_reducible refine (r2_Neg.calls k a0 a1 t250 _ A5.out).mono ?_); rintro e w' ⟨rfl, ⟨nd, rfl⟩⟩; refine ⟨_, rfl, ?_⟩; (try (rw [drewN_self w19]; generalize hq_ : World.drewN w19 _ = w19; have n0_ : Aside0 (w19.heap[gb247]? = some (.cells #[.bool false, .int .i64 0, .int .i64 0, .int .u64 0] 67 (0, 0))) := ⟨by rw [← hq_]; exact (bk_ BK247.out)⟩; have n1_ : Aside0 (Below w.heap.size w w19) := ⟨by rw [← hq_]; exact (hb1_ HB.out GE247.out)⟩; clear BK247 HB hq_; have BK247 := n0_; have HB := n1_; clear n0_ n1_))) | ((with_reducible refine gate_callee (f := 19) rfl ?_); refine gl_ (some 19) Try.func19 #[.int .i64 a0] ?_; (with_reducible refine (r2_Top.calls k a0 t251 _ A6.out).mono ?_); rintro e w' ⟨rfl, ⟨nd, rfl⟩⟩; refine ⟨_, rfl, ?_⟩; (try (rw [drewN_self w19]; generalize hq_ : World.drewN w19 _ = w19; have n0_ : Aside0 (w19.heap[gb247]? = some (.cells #[.bool false, .int .i64 0, .int .i64 0, .int .u64 0] 67 (0, 0))) := ⟨by rw [← hq_]; exact (bk_ BK247.out)⟩; have n1_ : Aside0 (Below w.heap.size w w19) := ⟨by rw [← hq_]; exact (hb1_ HB.out GE247.out)⟩; clear BK247 HB hq_; have BK247 := n0_; have HB := n1_; clear n0_ n1_))) | ((with_reducible refine gate_callee (f := 83) rfl ?_); refine gl_ (some 34) Try.func83 #[.int .i64 a0] ?_; (with_reducible refine (r2_B.calls a0 t252 _ A17.out).mono ?_); rintro e w' ⟨rfl, ⟨nd, rfl⟩⟩; refine ⟨_, rfl, ?_⟩; (try (rw [drewN_self w19]; generalize hq_ : World.drewN w19 _ = w19; have n0_ : Aside0 (w19.heap[gb247]? = some (.cells #[.bool false, .int .i64 0, .int .i64 0, .int .u64 0] 67 (0, 0))) := ⟨by rw [← hq_]; exact (bk_ BK247.out)⟩; have n1_ : Aside0 (Below w.heap.size w w19) := ⟨by rw [← hq_]; exact (hb1_ HB.out GE247.out)⟩; clear BK247 HB hq_; have BK247 := n0_; have HB := n1_; clear n0_ n1_))) | ((with_reducible refine gate_callee (f := 59) rfl ?_); refine gl_ (some 37) Try.func59 #[.int .i64 a0] ?_; (with_reducible refine (r2_F.calls a0 t253 _ A18.out).mono ?_); rintro e w' ⟨rfl, ⟨nd, rfl⟩⟩; refine ⟨_, rfl, ?_⟩; (try (rw [drewN_self w19]; generalize hq_ : World.drewN w19 _ = w19; have n0_ : Aside0 (w19.heap[gb247]? = some (.cells #[.bool false, .int .i64 0, .int .i64 0, .int .u64 0] 67 (0, 0))) := ⟨by rw [← hq_]; exact (bk_ BK247.out)⟩; have n1_ : Aside0 (Below w.heap.size w w19) := ⟨by rw [← hq_]; exact (hb1_ HB.out GE247.out)⟩; clear BK247 HB hq_; have BK247 := n0_; have HB := n1_; clear n0_ n1_)); have hcz20_0 := bv_ BK247.out 0; have hcz20_1 := bv_ BK247.out 1; have hcz20_2 := bv_ BK247.out 2; have hcz20_3 := bv_ BK247.out 3; have hfz20_0 := blk_frozen BK247.out 0; have hfz20_1 := blk_frozen BK247.out 1; have hfz20_2 := blk_frozen BK247.out 2; have hfz20_3 := blk_frozen BK247.out 3))
    refine bodyPost_ret (results_cell_row rfl _ _ gb247 67 #[.bool t250, .int .i64 1, .int .i64 (wrap64 ((wrap64 (1 - t252)) - t253)), .int .u64 t249] (0, 0) _ rfl (by (with_reducible repeat (first | refine blk_drewN ?_ _ | refine blk_drew ?_ | refine blk_alloc ?_ _)); refine blk_put (cs := #[.bool t250, .int .i64 1, .int .i64 (wrap64 ((wrap64 (1 - t252)) - t253)), .int .u64 0]) ?_ 3 _ rfl; (with_reducible repeat (first | refine blk_drewN ?_ _ | refine blk_drew ?_ | refine blk_alloc ?_ _)); refine blk_put (cs := #[.bool t250, .int .i64 1, .int .i64 0, .int .u64 0]) ?_ 2 _ rfl; (with_reducible repeat (first | refine blk_drewN ?_ _ | refine blk_drew ?_ | refine blk_alloc ?_ _)); refine blk_put (cs := #[.bool t250, .int .i64 0, .int .i64 0, .int .u64 0]) ?_ 1 _ rfl; (with_reducible repeat (first | refine blk_drewN ?_ _ | refine blk_drew ?_ | refine blk_alloc ?_ _)); refine blk_put (cs := #[.bool false, .int .i64 0, .int .i64 0, .int .u64 0]) ?_ 0 _ rfl; (with_reducible repeat (first | refine blk_drewN ?_ _ | refine blk_drew ?_ | refine blk_alloc ?_ _)); exact BK247.out) Try.underlying67 rfl (by kernel_rfl)) rfl ?_
    exact ⟨er_, hb1_ HB.out GE247.out⟩
  ·rw [if_neg c13] at H
   have c13b0 : (t248 == 0) = false := beq_eq_false_iff_ne.mpr c13
   have c13b1 : (t248 != 0) = true := bne_iff_ne.mpr c13
   replace H := ob_ H
   obtain ⟨t254, A210, H⟩ := H
   replace H : ((r2_F.f a0).bind fun t255 => ((r2_F.f a0).bind fun t256 => ((r2_Two.f k t256).bind fun t257 => (some (t250, 1, wrap64 ((wrap64 (t248 - t254)) - t255), IntKind.u64.wrap (t257 + t249)))))) = some (r1, r2, r3, r4) := H
   have A21 := A_ A210;clear A210
   replace H := ob_ H
   obtain ⟨t255, A220, H⟩ := H
   replace H : ((r2_F.f a0).bind fun t256 => ((r2_Two.f k t256).bind fun t257 => (some (t250, 1, wrap64 ((wrap64 (t248 - t254)) - t255), IntKind.u64.wrap (t257 + t249))))) = some (r1, r2, r3, r4) := H
   have A22 := A_ A220;clear A220
   replace H := ob_ H
   obtain ⟨t256, A230, H⟩ := H
   replace H : ((r2_Two.f k t256).bind fun t257 => (some (t250, 1, wrap64 ((wrap64 (t248 - t254)) - t255), IntKind.u64.wrap (t257 + t249)))) = some (r1, r2, r3, r4) := H
   have A23 := A_ A230;clear A230
   replace H := ob_ H
   obtain ⟨t257, A240, H⟩ := H
   replace H : (some (t250, 1, wrap64 ((wrap64 (t248 - t254)) - t255), IntKind.u64.wrap (t257 + t249))) = some (r1, r2, r3, r4) := H
   have A24 := A_ A240;clear A240
   simp only [Option.some.injEq, Prod.mk.injEq] at H
   obtain ⟨rfl, rfl, rfl, rfl⟩ := H
   go_enter Try.func46, Try.ntmps46
   go_wp2_with (first | ((with_reducible refine gate_dst (N := 4) rfl ?_); refine be_ 4 #[.bool false, .int .i64 0, .int .i64 0, .int .u64 0] 67 ?_; intro gb247 hg w25 hbox hb; have BK247 := A_ (hbox); have GW247 := A_ (sz_ hg (hb_ HB.out)); have GE247 := A_ (sz_ hg (hb_ HB.out)); replace HB := A_ (below_step (hb_ HB.out) hb); clear hb hbox hg) | ((with_reducible refine gate_callee (f := 17) rfl ?_); refine gl_ (some 10) Try.func17 #[.int .i64 a0, .int .u64 a1] ?_; (with_reducible refine (r2_Exp.calls k a0 a1 t248 _ A3.out).mono ?_); rintro e w' ⟨rfl, ⟨nd, rfl⟩⟩; refine ⟨_, rfl, ?_⟩; (try (rw [drewN_self w25]; generalize hq_ : World.drewN w25 _ = w25; have n0_ : Aside0 (w25.heap[gb247]? = some (.cells #[.bool false, .int .i64 0, .int .i64 0, .int .u64 0] 67 (0, 0))) := ⟨by rw [← hq_]; exact (bk_ BK247.out)⟩; have n1_ : Aside0 (Below w.heap.size w w25) := ⟨by rw [← hq_]; exact (hb1_ HB.out GE247.out)⟩; clear BK247 HB hq_; have BK247 := n0_; have HB := n1_; clear n0_ n1_))) | ((with_reducible refine gate_callee (f := 82) rfl ?_); refine gl_ (some 13) Try.func82 #[.int .i64 a0, .int .u64 a1] ?_; (with_reducible refine (r2_Frac.calls k a0 a1 t249 _ A4.out).mono ?_); rintro e w' ⟨rfl, ⟨nd, rfl⟩⟩; refine ⟨_, rfl, ?_⟩; (try (rw [drewN_self w25]; generalize hq_ : World.drewN w25 _ = w25; have n0_ : Aside0 (w25.heap[gb247]? = some (.cells #[.bool false, .int .i64 0, .int .i64 0, .int .u64 0] 67 (0, 0))) := ⟨by rw [← hq_]; exact (bk_ BK247.out)⟩; have n1_ : Aside0 (Below w.heap.size w w25) := ⟨by rw [← hq_]; exact (hb1_ HB.out GE247.out)⟩; clear BK247 HB hq_; have BK247 := n0_; have HB := n1_; clear n0_ n1_))) | ((with_reducible refine gate_callee (f := 18) rfl ?_); refine gl_ (some 16) Try.func18 #[.int .i64 a0, .int .u64 a1] ?_; (with_reducible refine (r2_Neg.calls k a0 a1 t250 _ A5.out).mono ?_); rintro e w' ⟨rfl, ⟨nd, rfl⟩⟩; refine ⟨_, rfl, ?_⟩; (try (rw [drewN_self w25]; generalize hq_ : World.drewN w25 _ = w25; have n0_ : Aside0 (w25.heap[gb247]? = some (.cells #[.bool false, .int .i64 0, .int .i64 0, .int .u64 0] 67 (0, 0))) := ⟨by rw [← hq_]; exact (bk_ BK247.out)⟩; have n1_ : Aside0 (Below w.heap.size w w25) := ⟨by rw [← hq_]; exact (hb1_ HB.out GE247.out)⟩; clear BK247 HB hq_; have BK247 := n0_; have HB := n1_; clear n0_ n1_))) | ((with_reducible refine gate_callee (f := 19) rfl ?_); refine gl_ (some 19) Try.func19 #[.int .i64 a0] ?_; (with_reducible refine (r2_Top.calls k a0 t251 _ A6.out).mono ?_); rintro e w' ⟨rfl, ⟨nd, rfl⟩⟩; refine ⟨_, rfl, ?_⟩; (try (rw [drewN_self w25]; generalize hq_ : World.drewN w25 _ = w25; have n0_ : Aside0 (w25.heap[gb247]? = some (.cells #[.bool false, .int .i64 0, .int .i64 0, .int .u64 0] 67 (0, 0))) := ⟨by rw [← hq_]; exact (bk_ BK247.out)⟩; have n1_ : Aside0 (Below w.heap.size w w25) := ⟨by rw [← hq_]; exact (hb1_ HB.out GE247.out)⟩; clear BK247 HB hq_; have BK247 := n0_; have HB := n1_; clear n0_ n1_))) | ((with_reducible refine gate_callee (f := 83) rfl ?_); refine gl_ (some 44) Try.func83 #[.int .i64 a0] ?_; (with_reducible refine (r2_B.calls a0 t254 _ A21.out).mono ?_); rintro e w' ⟨rfl, ⟨nd, rfl⟩⟩; refine ⟨_, rfl, ?_⟩; (try (rw [drewN_self w25]; generalize hq_ : World.drewN w25 _ = w25; have n0_ : Aside0 (w25.heap[gb247]? = some (.cells #[.bool false, .int .i64 0, .int .i64 0, .int .u64 0] 67 (0, 0))) := ⟨by rw [← hq_]; exact (bk_ BK247.out)⟩; have n1_ : Aside0 (Below w.heap.size w w25) := ⟨by rw [← hq_]; exact (hb1_ HB.out GE247.out)⟩; clear BK247 HB hq_; have BK247 := n0_; have HB := n1_; clear n0_ n1_))) | ((with_reducible refine gate_callee (f := 59) rfl ?_); refine gl_ (some 47) Try.func59 #[.int .i64 a0] ?_; (with_reducible refine (r2_F.calls a0 t255 _ A22.out).mono ?_); rintro e w' ⟨rfl, ⟨nd, rfl⟩⟩; refine ⟨_, rfl, ?_⟩; (try (rw [drewN_self w25]; generalize hq_ : World.drewN w25 _ = w25; have n0_ : Aside0 (w25.heap[gb247]? = some (.cells #[.bool false, .int .i64 0, .int .i64 0, .int .u64 0] 67 (0, 0))) := ⟨by rw [← hq_]; exact (bk_ BK247.out)⟩; have n1_ : Aside0 (Below w.heap.size w w25) := ⟨by rw [← hq_]; exact (hb1_ HB.out GE247.out)⟩; clear BK247 HB hq_; have BK247 := n0_; have HB := n1_; clear n0_ n1_))) | ((with_reducible refine gate_callee (f := 59) rfl ?_); refine gl_ (some 50) Try.func59 #[.int .i64 a0] ?_; (with_reducible refine (r2_F.calls a0 t256 _ A23.out).mono ?_); rintro e w' ⟨rfl, ⟨nd, rfl⟩⟩; refine ⟨_, rfl, ?_⟩; (try (rw [drewN_self w25]; generalize hq_ : World.drewN w25 _ = w25; have n0_ : Aside0 (w25.heap[gb247]? = some (.cells #[.bool false, .int .i64 0, .int .i64 0, .int .u64 0] 67 (0, 0))) := ⟨by rw [← hq_]; exact (bk_ BK247.out)⟩; have n1_ : Aside0 (Below w.heap.size w w25) := ⟨by rw [← hq_]; exact (hb1_ HB.out GE247.out)⟩; clear BK247 HB hq_; have BK247 := n0_; have HB := n1_; clear n0_ n1_))) | ((with_reducible refine gate_callee (f := 58) rfl ?_); refine gl_ (some 51) Try.func58 #[.int .i64 t256] ?_; (with_reducible refine (r2_Two.calls k t256 t257 _ A24.out).mono ?_); rintro e w' ⟨rfl, ⟨nd, rfl⟩⟩; refine ⟨_, rfl, ?_⟩; (try (rw [drewN_self w25]; generalize hq_ : World.drewN w25 _ = w25; have n0_ : Aside0 (w25.heap[gb247]? = some (.cells #[.bool false, .int .i64 0, .int .i64 0, .int .u64 0] 67 (0, 0))) := ⟨by rw [← hq_]; exact (bk_ BK247.out)⟩; have n1_ : Aside0 (Below w.heap.size w w25) := ⟨by rw [← hq_]; exact (hb1_ HB.out GE247.out)⟩; clear BK247 HB hq_; have BK247 := n0_; have HB := n1_; clear n0_ n1_)); have hcz26_0 := bv_ BK247.out 0; have hcz26_1 := bv_ BK247.out 1; have hcz26_2 := bv_ BK247.out 2; have hcz26_3 := bv_ BK247.out 3; have hfz26_0 := blk_frozen BK247.out 0; have hfz26_1 := blk_frozen BK247.out 1; have hfz26_2 := blk_frozen BK247.out 2; have hfz26_3 := blk_frozen BK247.out 3))
   refine bodyPost_ret (results_cell_row rfl _ _ gb247 67 #[.bool t250, .int .i64 1, .int .i64 (wrap64 ((wrap64 (t248 - t254)) - t255)), .int .u64 (IntKind.u64.wrap (t257 + t249))] (0, 0) _ rfl (by (with_reducible repeat (first | refine blk_drewN ?_ _ | refine blk_drew ?_ | refine blk_alloc ?_ _)); refine blk_put (cs := #[.bool t250, .int .i64 1, .int .i64 (wrap64 ((wrap64 (t248 - t254)) - t255)), .int .u64 0]) ?_ 3 _ rfl; (with_reducible repeat (first | refine blk_drewN ?_ _ | refine blk_drew ?_ | refine blk_alloc ?_ _)); refine blk_put (cs := #[.bool t250, .int .i64 1, .int .i64 0, .int .u64 0]) ?_ 2 _ rfl; (with_reducible repeat (first | refine blk_drewN ?_ _ | refine blk_drew ?_ | refine blk_alloc ?_ _)); refine blk_put (cs := #[.bool t250, .int .i64 0, .int .i64 0, .int .u64 0]) ?_ 1 _ rfl; (with_reducible repeat (first | refine blk_drewN ?_ _ | refine blk_drew ?_ | refine blk_alloc ?_ _)); refine blk_put (cs := #[.bool false, .int .i64 0, .int .i64 0, .int .u64 0]) ?_ 0 _ rfl; (with_reducible repeat (first | refine blk_drewN ?_ _ | refine blk_drew ?_ | refine blk_alloc ?_ _)); exact BK247.out) Try.underlying67 rfl (by kernel_rfl)) rfl ?_
   exact ⟨er_, hb1_ HB.out GE247.out⟩
def r7_over.f (k : Nat) (a0 : Int) (a1 : Int) (a2 : Int) (a3 : Int) : Option (Int) := (r1_Of.f k a0).bind fun t319 => ((r1_Of.f k a0).bind fun t322 => ((r1_Mul.f k t319 t322).bind fun t325 => ((r1_Of.f k a2).bind fun t329 => ((r1_Shl.f k t325 (wrap64 ((wrap64 (2 * a1)) - (mn (wrap64 (2 * a1)) a3)))).bind fun t333 => ((r1_Shl.f k t329 (wrap64 (a3 - (mn (wrap64 (2 * a1)) a3)))).bind fun t336 => ((r1_Cmp.f k t333 t336).bind fun t339 => (some t339)))))))
theorem r7_over.mono : ∀ a0 a1 a2 a3 k, LeO (r7_over.f k a0 a1 a2 a3) (r7_over.f (k + 1) a0 a1 a2 a3) := by
 intro a0 a1 a2 a3 k
 unfold r7_over.f
 repeat' first
   | (with_reducible exact r1_Cmp.mono _ _ _)
   | (with_reducible exact r1_Mul.mono _ _ _)
   | (with_reducible exact r1_Of.mono _ _)
   | (with_reducible exact r1_Shl.mono _ _ _)
   | (with_reducible exact LeO.refl _)
   | (with_reducible exact LeO.none _)
   | (with_reducible refine LeO.ite ?_ ?_)
   | (with_reducible refine LeO.bind ?_ (fun _ => ?_))
   | exact r1_Cmp.mono _ _ _
   | exact r1_Mul.mono _ _ _
   | exact r1_Of.mono _ _
   | exact r1_Shl.mono _ _ _
   | exact LeO.none _
   | refine LeO.ite ?_ ?_
   | refine LeO.bind ?_ (fun _ => ?_)
def r7_over.T4 : Bool × List (List Nat × List Nat) := (true, [([], []), ([], []), ([1], [1]), ([], []), ([2, 3], [2, 3]), ([0, 4], [0, 4]), ([], []), ([], []), ([], []), ([7, 8], [7, 8]), ([6, 9, 5], [6, 9]), ([5, 10, 10], [5, 10]), ([11, 11, 0, 1, 2, 3, 4, 5, 6, 7, 8, 9, 10, 11], [11])])
def r7_over.B4 : List Nat := [0, 0, 2, 0, 14, 31, 0, 0, 0, 384, 1023, 2047, 4095]
theorem r7_over.tab4 : rtab .any (opsOf Try.f84 4) = r7_over.T4 := by kernel_rfl
theorem r7_over.bits4 : waitsOk r7_over.T4.2 r7_over.B4 = true := by kernel_rfl
theorem r7_over.calls (k : Nat) (a0 : Int) (a1 : Int) (a2 : Int) (a3 : Int) (r : Int) (w : World) (h : r7_over.f k a0 a1 a2 a3 = some r) :
  Calls Try.prog 84 #[.int .u64 a0, .int .i64 a1, .int .u64 a2, .int .i64 a3] w fun e w' => e = .returned (.int .i64 r) ∧ Below w.heap.size w w' := by
 have hu53 := Try.underlying53
 have HB := A_ (Below.refl w.heap.size w)
 have H : ((r1_Of.f k a0).bind fun t319 => ((r1_Of.f k a0).bind fun t322 => ((r1_Mul.f k t319 t322).bind fun t325 => ((r1_Of.f k a2).bind fun t329 => ((r1_Shl.f k t325 (wrap64 ((wrap64 (2 * a1)) - (mn (wrap64 (2 * a1)) a3)))).bind fun t333 => ((r1_Shl.f k t329 (wrap64 (a3 - (mn (wrap64 (2 * a1)) a3)))).bind fun t336 => ((r1_Cmp.f k t333 t336).bind fun t339 => (some t339)))))))) = some r := h
 clear h
 replace H := ob_ H
 obtain ⟨t319, A50, H⟩ := H
 replace H : ((r1_Of.f k a0).bind fun t322 => ((r1_Mul.f k t319 t322).bind fun t325 => ((r1_Of.f k a2).bind fun t329 => ((r1_Shl.f k t325 (wrap64 ((wrap64 (2 * a1)) - (mn (wrap64 (2 * a1)) a3)))).bind fun t333 => ((r1_Shl.f k t329 (wrap64 (a3 - (mn (wrap64 (2 * a1)) a3)))).bind fun t336 => ((r1_Cmp.f k t333 t336).bind fun t339 => (some t339))))))) = some r := H
 have A5 := A_ A50;clear A50
 replace H := ob_ H
 obtain ⟨t322, A60, H⟩ := H
 replace H : ((r1_Mul.f k t319 t322).bind fun t325 => ((r1_Of.f k a2).bind fun t329 => ((r1_Shl.f k t325 (wrap64 ((wrap64 (2 * a1)) - (mn (wrap64 (2 * a1)) a3)))).bind fun t333 => ((r1_Shl.f k t329 (wrap64 (a3 - (mn (wrap64 (2 * a1)) a3)))).bind fun t336 => ((r1_Cmp.f k t333 t336).bind fun t339 => (some t339)))))) = some r := H
 have A6 := A_ A60;clear A60
 replace H := ob_ H
 obtain ⟨t325, A70, H⟩ := H
 replace H : ((r1_Of.f k a2).bind fun t329 => ((r1_Shl.f k t325 (wrap64 ((wrap64 (2 * a1)) - (mn (wrap64 (2 * a1)) a3)))).bind fun t333 => ((r1_Shl.f k t329 (wrap64 (a3 - (mn (wrap64 (2 * a1)) a3)))).bind fun t336 => ((r1_Cmp.f k t333 t336).bind fun t339 => (some t339))))) = some r := H
 have A7 := A_ A70;clear A70
 replace H := ob_ H
 obtain ⟨t329, A80, H⟩ := H
 replace H : ((r1_Shl.f k t325 (wrap64 ((wrap64 (2 * a1)) - (mn (wrap64 (2 * a1)) a3)))).bind fun t333 => ((r1_Shl.f k t329 (wrap64 (a3 - (mn (wrap64 (2 * a1)) a3)))).bind fun t336 => ((r1_Cmp.f k t333 t336).bind fun t339 => (some t339)))) = some r := H
 have A8 := A_ A80;clear A80
 obtain ⟨ji9, hji9⟩ : ∃ j_ : Int, (mn (wrap64 (2 * a1)) a3) = j_ := ⟨_, rfl⟩
 replace H : ((r1_Shl.f k t325 (wrap64 ((wrap64 (2 * a1)) - (ji9)))).bind fun t333 => ((r1_Shl.f k t329 (wrap64 (a3 - (ji9)))).bind fun t336 => ((r1_Cmp.f k t333 t336).bind fun t339 => (some t339)))) = some r := by first | (rw [hji9] at H; exact H) | (simp only [hji9] at H ⊢; exact H)
 (try rw [hji9] at A5)
 (try rw [hji9] at A6)
 (try rw [hji9] at A7)
 (try rw [hji9] at A8)
 have hji9_ : (if a3 < (wrap64 (2 * a1)) then a3 else (wrap64 (2 * a1))) = ji9 := hji9
 replace H := ob_ H
 obtain ⟨t333, A100, H⟩ := H
 replace H : ((r1_Shl.f k t329 (wrap64 (a3 - (ji9)))).bind fun t336 => ((r1_Cmp.f k t333 t336).bind fun t339 => (some t339))) = some r := H
 have A10 := A_ A100;clear A100
 replace H := ob_ H
 obtain ⟨t336, A110, H⟩ := H
 replace H : ((r1_Cmp.f k t333 t336).bind fun t339 => (some t339)) = some r := H
 have A11 := A_ A110;clear A110
 replace H := ob_ H
 obtain ⟨t339, A120, H⟩ := H
 replace H : (some t339) = some r := H
 have A12 := A_ A120;clear A120
 obtain rfl := Option.some.inj H
 go_enter Try.func84, Try.ntmps84
 try go_wp2_with (first | ((with_reducible refine gate_callee (f := 33) rfl ?_); refine gl_ (some 13) Try.func33 #[.int .u64 a0] ?_; (with_reducible refine (r1_Of.calls k a0 t319 _ A5.out).mono ?_); rintro e w13 ⟨v320, rfl, ho0, hb⟩; refine ⟨_, rfl, ?_⟩; have HO321 := A_ (Kd.R_lower ho0 (below_size (hb_ HB.out))); replace HB := A_ (below_step (hb_ HB.out) hb); (try clear hb); (try clear hb2); (try clear hk); (try clear hi); (try clear ho0)) | ((with_reducible refine gate_callee (f := 33) rfl ?_); refine gl_ (some 15) Try.func33 #[.int .u64 a0] ?_; (with_reducible refine (r1_Of.calls k a0 t322 _ A6.out).mono ?_); rintro e w14 ⟨v323, rfl, ho0, hb⟩; refine ⟨_, rfl, ?_⟩; have HO324 := A_ (Kd.R_lower (Kd.R_new' ho0 (Kd.R_lt (kr_ HO321.out))) (below_size (hb_ HB.out))); replace HO321 := A_ (Kd.R_elder' (kr_ HO321.out) (Kd.R_base ho0) hb); replace HB := A_ (below_step (hb_ HB.out) hb); (try clear hb); (try clear hb2); (try clear hk); (try clear hi); (try clear ho0); obtain ⟨Ao15, co15, eo15⟩ := Kd.R_slice HO321.out; subst eo15; obtain ⟨Ao16, co16, eo16⟩ := Kd.R_slice HO324.out; subst eo16) | ((with_reducible refine gate_callee (f := 39) rfl ?_); refine gl_ (some 16) Try.func39 #[.agg #[.slice Ao15 t319.length co15], .agg #[.slice Ao16 t322.length co16]] ?_; (with_reducible refine (r1_Mul.calls k _ _ t319 _ _ t322 t325 _ ?side1 ?side2 ?side3 ?side4 A7.out).mono ?_); (case side1 => exact cs_ ((Kd.R_reads' HO321.out).2.2)); (case side2 => exact (Kd.R_reads' HO321.out).2.1); (case side3 => exact cs_ ((Kd.R_reads' HO324.out).2.2)); (case side4 => exact (Kd.R_reads' HO324.out).2.1); rintro e w17 ⟨v326, rfl, ho0, hb⟩; refine ⟨_, rfl, ?_⟩; have HO327 := A_ (Kd.R_lower (Kd.R_new' (Kd.R_new' ho0 (Kd.R_lt (kr_ HO321.out))) (Kd.R_lt (kr_ HO324.out))) (below_size (hb_ HB.out))); replace HO321 := A_ (Kd.R_elder' (kr_ HO321.out) (Kd.R_base ho0) hb); replace HO324 := A_ (Kd.R_elder' (kr_ HO324.out) (Kd.R_base ho0) hb); replace HB := A_ (below_step (hb_ HB.out) hb); (try clear hb); (try clear hb2); (try clear hk); (try clear hi); (try clear ho0)) | ((with_reducible refine gate_dst (N := 9) rfl ?_); refine be_ 9 #[.slice none 0 0] 53 ?_; intro gb328 hg w18 hbox hb; have BK328 := A_ (hbox); have GW328 := A_ (sz_ hg (hb_ HB.out)); have GE328 := A_ (sz_ hg (hb_ HB.out)); replace HO321 := A_ (Kd.R_below (kr_ HO321.out) hb); replace HO324 := A_ (Kd.R_below (kr_ HO324.out) hb); replace HO327 := A_ (Kd.R_below (kr_ HO327.out) hb); replace HB := A_ (below_step (hb_ HB.out) hb); clear hb hbox hg; obtain ⟨Ao19, co19, eo19⟩ := Kd.R_slice HO327.out; subst eo19; have hcz20_0 := bv_ BK328.out 0; have hfz20_0 := blk_frozen BK328.out 0) | ((with_reducible refine gate_callee (f := 33) rfl ?_); refine gl_ (some 18) Try.func33 #[.int .u64 a2] ?_; (with_reducible refine (r1_Of.calls k a2 t329 _ A8.out).mono ?_); rintro e w21 ⟨v330, rfl, ho0, hb⟩; refine ⟨_, rfl, ?_⟩; have HO331 := A_ (Kd.R_lower (Kd.R_new' (Kd.R_new' (Kd.R_new' ho0 (Kd.R_lt (by (with_reducible repeat (first | apply Kd.R_alloc | apply Kd.R_drewN | apply Kd.R_drew)); exact (Kd.R_mono (Kd.R_far (p := ⟨gb328, 0, none⟩) (Kd.R_types HO321.out BK328.out (by decide)) (fun _ hk => hk.2) (.slice Ao19 t325.length co19)) (fun _ h_ => h_.1))))) (Kd.R_lt (by (with_reducible repeat (first | apply Kd.R_alloc | apply Kd.R_drewN | apply Kd.R_drew)); exact (Kd.R_mono (Kd.R_far (p := ⟨gb328, 0, none⟩) (Kd.R_types HO324.out BK328.out (by decide)) (fun _ hk => hk.2) (.slice Ao19 t325.length co19)) (fun _ h_ => h_.1))))) (Kd.R_lt (by (with_reducible repeat (first | apply Kd.R_alloc | apply Kd.R_drewN | apply Kd.R_drew)); exact (Kd.R_mono (Kd.R_far (p := ⟨gb328, 0, none⟩) (Kd.R_types HO327.out BK328.out (by decide)) (fun _ hk => hk.2) (.slice Ao19 t325.length co19)) (fun _ h_ => h_.1))))) (below_size (hb1_ HB.out GE328.out))); replace HO321 := A_ (Kd.R_elder' (by (with_reducible repeat (first | apply Kd.R_alloc | apply Kd.R_drewN | apply Kd.R_drew)); exact (Kd.R_mono (Kd.R_far (p := ⟨gb328, 0, none⟩) (Kd.R_types HO321.out BK328.out (by decide)) (fun _ hk => hk.2) (.slice Ao19 t325.length co19)) (fun _ h_ => h_.1))) (Kd.R_base ho0) hb); replace HO324 := A_ (Kd.R_elder' (by (with_reducible repeat (first | apply Kd.R_alloc | apply Kd.R_drewN | apply Kd.R_drew)); exact (Kd.R_mono (Kd.R_far (p := ⟨gb328, 0, none⟩) (Kd.R_types HO324.out BK328.out (by decide)) (fun _ hk => hk.2) (.slice Ao19 t325.length co19)) (fun _ h_ => h_.1))) (Kd.R_base ho0) hb); replace HO327 := A_ (Kd.R_elder' (by (with_reducible repeat (first | apply Kd.R_alloc | apply Kd.R_drewN | apply Kd.R_drew)); exact (Kd.R_mono (Kd.R_far (p := ⟨gb328, 0, none⟩) (Kd.R_types HO327.out BK328.out (by decide)) (fun _ hk => hk.2) (.slice Ao19 t325.length co19)) (fun _ h_ => h_.1))) (Kd.R_base ho0) hb); replace BK328 := A_ (blk_below (g := gb328) (o := .cells #[.slice Ao19 t325.length co19] 53 (0, 0)) (by (with_reducible repeat (first | refine blk_drewN ?_ _ | refine blk_drew ?_ | refine blk_alloc ?_ _)); refine blk_put (cs := #[.slice none 0 0]) ?_ 0 _ rfl; (with_reducible repeat (first | refine blk_drewN ?_ _ | refine blk_drew ?_ | refine blk_alloc ?_ _)); exact BK328.out) hb); replace HB := A_ (below_step (hb1_ HB.out GE328.out) hb); (try clear hb); (try clear hb2); (try clear hk); (try clear hi); (try clear ho0)) | ((with_reducible refine gate_dst (N := 10) rfl ?_); refine be_ 10 #[.slice none 0 0] 53 ?_; intro gb332 hg w22 hbox hb; have BK332 := A_ (hbox); have GW332 := A_ (sz_ hg (hb1_ HB.out GE328.out)); have GE332 := A_ (sz_ hg (hb1_ HB.out GE328.out)); have NB328_332 := A_ (nl_ hg BK328.out); have NB332_328 := A_ (ng_ hg BK328.out); replace HO321 := A_ (Kd.R_below (kr_ HO321.out) hb); replace HO324 := A_ (Kd.R_below (kr_ HO324.out) hb); replace HO327 := A_ (Kd.R_below (kr_ HO327.out) hb); replace HO331 := A_ (Kd.R_below (kr_ HO331.out) hb); replace BK328 := A_ (bb_ BK328.out hb); replace HB := A_ (below_step (hb1_ HB.out GE328.out) hb); clear hb hbox hg; obtain ⟨Ao23, co23, eo23⟩ := Kd.R_slice HO331.out; subst eo23; have hnb24 := NB332_328.out; have hnc24 := NB328_332.out; have hcz25_0 := bv_ BK332.out 0; have hfz25_0 := blk_frozen BK332.out 0))
 have n0_ : Aside0 (Kd.R (Kd.int .u64) 22 (w22.setCell ⟨gb332, 0, none⟩ (.slice Ao23 t329.length co23)) w.heap.size (fun k_ => some k_ ≠ (.slice Ao16 t322.length co16 : Value).ownBlock ∧ some k_ ≠ (.slice Ao19 t325.length co19 : Value).ownBlock ∧ some k_ ≠ (.slice Ao23 t329.length co23 : Value).ownBlock) (.slice Ao15 t319.length co15) t319) := ⟨by (with_reducible repeat (first | apply Kd.R_alloc | apply Kd.R_drewN | apply Kd.R_drew)); exact Kd.R_mono (Kd.R_far (p := ⟨gb332, 0, none⟩) (Kd.R_types HO321.out BK332.out (by decide)) (fun _ hk => hk.2) (.slice Ao23 t329.length co23)) (fun _ hk => ⟨hk.1.1.1.2, ⟨hk.1.1.2, hk.1.2⟩⟩)⟩
 have n1_ : Aside0 (Kd.R (Kd.int .u64) 22 (w22.setCell ⟨gb332, 0, none⟩ (.slice Ao23 t329.length co23)) w.heap.size (fun k_ => some k_ ≠ (.slice Ao15 t319.length co15 : Value).ownBlock ∧ some k_ ≠ (.slice Ao19 t325.length co19 : Value).ownBlock ∧ some k_ ≠ (.slice Ao23 t329.length co23 : Value).ownBlock) (.slice Ao16 t322.length co16) t322) := ⟨by (with_reducible repeat (first | apply Kd.R_alloc | apply Kd.R_drewN | apply Kd.R_drew)); exact Kd.R_mono (Kd.R_far (p := ⟨gb332, 0, none⟩) (Kd.R_types HO324.out BK332.out (by decide)) (fun _ hk => hk.2) (.slice Ao23 t329.length co23)) (fun _ hk => ⟨hk.1.1.1.2, ⟨hk.1.1.2, hk.1.2⟩⟩)⟩
 have n2_ : Aside0 (Kd.R (Kd.int .u64) 22 (w22.setCell ⟨gb332, 0, none⟩ (.slice Ao23 t329.length co23)) w.heap.size (fun k_ => some k_ ≠ (.slice Ao15 t319.length co15 : Value).ownBlock ∧ some k_ ≠ (.slice Ao16 t322.length co16 : Value).ownBlock ∧ some k_ ≠ (.slice Ao23 t329.length co23 : Value).ownBlock) (.slice Ao19 t325.length co19) t325) := ⟨by (with_reducible repeat (first | apply Kd.R_alloc | apply Kd.R_drewN | apply Kd.R_drew)); exact Kd.R_mono (Kd.R_far (p := ⟨gb332, 0, none⟩) (Kd.R_types HO327.out BK332.out (by decide)) (fun _ hk => hk.2) (.slice Ao23 t329.length co23)) (fun _ hk => ⟨hk.1.1.1.2, ⟨hk.1.1.2, hk.1.2⟩⟩)⟩
 have n3_ : Aside0 (Kd.R (Kd.int .u64) 22 (w22.setCell ⟨gb332, 0, none⟩ (.slice Ao23 t329.length co23)) w.heap.size (fun k_ => some k_ ≠ (.slice Ao15 t319.length co15 : Value).ownBlock ∧ some k_ ≠ (.slice Ao16 t322.length co16 : Value).ownBlock ∧ some k_ ≠ (.slice Ao19 t325.length co19 : Value).ownBlock) (.slice Ao23 t329.length co23) t329) := ⟨by (with_reducible repeat (first | apply Kd.R_alloc | apply Kd.R_drewN | apply Kd.R_drew)); exact Kd.R_mono (Kd.R_far (p := ⟨gb332, 0, none⟩) (Kd.R_types HO331.out BK332.out (by decide)) (fun _ hk => hk.2) (.slice Ao23 t329.length co23)) (fun _ hk => ⟨hk.1.1.1.2, ⟨hk.1.1.2, hk.1.2⟩⟩)⟩
 have n4_ : Aside0 ((w22.setCell ⟨gb332, 0, none⟩ (.slice Ao23 t329.length co23)).heap[gb328]? = some (.cells #[.slice Ao19 t325.length co19] 53 (0, 0))) := ⟨bf1_ BK328.out NB328_332.out⟩
 have n5_ : Aside0 ((w22.setCell ⟨gb332, 0, none⟩ (.slice Ao23 t329.length co23)).heap[gb332]? = some (.cells #[.slice Ao23 t329.length co23] 53 (0, 0))) := ⟨by (with_reducible repeat (first | refine blk_drewN ?_ _ | refine blk_drew ?_ | refine blk_alloc ?_ _)); refine blk_put (cs := #[.slice none 0 0]) ?_ 0 _ rfl; (with_reducible repeat (first | refine blk_drewN ?_ _ | refine blk_drew ?_ | refine blk_alloc ?_ _)); exact BK332.out⟩
 have n6_ : Aside0 (Below w.heap.size w (w22.setCell ⟨gb332, 0, none⟩ (.slice Ao23 t329.length co23))) := ⟨hb2_ HB.out GE328.out GE332.out⟩
 (try clear HO321);(try clear HO324);(try clear HO327);(try clear HO331);(try clear BK328);(try clear BK332);(try clear HB)
 generalize (w22.setCell ⟨gb332, 0, none⟩ (.slice Ao23 t329.length co23)) = w26 at n0_ n1_ n2_ n3_ n4_ n5_ n6_ ⊢
 have HO321 := n0_;have HO324 := n1_;have HO327 := n2_;have HO331 := n3_;have BK328 := n4_;have BK332 := n5_;have HB := n6_;clear n0_ n1_ n2_ n3_ n4_ n5_ n6_
 replace HO321 := A_ (Kd.R_drew HO321.out)
 replace HO324 := A_ (Kd.R_drew HO324.out)
 replace HO327 := A_ (Kd.R_drew HO327.out)
 replace HO331 := A_ (Kd.R_drew HO331.out)
 replace BK328 := A_ (blk_drew BK328.out)
 replace BK332 := A_ (blk_drew BK332.out)
 replace HB := A_ (below_drew1 HB.out)
 refine start_ (n := 13) (S := fun w' => w'.cell? ⟨gb328, 0, none⟩ = some (.slice Ao19 t325.length co19) ∧ w'.cell? ⟨gb332, 0, none⟩ = some (.slice Ao23 t329.length co23)) (ds := []) #[false, false, false, false, false, false, false, false, false, false, false, false, false] (by kernel_rfl) rfl rfl ⟨bc_ BK328.out 0, bc_ BK332.out 0⟩ (fun hHeld => ?_); refine with_tabW r7_over.tab4 r7_over.bits4 (fun HT_ HW_ => ?_)
 generalize w26.drew = w27 at HO321 HO324 HO327 HO331 BK328 BK332 HB hHeld ⊢
 refine pu_ 1 (some 24) #[false, true, false, false, false, false, false, false, false, false, false, false, false] rfl rfl (any_of HT_.out (by kernel_rfl)) ?_
 refine pu_ 2 (some 25) #[false, true, true, false, false, false, false, false, false, false, false, false, false] rfl rfl (any_of HT_.out (by kernel_rfl)) ?_
 refine pu_ 3 (some 26) #[false, true, true, true, false, false, false, false, false, false, false, false, false] rfl rfl (any_of HT_.out (by kernel_rfl)) ?_
 refine pu_ 4 (some 27) #[false, true, true, true, true, false, false, false, false, false, false, false, false] rfl rfl (any_of HT_.out (by kernel_rfl)) ?_
 refine pu_ 7 (some 30) #[false, true, true, true, true, false, false, true, false, false, false, false, false] rfl rfl (any_of HT_.out (by kernel_rfl)) ?_
 refine pu_ 8 (some 31) #[false, true, true, true, true, false, false, true, true, false, false, false, false] rfl rfl (any_of HT_.out (by kernel_rfl)) ?_
 refine pu_ 9 (some 32) #[false, true, true, true, true, false, false, true, true, true, false, false, false] rfl rfl (any_of HT_.out (by kernel_rfl)) ?_
 refine tk2_ 0 (some 23) #[true, true, true, true, true, false, false, true, true, true, false, false, false] rfl rfl (take_ofW HT_.out HW_.out (by kernel_rfl)) hHeld ?_
 refine tk2_ 6 (some 29) #[true, true, true, true, true, false, true, true, true, true, false, false, false] rfl rfl (take_ofW HT_.out HW_.out (by kernel_rfl)) hHeld ?_
 refine one_ (i := 5) (N := some 28) #[true, true, true, true, true, true, true, true, true, true, false, false, false] rfl rfl (one_of HT_.out (by kernel_rfl)) (by decide) (fun K hK => ?_)
 refine goes_ Try.func32 (by kernel_rfl) rfl #[.agg #[.slice Ao19 t325.length co19], .int .i64 (wrap64 ((wrap64 (2 * a1)) - (ji9)))] (by rfl) rfl rfl (by (try simp only [List.map_toArray, List.map_cons, List.map_nil]); first | done | (simp only [hji9]; rfl) | rfl | (simp only [List.length_drop, List.length_take]; rfl)) ?_
 with_reducible refine (r1_Shl.calls k _ _ t325 (wrap64 ((wrap64 (2 * a1)) - (ji9))) t333 _ ?side1 ?side2 A10.out).mono ?_
 (case side1 => exact cs_ ((Kd.R_reads' HO327.out).2.2))
 (case side2 => exact (Kd.R_reads' HO327.out).2.1)
 rintro e w28 ⟨v334, rfl, ho0, hb⟩
 refine ⟨_, rfl, ?_⟩
 have HO335 := A_ (Kd.R_lower (Kd.R_new' (Kd.R_new' (Kd.R_new' (Kd.R_new' ho0 (Kd.R_lt (kr_ HO321.out))) (Kd.R_lt (kr_ HO324.out))) (Kd.R_lt (kr_ HO327.out))) (Kd.R_lt (kr_ HO331.out))) (below_size (hb2_ HB.out GE328.out GE332.out)))
 replace HO321 := A_ (Kd.R_elder' (kr_ HO321.out) (Kd.R_base ho0) hb)
 replace HO324 := A_ (Kd.R_elder' (kr_ HO324.out) (Kd.R_base ho0) hb)
 replace HO327 := A_ (Kd.R_elder' (kr_ HO327.out) (Kd.R_base ho0) hb)
 replace HO331 := A_ (Kd.R_elder' (kr_ HO331.out) (Kd.R_base ho0) hb)
 replace BK328 := A_ (bb_ BK328.out hb)
 replace BK332 := A_ (bb_ BK332.out hb)
 replace HB := A_ (below_step (hb2_ HB.out GE328.out GE332.out) hb);(try clear hb);(try clear hb2);(try clear hk);(try clear hi);(try clear ho0)
 refine hK.out _ _ ⟨bc_ BK328.out 0, bc_ BK332.out 0⟩ (fun hHeld => ?_)
 clear hK K
 refine norm_ (a' := ?_) ?_ ?_
 rotate_left
 ·show Act.put _ (some 28) _ = _
  simp only [Act.put, lI_, l0_, lS_, i64_w, i32_w]
  rfl
 refine one_ (i := 10) (N := some 33) #[true, true, true, true, true, true, true, true, true, true, true, false, false] rfl rfl (one_of HT_.out (by kernel_rfl)) (by decide) (fun K hK => ?_)
 refine goes_ Try.func32 (by kernel_rfl) rfl #[.agg #[.slice Ao23 t329.length co23], .int .i64 (wrap64 (a3 - (ji9)))] (by rfl) rfl rfl (by (try simp only [List.map_toArray, List.map_cons, List.map_nil]); first | done | (simp only [hji9]; rfl) | rfl | (simp only [List.length_drop, List.length_take]; rfl)) ?_
 with_reducible refine (r1_Shl.calls k _ _ t329 (wrap64 (a3 - (ji9))) t336 _ ?side1 ?side2 A11.out).mono ?_
 (case side1 => exact cs_ ((Kd.R_reads' HO331.out).2.2))
 (case side2 => exact (Kd.R_reads' HO331.out).2.1)
 rintro e w29 ⟨v337, rfl, ho0, hb⟩
 refine ⟨_, rfl, ?_⟩
 have HO338 := A_ (Kd.R_lower (Kd.R_new' (Kd.R_new' (Kd.R_new' (Kd.R_new' (Kd.R_new' ho0 (Kd.R_lt (kr_ HO321.out))) (Kd.R_lt (kr_ HO324.out))) (Kd.R_lt (kr_ HO327.out))) (Kd.R_lt (kr_ HO331.out))) (Kd.R_lt (kr_ HO335.out))) (below_size (hb2_ HB.out GE328.out GE332.out)))
 replace HO321 := A_ (Kd.R_elder' (kr_ HO321.out) (Kd.R_base ho0) hb)
 replace HO324 := A_ (Kd.R_elder' (kr_ HO324.out) (Kd.R_base ho0) hb)
 replace HO327 := A_ (Kd.R_elder' (kr_ HO327.out) (Kd.R_base ho0) hb)
 replace HO331 := A_ (Kd.R_elder' (kr_ HO331.out) (Kd.R_base ho0) hb)
 replace HO335 := A_ (Kd.R_elder' (kr_ HO335.out) (Kd.R_base ho0) hb)
 replace BK328 := A_ (bb_ BK328.out hb)
 replace BK332 := A_ (bb_ BK332.out hb)
 replace HB := A_ (below_step (hb2_ HB.out GE328.out GE332.out) hb);(try clear hb);(try clear hb2);(try clear hk);(try clear hi);(try clear ho0)
 obtain ⟨Ao30, co30, eo30⟩ := Kd.R_slice HO335.out
 (first | subst eo30 | (injection eo30 with f1_ f2_ f3_; have f4_ := f1_.symm; have f5_ := f3_.symm; clear f1_ f2_ f3_; subst f4_; subst f5_))
 obtain ⟨Ao31, co31, eo31⟩ := Kd.R_slice HO338.out
 (first | subst eo31 | (injection eo31 with f1_ f2_ f3_; have f4_ := f1_.symm; have f5_ := f3_.symm; clear f1_ f2_ f3_; subst f4_; subst f5_))
 refine hK.out _ _ ⟨bc_ BK328.out 0, bc_ BK332.out 0⟩ (fun hHeld => ?_)
 clear hK K
 refine norm_ (a' := ?_) ?_ ?_
 rotate_left
 ·show Act.put _ (some 33) _ = _
  simp only [Act.put, lI_, l0_, lS_, i64_w, i32_w]
  rfl
 refine one_ (i := 11) (N := some 34) #[true, true, true, true, true, true, true, true, true, true, true, true, false] rfl rfl (one_of HT_.out (by kernel_rfl)) (by decide) (fun K hK => ?_)
 refine goes_ Try.func41 (by kernel_rfl) rfl #[.agg #[.slice Ao30 t333.length co30], .agg #[.slice Ao31 t336.length co31]] (by rfl) rfl rfl mp_ ?_
 with_reducible refine (r1_Cmp.calls k _ _ t333 _ _ t336 t339 _ ?side1 ?side2 ?side3 ?side4 A12.out).mono ?_
 (case side1 => exact cs_ ((Kd.R_reads' HO335.out).2.2))
 (case side2 => exact (Kd.R_reads' HO335.out).2.1)
 (case side3 => exact cs_ ((Kd.R_reads' HO338.out).2.2))
 (case side4 => exact (Kd.R_reads' HO338.out).2.1)
 rintro e w32 ⟨rfl, hb⟩
 refine ⟨_, rfl, ?_⟩
 replace HO321 := A_ (Kd.R_below (kr_ HO321.out) hb)
 replace HO324 := A_ (Kd.R_below (kr_ HO324.out) hb)
 replace HO327 := A_ (Kd.R_below (kr_ HO327.out) hb)
 replace HO331 := A_ (Kd.R_below (kr_ HO331.out) hb)
 replace HO335 := A_ (Kd.R_below (kr_ HO335.out) hb)
 replace HO338 := A_ (Kd.R_below (kr_ HO338.out) hb)
 replace BK328 := A_ (bb_ BK328.out hb)
 replace BK332 := A_ (bb_ BK332.out hb)
 replace HB := A_ (below_step (hb2_ HB.out GE328.out GE332.out) hb);(try clear hb);(try clear hb2);(try clear hk);(try clear hi)
 refine hK.out _ _ ⟨bc_ BK328.out 0, bc_ BK332.out 0⟩ (fun hHeld => ?_)
 clear hK K
 refine norm_ (a' := ?_) ?_ ?_
 rotate_left
 ·show Act.put _ (some 34) _ = _
  simp only [Act.put, lI_, l0_, lS_, i64_w, i32_w]
  rfl
 refine pu_ 12 (some 8) #[true, true, true, true, true, true, true, true, true, true, true, true, true] rfl rfl (any_of HT_.out (by kernel_rfl)) ?_
 refine done_ (done_of HT_.out (by kernel_rfl)) ?_
 try go_wp2
 go_ret
 exact ⟨by first | rfl | (simp [errW_none, errW_some] <;> rfl) | (simp only [← hji9]; first | rfl | (simp [errW_none, errW_some] <;> rfl)) | (simp [*, errW_none, errW_some] <;> rfl), hb2_ HB.out GE328.out GE332.out⟩
def r7_side.f (k : Nat) (a0 : Int) (a1 : Int) (a2_0 : Bool) (a2_1 : Int) (a2_2 : Int) (a2_3 : Int) : Option (Int) := (r2_Open.f k a0 a1).bind fun bt341 => (if bt341.2.1 = 0 then ((r2_Open.f k a0 1).bind fun bt346 => ((r7_over.f k (IntKind.u64.wrap ((IntKind.u64.wrap (2 * bt341.2.2.2)) + 1)) (wrap64 (bt346.2.2.1 - 1)) a2_3 a2_2).bind fun t350 => (some (wrap64 (-t350))))) else ((r7_over.f k (IntKind.u64.wrap ((IntKind.u64.wrap (2 * bt341.2.2.2)) + 1)) (wrap64 (bt341.2.2.1 - 1)) a2_3 a2_2).bind fun t351 => (some (wrap64 (-t351)))))
theorem r7_side.mono : ∀ a0 a1 a2 a3 a4 a5 k, LeO (r7_side.f k a0 a1 a2 a3 a4 a5) (r7_side.f (k + 1) a0 a1 a2 a3 a4 a5) := by
 intro a0 a1 a2 a3 a4 a5 k
 unfold r7_side.f
 repeat' first
   | (with_reducible exact r2_Open.mono _ _ _)
   | (with_reducible exact r7_over.mono _ _ _ _ _)
   | (with_reducible exact LeO.refl _)
   | (with_reducible exact LeO.none _)
   | (with_reducible refine LeO.ite ?_ ?_)
   | (with_reducible refine LeO.bind ?_ (fun _ => ?_))
   | exact r2_Open.mono _ _ _
   | exact r7_over.mono _ _ _ _ _
   | exact LeO.none _
   | refine LeO.ite ?_ ?_
   | refine LeO.bind ?_ (fun _ => ?_)
theorem r7_side.calls (k : Nat) (a0 : Int) (a1 : Int) (a2_0 : Bool) (a2_1 : Int) (a2_2 : Int) (a2_3 : Int) (r : Int) (w : World) (h : r7_side.f k a0 a1 a2_0 a2_1 a2_2 a2_3 = some r) :
  Calls Try.prog 50 #[.int .i64 a0, .int .u64 a1, .agg #[.bool a2_0, .int .i64 a2_1, .int .i64 a2_2, .int .u64 a2_3]] w fun e w' => e = .returned (.int .i64 r) ∧ Below w.heap.size w w' := by
 have hu67 := Try.underlying67
 have hfl67_2 : ∀ (v0_ v1_ v2_ v3_ : Value) (W : World), (Instr.field 67 (.agg #[v0_, v1_, v2_, v3_]) 2).run Try.prog W = .ok v2_ W := fun _ _ _ _ _ => by rfl
 have HB := A_ (Below.refl w.heap.size w)
 have H : ((r2_Open.f k a0 a1).bind fun bt341 => (if bt341.2.1 = 0 then ((r2_Open.f k a0 1).bind fun bt346 => ((r7_over.f k (IntKind.u64.wrap ((IntKind.u64.wrap (2 * bt341.2.2.2)) + 1)) (wrap64 (bt346.2.2.1 - 1)) a2_3 a2_2).bind fun t350 => (some (wrap64 (-t350))))) else ((r7_over.f k (IntKind.u64.wrap ((IntKind.u64.wrap (2 * bt341.2.2.2)) + 1)) (wrap64 (bt341.2.2.1 - 1)) a2_3 a2_2).bind fun t351 => (some (wrap64 (-t351)))))) = some r := h
 clear h
 replace H := ob_ H
 obtain ⟨⟨t341, t342, t343, t344⟩, A40, H⟩ := H
 replace H : (if t342 = 0 then ((r2_Open.f k a0 1).bind fun bt346 => ((r7_over.f k (IntKind.u64.wrap ((IntKind.u64.wrap (2 * t344)) + 1)) (wrap64 (bt346.2.2.1 - 1)) a2_3 a2_2).bind fun t350 => (some (wrap64 (-t350))))) else ((r7_over.f k (IntKind.u64.wrap ((IntKind.u64.wrap (2 * t344)) + 1)) (wrap64 (t343 - 1)) a2_3 a2_2).bind fun t351 => (some (wrap64 (-t351))))) = some r := H
 have A4 := A_ A40;clear A40
 by_cases c5 : t342 = 0
 ·rw [if_pos c5] at H
  have c5b0 : (t342 == 0) = true := beq_iff_eq.mpr c5
  have c5b1 : (t342 != 0) = false := bne_eq_false_iff_eq.mpr c5
  clear c5
  replace H := ob_ H
  obtain ⟨⟨t346, t347, t348, t349⟩, A60, H⟩ := H
  replace H : ((r7_over.f k (IntKind.u64.wrap ((IntKind.u64.wrap (2 * t344)) + 1)) (wrap64 (t348 - 1)) a2_3 a2_2).bind fun t350 => (some (wrap64 (-t350)))) = some r := H
  have A6 := A_ A60;clear A60
  replace H := ob_ H
  obtain ⟨t350, A70, H⟩ := H
  replace H : (some (wrap64 (-t350))) = some r := H
  have A7 := A_ A70;clear A70
  obtain rfl := Option.some.inj H
  go_enter Try.func50, Try.ntmps50
  go_wp2_with (first | ((with_reducible refine gate_dst (N := 5) rfl ?_); refine be_ 5 #[.bool a2_0, .int .i64 a2_1, .int .i64 a2_2, .int .u64 a2_3] 67 ?_; intro gb340 hg w8 hbox hb; have BK340 := A_ (hbox); have GW340 := A_ (sz_ hg (hb_ HB.out)); have GE340 := A_ (sz_ hg (hb_ HB.out)); replace HB := A_ (below_step (hb_ HB.out) hb); clear hb hbox hg) | ((with_reducible refine gate_callee (f := 46) rfl ?_); refine gl_ (some 10) Try.func46 #[.int .i64 a0, .int .u64 a1] ?_; (with_reducible refine (r2_Open.calls k a0 a1 t341 t342 t343 t344 _ A4.out).mono ?_); rintro e w9 ⟨rfl, hb⟩; refine ⟨_, rfl, ?_⟩; replace BK340 := A_ (bb_ BK340.out hb); replace HB := A_ (below_step (hb1_ HB.out GE340.out) hb); (try clear hb); (try clear hb2); (try clear hk); (try clear hi)) | ((with_reducible refine gate_dst (N := 7) rfl ?_); refine be_ 7 #[.bool false, .int .i64 0, .int .i64 0, .int .u64 0] 67 ?_; intro gb345 hg w10 hbox hb; have BK345 := A_ (hbox); have GW345 := A_ (sz_ hg (hb1_ HB.out GE340.out)); have GE345 := A_ (sz_ hg (hb1_ HB.out GE340.out)); have NB340_345 := A_ (nl_ hg BK340.out); have NB345_340 := A_ (ng_ hg BK340.out); replace BK340 := A_ (bb_ BK340.out hb); replace HB := A_ (below_step (hb1_ HB.out GE340.out) hb); clear hb hbox hg; have hnb11 := NB345_340.out; have hnc11 := NB340_345.out; have hcz12_0 := bv_ BK345.out 0; have hcz12_1 := bv_ BK345.out 1; have hcz12_2 := bv_ BK345.out 2; have hcz12_3 := bv_ BK345.out 3; have hfz12_0 := blk_frozen BK345.out 0; have hfz12_1 := blk_frozen BK345.out 1; have hfz12_2 := blk_frozen BK345.out 2; have hfz12_3 := blk_frozen BK345.out 3) | ((with_reducible refine gate_callee (f := 46) rfl ?_); refine gl_ (some 15) Try.func46 #[.int .i64 a0, .int .u64 1] ?_; (with_reducible refine (r2_Open.calls k a0 1 t346 t347 t348 t349 _ A6.out).mono ?_); rintro e w13 ⟨rfl, hb⟩; refine ⟨_, rfl, ?_⟩; replace BK340 := A_ (blk_below (g := gb340) (o := .cells #[.bool a2_0, .int .i64 a2_1, .int .i64 a2_2, .int .u64 a2_3] 67 (0, 0)) (bf4_ BK340.out NB340_345.out NB340_345.out NB340_345.out NB340_345.out) hb); replace BK345 := A_ (blk_below (g := gb345) (o := .cells #[.bool t341, .int .i64 t342, .int .i64 t343, .int .u64 t344] 67 (0, 0)) (by (with_reducible repeat (first | refine blk_drewN ?_ _ | refine blk_drew ?_ | refine blk_alloc ?_ _)); refine blk_put (cs := #[.bool t341, .int .i64 t342, .int .i64 t343, .int .u64 0]) ?_ 3 _ rfl; (with_reducible repeat (first | refine blk_drewN ?_ _ | refine blk_drew ?_ | refine blk_alloc ?_ _)); refine blk_put (cs := #[.bool t341, .int .i64 t342, .int .i64 0, .int .u64 0]) ?_ 2 _ rfl; (with_reducible repeat (first | refine blk_drewN ?_ _ | refine blk_drew ?_ | refine blk_alloc ?_ _)); refine blk_put (cs := #[.bool t341, .int .i64 0, .int .i64 0, .int .u64 0]) ?_ 1 _ rfl; (with_reducible repeat (first | refine blk_drewN ?_ _ | refine blk_drew ?_ | refine blk_alloc ?_ _)); refine blk_put (cs := #[.bool false, .int .i64 0, .int .i64 0, .int .u64 0]) ?_ 0 _ rfl; (with_reducible repeat (first | refine blk_drewN ?_ _ | refine blk_drew ?_ | refine blk_alloc ?_ _)); exact BK345.out) hb); replace HB := A_ (below_step (hb2_ HB.out GE340.out GE345.out) hb); (try clear hb); (try clear hb2); (try clear hk); (try clear hi); have hcz14_0 := bv_ BK345.out 0; have hcz14_1 := bv_ BK345.out 1; have hcz14_2 := bv_ BK345.out 2; have hcz14_3 := bv_ BK345.out 3; have hfz14_0 := blk_frozen BK345.out 0; have hfz14_1 := blk_frozen BK345.out 1; have hfz14_2 := blk_frozen BK345.out 2; have hfz14_3 := blk_frozen BK345.out 3; have hcz15_0 := bv_ BK340.out 0; have hcz15_1 := bv_ BK340.out 1; have hcz15_2 := bv_ BK340.out 2; have hcz15_3 := bv_ BK340.out 3; have hfz15_0 := blk_frozen BK340.out 0; have hfz15_1 := blk_frozen BK340.out 1; have hfz15_2 := blk_frozen BK340.out 2; have hfz15_3 := blk_frozen BK340.out 3) | ((with_reducible refine gate_callee (f := 84) rfl ?_); refine gl_ (some 29) Try.func84 #[.int .u64 (IntKind.u64.wrap ((IntKind.u64.wrap (2 * t344)) + 1)), .int .i64 (wrap64 (t348 - 1)), .int .u64 a2_3, .int .i64 a2_2] ?_; (with_reducible refine (r7_over.calls k (IntKind.u64.wrap ((IntKind.u64.wrap (2 * t344)) + 1)) (wrap64 (t348 - 1)) a2_3 a2_2 t350 _ A7.out).mono ?_); rintro e w16 ⟨rfl, hb⟩; refine ⟨_, rfl, ?_⟩; replace BK340 := A_ (blk_below (g := gb340) (o := .cells #[.bool a2_0, .int .i64 a2_1, .int .i64 a2_2, .int .u64 a2_3] 67 (0, 0)) (bf1_ BK340.out NB340_345.out) hb); replace BK345 := A_ (blk_below (g := gb345) (o := .cells #[.bool t341, .int .i64 t342, .int .i64 t348, .int .u64 t344] 67 (0, 0)) (by (with_reducible repeat (first | refine blk_drewN ?_ _ | refine blk_drew ?_ | refine blk_alloc ?_ _)); refine blk_put (cs := #[.bool t341, .int .i64 t342, .int .i64 t343, .int .u64 t344]) ?_ 2 _ rfl; (with_reducible repeat (first | refine blk_drewN ?_ _ | refine blk_drew ?_ | refine blk_alloc ?_ _)); exact BK345.out) hb); replace HB := A_ (below_step (hb2_ HB.out GE340.out GE345.out) hb); (try clear hb); (try clear hb2); (try clear hk); (try clear hi)))
  go_ret
  exact ⟨er_, hb2_ HB.out GE340.out GE345.out⟩
 ·rw [if_neg c5] at H
  have c5b0 : (t342 == 0) = false := beq_eq_false_iff_ne.mpr c5
  have c5b1 : (t342 != 0) = true := bne_iff_ne.mpr c5
  replace H := ob_ H
  obtain ⟨t351, A170, H⟩ := H
  replace H : (some (wrap64 (-t351))) = some r := H
  have A17 := A_ A170;clear A170
  obtain rfl := Option.some.inj H
  go_enter Try.func50, Try.ntmps50
  go_wp2_with (first | ((with_reducible refine gate_dst (N := 5) rfl ?_); refine be_ 5 #[.bool a2_0, .int .i64 a2_1, .int .i64 a2_2, .int .u64 a2_3] 67 ?_; intro gb340 hg w18 hbox hb; have BK340 := A_ (hbox); have GW340 := A_ (sz_ hg (hb_ HB.out)); have GE340 := A_ (sz_ hg (hb_ HB.out)); replace HB := A_ (below_step (hb_ HB.out) hb); clear hb hbox hg) | ((with_reducible refine gate_callee (f := 46) rfl ?_); refine gl_ (some 10) Try.func46 #[.int .i64 a0, .int .u64 a1] ?_; (with_reducible refine (r2_Open.calls k a0 a1 t341 t342 t343 t344 _ A4.out).mono ?_); rintro e w19 ⟨rfl, hb⟩; refine ⟨_, rfl, ?_⟩; replace BK340 := A_ (bb_ BK340.out hb); replace HB := A_ (below_step (hb1_ HB.out GE340.out) hb); (try clear hb); (try clear hb2); (try clear hk); (try clear hi)) | ((with_reducible refine gate_dst (N := 7) rfl ?_); refine be_ 7 #[.bool false, .int .i64 0, .int .i64 0, .int .u64 0] 67 ?_; intro gb345 hg w20 hbox hb; have BK345 := A_ (hbox); have GW345 := A_ (sz_ hg (hb1_ HB.out GE340.out)); have GE345 := A_ (sz_ hg (hb1_ HB.out GE340.out)); have NB340_345 := A_ (nl_ hg BK340.out); have NB345_340 := A_ (ng_ hg BK340.out); replace BK340 := A_ (bb_ BK340.out hb); replace HB := A_ (below_step (hb1_ HB.out GE340.out) hb); clear hb hbox hg; have hnb21 := NB345_340.out; have hnc21 := NB340_345.out; have hcz22_0 := bv_ BK345.out 0; have hcz22_1 := bv_ BK345.out 1; have hcz22_2 := bv_ BK345.out 2; have hcz22_3 := bv_ BK345.out 3; have hfz22_0 := blk_frozen BK345.out 0; have hfz22_1 := blk_frozen BK345.out 1; have hfz22_2 := blk_frozen BK345.out 2; have hfz22_3 := blk_frozen BK345.out 3; have hcz23_0 := bv_ BK340.out 0; have hcz23_1 := bv_ BK340.out 1; have hcz23_2 := bv_ BK340.out 2; have hcz23_3 := bv_ BK340.out 3; have hfz23_0 := blk_frozen BK340.out 0; have hfz23_1 := blk_frozen BK340.out 1; have hfz23_2 := blk_frozen BK340.out 2; have hfz23_3 := blk_frozen BK340.out 3) | ((with_reducible refine gate_callee (f := 84) rfl ?_); refine gl_ (some 29) Try.func84 #[.int .u64 (IntKind.u64.wrap ((IntKind.u64.wrap (2 * t344)) + 1)), .int .i64 (wrap64 (t343 - 1)), .int .u64 a2_3, .int .i64 a2_2] ?_; (with_reducible refine (r7_over.calls k (IntKind.u64.wrap ((IntKind.u64.wrap (2 * t344)) + 1)) (wrap64 (t343 - 1)) a2_3 a2_2 t351 _ A17.out).mono ?_); rintro e w24 ⟨rfl, hb⟩; refine ⟨_, rfl, ?_⟩; replace BK340 := A_ (blk_below (g := gb340) (o := .cells #[.bool a2_0, .int .i64 a2_1, .int .i64 a2_2, .int .u64 a2_3] 67 (0, 0)) (bf4_ BK340.out NB340_345.out NB340_345.out NB340_345.out NB340_345.out) hb); replace BK345 := A_ (blk_below (g := gb345) (o := .cells #[.bool t341, .int .i64 t342, .int .i64 t343, .int .u64 t344] 67 (0, 0)) (by (with_reducible repeat (first | refine blk_drewN ?_ _ | refine blk_drew ?_ | refine blk_alloc ?_ _)); refine blk_put (cs := #[.bool t341, .int .i64 t342, .int .i64 t343, .int .u64 0]) ?_ 3 _ rfl; (with_reducible repeat (first | refine blk_drewN ?_ _ | refine blk_drew ?_ | refine blk_alloc ?_ _)); refine blk_put (cs := #[.bool t341, .int .i64 t342, .int .i64 0, .int .u64 0]) ?_ 2 _ rfl; (with_reducible repeat (first | refine blk_drewN ?_ _ | refine blk_drew ?_ | refine blk_alloc ?_ _)); refine blk_put (cs := #[.bool t341, .int .i64 0, .int .i64 0, .int .u64 0]) ?_ 1 _ rfl; (with_reducible repeat (first | refine blk_drewN ?_ _ | refine blk_drew ?_ | refine blk_alloc ?_ _)); refine blk_put (cs := #[.bool false, .int .i64 0, .int .i64 0, .int .u64 0]) ?_ 0 _ rfl; (with_reducible repeat (first | refine blk_drewN ?_ _ | refine blk_drew ?_ | refine blk_alloc ?_ _)); exact BK345.out) hb); replace HB := A_ (below_step (hb2_ HB.out GE340.out GE345.out) hb); (try clear hb); (try clear hb2); (try clear hk); (try clear hi)))
  go_ret
  exact ⟨er_, hb2_ HB.out GE340.out GE345.out⟩
end Go.Proofs.Ytjjehbedpgdhgaa.PA
