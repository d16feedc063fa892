/- What the Go functions that the statement NumericSwaps reaches compute, and the mathematics on it, in the order in which one leans on the other; for every input. -/
import Derived.Test.YtnmlmgmljoncoaaGreatDoorVNumericSwaps0
import Derived.Test.YtnmlmgmljoncoaaGreatDoorMNumericSwaps0
import Derived.Test.YtnmlmgmljoncoaaGreatDoorMNumericSwaps10
import Derived.Test.YtnmlmgmljoncoaaGreatDoorMNumericSwaps1
namespace Go.Proofs.YtnmlmgmljoncoaaGreatDoor.PA
open Go.RowKit Go.Proofs.YtnmlmgmljoncoaaGreatDoorW.PrintWords Go.Proofs.YtnmlmgmljoncoaaGreatDoorW.PrintLast Go.Proofs.YtnmlmgmljoncoaaGreatDoorW.PrintMore
attribute [local go_sem] max2_int min2_int max_two min_two max_three min_three max_four min_four   -- for this text's walks alone
set_option linter.unusedVariables false
set_option linter.unusedSimpArgs false
set_option maxHeartbeats 8000000
set_option maxRecDepth 100000
def ints_Rotr.f (a0 : Int) (a1 : Int) (a2 : Int) : Option (Int) := if a0 = 32 then some (IntKind.u64.wrap (Go.bits .or .u32 ((a1 % 4294967296) * 2 ^ min (Go.bits .and .u64 (IntKind.u64.wrap (wrap64 (-(wrap64 (Int.tmod a2 32))))) 31).toNat 32 % 4294967296) ((a1 % 4294967296) / 2 ^ min (IntKind.u64.wrap (32 - Go.bits .and .u64 (IntKind.u64.wrap (wrap64 (-(wrap64 (Int.tmod a2 32))))) 31)).toNat 32))) else if a0 = 64 then some (Go.bits .or .u64 (IntKind.u64.wrap (a1 * 2 ^ min (Go.bits .and .u64 (IntKind.u64.wrap (wrap64 (-(wrap64 (Int.tmod a2 64))))) 63).toNat 64)) (a1 / 2 ^ min (IntKind.u64.wrap (64 - Go.bits .and .u64 (IntKind.u64.wrap (wrap64 (-(wrap64 (Int.tmod a2 64))))) 63)).toNat 64)) else some 0
theorem ints_Rotr.pos (x y : Int) : 0 ≤ Go.bits .and .u64 x y := by
 unfold Go.bits; rw [IntKind.wrap_u64]; omega
theorem ints_Rotr.posw (x : Int) : 0 ≤ IntKind.u64.wrap x := by rw [IntKind.wrap_u64]; omega
theorem ints_Rotr.calls (a0 : Int) (a1 : Int) (a2 : Int) (r : Int) (w : World) (h : ints_Rotr.f a0 a1 a2 = some r) :
  Calls Tryz.prog 138 #[.int .i64 a0, .int .u64 a1, .int .u64 a2] w fun e w' => e = .returned (.int .u64 r) ∧ Below w.heap.size w w' := by
 unfold ints_Rotr.f at h
 by_cases c3 : a0 = 32
 ·rw [if_pos c3] at h
  subst c3
  have p0 := eq_true (ints_Rotr.pos (IntKind.u64.wrap (wrap64 (-(wrap64 (Int.tmod a2 32))))) 31)
  have p1 := eq_true (ints_Rotr.posw (32 - Go.bits .and .u64 (IntKind.u64.wrap (wrap64 (-(wrap64 (Int.tmod a2 32))))) 31))
  have H := A_ (Option.some.inj h)
  clear h
  go_enter Tryz.func138, Tryz.ntmps138
  go_wp2_with go_in
  go_ret
  exact ⟨by rw [← H.out]; first | rfl | (simp; done) | (go_simp; done), below_alloc (Below.refl _ _) _⟩
 ·rw [if_neg c3] at h
  by_cases c4 : a0 = 64
  ·rw [if_pos c4] at h
   subst c4
   clear c3
   have p0 := eq_true (ints_Rotr.pos (IntKind.u64.wrap (wrap64 (-(wrap64 (Int.tmod a2 64))))) 63)
   have p1 := eq_true (ints_Rotr.posw (64 - Go.bits .and .u64 (IntKind.u64.wrap (wrap64 (-(wrap64 (Int.tmod a2 64))))) 63))
   have H := A_ (Option.some.inj h)
   clear h
   go_enter Tryz.func138, Tryz.ntmps138
   go_wp2_with go_in
   go_ret
   exact ⟨by rw [← H.out]; first | rfl | (simp; done) | (go_simp; done), below_alloc (Below.refl _ _) _⟩
  ·rw [if_neg c4] at h
   have c3b0 : (a0 == 32) = false := beq_eq_false_iff_ne.mpr c3
   have c4b0 : (a0 == 64) = false := beq_eq_false_iff_ne.mpr c4
   clear c3 c4
   obtain rfl := Option.some.inj h
   clear h
   go_enter Tryz.func138, Tryz.ntmps138
   go_wp2_with go_in
   go_ret
   exact ⟨by first | rfl | (simp; done), below_alloc (Below.refl _ _) _⟩
def ints_by.f (a0 : Int) (a1 : Int) : Option (Int) := (ints_known.f a0).bind fun t232 => (if t232 = true then (if (IntKind.u64.wrap (a0)) = 0 then (none) else (some (wrap64 (Int.tmod a1 (IntKind.u64.wrap (a0)))))) else (some 0))
theorem ints_by.calls (a0 : Int) (a1 : Int) (r : Int) (w : World) (h : ints_by.f a0 a1 = some r) :
  Calls Tryz.prog 205 #[.int .i64 a0, .int .u64 a1] w fun e w' => e = .returned (.int .i64 r) ∧ Drawn0 w w' := by
 have H : ((ints_known.f a0).bind fun t232 => (if t232 = true then (if (IntKind.u64.wrap (a0)) = 0 then (none) else (some (wrap64 (Int.tmod a1 (IntKind.u64.wrap (a0)))))) else (some 0))) = some r := h
 clear h
 replace H := ob_ H
 obtain ⟨t232, A30, H⟩ := H
 replace H : (if t232 = true then (if (IntKind.u64.wrap (a0)) = 0 then (none) else (some (wrap64 (Int.tmod a1 (IntKind.u64.wrap (a0)))))) else (some 0)) = some r := H
 have A3 := A_ A30;clear A30
 by_cases c4 : t232 = true
 ·subst c4
  have H1 : (if (IntKind.u64.wrap (a0)) = 0 then (none) else (some (wrap64 (Int.tmod a1 (IntKind.u64.wrap (a0)))))) = some r := by rw [if_pos rfl] at H; exact H
  clear H;have H := H1;clear H1
  by_cases c5 : (IntKind.u64.wrap (a0)) = 0
  ·rw [if_pos c5] at H
   exact absurd H (by simp)
  ·rw [if_neg c5] at H
   have c5b0 : ((IntKind.u64.wrap (a0)) == 0) = false := beq_eq_false_iff_ne.mpr c5
   have c5b1 : ((IntKind.u64.wrap (a0)) != 0) = true := bne_iff_ne.mpr c5
   obtain rfl := Option.some.inj H
   go_enter Tryz.func205, Tryz.ntmps205
   go_wp2_with (first | ((with_reducible refine gate_callee (f := 121) rfl ?_); refine goesL_ (some 6) rfl rfl Tryz.func121 (by kernel_rfl) rfl #[.int .i64 a0] rfl mp_ ?_; (with_reducible refine (ints_known.calls a0 true _ A3.out).mono ?_); rintro e w' ⟨rfl, ⟨nd, rfl⟩⟩; refine ⟨_, rfl, ?_⟩))
   go_ret
   exact ⟨sm_, by repeat (first | exact Drawn0.refl _ | apply Drawn0.step)⟩
 ·replace c4 := Bool.eq_false_iff.mpr c4
  subst c4
  have H1 : (some 0) = some r := by rw [if_neg (show ¬ (false = true) by decide)] at H; exact H
  clear H;have H := H1;clear H1
  obtain rfl := Option.some.inj H
  go_enter Tryz.func205, Tryz.ntmps205
  go_wp2_with (first | ((with_reducible refine gate_callee (f := 121) rfl ?_); refine goesL_ (some 6) rfl rfl Tryz.func121 (by kernel_rfl) rfl #[.int .i64 a0] rfl mp_ ?_; (with_reducible refine (ints_known.calls a0 false _ A3.out).mono ?_); rintro e w' ⟨rfl, ⟨nd, rfl⟩⟩; refine ⟨_, rfl, ?_⟩))
  go_ret
  exact ⟨sm_, by repeat (first | exact Drawn0.refl _ | apply Drawn0.step)⟩
def ints_Shl.f (a0 : Int) (a1 : Int) (a2 : Int) : Option (Int) := (ints_by.f a0 a2).bind fun t233 => (if 0 ≤ t233 then ((shape_Cut.f a0 (shl .u64 a1 t233)).bind fun t234 => (some t234)) else (none))
theorem ints_Shl.calls (a0 : Int) (a1 : Int) (a2 : Int) (r : Int) (w : World) (h : ints_Shl.f a0 a1 a2 = some r) :
  Calls Tryz.prog 134 #[.int .i64 a0, .int .u64 a1, .int .u64 a2] w fun e w' => e = .returned (.int .u64 r) ∧ Drawn0 w w' := by
 have H : ((ints_by.f a0 a2).bind fun t233 => (if 0 ≤ t233 then ((shape_Cut.f a0 (shl .u64 a1 t233)).bind fun t234 => (some t234)) else (none))) = some r := h
 clear h
 replace H := ob_ H
 obtain ⟨t233, A40, H⟩ := H
 replace H : (if 0 ≤ t233 then ((shape_Cut.f a0 (shl .u64 a1 t233)).bind fun t234 => (some t234)) else (none)) = some r := H
 have A4 := A_ A40;clear A40
 by_cases c5 : 0 ≤ t233
 ·rw [if_pos c5] at H
  have c5b0 := eq_true c5
  have c5b1 : decide (0 ≤ t233) = true := decide_eq_true c5
  clear c5
  obtain ⟨ji6, hji6⟩ : ∃ j_ : Int, (shl .u64 a1 t233) = j_ := ⟨_, rfl⟩
  replace H : ((shape_Cut.f a0 (ji6)).bind fun t234 => (some t234)) = some r := by first | (rw [hji6] at H; exact H) | (simp only [hji6] at H ⊢; exact H)
  (try rw [hji6] at A4)
  have hji6_ : (IntKind.u64.wrap (a1 * 2 ^ min t233.toNat 64)) = ji6 := hji6
  have hji6z : t233 ≤ 64 → (IntKind.u64.wrap (a1 * 2 ^ t233.toNat)) = ji6 := shl_small hji6
  replace H := ob_ H
  obtain ⟨t234, A70, H⟩ := H
  replace H : (some t234) = some r := H
  have A7 := A_ A70;clear A70
  obtain rfl := Option.some.inj H
  go_enter Tryz.func134, Tryz.ntmps134
  go_wp2_with (first | ((with_reducible refine gate_callee (f := 205) rfl ?_); refine goesL_ (some 11) rfl rfl Tryz.func205 (by kernel_rfl) rfl #[.int .i64 a0, .int .u64 a2] rfl mp_ ?_; (with_reducible refine (ints_by.calls a0 a2 t233 _ A4.out).mono ?_); rintro e w' ⟨rfl, ⟨nd, rfl⟩⟩; refine ⟨_, rfl, ?_⟩) | ((with_reducible refine gate_callee (f := 17) rfl ?_); refine goesL_ (some 13) rfl rfl Tryz.func17 (by kernel_rfl) rfl #[.int .i64 a0, .int .u64 ji6] rfl (by (try simp only [List.map_toArray, List.map_cons, List.map_nil]); first | done | (simp only [hji6]; rfl) | rfl | (simp only [List.length_drop, List.length_take]; rfl)) ?_; (with_reducible refine (shape_Cut.calls a0 ji6 t234 _ A7.out).mono ?_); rintro e w' ⟨rfl, ⟨nd, rfl⟩⟩; refine ⟨_, rfl, ?_⟩))
  go_ret
  exact ⟨by first | rfl | (simp; done) | (simp only [← hji6] <;> (first | rfl | simp)) | (simp [*]; done), by repeat (first | exact Drawn0.refl _ | apply Drawn0.step)⟩
 ·rw [if_neg c5] at H
  exact absurd H (by simp)
def ints_ShrS.f (a0 : Int) (a1 : Int) (a2 : Int) : Option (Int) := (ints_signed.f a0 a1).bind fun t235 => ((ints_by.f a0 a2).bind fun t236 => (if 0 ≤ t236 then ((shape_Cut.f a0 (IntKind.u64.wrap (shr .i64 t235 t236))).bind fun t237 => (some t237)) else (none)))
theorem ints_ShrS.calls (a0 : Int) (a1 : Int) (a2 : Int) (r : Int) (w : World) (h : ints_ShrS.f a0 a1 a2 = some r) :
  Calls Tryz.prog 135 #[.int .i64 a0, .int .u64 a1, .int .u64 a2] w fun e w' => e = .returned (.int .u64 r) ∧ Drawn0 w w' := by
 have H : ((ints_signed.f a0 a1).bind fun t235 => ((ints_by.f a0 a2).bind fun t236 => (if 0 ≤ t236 then ((shape_Cut.f a0 (IntKind.u64.wrap (shr .i64 t235 t236))).bind fun t237 => (some t237)) else (none)))) = some r := h
 clear h
 replace H := ob_ H
 obtain ⟨t235, A40, H⟩ := H
 replace H : ((ints_by.f a0 a2).bind fun t236 => (if 0 ≤ t236 then ((shape_Cut.f a0 (IntKind.u64.wrap (shr .i64 t235 t236))).bind fun t237 => (some t237)) else (none))) = some r := H
 have A4 := A_ A40;clear A40
 replace H := ob_ H
 obtain ⟨t236, A50, H⟩ := H
 replace H : (if 0 ≤ t236 then ((shape_Cut.f a0 (IntKind.u64.wrap (shr .i64 t235 t236))).bind fun t237 => (some t237)) else (none)) = some r := H
 have A5 := A_ A50;clear A50
 by_cases c6 : 0 ≤ t236
 ·rw [if_pos c6] at H
  have c6b0 := eq_true c6
  have c6b1 : decide (0 ≤ t236) = true := decide_eq_true c6
  clear c6
  obtain ⟨ji7, hji7⟩ : ∃ j_ : Int, (shr .i64 t235 t236) = j_ := ⟨_, rfl⟩
  replace H : ((shape_Cut.f a0 (IntKind.u64.wrap (ji7))).bind fun t237 => (some t237)) = some r := by first | (rw [hji7] at H; exact H) | (simp only [hji7] at H ⊢; exact H)
  (try rw [hji7] at A4)
  (try rw [hji7] at A5)
  have hji7_ : (t235 / 2 ^ min t236.toNat 64) = ji7 := hji7
  have hji7z : t236 ≤ 64 → (t235 / 2 ^ t236.toNat) = ji7 := shr_small hji7
  replace H := ob_ H
  obtain ⟨t237, A80, H⟩ := H
  replace H : (some t237) = some r := H
  have A8 := A_ A80;clear A80
  obtain rfl := Option.some.inj H
  go_enter Tryz.func135, Tryz.ntmps135
  go_wp2_with (first | ((with_reducible refine gate_callee (f := 122) rfl ?_); refine goesL_ (some 10) rfl rfl Tryz.func122 (by kernel_rfl) rfl #[.int .i64 a0, .int .u64 a1] rfl mp_ ?_; (with_reducible refine (ints_signed.calls a0 a1 t235 _ A4.out).mono ?_); rintro e w' ⟨rfl, ⟨nd, rfl⟩⟩; refine ⟨_, rfl, ?_⟩) | ((with_reducible refine gate_callee (f := 205) rfl ?_); refine goesL_ (some 13) rfl rfl Tryz.func205 (by kernel_rfl) rfl #[.int .i64 a0, .int .u64 a2] rfl mp_ ?_; (with_reducible refine (ints_by.calls a0 a2 t236 _ A5.out).mono ?_); rintro e w' ⟨rfl, ⟨nd, rfl⟩⟩; refine ⟨_, rfl, ?_⟩) | ((with_reducible refine gate_callee (f := 17) rfl ?_); refine goesL_ (some 16) rfl rfl Tryz.func17 (by kernel_rfl) rfl #[.int .i64 a0, .int .u64 (IntKind.u64.wrap (ji7))] rfl (by (try simp only [List.map_toArray, List.map_cons, List.map_nil]); first | done | (simp only [hji7]; rfl) | rfl | (simp only [List.length_drop, List.length_take]; rfl)) ?_; (with_reducible refine (shape_Cut.calls a0 (IntKind.u64.wrap (ji7)) t237 _ A8.out).mono ?_); rintro e w' ⟨rfl, ⟨nd, rfl⟩⟩; refine ⟨_, rfl, ?_⟩))
  go_ret
  exact ⟨by first | rfl | (simp; done) | (simp only [← hji7] <;> (first | rfl | simp)) | (simp [*]; done), by repeat (first | exact Drawn0.refl _ | apply Drawn0.step)⟩
 ·rw [if_neg c6] at H
  exact absurd H (by simp)
def ints_ShrU.f (a0 : Int) (a1 : Int) (a2 : Int) : Option (Int) := (shape_Cut.f a0 a1).bind fun t238 => ((ints_by.f a0 a2).bind fun t239 => (if 0 ≤ t239 then (some (shr .u64 t238 t239)) else (none)))
theorem ints_ShrU.calls (a0 : Int) (a1 : Int) (a2 : Int) (r : Int) (w : World) (h : ints_ShrU.f a0 a1 a2 = some r) :
  Calls Tryz.prog 136 #[.int .i64 a0, .int .u64 a1, .int .u64 a2] w fun e w' => e = .returned (.int .u64 r) ∧ Drawn0 w w' := by
 have H : ((shape_Cut.f a0 a1).bind fun t238 => ((ints_by.f a0 a2).bind fun t239 => (if 0 ≤ t239 then (some (shr .u64 t238 t239)) else (none)))) = some r := h
 clear h
 replace H := ob_ H
 obtain ⟨t238, A40, H⟩ := H
 replace H : ((ints_by.f a0 a2).bind fun t239 => (if 0 ≤ t239 then (some (shr .u64 t238 t239)) else (none))) = some r := H
 have A4 := A_ A40;clear A40
 replace H := ob_ H
 obtain ⟨t239, A50, H⟩ := H
 replace H : (if 0 ≤ t239 then (some (shr .u64 t238 t239)) else (none)) = some r := H
 have A5 := A_ A50;clear A50
 by_cases c6 : 0 ≤ t239
 ·rw [if_pos c6] at H
  have c6b0 := eq_true c6
  have c6b1 : decide (0 ≤ t239) = true := decide_eq_true c6
  clear c6
  obtain ⟨ji7, hji7⟩ : ∃ j_ : Int, (shr .u64 t238 t239) = j_ := ⟨_, rfl⟩
  replace H : (some ji7) = some r := by first | (rw [hji7] at H; exact H) | (simp only [hji7] at H ⊢; exact H)
  (try rw [hji7] at A4)
  (try rw [hji7] at A5)
  have hji7_ : (t238 / 2 ^ min t239.toNat 64) = ji7 := hji7
  have hji7z : t239 ≤ 64 → (t238 / 2 ^ t239.toNat) = ji7 := shr_small hji7
  obtain rfl := Option.some.inj H
  go_enter Tryz.func136, Tryz.ntmps136
  go_wp2_with (first | ((with_reducible refine gate_callee (f := 17) rfl ?_); refine goesL_ (some 9) rfl rfl Tryz.func17 (by kernel_rfl) rfl #[.int .i64 a0, .int .u64 a1] rfl mp_ ?_; (with_reducible refine (shape_Cut.calls a0 a1 t238 _ A4.out).mono ?_); rintro e w' ⟨rfl, ⟨nd, rfl⟩⟩; refine ⟨_, rfl, ?_⟩) | ((with_reducible refine gate_callee (f := 205) rfl ?_); refine goesL_ (some 12) rfl rfl Tryz.func205 (by kernel_rfl) rfl #[.int .i64 a0, .int .u64 a2] rfl mp_ ?_; (with_reducible refine (ints_by.calls a0 a2 t239 _ A5.out).mono ?_); rintro e w' ⟨rfl, ⟨nd, rfl⟩⟩; refine ⟨_, rfl, ?_⟩))
  go_ret
  exact ⟨by first | rfl | (simp; done) | (simp only [← hji7] <;> (first | rfl | simp)) | (simp [*]; done), by repeat (first | exact Drawn0.refl _ | apply Drawn0.step)⟩
 ·rw [if_neg c6] at H
  exact absurd H (by simp)
def numeric_plain.f (a0 : Int) (a1 : Int) (a2 : Int) (a3 : Int) : Option (Int) := if a0 = 3 then ((ints_Add.f a1 a2 a3).bind fun t240 => (some t240)) else (if a0 = 4 then ((ints_Sub.f a1 a2 a3).bind fun t241 => (some t241)) else (if a0 = 5 then ((ints_Mul.f a1 a2 a3).bind fun t242 => (some t242)) else (if a0 = 10 then (some (Go.bits .and .u64 a2 a3)) else (if a0 = 11 then (some (Go.bits .or .u64 a2 a3)) else (if a0 = 12 then (some (Go.bits .xor .u64 a2 a3)) else (if a0 = 13 then ((ints_Shl.f a1 a2 a3).bind fun t243 => (some t243)) else (if a0 = 14 then ((ints_ShrS.f a1 a2 a3).bind fun t244 => (some t244)) else (if a0 = 15 then ((ints_ShrU.f a1 a2 a3).bind fun t245 => (some t245)) else (if a0 = 16 then ((ints_Rotl.f a1 a2 a3).bind fun t246 => (some t246)) else ((ints_Rotr.f a1 a2 a3).bind fun t247 => (some t247)))))))))))
theorem numeric_plain.calls (a0 : Int) (a1 : Int) (a2 : Int) (a3 : Int) (r : Int) (w : World) (h : numeric_plain.f a0 a1 a2 a3 = some r) :
  Calls Tryz.prog 75 #[.int .i64 a0, .int .i64 a1, .int .u64 a2, .int .u64 a3] w fun e w' => e = .returned (.int .u64 r) ∧ Below w.heap.size w w' := by
 have HB := A_ (Below.refl w.heap.size w)
 have H : (if a0 = 3 then ((ints_Add.f a1 a2 a3).bind fun t240 => (some t240)) else (if a0 = 4 then ((ints_Sub.f a1 a2 a3).bind fun t241 => (some t241)) else (if a0 = 5 then ((ints_Mul.f a1 a2 a3).bind fun t242 => (some t242)) else (if a0 = 10 then (some (Go.bits .and .u64 a2 a3)) else (if a0 = 11 then (some (Go.bits .or .u64 a2 a3)) else (if a0 = 12 then (some (Go.bits .xor .u64 a2 a3)) else (if a0 = 13 then ((ints_Shl.f a1 a2 a3).bind fun t243 => (some t243)) else (if a0 = 14 then ((ints_ShrS.f a1 a2 a3).bind fun t244 => (some t244)) else (if a0 = 15 then ((ints_ShrU.f a1 a2 a3).bind fun t245 => (some t245)) else (if a0 = 16 then ((ints_Rotl.f a1 a2 a3).bind fun t246 => (some t246)) else ((ints_Rotr.f a1 a2 a3).bind fun t247 => (some t247)))))))))))) = some r := h
 clear h
 by_cases c5 : a0 = 3
 ·rw [if_pos c5] at H
  have c5b0 : (a0 == 3) = true := beq_iff_eq.mpr c5
  have c5b1 : (a0 != 3) = false := bne_eq_false_iff_eq.mpr c5
  clear c5
  replace H := ob_ H
  obtain ⟨t240, A60, H⟩ := H
  replace H : (some t240) = some r := H
  have A6 := A_ A60;clear A60
  obtain rfl := Option.some.inj H
  go_enter Tryz.func75, Tryz.ntmps75
  go_wp2_with (first | ((with_reducible refine gate_callee (f := 133) rfl ?_); refine goesL_ (some 15) rfl rfl Tryz.func133 (by kernel_rfl) rfl #[.int .i64 a1, .int .u64 a2, .int .u64 a3] rfl mp_ ?_; (with_reducible refine (ints_Add.calls a1 a2 a3 t240 _ A6.out).mono ?_); rintro e w' ⟨rfl, ⟨nd, rfl⟩⟩; refine ⟨_, rfl, ?_⟩))
  go_ret
  exact ⟨er_, hb_ HB.out⟩
 ·rw [if_neg c5] at H
  have c5b0 : (a0 == 3) = false := beq_eq_false_iff_ne.mpr c5
  have c5b1 : (a0 != 3) = true := bne_iff_ne.mpr c5
  by_cases c7 : a0 = 4
  ·rw [if_pos c7] at H
   have c7b0 : (a0 == 4) = true := beq_iff_eq.mpr c7
   have c7b1 : (a0 != 4) = false := bne_eq_false_iff_eq.mpr c7
   clear c7
   replace H := ob_ H
   obtain ⟨t241, A80, H⟩ := H
   replace H : (some t241) = some r := H
   have A8 := A_ A80;clear A80
   obtain rfl := Option.some.inj H
   go_enter Tryz.func75, Tryz.ntmps75
   go_wp2_with (first | ((with_reducible refine gate_callee (f := 131) rfl ?_); refine goesL_ (some 21) rfl rfl Tryz.func131 (by kernel_rfl) rfl #[.int .i64 a1, .int .u64 a2, .int .u64 a3] rfl mp_ ?_; (with_reducible refine (ints_Sub.calls a1 a2 a3 t241 _ A8.out).mono ?_); rintro e w' ⟨rfl, ⟨nd, rfl⟩⟩; refine ⟨_, rfl, ?_⟩))
   go_ret
   exact ⟨er_, hb_ HB.out⟩
  ·rw [if_neg c7] at H
   have c7b0 : (a0 == 4) = false := beq_eq_false_iff_ne.mpr c7
   have c7b1 : (a0 != 4) = true := bne_iff_ne.mpr c7
   by_cases c9 : a0 = 5
   ·rw [if_pos c9] at H
    have c9b0 : (a0 == 5) = true := beq_iff_eq.mpr c9
    have c9b1 : (a0 != 5) = false := bne_eq_false_iff_eq.mpr c9
    clear c9
    replace H := ob_ H
    obtain ⟨t242, A100, H⟩ := H
    replace H : (some t242) = some r := H
    have A10 := A_ A100;clear A100
    obtain rfl := Option.some.inj H
    go_enter Tryz.func75, Tryz.ntmps75
    go_wp2_with (first | ((with_reducible refine gate_callee (f := 132) rfl ?_); refine goesL_ (some 27) rfl rfl Tryz.func132 (by kernel_rfl) rfl #[.int .i64 a1, .int .u64 a2, .int .u64 a3] rfl mp_ ?_; (with_reducible refine (ints_Mul.calls a1 a2 a3 t242 _ A10.out).mono ?_); rintro e w' ⟨rfl, ⟨nd, rfl⟩⟩; refine ⟨_, rfl, ?_⟩))
    go_ret
    exact ⟨er_, hb_ HB.out⟩
   ·rw [if_neg c9] at H
    have c9b0 : (a0 == 5) = false := beq_eq_false_iff_ne.mpr c9
    have c9b1 : (a0 != 5) = true := bne_iff_ne.mpr c9
    by_cases c11 : a0 = 10
    ·rw [if_pos c11] at H
     have c11b0 : (a0 == 10) = true := beq_iff_eq.mpr c11
     have c11b1 : (a0 != 10) = false := bne_eq_false_iff_eq.mpr c11
     clear c11
     obtain rfl := Option.some.inj H
     go_enter Tryz.func75, Tryz.ntmps75
     go_wp2
     go_ret
     exact ⟨er_, hb_ HB.out⟩
    ·rw [if_neg c11] at H
     have c11b0 : (a0 == 10) = false := beq_eq_false_iff_ne.mpr c11
     have c11b1 : (a0 != 10) = true := bne_iff_ne.mpr c11
     by_cases c12 : a0 = 11
     ·rw [if_pos c12] at H
      have c12b0 : (a0 == 11) = true := beq_iff_eq.mpr c12
      have c12b1 : (a0 != 11) = false := bne_eq_false_iff_eq.mpr c12
      clear c12
      obtain rfl := Option.some.inj H
      go_enter Tryz.func75, Tryz.ntmps75
      go_wp2
      go_ret
      exact ⟨er_, hb_ HB.out⟩
     ·rw [if_neg c12] at H
      have c12b0 : (a0 == 11) = false := beq_eq_false_iff_ne.mpr c12
      have c12b1 : (a0 != 11) = true := bne_iff_ne.mpr c12
      by_cases c13 : a0 = 12
      ·rw [if_pos c13] at H
       have c13b0 : (a0 == 12) = true := beq_iff_eq.mpr c13
       have c13b1 : (a0 != 12) = false := bne_eq_false_iff_eq.mpr c13
       clear c13
       obtain rfl := Option.some.inj H
       go_enter Tryz.func75, Tryz.ntmps75
       go_wp2
       go_ret
       exact ⟨er_, hb_ HB.out⟩
      ·rw [if_neg c13] at H
       have c13b0 : (a0 == 12) = false := beq_eq_false_iff_ne.mpr c13
       have c13b1 : (a0 != 12) = true := bne_iff_ne.mpr c13
       by_cases c14 : a0 = 13
       ·rw [if_pos c14] at H
        have c14b0 : (a0 == 13) = true := beq_iff_eq.mpr c14
        have c14b1 : (a0 != 13) = false := bne_eq_false_iff_eq.mpr c14
        clear c14
        replace H := ob_ H
        obtain ⟨t243, A150, H⟩ := H
        replace H : (some t243) = some r := H
        have A15 := A_ A150;clear A150
        obtain rfl := Option.some.inj H
        go_enter Tryz.func75, Tryz.ntmps75
        go_wp2_with (first | ((with_reducible refine gate_callee (f := 134) rfl ?_); refine goesL_ (some 48) rfl rfl Tryz.func134 (by kernel_rfl) rfl #[.int .i64 a1, .int .u64 a2, .int .u64 a3] rfl mp_ ?_; (with_reducible refine (ints_Shl.calls a1 a2 a3 t243 _ A15.out).mono ?_); rintro e w' ⟨rfl, ⟨nd, rfl⟩⟩; refine ⟨_, rfl, ?_⟩))
        go_ret
        exact ⟨er_, hb_ HB.out⟩
       ·rw [if_neg c14] at H
        have c14b0 : (a0 == 13) = false := beq_eq_false_iff_ne.mpr c14
        have c14b1 : (a0 != 13) = true := bne_iff_ne.mpr c14
        by_cases c16 : a0 = 14
        ·rw [if_pos c16] at H
         have c16b0 : (a0 == 14) = true := beq_iff_eq.mpr c16
         have c16b1 : (a0 != 14) = false := bne_eq_false_iff_eq.mpr c16
         clear c16
         replace H := ob_ H
         obtain ⟨t244, A170, H⟩ := H
         replace H : (some t244) = some r := H
         have A17 := A_ A170;clear A170
         obtain rfl := Option.some.inj H
         go_enter Tryz.func75, Tryz.ntmps75
         go_wp2_with (first | ((with_reducible refine gate_callee (f := 135) rfl ?_); refine goesL_ (some 54) rfl rfl Tryz.func135 (by kernel_rfl) rfl #[.int .i64 a1, .int .u64 a2, .int .u64 a3] rfl mp_ ?_; (with_reducible refine (ints_ShrS.calls a1 a2 a3 t244 _ A17.out).mono ?_); rintro e w' ⟨rfl, ⟨nd, rfl⟩⟩; refine ⟨_, rfl, ?_⟩))
         go_ret
         exact ⟨er_, hb_ HB.out⟩
        ·rw [if_neg c16] at H
         have c16b0 : (a0 == 14) = false := beq_eq_false_iff_ne.mpr c16
         have c16b1 : (a0 != 14) = true := bne_iff_ne.mpr c16
         by_cases c18 : a0 = 15
         ·rw [if_pos c18] at H
          have c18b0 : (a0 == 15) = true := beq_iff_eq.mpr c18
          have c18b1 : (a0 != 15) = false := bne_eq_false_iff_eq.mpr c18
          clear c18
          replace H := ob_ H
          obtain ⟨t245, A190, H⟩ := H
          replace H : (some t245) = some r := H
          have A19 := A_ A190;clear A190
          obtain rfl := Option.some.inj H
          go_enter Tryz.func75, Tryz.ntmps75
          go_wp2_with (first | ((with_reducible refine gate_callee (f := 136) rfl ?_); refine goesL_ (some 60) rfl rfl Tryz.func136 (by kernel_rfl) rfl #[.int .i64 a1, .int .u64 a2, .int .u64 a3] rfl mp_ ?_; (with_reducible refine (ints_ShrU.calls a1 a2 a3 t245 _ A19.out).mono ?_); rintro e w' ⟨rfl, ⟨nd, rfl⟩⟩; refine ⟨_, rfl, ?_⟩))
          go_ret
          exact ⟨er_, hb_ HB.out⟩
         ·rw [if_neg c18] at H
          have c18b0 : (a0 == 15) = false := beq_eq_false_iff_ne.mpr c18
          have c18b1 : (a0 != 15) = true := bne_iff_ne.mpr c18
          by_cases c20 : a0 = 16
          ·rw [if_pos c20] at H
           have c20b0 : (a0 == 16) = true := beq_iff_eq.mpr c20
           have c20b1 : (a0 != 16) = false := bne_eq_false_iff_eq.mpr c20
           clear c20
           replace H := ob_ H
           obtain ⟨t246, A210, H⟩ := H
           replace H : (some t246) = some r := H
           have A21 := A_ A210;clear A210
           obtain rfl := Option.some.inj H
           go_enter Tryz.func75, Tryz.ntmps75
           go_wp2_with (first | ((with_reducible refine gate_callee (f := 137) rfl ?_); refine goesL_ (some 66) rfl rfl Tryz.func137 (by kernel_rfl) rfl #[.int .i64 a1, .int .u64 a2, .int .u64 a3] rfl mp_ ?_; (with_reducible refine (ints_Rotl.calls a1 a2 a3 t246 _ A21.out).mono ?_); rintro e w22 ⟨rfl, hb⟩; refine ⟨_, rfl, ?_⟩; replace HB := A_ (below_step (hb_ HB.out) hb); (try clear hb); (try clear hb2); (try clear hk); (try clear hi)))
           go_ret
           exact ⟨er_, hb_ HB.out⟩
          ·rw [if_neg c20] at H
           have c20b0 : (a0 == 16) = false := beq_eq_false_iff_ne.mpr c20
           have c20b1 : (a0 != 16) = true := bne_iff_ne.mpr c20
           replace H := ob_ H
           obtain ⟨t247, A230, H⟩ := H
           replace H : (some t247) = some r := H
           have A23 := A_ A230;clear A230
           obtain rfl := Option.some.inj H
           go_enter Tryz.func75, Tryz.ntmps75
           go_wp2_with (first | ((with_reducible refine gate_callee (f := 138) rfl ?_); refine goesL_ (some 70) rfl rfl Tryz.func138 (by kernel_rfl) rfl #[.int .i64 a1, .int .u64 a2, .int .u64 a3] rfl mp_ ?_; (with_reducible refine (ints_Rotr.calls a1 a2 a3 t247 _ A23.out).mono ?_); rintro e w24 ⟨rfl, hb⟩; refine ⟨_, rfl, ?_⟩; replace HB := A_ (below_step (hb_ HB.out) hb); (try clear hb); (try clear hb2); (try clear hk); (try clear hi)))
           go_ret
           exact ⟨er_, hb_ HB.out⟩
def numeric_reckoned.f (a0 : Int) (a1 : Int) (a2 : Int) (a3 : Int) : Option (Int × Int) := if a0 = 6 then ((ints_DivS.f a1 a2 a3).bind fun bt248 => (some (bt248.1, bt248.2))) else (if a0 = 7 then ((ints_DivU.f a1 a2 a3).bind fun bt250 => (some (bt250.1, bt250.2))) else (if a0 = 8 then ((ints_RemS.f a1 a2 a3).bind fun bt252 => (some (bt252.1, bt252.2))) else (if a0 = 9 then ((ints_RemU.f a1 a2 a3).bind fun bt254 => (some (bt254.1, bt254.2))) else ((numeric_plain.f a0 a1 a2 a3).bind fun t256 => (some (t256, 0))))))
theorem numeric_reckoned.calls (a0 : Int) (a1 : Int) (a2 : Int) (a3 : Int) (r1 : Int) (r2 : Int) (w : World) (h : numeric_reckoned.f a0 a1 a2 a3 = some (r1, r2)) :
  Calls Tryz.prog 30 #[.int .i64 a0, .int .i64 a1, .int .u64 a2, .int .u64 a3] w fun e w' => e = .returned (.tuple #[.int .u64 r1, .int .i64 r2]) ∧ Below w.heap.size w w' := by
 have HB := A_ (Below.refl w.heap.size w)
 have H : (if a0 = 6 then ((ints_DivS.f a1 a2 a3).bind fun bt248 => (some (bt248.1, bt248.2))) else (if a0 = 7 then ((ints_DivU.f a1 a2 a3).bind fun bt250 => (some (bt250.1, bt250.2))) else (if a0 = 8 then ((ints_RemS.f a1 a2 a3).bind fun bt252 => (some (bt252.1, bt252.2))) else (if a0 = 9 then ((ints_RemU.f a1 a2 a3).bind fun bt254 => (some (bt254.1, bt254.2))) else ((numeric_plain.f a0 a1 a2 a3).bind fun t256 => (some (t256, 0))))))) = some (r1, r2) := h
 clear h
 by_cases c5 : a0 = 6
 ·rw [if_pos c5] at H
  have c5b0 : (a0 == 6) = true := beq_iff_eq.mpr c5
  have c5b1 : (a0 != 6) = false := bne_eq_false_iff_eq.mpr c5
  clear c5
  replace H := ob_ H
  obtain ⟨⟨t248, t249⟩, A60, H⟩ := H
  replace H : (some (t248, t249)) = some (r1, r2) := H
  have A6 := A_ A60;clear A60
  simp only [Option.some.injEq, Prod.mk.injEq] at H
  obtain ⟨rfl, rfl⟩ := H
  go_enter Tryz.func30, Tryz.ntmps30
  go_wp2_with (first | ((with_reducible refine gate_callee (f := 71) rfl ?_); refine goesL_ (some 16) rfl rfl Tryz.func71 (by kernel_rfl) rfl #[.int .i64 a1, .int .u64 a2, .int .u64 a3] rfl mp_ ?_; (with_reducible refine (ints_DivS.calls a1 a2 a3 t248 t249 _ A6.out).mono ?_); rintro e w' ⟨rfl, ⟨nd, rfl⟩⟩; refine ⟨_, rfl, ?_⟩))
  go_ret2
  exact ⟨er_, hb_ HB.out⟩
 ·rw [if_neg c5] at H
  have c5b0 : (a0 == 6) = false := beq_eq_false_iff_ne.mpr c5
  have c5b1 : (a0 != 6) = true := bne_iff_ne.mpr c5
  by_cases c7 : a0 = 7
  ·rw [if_pos c7] at H
   have c7b0 : (a0 == 7) = true := beq_iff_eq.mpr c7
   have c7b1 : (a0 != 7) = false := bne_eq_false_iff_eq.mpr c7
   clear c7
   replace H := ob_ H
   obtain ⟨⟨t250, t251⟩, A80, H⟩ := H
   replace H : (some (t250, t251)) = some (r1, r2) := H
   have A8 := A_ A80;clear A80
   simp only [Option.some.injEq, Prod.mk.injEq] at H
   obtain ⟨rfl, rfl⟩ := H
   go_enter Tryz.func30, Tryz.ntmps30
   go_wp2_with (first | ((with_reducible refine gate_callee (f := 72) rfl ?_); refine goesL_ (some 24) rfl rfl Tryz.func72 (by kernel_rfl) rfl #[.int .i64 a1, .int .u64 a2, .int .u64 a3] rfl mp_ ?_; (with_reducible refine (ints_DivU.calls a1 a2 a3 t250 t251 _ A8.out).mono ?_); rintro e w' ⟨rfl, ⟨nd, rfl⟩⟩; refine ⟨_, rfl, ?_⟩))
   go_ret2
   exact ⟨er_, hb_ HB.out⟩
  ·rw [if_neg c7] at H
   have c7b0 : (a0 == 7) = false := beq_eq_false_iff_ne.mpr c7
   have c7b1 : (a0 != 7) = true := bne_iff_ne.mpr c7
   by_cases c9 : a0 = 8
   ·rw [if_pos c9] at H
    have c9b0 : (a0 == 8) = true := beq_iff_eq.mpr c9
    have c9b1 : (a0 != 8) = false := bne_eq_false_iff_eq.mpr c9
    clear c9
    replace H := ob_ H
    obtain ⟨⟨t252, t253⟩, A100, H⟩ := H
    replace H : (some (t252, t253)) = some (r1, r2) := H
    have A10 := A_ A100;clear A100
    simp only [Option.some.injEq, Prod.mk.injEq] at H
    obtain ⟨rfl, rfl⟩ := H
    go_enter Tryz.func30, Tryz.ntmps30
    go_wp2_with (first | ((with_reducible refine gate_callee (f := 73) rfl ?_); refine goesL_ (some 32) rfl rfl Tryz.func73 (by kernel_rfl) rfl #[.int .i64 a1, .int .u64 a2, .int .u64 a3] rfl mp_ ?_; (with_reducible refine (ints_RemS.calls a1 a2 a3 t252 t253 _ A10.out).mono ?_); rintro e w' ⟨rfl, ⟨nd, rfl⟩⟩; refine ⟨_, rfl, ?_⟩))
    go_ret2
    exact ⟨er_, hb_ HB.out⟩
   ·rw [if_neg c9] at H
    have c9b0 : (a0 == 8) = false := beq_eq_false_iff_ne.mpr c9
    have c9b1 : (a0 != 8) = true := bne_iff_ne.mpr c9
    by_cases c11 : a0 = 9
    ·rw [if_pos c11] at H
     have c11b0 : (a0 == 9) = true := beq_iff_eq.mpr c11
     have c11b1 : (a0 != 9) = false := bne_eq_false_iff_eq.mpr c11
     clear c11
     replace H := ob_ H
     obtain ⟨⟨t254, t255⟩, A120, H⟩ := H
     replace H : (some (t254, t255)) = some (r1, r2) := H
     have A12 := A_ A120;clear A120
     simp only [Option.some.injEq, Prod.mk.injEq] at H
     obtain ⟨rfl, rfl⟩ := H
     go_enter Tryz.func30, Tryz.ntmps30
     go_wp2_with (first | ((with_reducible refine gate_callee (f := 74) rfl ?_); refine goesL_ (some 40) rfl rfl Tryz.func74 (by kernel_rfl) rfl #[.int .i64 a1, .int .u64 a2, .int .u64 a3] rfl mp_ ?_; (with_reducible refine (ints_RemU.calls a1 a2 a3 t254 t255 _ A12.out).mono ?_); rintro e w' ⟨rfl, ⟨nd, rfl⟩⟩; refine ⟨_, rfl, ?_⟩))
     go_ret2
     exact ⟨er_, hb_ HB.out⟩
    ·rw [if_neg c11] at H
     have c11b0 : (a0 == 9) = false := beq_eq_false_iff_ne.mpr c11
     have c11b1 : (a0 != 9) = true := bne_iff_ne.mpr c11
     replace H := ob_ H
     obtain ⟨t256, A130, H⟩ := H
     replace H : (some (t256, 0)) = some (r1, r2) := H
     have A13 := A_ A130;clear A130
     simp only [Option.some.injEq, Prod.mk.injEq] at H
     obtain ⟨rfl, rfl⟩ := H
     go_enter Tryz.func30, Tryz.ntmps30
     go_wp2_with (first | ((with_reducible refine gate_callee (f := 75) rfl ?_); refine goesL_ (some 47) rfl rfl Tryz.func75 (by kernel_rfl) rfl #[.int .i64 a0, .int .i64 a1, .int .u64 a2, .int .u64 a3] rfl mp_ ?_; (with_reducible refine (numeric_plain.calls a0 a1 a2 a3 t256 _ A13.out).mono ?_); rintro e w14 ⟨rfl, hb⟩; refine ⟨_, rfl, ?_⟩; replace HB := A_ (below_step (hb_ HB.out) hb); (try clear hb); (try clear hb2); (try clear hk); (try clear hi)))
     go_ret2
     exact ⟨er_, hb_ HB.out⟩
def ints_LtS.f (a0 : Int) (a1 : Int) (a2 : Int) : Option (Bool) := (ints_known.f a0).bind fun t150 => (if t150 = true then ((ints_signed.f a0 a1).bind fun t151 => ((ints_signed.f a0 a2).bind fun t152 => (some (decide (t151 < t152))))) else (some false))
theorem ints_LtS.calls (a0 : Int) (a1 : Int) (a2 : Int) (r : Bool) (w : World) (h : ints_LtS.f a0 a1 a2 = some r) :
  Calls Tryz.prog 60 #[.int .i64 a0, .int .u64 a1, .int .u64 a2] w fun e w' => e = .returned (.bool r) ∧ Drawn0 w w' := by
 have H : ((ints_known.f a0).bind fun t150 => (if t150 = true then ((ints_signed.f a0 a1).bind fun t151 => ((ints_signed.f a0 a2).bind fun t152 => (some (decide (t151 < t152))))) else (some false))) = some r := h
 clear h
 replace H := ob_ H
 obtain ⟨t150, A40, H⟩ := H
 replace H : (if t150 = true then ((ints_signed.f a0 a1).bind fun t151 => ((ints_signed.f a0 a2).bind fun t152 => (some (decide (t151 < t152))))) else (some false)) = some r := H
 have A4 := A_ A40;clear A40
 by_cases c5 : t150 = true
 ·subst c5
  have H1 : ((ints_signed.f a0 a1).bind fun t151 => ((ints_signed.f a0 a2).bind fun t152 => (some (decide (t151 < t152))))) = some r := by rw [if_pos rfl] at H; exact H
  clear H;have H := H1;clear H1
  replace H := ob_ H
  obtain ⟨t151, A60, H⟩ := H
  replace H : ((ints_signed.f a0 a2).bind fun t152 => (some (decide (t151 < t152)))) = some r := H
  have A6 := A_ A60;clear A60
  replace H := ob_ H
  obtain ⟨t152, A70, H⟩ := H
  replace H : (some (decide (t151 < t152))) = some r := H
  have A7 := A_ A70;clear A70
  obtain rfl := Option.some.inj H
  go_enter Tryz.func60, Tryz.ntmps60
  go_wp2_with (first | ((with_reducible refine gate_callee (f := 121) rfl ?_); refine goesL_ (some 8) rfl rfl Tryz.func121 (by kernel_rfl) rfl #[.int .i64 a0] rfl mp_ ?_; (with_reducible refine (ints_known.calls a0 true _ A4.out).mono ?_); rintro e w' ⟨rfl, ⟨nd, rfl⟩⟩; refine ⟨_, rfl, ?_⟩) | (go_at_call 122; (with_reducible refine (ints_signed.calls a0 a1 t151 _ A6.out).mono ?_); rintro e w' ⟨rfl, ⟨nd, rfl⟩⟩) | (go_at_call 122; (with_reducible refine (ints_signed.calls a0 a2 t152 _ A7.out).mono ?_); rintro e w' ⟨rfl, ⟨nd, rfl⟩⟩))
  go_ret
  exact ⟨sm_, by repeat (first | exact Drawn0.refl _ | apply Drawn0.step)⟩
 ·replace c5 := Bool.eq_false_iff.mpr c5
  subst c5
  have H1 : (some false) = some r := by rw [if_neg (show ¬ (false = true) by decide)] at H; exact H
  clear H;have H := H1;clear H1
  obtain rfl := Option.some.inj H
  go_enter Tryz.func60, Tryz.ntmps60
  go_wp2_with (first | ((with_reducible refine gate_callee (f := 121) rfl ?_); refine goesL_ (some 8) rfl rfl Tryz.func121 (by kernel_rfl) rfl #[.int .i64 a0] rfl mp_ ?_; (with_reducible refine (ints_known.calls a0 false _ A4.out).mono ?_); rintro e w' ⟨rfl, ⟨nd, rfl⟩⟩; refine ⟨_, rfl, ?_⟩))
  go_ret
  exact ⟨sm_, by repeat (first | exact Drawn0.refl _ | apply Drawn0.step)⟩
def ints_LtU.f (a0 : Int) (a1 : Int) (a2 : Int) : Option (Bool) := (shape_Cut.f a0 a1).bind fun t153 => ((shape_Cut.f a0 a2).bind fun t154 => (some (decide (t153 < t154))))
theorem ints_LtU.calls (a0 : Int) (a1 : Int) (a2 : Int) (r : Bool) (w : World) (h : ints_LtU.f a0 a1 a2 = some r) :
  Calls Tryz.prog 61 #[.int .i64 a0, .int .u64 a1, .int .u64 a2] w fun e w' => e = .returned (.bool r) ∧ Drawn0 w w' := by
 have H : ((shape_Cut.f a0 a1).bind fun t153 => ((shape_Cut.f a0 a2).bind fun t154 => (some (decide (t153 < t154))))) = some r := h
 clear h
 replace H := ob_ H
 obtain ⟨t153, A40, H⟩ := H
 replace H : ((shape_Cut.f a0 a2).bind fun t154 => (some (decide (t153 < t154)))) = some r := H
 have A4 := A_ A40;clear A40
 replace H := ob_ H
 obtain ⟨t154, A50, H⟩ := H
 replace H : (some (decide (t153 < t154))) = some r := H
 have A5 := A_ A50;clear A50
 obtain rfl := Option.some.inj H
 go_enter Tryz.func61, Tryz.ntmps61
 go_wp2_with (first | ((with_reducible refine gate_callee (f := 17) rfl ?_); refine goesL_ (some 9) rfl rfl Tryz.func17 (by kernel_rfl) rfl #[.int .i64 a0, .int .u64 a1] rfl mp_ ?_; (with_reducible refine (shape_Cut.calls a0 a1 t153 _ A4.out).mono ?_); rintro e w' ⟨rfl, ⟨nd, rfl⟩⟩; refine ⟨_, rfl, ?_⟩) | ((with_reducible refine gate_callee (f := 17) rfl ?_); refine goesL_ (some 12) rfl rfl Tryz.func17 (by kernel_rfl) rfl #[.int .i64 a0, .int .u64 a2] rfl mp_ ?_; (with_reducible refine (shape_Cut.calls a0 a2 t154 _ A5.out).mono ?_); rintro e w' ⟨rfl, ⟨nd, rfl⟩⟩; refine ⟨_, rfl, ?_⟩))
 go_ret
 exact ⟨sm_, by repeat (first | exact Drawn0.refl _ | apply Drawn0.step)⟩
def numeric_related.f (a0 : Int) (a1 : Int) (a2 : Int) (a3 : Int) : Option (Bool) := if a0 = 1 then (some (a2 == a3)) else (if a0 = 2 then (some (a2 != a3)) else (if a0 = 3 then ((ints_LtS.f a1 a2 a3).bind fun t155 => (some t155)) else (if a0 = 4 then ((ints_LtU.f a1 a2 a3).bind fun t156 => (some t156)) else (if a0 = 5 then ((ints_LtS.f a1 a3 a2).bind fun t157 => (some t157)) else (if a0 = 6 then ((ints_LtU.f a1 a3 a2).bind fun t158 => (some t158)) else (if a0 = 7 then ((ints_LtS.f a1 a3 a2).bind fun t159 => (some (!t159))) else (if a0 = 8 then ((ints_LtU.f a1 a3 a2).bind fun t160 => (some (!t160))) else (if a0 = 9 then ((ints_LtS.f a1 a2 a3).bind fun t161 => (some (!t161))) else ((ints_LtU.f a1 a2 a3).bind fun t162 => (some (!t162)))))))))))
theorem numeric_related.calls (a0 : Int) (a1 : Int) (a2 : Int) (a3 : Int) (r : Bool) (w : World) (h : numeric_related.f a0 a1 a2 a3 = some r) :
  Calls Tryz.prog 27 #[.int .i64 a0, .int .i64 a1, .int .u64 a2, .int .u64 a3] w fun e w' => e = .returned (.bool r) ∧ Drawn0 w w' := by
 have H : (if a0 = 1 then (some (a2 == a3)) else (if a0 = 2 then (some (a2 != a3)) else (if a0 = 3 then ((ints_LtS.f a1 a2 a3).bind fun t155 => (some t155)) else (if a0 = 4 then ((ints_LtU.f a1 a2 a3).bind fun t156 => (some t156)) else (if a0 = 5 then ((ints_LtS.f a1 a3 a2).bind fun t157 => (some t157)) else (if a0 = 6 then ((ints_LtU.f a1 a3 a2).bind fun t158 => (some t158)) else (if a0 = 7 then ((ints_LtS.f a1 a3 a2).bind fun t159 => (some (!t159))) else (if a0 = 8 then ((ints_LtU.f a1 a3 a2).bind fun t160 => (some (!t160))) else (if a0 = 9 then ((ints_LtS.f a1 a2 a3).bind fun t161 => (some (!t161))) else ((ints_LtU.f a1 a2 a3).bind fun t162 => (some (!t162)))))))))))) = some r := h
 clear h
 by_cases c5 : a0 = 1
 ·rw [if_pos c5] at H
  have c5b0 : (a0 == 1) = true := beq_iff_eq.mpr c5
  have c5b1 : (a0 != 1) = false := bne_eq_false_iff_eq.mpr c5
  clear c5
  obtain rfl := Option.some.inj H
  go_enter Tryz.func27, Tryz.ntmps27
  go_wp2
  go_ret
  exact ⟨sm_, by repeat (first | exact Drawn0.refl _ | apply Drawn0.step)⟩
 ·rw [if_neg c5] at H
  have c5b0 : (a0 == 1) = false := beq_eq_false_iff_ne.mpr c5
  have c5b1 : (a0 != 1) = true := bne_iff_ne.mpr c5
  by_cases c6 : a0 = 2
  ·rw [if_pos c6] at H
   have c6b0 : (a0 == 2) = true := beq_iff_eq.mpr c6
   have c6b1 : (a0 != 2) = false := bne_eq_false_iff_eq.mpr c6
   clear c6
   obtain rfl := Option.some.inj H
   go_enter Tryz.func27, Tryz.ntmps27
   go_wp2
   go_ret
   exact ⟨sm_, by repeat (first | exact Drawn0.refl _ | apply Drawn0.step)⟩
  ·rw [if_neg c6] at H
   have c6b0 : (a0 == 2) = false := beq_eq_false_iff_ne.mpr c6
   have c6b1 : (a0 != 2) = true := bne_iff_ne.mpr c6
   by_cases c7 : a0 = 3
   ·rw [if_pos c7] at H
    have c7b0 : (a0 == 3) = true := beq_iff_eq.mpr c7
    have c7b1 : (a0 != 3) = false := bne_eq_false_iff_eq.mpr c7
    clear c7
    replace H := ob_ H
    obtain ⟨t155, A80, H⟩ := H
    replace H : (some t155) = some r := H
    have A8 := A_ A80;clear A80
    obtain rfl := Option.some.inj H
    go_enter Tryz.func27, Tryz.ntmps27
    go_wp2_with (first | ((with_reducible refine gate_callee (f := 60) rfl ?_); refine goesL_ (some 25) rfl rfl Tryz.func60 (by kernel_rfl) rfl #[.int .i64 a1, .int .u64 a2, .int .u64 a3] rfl mp_ ?_; (with_reducible refine (ints_LtS.calls a1 a2 a3 t155 _ A8.out).mono ?_); rintro e w' ⟨rfl, ⟨nd, rfl⟩⟩; refine ⟨_, rfl, ?_⟩))
    go_ret
    exact ⟨sm_, by repeat (first | exact Drawn0.refl _ | apply Drawn0.step)⟩
   ·rw [if_neg c7] at H
    have c7b0 : (a0 == 3) = false := beq_eq_false_iff_ne.mpr c7
    have c7b1 : (a0 != 3) = true := bne_iff_ne.mpr c7
    by_cases c9 : a0 = 4
    ·rw [if_pos c9] at H
     have c9b0 : (a0 == 4) = true := beq_iff_eq.mpr c9
     have c9b1 : (a0 != 4) = false := bne_eq_false_iff_eq.mpr c9
     clear c9
     replace H := ob_ H
     obtain ⟨t156, A100, H⟩ := H
     replace H : (some t156) = some r := H
     have A10 := A_ A100;clear A100
     obtain rfl := Option.some.inj H
     go_enter Tryz.func27, Tryz.ntmps27
     go_wp2_with (first | ((with_reducible refine gate_callee (f := 61) rfl ?_); refine goesL_ (some 31) rfl rfl Tryz.func61 (by kernel_rfl) rfl #[.int .i64 a1, .int .u64 a2, .int .u64 a3] rfl mp_ ?_; (with_reducible refine (ints_LtU.calls a1 a2 a3 t156 _ A10.out).mono ?_); rintro e w' ⟨rfl, ⟨nd, rfl⟩⟩; refine ⟨_, rfl, ?_⟩))
     go_ret
     exact ⟨sm_, by repeat (first | exact Drawn0.refl _ | apply Drawn0.step)⟩
    ·rw [if_neg c9] at H
     have c9b0 : (a0 == 4) = false := beq_eq_false_iff_ne.mpr c9
     have c9b1 : (a0 != 4) = true := bne_iff_ne.mpr c9
     by_cases c11 : a0 = 5
     ·rw [if_pos c11] at H
      have c11b0 : (a0 == 5) = true := beq_iff_eq.mpr c11
      have c11b1 : (a0 != 5) = false := bne_eq_false_iff_eq.mpr c11
      clear c11
      replace H := ob_ H
      obtain ⟨t157, A120, H⟩ := H
      replace H : (some t157) = some r := H
      have A12 := A_ A120;clear A120
      obtain rfl := Option.some.inj H
      go_enter Tryz.func27, Tryz.ntmps27
      go_wp2_with (first | ((with_reducible refine gate_callee (f := 60) rfl ?_); refine goesL_ (some 37) rfl rfl Tryz.func60 (by kernel_rfl) rfl #[.int .i64 a1, .int .u64 a3, .int .u64 a2] rfl mp_ ?_; (with_reducible refine (ints_LtS.calls a1 a3 a2 t157 _ A12.out).mono ?_); rintro e w' ⟨rfl, ⟨nd, rfl⟩⟩; refine ⟨_, rfl, ?_⟩))
      go_ret
      exact ⟨sm_, by repeat (first | exact Drawn0.refl _ | apply Drawn0.step)⟩
     ·rw [if_neg c11] at H
      have c11b0 : (a0 == 5) = false := beq_eq_false_iff_ne.mpr c11
      have c11b1 : (a0 != 5) = true := bne_iff_ne.mpr c11
      by_cases c13 : a0 = 6
      ·rw [if_pos c13] at H
       have c13b0 : (a0 == 6) = true := beq_iff_eq.mpr c13
       have c13b1 : (a0 != 6) = false := bne_eq_false_iff_eq.mpr c13
       clear c13
       replace H := ob_ H
       obtain ⟨t158, A140, H⟩ := H
       replace H : (some t158) = some r := H
       have A14 := A_ A140;clear A140
       obtain rfl := Option.some.inj H
       go_enter Tryz.func27, Tryz.ntmps27
       go_wp2_with (first | ((with_reducible refine gate_callee (f := 61) rfl ?_); refine goesL_ (some 43) rfl rfl Tryz.func61 (by kernel_rfl) rfl #[.int .i64 a1, .int .u64 a3, .int .u64 a2] rfl mp_ ?_; (with_reducible refine (ints_LtU.calls a1 a3 a2 t158 _ A14.out).mono ?_); rintro e w' ⟨rfl, ⟨nd, rfl⟩⟩; refine ⟨_, rfl, ?_⟩))
       go_ret
       exact ⟨sm_, by repeat (first | exact Drawn0.refl _ | apply Drawn0.step)⟩
      ·rw [if_neg c13] at H
       have c13b0 : (a0 == 6) = false := beq_eq_false_iff_ne.mpr c13
       have c13b1 : (a0 != 6) = true := bne_iff_ne.mpr c13
       by_cases c15 : a0 = 7
       ·rw [if_pos c15] at H
        have c15b0 : (a0 == 7) = true := beq_iff_eq.mpr c15
        have c15b1 : (a0 != 7) = false := bne_eq_false_iff_eq.mpr c15
        clear c15
        replace H := ob_ H
        obtain ⟨t159, A160, H⟩ := H
        replace H : (some (!t159)) = some r := H
        have A16 := A_ A160;clear A160
        obtain rfl := Option.some.inj H
        go_enter Tryz.func27, Tryz.ntmps27
        go_wp2_with (first | ((with_reducible refine gate_callee (f := 60) rfl ?_); refine goesL_ (some 49) rfl rfl Tryz.func60 (by kernel_rfl) rfl #[.int .i64 a1, .int .u64 a3, .int .u64 a2] rfl mp_ ?_; (with_reducible refine (ints_LtS.calls a1 a3 a2 t159 _ A16.out).mono ?_); rintro e w' ⟨rfl, ⟨nd, rfl⟩⟩; refine ⟨_, rfl, ?_⟩))
        go_ret
        exact ⟨sm_, by repeat (first | exact Drawn0.refl _ | apply Drawn0.step)⟩
       ·rw [if_neg c15] at H
        have c15b0 : (a0 == 7) = false := beq_eq_false_iff_ne.mpr c15
        have c15b1 : (a0 != 7) = true := bne_iff_ne.mpr c15
        by_cases c17 : a0 = 8
        ·rw [if_pos c17] at H
         have c17b0 : (a0 == 8) = true := beq_iff_eq.mpr c17
         have c17b1 : (a0 != 8) = false := bne_eq_false_iff_eq.mpr c17
         clear c17
         replace H := ob_ H
         obtain ⟨t160, A180, H⟩ := H
         replace H : (some (!t160)) = some r := H
         have A18 := A_ A180;clear A180
         obtain rfl := Option.some.inj H
         go_enter Tryz.func27, Tryz.ntmps27
         go_wp2_with (first | ((with_reducible refine gate_callee (f := 61) rfl ?_); refine goesL_ (some 56) rfl rfl Tryz.func61 (by kernel_rfl) rfl #[.int .i64 a1, .int .u64 a3, .int .u64 a2] rfl mp_ ?_; (with_reducible refine (ints_LtU.calls a1 a3 a2 t160 _ A18.out).mono ?_); rintro e w' ⟨rfl, ⟨nd, rfl⟩⟩; refine ⟨_, rfl, ?_⟩))
         go_ret
         exact ⟨sm_, by repeat (first | exact Drawn0.refl _ | apply Drawn0.step)⟩
        ·rw [if_neg c17] at H
         have c17b0 : (a0 == 8) = false := beq_eq_false_iff_ne.mpr c17
         have c17b1 : (a0 != 8) = true := bne_iff_ne.mpr c17
         by_cases c19 : a0 = 9
         ·rw [if_pos c19] at H
          have c19b0 : (a0 == 9) = true := beq_iff_eq.mpr c19
          have c19b1 : (a0 != 9) = false := bne_eq_false_iff_eq.mpr c19
          clear c19
          replace H := ob_ H
          obtain ⟨t161, A200, H⟩ := H
          replace H : (some (!t161)) = some r := H
          have A20 := A_ A200;clear A200
          obtain rfl := Option.some.inj H
          go_enter Tryz.func27, Tryz.ntmps27
          go_wp2_with (first | ((with_reducible refine gate_callee (f := 60) rfl ?_); refine goesL_ (some 63) rfl rfl Tryz.func60 (by kernel_rfl) rfl #[.int .i64 a1, .int .u64 a2, .int .u64 a3] rfl mp_ ?_; (with_reducible refine (ints_LtS.calls a1 a2 a3 t161 _ A20.out).mono ?_); rintro e w' ⟨rfl, ⟨nd, rfl⟩⟩; refine ⟨_, rfl, ?_⟩))
          go_ret
          exact ⟨sm_, by repeat (first | exact Drawn0.refl _ | apply Drawn0.step)⟩
         ·rw [if_neg c19] at H
          have c19b0 : (a0 == 9) = false := beq_eq_false_iff_ne.mpr c19
          have c19b1 : (a0 != 9) = true := bne_iff_ne.mpr c19
          replace H := ob_ H
          obtain ⟨t162, A210, H⟩ := H
          replace H : (some (!t162)) = some r := H
          have A21 := A_ A210;clear A210
          obtain rfl := Option.some.inj H
          go_enter Tryz.func27, Tryz.ntmps27
          go_wp2_with (first | ((with_reducible refine gate_callee (f := 61) rfl ?_); refine goesL_ (some 68) rfl rfl Tryz.func61 (by kernel_rfl) rfl #[.int .i64 a1, .int .u64 a2, .int .u64 a3] rfl mp_ ?_; (with_reducible refine (ints_LtU.calls a1 a2 a3 t162 _ A21.out).mono ?_); rintro e w' ⟨rfl, ⟨nd, rfl⟩⟩; refine ⟨_, rfl, ?_⟩))
          go_ret
          exact ⟨sm_, by repeat (first | exact Drawn0.refl _ | apply Drawn0.step)⟩
def numeric_rounded.f (k : Nat) (a0 : Int) (a1 : Int) (a2 : Int) : Option (Int) := none
theorem numeric_rounded.mono : ∀ a0 a1 a2 k, LeO (numeric_rounded.f k a0 a1 a2) (numeric_rounded.f (k + 1) a0 a1 a2) := fun _ _ _ _ => LeO.none _
theorem numeric_rounded.calls (k : Nat) (a0 : Int) (a1 : Int) (a2 : Int) (r : Int) (w : World) (h : numeric_rounded.f k a0 a1 a2 = some r) :
  Calls Tryz.prog 31 #[.int .i64 a0, .int .i64 a1, .int .u64 a2] w fun e w' => e = .returned (.int .u64 r) ∧ Below w.heap.size w w' := by
 cases h
def numeric_stopped.f (k : Nat) (a0 : Int) (a1 : Int) : Option (Int) := none
theorem numeric_stopped.mono : ∀ a0 a1 k, LeO (numeric_stopped.f k a0 a1) (numeric_stopped.f (k + 1) a0 a1) := fun _ _ _ => LeO.none _
theorem numeric_stopped.calls (k : Nat) (a0 : Int) (a1 : Int) (r : Int) (w : World) (h : numeric_stopped.f k a0 a1 = some r) :
  Calls Tryz.prog 33 #[.int .i64 a0, .int .u64 a1] w fun e w' => e = .returned (.int .u64 r) ∧ Below w.heap.size w w' := by
 cases h
def numeric_truth.f (a0 : Bool) : Option (Int) := if a0 = true then (some 1) else (some 0)
theorem numeric_truth.calls (a0 : Bool) (r : Int) (w : World) (h : numeric_truth.f a0 = some r) :
  Calls Tryz.prog 26 #[.bool a0] w fun e w' => e = .returned (.int .u64 r) ∧ Drawn0 w w' := by
 have H : (if a0 = true then (some 1) else (some 0)) = some r := h
 clear h
 by_cases c2 : a0 = true
 ·subst c2
  have H1 : (some 1) = some r := by rw [if_pos rfl] at H; exact H
  clear H;have H := H1;clear H1
  obtain rfl := Option.some.inj H
  go_enter Tryz.func26, Tryz.ntmps26
  go_wp2
  go_ret
  exact ⟨sm_, by repeat (first | exact Drawn0.refl _ | apply Drawn0.step)⟩
 ·replace c2 := Bool.eq_false_iff.mpr c2
  subst c2
  have H1 : (some 0) = some r := by rw [if_neg (show ¬ (false = true) by decide)] at H; exact H
  clear H;have H := H1;clear H1
  obtain rfl := Option.some.inj H
  go_enter Tryz.func26, Tryz.ntmps26
  go_wp2
  go_ret
  exact ⟨sm_, by repeat (first | exact Drawn0.refl _ | apply Drawn0.step)⟩
def numeric_turn.f (k : Nat) (a0 : Int) (a1 : Int) : Option (Int × Int) := none
theorem numeric_turn.mono : ∀ a0 a1 k, LeO (numeric_turn.f k a0 a1) (numeric_turn.f (k + 1) a0 a1) := fun _ _ _ => LeO.none _
theorem numeric_turn.calls (k : Nat) (a0 : Int) (a1 : Int) (r1 : Int) (r2 : Int) (w : World) (h : numeric_turn.f k a0 a1 = some (r1, r2)) :
  Calls Tryz.prog 34 #[.int .i64 a0, .int .u64 a1] w fun e w' => e = .returned (.tuple #[.int .u64 r1, .int .i64 r2]) ∧ Below w.heap.size w w' := by
 cases h
def numeric_width.f (a0 : Int) : Option (Int) := if a0 = 127 then (some 32) else (if a0 = 125 then (some 32) else (some 64))
theorem numeric_width.calls (a0 : Int) (r : Int) (w : World) (h : numeric_width.f a0 = some r) :
  Calls Tryz.prog 24 #[.int .u8 a0] w fun e w' => e = .returned (.int .i64 r) ∧ Drawn0 w w' := by
 have H : (if a0 = 127 then (some 32) else (if a0 = 125 then (some 32) else (some 64))) = some r := h
 clear h
 by_cases c2 : a0 = 127
 ·rw [if_pos c2] at H
  have c2b0 : (a0 == 127) = true := beq_iff_eq.mpr c2
  have c2b1 : (a0 != 127) = false := bne_eq_false_iff_eq.mpr c2
  clear c2
  obtain rfl := Option.some.inj H
  go_enter Tryz.func24, Tryz.ntmps24
  go_wp2
  go_ret
  exact ⟨sm_, by repeat (first | exact Drawn0.refl _ | apply Drawn0.step)⟩
 ·rw [if_neg c2] at H
  have c2b0 : (a0 == 127) = false := beq_eq_false_iff_ne.mpr c2
  have c2b1 : (a0 != 127) = true := bne_iff_ne.mpr c2
  by_cases c3 : a0 = 125
  ·rw [if_pos c3] at H
   have c3b0 : (a0 == 125) = true := beq_iff_eq.mpr c3
   have c3b1 : (a0 != 125) = false := bne_eq_false_iff_eq.mpr c3
   clear c3
   obtain rfl := Option.some.inj H
   go_enter Tryz.func24, Tryz.ntmps24
   go_wp2
   go_ret
   exact ⟨sm_, by repeat (first | exact Drawn0.refl _ | apply Drawn0.step)⟩
  ·rw [if_neg c3] at H
   have c3b0 : (a0 == 125) = false := beq_eq_false_iff_ne.mpr c3
   have c3b1 : (a0 != 125) = true := bne_iff_ne.mpr c3
   obtain rfl := Option.some.inj H
   go_enter Tryz.func24, Tryz.ntmps24
   go_wp2
   go_ret
   exact ⟨sm_, by repeat (first | exact Drawn0.refl _ | apply Drawn0.step)⟩
end Go.Proofs.YtnmlmgmljoncoaaGreatDoor.PA
