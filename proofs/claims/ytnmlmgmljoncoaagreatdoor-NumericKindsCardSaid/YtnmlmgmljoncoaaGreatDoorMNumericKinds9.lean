/- What the Go functions that the statement NumericKinds reaches compute, and the mathematics on it, in the order in which one leans on the other; for every input. -/
import Derived.Test.YtnmlmgmljoncoaaGreatDoorVNumericKinds0
import Derived.Test.YtnmlmgmljoncoaaGreatDoorMNumericKinds0
import Derived.Test.YtnmlmgmljoncoaaGreatDoorMNumericKinds8
import Derived.Test.YtnmlmgmljoncoaaGreatDoorMNumericKinds1
namespace Go.Proofs.YtnmlmgmljoncoaaGreatDoor.PA
open Go.RowKit Go.Proofs.YtnmlmgmljoncoaaGreatDoorW.PrintWords Go.Proofs.YtnmlmgmljoncoaaGreatDoorW.PrintLast Go.Proofs.YtnmlmgmljoncoaaGreatDoorW.PrintMore
attribute [local go_sem] max2_int min2_int max_two min_two max_three min_three max_four min_four   -- for this text's walks alone
set_option linter.unusedVariables false
set_option linter.unusedSimpArgs false
set_option maxHeartbeats 8000000
set_option maxRecDepth 100000
def ints_ShrS.f (a0 : Int) (a1 : Int) (a2 : Int) : Option (Int) := (ints_signed.f a0 a1).bind fun t221 => ((ints_by.f a0 a2).bind fun t222 => (if 0 ≤ t222 then ((shape_Cut.f a0 (IntKind.u64.wrap (shr .i64 t221 t222))).bind fun t223 => (some t223)) else (none)))
theorem ints_ShrS.calls (a0 : Int) (a1 : Int) (a2 : Int) (r : Int) (w : World) (h : ints_ShrS.f a0 a1 a2 = some r) :
  Calls Tryz.prog 135 #[.int .i64 a0, .int .u64 a1, .int .u64 a2] w fun e w' => e = .returned (.int .u64 r) ∧ Drawn0 w w' := by
 have H : ((ints_signed.f a0 a1).bind fun t221 => ((ints_by.f a0 a2).bind fun t222 => (if 0 ≤ t222 then ((shape_Cut.f a0 (IntKind.u64.wrap (shr .i64 t221 t222))).bind fun t223 => (some t223)) else (none)))) = some r := h
 clear h
 replace H := ob_ H
 obtain ⟨t221, A40, H⟩ := H
 replace H : ((ints_by.f a0 a2).bind fun t222 => (if 0 ≤ t222 then ((shape_Cut.f a0 (IntKind.u64.wrap (shr .i64 t221 t222))).bind fun t223 => (some t223)) else (none))) = some r := H
 have A4 := A_ A40;clear A40
 replace H := ob_ H
 obtain ⟨t222, A50, H⟩ := H
 replace H : (if 0 ≤ t222 then ((shape_Cut.f a0 (IntKind.u64.wrap (shr .i64 t221 t222))).bind fun t223 => (some t223)) else (none)) = some r := H
 have A5 := A_ A50;clear A50
 by_cases c6 : 0 ≤ t222
 ·rw [if_pos c6] at H
  have c6b0 := eq_true c6
  have c6b1 : decide (0 ≤ t222) = true := decide_eq_true c6
  clear c6
  obtain ⟨ji7, hji7⟩ : ∃ j_ : Int, (shr .i64 t221 t222) = j_ := ⟨_, rfl⟩
  replace H : ((shape_Cut.f a0 (IntKind.u64.wrap (ji7))).bind fun t223 => (some t223)) = some r := by first | (rw [hji7] at H; exact H) | (simp only [hji7] at H ⊢; exact H)
  (try rw [hji7] at A4)
  (try rw [hji7] at A5)
  have hji7_ : (t221 / 2 ^ min t222.toNat 64) = ji7 := hji7
  have hji7z : t222 ≤ 64 → (t221 / 2 ^ t222.toNat) = ji7 := shr_small hji7
  replace H := ob_ H
  obtain ⟨t223, A80, H⟩ := H
  replace H : (some t223) = some r := H
  have A8 := A_ A80;clear A80
  obtain rfl := Option.some.inj H
  go_enter Tryz.func135, Tryz.ntmps135
  go_wp2_with (first | ((with_reducible refine gate_callee (f := 122) rfl ?_); refine goesL_ (some 10) rfl rfl Tryz.func122 (by kernel_rfl) rfl #[.int .i64 a0, .int .u64 a1] rfl mp_ ?_; (with_reducible refine (ints_signed.calls a0 a1 t221 _ A4.out).mono ?_); rintro e w' ⟨rfl, ⟨nd, rfl⟩⟩; refine ⟨_, rfl, ?_⟩) | ((with_reducible refine gate_callee (f := 205) rfl ?_); refine goesL_ (some 13) rfl rfl Tryz.func205 (by kernel_rfl) rfl #[.int .i64 a0, .int .u64 a2] rfl mp_ ?_; (with_reducible refine (ints_by.calls a0 a2 t222 _ A5.out).mono ?_); rintro e w' ⟨rfl, ⟨nd, rfl⟩⟩; refine ⟨_, rfl, ?_⟩) | ((with_reducible refine gate_callee (f := 17) rfl ?_); refine goesL_ (some 16) rfl rfl Tryz.func17 (by kernel_rfl) rfl #[.int .i64 a0, .int .u64 (IntKind.u64.wrap (ji7))] rfl (by (try simp only [List.map_toArray, List.map_cons, List.map_nil]); first | done | (simp only [hji7]; rfl) | rfl | (simp only [List.length_drop, List.length_take]; rfl)) ?_; (with_reducible refine (shape_Cut.calls a0 (IntKind.u64.wrap (ji7)) t223 _ A8.out).mono ?_); rintro e w' ⟨rfl, ⟨nd, rfl⟩⟩; refine ⟨_, rfl, ?_⟩))
  go_ret
  exact ⟨by first | rfl | (simp; done) | (simp only [← hji7] <;> (first | rfl | simp)) | (simp [*]; done), by repeat (first | exact Drawn0.refl _ | apply Drawn0.step)⟩
 ·rw [if_neg c6] at H
  exact absurd H (by simp)
def ints_ShrU.f (a0 : Int) (a1 : Int) (a2 : Int) : Option (Int) := (shape_Cut.f a0 a1).bind fun t224 => ((ints_by.f a0 a2).bind fun t225 => (if 0 ≤ t225 then (some (shr .u64 t224 t225)) else (none)))
theorem ints_ShrU.calls (a0 : Int) (a1 : Int) (a2 : Int) (r : Int) (w : World) (h : ints_ShrU.f a0 a1 a2 = some r) :
  Calls Tryz.prog 136 #[.int .i64 a0, .int .u64 a1, .int .u64 a2] w fun e w' => e = .returned (.int .u64 r) ∧ Drawn0 w w' := by
 have H : ((shape_Cut.f a0 a1).bind fun t224 => ((ints_by.f a0 a2).bind fun t225 => (if 0 ≤ t225 then (some (shr .u64 t224 t225)) else (none)))) = some r := h
 clear h
 replace H := ob_ H
 obtain ⟨t224, A40, H⟩ := H
 replace H : ((ints_by.f a0 a2).bind fun t225 => (if 0 ≤ t225 then (some (shr .u64 t224 t225)) else (none))) = some r := H
 have A4 := A_ A40;clear A40
 replace H := ob_ H
 obtain ⟨t225, A50, H⟩ := H
 replace H : (if 0 ≤ t225 then (some (shr .u64 t224 t225)) else (none)) = some r := H
 have A5 := A_ A50;clear A50
 by_cases c6 : 0 ≤ t225
 ·rw [if_pos c6] at H
  have c6b0 := eq_true c6
  have c6b1 : decide (0 ≤ t225) = true := decide_eq_true c6
  clear c6
  obtain ⟨ji7, hji7⟩ : ∃ j_ : Int, (shr .u64 t224 t225) = j_ := ⟨_, rfl⟩
  replace H : (some ji7) = some r := by first | (rw [hji7] at H; exact H) | (simp only [hji7] at H ⊢; exact H)
  (try rw [hji7] at A4)
  (try rw [hji7] at A5)
  have hji7_ : (t224 / 2 ^ min t225.toNat 64) = ji7 := hji7
  have hji7z : t225 ≤ 64 → (t224 / 2 ^ t225.toNat) = ji7 := shr_small hji7
  obtain rfl := Option.some.inj H
  go_enter Tryz.func136, Tryz.ntmps136
  go_wp2_with (first | ((with_reducible refine gate_callee (f := 17) rfl ?_); refine goesL_ (some 9) rfl rfl Tryz.func17 (by kernel_rfl) rfl #[.int .i64 a0, .int .u64 a1] rfl mp_ ?_; (with_reducible refine (shape_Cut.calls a0 a1 t224 _ A4.out).mono ?_); rintro e w' ⟨rfl, ⟨nd, rfl⟩⟩; refine ⟨_, rfl, ?_⟩) | ((with_reducible refine gate_callee (f := 205) rfl ?_); refine goesL_ (some 12) rfl rfl Tryz.func205 (by kernel_rfl) rfl #[.int .i64 a0, .int .u64 a2] rfl mp_ ?_; (with_reducible refine (ints_by.calls a0 a2 t225 _ A5.out).mono ?_); rintro e w' ⟨rfl, ⟨nd, rfl⟩⟩; refine ⟨_, rfl, ?_⟩))
  go_ret
  exact ⟨by first | rfl | (simp; done) | (simp only [← hji7] <;> (first | rfl | simp)) | (simp [*]; done), by repeat (first | exact Drawn0.refl _ | apply Drawn0.step)⟩
 ·rw [if_neg c6] at H
  exact absurd H (by simp)
def numeric_plain.f (a0 : Int) (a1 : Int) (a2 : Int) (a3 : Int) : Option (Int) := if a0 = 3 then ((ints_Add.f a1 a2 a3).bind fun t226 => (some t226)) else (if a0 = 4 then ((ints_Sub.f a1 a2 a3).bind fun t227 => (some t227)) else (if a0 = 5 then ((ints_Mul.f a1 a2 a3).bind fun t228 => (some t228)) else (if a0 = 10 then (some (Go.bits .and .u64 a2 a3)) else (if a0 = 11 then (some (Go.bits .or .u64 a2 a3)) else (if a0 = 12 then (some (Go.bits .xor .u64 a2 a3)) else (if a0 = 13 then ((ints_Shl.f a1 a2 a3).bind fun t229 => (some t229)) else (if a0 = 14 then ((ints_ShrS.f a1 a2 a3).bind fun t230 => (some t230)) else (if a0 = 15 then ((ints_ShrU.f a1 a2 a3).bind fun t231 => (some t231)) else (if a0 = 16 then ((ints_Rotl.f a1 a2 a3).bind fun t232 => (some t232)) else ((ints_Rotr.f a1 a2 a3).bind fun t233 => (some t233)))))))))))
theorem numeric_plain.calls (a0 : Int) (a1 : Int) (a2 : Int) (a3 : Int) (r : Int) (w : World) (h : numeric_plain.f a0 a1 a2 a3 = some r) :
  Calls Tryz.prog 75 #[.int .i64 a0, .int .i64 a1, .int .u64 a2, .int .u64 a3] w fun e w' => e = .returned (.int .u64 r) ∧ Below w.heap.size w w' := by
 have HB := A_ (Below.refl w.heap.size w)
 have H : (if a0 = 3 then ((ints_Add.f a1 a2 a3).bind fun t226 => (some t226)) else (if a0 = 4 then ((ints_Sub.f a1 a2 a3).bind fun t227 => (some t227)) else (if a0 = 5 then ((ints_Mul.f a1 a2 a3).bind fun t228 => (some t228)) else (if a0 = 10 then (some (Go.bits .and .u64 a2 a3)) else (if a0 = 11 then (some (Go.bits .or .u64 a2 a3)) else (if a0 = 12 then (some (Go.bits .xor .u64 a2 a3)) else (if a0 = 13 then ((ints_Shl.f a1 a2 a3).bind fun t229 => (some t229)) else (if a0 = 14 then ((ints_ShrS.f a1 a2 a3).bind fun t230 => (some t230)) else (if a0 = 15 then ((ints_ShrU.f a1 a2 a3).bind fun t231 => (some t231)) else (if a0 = 16 then ((ints_Rotl.f a1 a2 a3).bind fun t232 => (some t232)) else ((ints_Rotr.f a1 a2 a3).bind fun t233 => (some t233)))))))))))) = some r := h
 clear h
 by_cases c5 : a0 = 3
 ·rw [if_pos c5] at H
  have c5b0 : (a0 == 3) = true := beq_iff_eq.mpr c5
  have c5b1 : (a0 != 3) = false := bne_eq_false_iff_eq.mpr c5
  clear c5
  replace H := ob_ H
  obtain ⟨t226, A60, H⟩ := H
  replace H : (some t226) = some r := H
  have A6 := A_ A60;clear A60
  obtain rfl := Option.some.inj H
  go_enter Tryz.func75, Tryz.ntmps75
  go_wp2_with (first | ((with_reducible refine gate_callee (f := 133) rfl ?_); refine goesL_ (some 15) rfl rfl Tryz.func133 (by kernel_rfl) rfl #[.int .i64 a1, .int .u64 a2, .int .u64 a3] rfl mp_ ?_; (with_reducible refine (ints_Add.calls a1 a2 a3 t226 _ A6.out).mono ?_); rintro e w' ⟨rfl, ⟨nd, rfl⟩⟩; refine ⟨_, rfl, ?_⟩))
  go_ret
  exact ⟨er_, hb_ HB.out⟩
 ·rw [if_neg c5] at H
  have c5b0 : (a0 == 3) = false := beq_eq_false_iff_ne.mpr c5
  have c5b1 : (a0 != 3) = true := bne_iff_ne.mpr c5
  by_cases c7 : a0 = 4
  ·rw [if_pos c7] at H
   have c7b0 : (a0 == 4) = true := beq_iff_eq.mpr c7
   have c7b1 : (a0 != 4) = false := bne_eq_false_iff_eq.mpr c7
   clear c7
   replace H := ob_ H
   obtain ⟨t227, A80, H⟩ := H
   replace H : (some t227) = some r := H
   have A8 := A_ A80;clear A80
   obtain rfl := Option.some.inj H
   go_enter Tryz.func75, Tryz.ntmps75
   go_wp2_with (first | ((with_reducible refine gate_callee (f := 131) rfl ?_); refine goesL_ (some 21) rfl rfl Tryz.func131 (by kernel_rfl) rfl #[.int .i64 a1, .int .u64 a2, .int .u64 a3] rfl mp_ ?_; (with_reducible refine (ints_Sub.calls a1 a2 a3 t227 _ A8.out).mono ?_); rintro e w' ⟨rfl, ⟨nd, rfl⟩⟩; refine ⟨_, rfl, ?_⟩))
   go_ret
   exact ⟨er_, hb_ HB.out⟩
  ·rw [if_neg c7] at H
   have c7b0 : (a0 == 4) = false := beq_eq_false_iff_ne.mpr c7
   have c7b1 : (a0 != 4) = true := bne_iff_ne.mpr c7
   by_cases c9 : a0 = 5
   ·rw [if_pos c9] at H
    have c9b0 : (a0 == 5) = true := beq_iff_eq.mpr c9
    have c9b1 : (a0 != 5) = false := bne_eq_false_iff_eq.mpr c9
    clear c9
    replace H := ob_ H
    obtain ⟨t228, A100, H⟩ := H
    replace H : (some t228) = some r := H
    have A10 := A_ A100;clear A100
    obtain rfl := Option.some.inj H
    go_enter Tryz.func75, Tryz.ntmps75
    go_wp2_with (first | ((with_reducible refine gate_callee (f := 132) rfl ?_); refine goesL_ (some 27) rfl rfl Tryz.func132 (by kernel_rfl) rfl #[.int .i64 a1, .int .u64 a2, .int .u64 a3] rfl mp_ ?_; (with_reducible refine (ints_Mul.calls a1 a2 a3 t228 _ A10.out).mono ?_); rintro e w' ⟨rfl, ⟨nd, rfl⟩⟩; refine ⟨_, rfl, ?_⟩))
    go_ret
    exact ⟨er_, hb_ HB.out⟩
   ·rw [if_neg c9] at H
    have c9b0 : (a0 == 5) = false := beq_eq_false_iff_ne.mpr c9
    have c9b1 : (a0 != 5) = true := bne_iff_ne.mpr c9
    by_cases c11 : a0 = 10
    ·rw [if_pos c11] at H
     have c11b0 : (a0 == 10) = true := beq_iff_eq.mpr c11
     have c11b1 : (a0 != 10) = false := bne_eq_false_iff_eq.mpr c11
     clear c11
     obtain rfl := Option.some.inj H
     go_enter Tryz.func75, Tryz.ntmps75
     go_wp2
     go_ret
     exact ⟨er_, hb_ HB.out⟩
    ·rw [if_neg c11] at H
     have c11b0 : (a0 == 10) = false := beq_eq_false_iff_ne.mpr c11
     have c11b1 : (a0 != 10) = true := bne_iff_ne.mpr c11
     by_cases c12 : a0 = 11
     ·rw [if_pos c12] at H
      have c12b0 : (a0 == 11) = true := beq_iff_eq.mpr c12
      have c12b1 : (a0 != 11) = false := bne_eq_false_iff_eq.mpr c12
      clear c12
      obtain rfl := Option.some.inj H
      go_enter Tryz.func75, Tryz.ntmps75
      go_wp2
      go_ret
      exact ⟨er_, hb_ HB.out⟩
     ·rw [if_neg c12] at H
      have c12b0 : (a0 == 11) = false := beq_eq_false_iff_ne.mpr c12
      have c12b1 : (a0 != 11) = true := bne_iff_ne.mpr c12
      by_cases c13 : a0 = 12
      ·rw [if_pos c13] at H
       have c13b0 : (a0 == 12) = true := beq_iff_eq.mpr c13
       have c13b1 : (a0 != 12) = false := bne_eq_false_iff_eq.mpr c13
       clear c13
       obtain rfl := Option.some.inj H
       go_enter Tryz.func75, Tryz.ntmps75
       go_wp2
       go_ret
       exact ⟨er_, hb_ HB.out⟩
      ·rw [if_neg c13] at H
       have c13b0 : (a0 == 12) = false := beq_eq_false_iff_ne.mpr c13
       have c13b1 : (a0 != 12) = true := bne_iff_ne.mpr c13
       by_cases c14 : a0 = 13
       ·rw [if_pos c14] at H
        have c14b0 : (a0 == 13) = true := beq_iff_eq.mpr c14
        have c14b1 : (a0 != 13) = false := bne_eq_false_iff_eq.mpr c14
        clear c14
        replace H := ob_ H
        obtain ⟨t229, A150, H⟩ := H
        replace H : (some t229) = some r := H
        have A15 := A_ A150;clear A150
        obtain rfl := Option.some.inj H
        go_enter Tryz.func75, Tryz.ntmps75
        go_wp2_with (first | ((with_reducible refine gate_callee (f := 134) rfl ?_); refine goesL_ (some 48) rfl rfl Tryz.func134 (by kernel_rfl) rfl #[.int .i64 a1, .int .u64 a2, .int .u64 a3] rfl mp_ ?_; (with_reducible refine (ints_Shl.calls a1 a2 a3 t229 _ A15.out).mono ?_); rintro e w' ⟨rfl, ⟨nd, rfl⟩⟩; refine ⟨_, rfl, ?_⟩))
        go_ret
        exact ⟨er_, hb_ HB.out⟩
       ·rw [if_neg c14] at H
        have c14b0 : (a0 == 13) = false := beq_eq_false_iff_ne.mpr c14
        have c14b1 : (a0 != 13) = true := bne_iff_ne.mpr c14
        by_cases c16 : a0 = 14
        ·rw [if_pos c16] at H
         have c16b0 : (a0 == 14) = true := beq_iff_eq.mpr c16
         have c16b1 : (a0 != 14) = false := bne_eq_false_iff_eq.mpr c16
         clear c16
         replace H := ob_ H
         obtain ⟨t230, A170, H⟩ := H
         replace H : (some t230) = some r := H
         have A17 := A_ A170;clear A170
         obtain rfl := Option.some.inj H
         go_enter Tryz.func75, Tryz.ntmps75
         go_wp2_with (first | ((with_reducible refine gate_callee (f := 135) rfl ?_); refine goesL_ (some 54) rfl rfl Tryz.func135 (by kernel_rfl) rfl #[.int .i64 a1, .int .u64 a2, .int .u64 a3] rfl mp_ ?_; (with_reducible refine (ints_ShrS.calls a1 a2 a3 t230 _ A17.out).mono ?_); rintro e w' ⟨rfl, ⟨nd, rfl⟩⟩; refine ⟨_, rfl, ?_⟩))
         go_ret
         exact ⟨er_, hb_ HB.out⟩
        ·rw [if_neg c16] at H
         have c16b0 : (a0 == 14) = false := beq_eq_false_iff_ne.mpr c16
         have c16b1 : (a0 != 14) = true := bne_iff_ne.mpr c16
         by_cases c18 : a0 = 15
         ·rw [if_pos c18] at H
          have c18b0 : (a0 == 15) = true := beq_iff_eq.mpr c18
          have c18b1 : (a0 != 15) = false := bne_eq_false_iff_eq.mpr c18
          clear c18
          replace H := ob_ H
          obtain ⟨t231, A190, H⟩ := H
          replace H : (some t231) = some r := H
          have A19 := A_ A190;clear A190
          obtain rfl := Option.some.inj H
          go_enter Tryz.func75, Tryz.ntmps75
          go_wp2_with (first | ((with_reducible refine gate_callee (f := 136) rfl ?_); refine goesL_ (some 60) rfl rfl Tryz.func136 (by kernel_rfl) rfl #[.int .i64 a1, .int .u64 a2, .int .u64 a3] rfl mp_ ?_; (with_reducible refine (ints_ShrU.calls a1 a2 a3 t231 _ A19.out).mono ?_); rintro e w' ⟨rfl, ⟨nd, rfl⟩⟩; refine ⟨_, rfl, ?_⟩))
          go_ret
          exact ⟨er_, hb_ HB.out⟩
         ·rw [if_neg c18] at H
          have c18b0 : (a0 == 15) = false := beq_eq_false_iff_ne.mpr c18
          have c18b1 : (a0 != 15) = true := bne_iff_ne.mpr c18
          by_cases c20 : a0 = 16
          ·rw [if_pos c20] at H
           have c20b0 : (a0 == 16) = true := beq_iff_eq.mpr c20
           have c20b1 : (a0 != 16) = false := bne_eq_false_iff_eq.mpr c20
           clear c20
           replace H := ob_ H
           obtain ⟨t232, A210, H⟩ := H
           replace H : (some t232) = some r := H
           have A21 := A_ A210;clear A210
           obtain rfl := Option.some.inj H
           go_enter Tryz.func75, Tryz.ntmps75
           go_wp2_with (first | ((with_reducible refine gate_callee (f := 137) rfl ?_); refine goesL_ (some 66) rfl rfl Tryz.func137 (by kernel_rfl) rfl #[.int .i64 a1, .int .u64 a2, .int .u64 a3] rfl mp_ ?_; (with_reducible refine (ints_Rotl.calls a1 a2 a3 t232 _ A21.out).mono ?_); rintro e w22 ⟨rfl, hb⟩; refine ⟨_, rfl, ?_⟩; replace HB := A_ (below_step (hb_ HB.out) hb); (try clear hb); (try clear hb2); (try clear hk); (try clear hi)))
           go_ret
           exact ⟨er_, hb_ HB.out⟩
          ·rw [if_neg c20] at H
           have c20b0 : (a0 == 16) = false := beq_eq_false_iff_ne.mpr c20
           have c20b1 : (a0 != 16) = true := bne_iff_ne.mpr c20
           replace H := ob_ H
           obtain ⟨t233, A230, H⟩ := H
           replace H : (some t233) = some r := H
           have A23 := A_ A230;clear A230
           obtain rfl := Option.some.inj H
           go_enter Tryz.func75, Tryz.ntmps75
           go_wp2_with (first | ((with_reducible refine gate_callee (f := 138) rfl ?_); refine goesL_ (some 70) rfl rfl Tryz.func138 (by kernel_rfl) rfl #[.int .i64 a1, .int .u64 a2, .int .u64 a3] rfl mp_ ?_; (with_reducible refine (ints_Rotr.calls a1 a2 a3 t233 _ A23.out).mono ?_); rintro e w24 ⟨rfl, hb⟩; refine ⟨_, rfl, ?_⟩; replace HB := A_ (below_step (hb_ HB.out) hb); (try clear hb); (try clear hb2); (try clear hk); (try clear hi)))
           go_ret
           exact ⟨er_, hb_ HB.out⟩
def numeric_reckoned.f (a0 : Int) (a1 : Int) (a2 : Int) (a3 : Int) : Option (Int × Int) := if a0 = 6 then ((ints_DivS.f a1 a2 a3).bind fun bt234 => (some (bt234.1, bt234.2))) else (if a0 = 7 then ((ints_DivU.f a1 a2 a3).bind fun bt236 => (some (bt236.1, bt236.2))) else (if a0 = 8 then ((ints_RemS.f a1 a2 a3).bind fun bt238 => (some (bt238.1, bt238.2))) else (if a0 = 9 then ((ints_RemU.f a1 a2 a3).bind fun bt240 => (some (bt240.1, bt240.2))) else ((numeric_plain.f a0 a1 a2 a3).bind fun t242 => (some (t242, 0))))))
theorem numeric_reckoned.calls (a0 : Int) (a1 : Int) (a2 : Int) (a3 : Int) (r1 : Int) (r2 : Int) (w : World) (h : numeric_reckoned.f a0 a1 a2 a3 = some (r1, r2)) :
  Calls Tryz.prog 30 #[.int .i64 a0, .int .i64 a1, .int .u64 a2, .int .u64 a3] w fun e w' => e = .returned (.tuple #[.int .u64 r1, .int .i64 r2]) ∧ Below w.heap.size w w' := by
 have HB := A_ (Below.refl w.heap.size w)
 have H : (if a0 = 6 then ((ints_DivS.f a1 a2 a3).bind fun bt234 => (some (bt234.1, bt234.2))) else (if a0 = 7 then ((ints_DivU.f a1 a2 a3).bind fun bt236 => (some (bt236.1, bt236.2))) else (if a0 = 8 then ((ints_RemS.f a1 a2 a3).bind fun bt238 => (some (bt238.1, bt238.2))) else (if a0 = 9 then ((ints_RemU.f a1 a2 a3).bind fun bt240 => (some (bt240.1, bt240.2))) else ((numeric_plain.f a0 a1 a2 a3).bind fun t242 => (some (t242, 0))))))) = some (r1, r2) := h
 clear h
 by_cases c5 : a0 = 6
 ·rw [if_pos c5] at H
  have c5b0 : (a0 == 6) = true := beq_iff_eq.mpr c5
  have c5b1 : (a0 != 6) = false := bne_eq_false_iff_eq.mpr c5
  clear c5
  replace H := ob_ H
  obtain ⟨⟨t234, t235⟩, A60, H⟩ := H
  replace H : (some (t234, t235)) = some (r1, r2) := H
  have A6 := A_ A60;clear A60
  simp only [Option.some.injEq, Prod.mk.injEq] at H
  obtain ⟨rfl, rfl⟩ := H
  go_enter Tryz.func30, Tryz.ntmps30
  go_wp2_with (first | ((with_reducible refine gate_callee (f := 71) rfl ?_); refine goesL_ (some 16) rfl rfl Tryz.func71 (by kernel_rfl) rfl #[.int .i64 a1, .int .u64 a2, .int .u64 a3] rfl mp_ ?_; (with_reducible refine (ints_DivS.calls a1 a2 a3 t234 t235 _ A6.out).mono ?_); rintro e w' ⟨rfl, ⟨nd, rfl⟩⟩; refine ⟨_, rfl, ?_⟩))
  go_ret2
  exact ⟨er_, hb_ HB.out⟩
 ·rw [if_neg c5] at H
  have c5b0 : (a0 == 6) = false := beq_eq_false_iff_ne.mpr c5
  have c5b1 : (a0 != 6) = true := bne_iff_ne.mpr c5
  by_cases c7 : a0 = 7
  ·rw [if_pos c7] at H
   have c7b0 : (a0 == 7) = true := beq_iff_eq.mpr c7
   have c7b1 : (a0 != 7) = false := bne_eq_false_iff_eq.mpr c7
   clear c7
   replace H := ob_ H
   obtain ⟨⟨t236, t237⟩, A80, H⟩ := H
   replace H : (some (t236, t237)) = some (r1, r2) := H
   have A8 := A_ A80;clear A80
   simp only [Option.some.injEq, Prod.mk.injEq] at H
   obtain ⟨rfl, rfl⟩ := H
   go_enter Tryz.func30, Tryz.ntmps30
   go_wp2_with (first | ((with_reducible refine gate_callee (f := 72) rfl ?_); refine goesL_ (some 24) rfl rfl Tryz.func72 (by kernel_rfl) rfl #[.int .i64 a1, .int .u64 a2, .int .u64 a3] rfl mp_ ?_; (with_reducible refine (ints_DivU.calls a1 a2 a3 t236 t237 _ A8.out).mono ?_); rintro e w' ⟨rfl, ⟨nd, rfl⟩⟩; refine ⟨_, rfl, ?_⟩))
   go_ret2
   exact ⟨er_, hb_ HB.out⟩
  ·rw [if_neg c7] at H
   have c7b0 : (a0 == 7) = false := beq_eq_false_iff_ne.mpr c7
   have c7b1 : (a0 != 7) = true := bne_iff_ne.mpr c7
   by_cases c9 : a0 = 8
   ·rw [if_pos c9] at H
    have c9b0 : (a0 == 8) = true := beq_iff_eq.mpr c9
    have c9b1 : (a0 != 8) = false := bne_eq_false_iff_eq.mpr c9
    clear c9
    replace H := ob_ H
    obtain ⟨⟨t238, t239⟩, A100, H⟩ := H
    replace H : (some (t238, t239)) = some (r1, r2) := H
    have A10 := A_ A100;clear A100
    simp only [Option.some.injEq, Prod.mk.injEq] at H
    obtain ⟨rfl, rfl⟩ := H
    go_enter Tryz.func30, Tryz.ntmps30
    go_wp2_with (first | ((with_reducible refine gate_callee (f := 73) rfl ?_); refine goesL_ (some 32) rfl rfl Tryz.func73 (by kernel_rfl) rfl #[.int .i64 a1, .int .u64 a2, .int .u64 a3] rfl mp_ ?_; (with_reducible refine (ints_RemS.calls a1 a2 a3 t238 t239 _ A10.out).mono ?_); rintro e w' ⟨rfl, ⟨nd, rfl⟩⟩; refine ⟨_, rfl, ?_⟩))
    go_ret2
    exact ⟨er_, hb_ HB.out⟩
   ·rw [if_neg c9] at H
    have c9b0 : (a0 == 8) = false := beq_eq_false_iff_ne.mpr c9
    have c9b1 : (a0 != 8) = true := bne_iff_ne.mpr c9
    by_cases c11 : a0 = 9
    ·rw [if_pos c11] at H
     have c11b0 : (a0 == 9) = true := beq_iff_eq.mpr c11
     have c11b1 : (a0 != 9) = false := bne_eq_false_iff_eq.mpr c11
     clear c11
     replace H := ob_ H
     obtain ⟨⟨t240, t241⟩, A120, H⟩ := H
     replace H : (some (t240, t241)) = some (r1, r2) := H
     have A12 := A_ A120;clear A120
     simp only [Option.some.injEq, Prod.mk.injEq] at H
     obtain ⟨rfl, rfl⟩ := H
     go_enter Tryz.func30, Tryz.ntmps30
     go_wp2_with (first | ((with_reducible refine gate_callee (f := 74) rfl ?_); refine goesL_ (some 40) rfl rfl Tryz.func74 (by kernel_rfl) rfl #[.int .i64 a1, .int .u64 a2, .int .u64 a3] rfl mp_ ?_; (with_reducible refine (ints_RemU.calls a1 a2 a3 t240 t241 _ A12.out).mono ?_); rintro e w' ⟨rfl, ⟨nd, rfl⟩⟩; refine ⟨_, rfl, ?_⟩))
     go_ret2
     exact ⟨er_, hb_ HB.out⟩
    ·rw [if_neg c11] at H
     have c11b0 : (a0 == 9) = false := beq_eq_false_iff_ne.mpr c11
     have c11b1 : (a0 != 9) = true := bne_iff_ne.mpr c11
     replace H := ob_ H
     obtain ⟨t242, A130, H⟩ := H
     replace H : (some (t242, 0)) = some (r1, r2) := H
     have A13 := A_ A130;clear A130
     simp only [Option.some.injEq, Prod.mk.injEq] at H
     obtain ⟨rfl, rfl⟩ := H
     go_enter Tryz.func30, Tryz.ntmps30
     go_wp2_with (first | ((with_reducible refine gate_callee (f := 75) rfl ?_); refine goesL_ (some 47) rfl rfl Tryz.func75 (by kernel_rfl) rfl #[.int .i64 a0, .int .i64 a1, .int .u64 a2, .int .u64 a3] rfl mp_ ?_; (with_reducible refine (numeric_plain.calls a0 a1 a2 a3 t242 _ A13.out).mono ?_); rintro e w14 ⟨rfl, hb⟩; refine ⟨_, rfl, ?_⟩; replace HB := A_ (below_step (hb_ HB.out) hb); (try clear hb); (try clear hb2); (try clear hk); (try clear hi)))
     go_ret2
     exact ⟨er_, hb_ HB.out⟩
def numeric_related.f (a0 : Int) (a1 : Int) (a2 : Int) (a3 : Int) : Option (Bool) := none
theorem numeric_related.calls (a0 : Int) (a1 : Int) (a2 : Int) (a3 : Int) (r : Bool) (w : World) (h : numeric_related.f a0 a1 a2 a3 = some r) :
  Calls Tryz.prog 27 #[.int .i64 a0, .int .i64 a1, .int .u64 a2, .int .u64 a3] w fun e w' => e = .returned (.bool r) ∧ Drawn0 w w' := by
 cases h
def numeric_rounded.f (k : Nat) (a0 : Int) (a1 : Int) (a2 : Int) : Option (Int) := none
theorem numeric_rounded.mono : ∀ a0 a1 a2 k, LeO (numeric_rounded.f k a0 a1 a2) (numeric_rounded.f (k + 1) a0 a1 a2) := fun _ _ _ _ => LeO.none _
theorem numeric_rounded.calls (k : Nat) (a0 : Int) (a1 : Int) (a2 : Int) (r : Int) (w : World) (h : numeric_rounded.f k a0 a1 a2 = some r) :
  Calls Tryz.prog 31 #[.int .i64 a0, .int .i64 a1, .int .u64 a2] w fun e w' => e = .returned (.int .u64 r) ∧ Below w.heap.size w w' := by
 cases h
def numeric_stopped.f (k : Nat) (a0 : Int) (a1 : Int) : Option (Int) := none
theorem numeric_stopped.mono : ∀ a0 a1 k, LeO (numeric_stopped.f k a0 a1) (numeric_stopped.f (k + 1) a0 a1) := fun _ _ _ => LeO.none _
theorem numeric_stopped.calls (k : Nat) (a0 : Int) (a1 : Int) (r : Int) (w : World) (h : numeric_stopped.f k a0 a1 = some r) :
  Calls Tryz.prog 33 #[.int .i64 a0, .int .u64 a1] w fun e w' => e = .returned (.int .u64 r) ∧ Below w.heap.size w w' := by
 cases h
def numeric_truth.f (a0 : Bool) : Option (Int) := if a0 = true then (some 1) else (some 0)
theorem numeric_truth.calls (a0 : Bool) (r : Int) (w : World) (h : numeric_truth.f a0 = some r) :
  Calls Tryz.prog 26 #[.bool a0] w fun e w' => e = .returned (.int .u64 r) ∧ Drawn0 w w' := by
 have H : (if a0 = true then (some 1) else (some 0)) = some r := h
 clear h
 by_cases c2 : a0 = true
 ·subst c2
  have H1 : (some 1) = some r := by rw [if_pos rfl] at H; exact H
  clear H;have H := H1;clear H1
  obtain rfl := Option.some.inj H
  go_enter Tryz.func26, Tryz.ntmps26
  go_wp2
  go_ret
  exact ⟨sm_, by repeat (first | exact Drawn0.refl _ | apply Drawn0.step)⟩
 ·replace c2 := Bool.eq_false_iff.mpr c2
  subst c2
  have H1 : (some 0) = some r := by rw [if_neg (show ¬ (false = true) by decide)] at H; exact H
  clear H;have H := H1;clear H1
  obtain rfl := Option.some.inj H
  go_enter Tryz.func26, Tryz.ntmps26
  go_wp2
  go_ret
  exact ⟨sm_, by repeat (first | exact Drawn0.refl _ | apply Drawn0.step)⟩
def numeric_turn.f (k : Nat) (a0 : Int) (a1 : Int) : Option (Int × Int) := none
theorem numeric_turn.mono : ∀ a0 a1 k, LeO (numeric_turn.f k a0 a1) (numeric_turn.f (k + 1) a0 a1) := fun _ _ _ => LeO.none _
theorem numeric_turn.calls (k : Nat) (a0 : Int) (a1 : Int) (r1 : Int) (r2 : Int) (w : World) (h : numeric_turn.f k a0 a1 = some (r1, r2)) :
  Calls Tryz.prog 34 #[.int .i64 a0, .int .u64 a1] w fun e w' => e = .returned (.tuple #[.int .u64 r1, .int .i64 r2]) ∧ Below w.heap.size w w' := by
 cases h
def numeric_width.f (a0 : Int) : Option (Int) := if a0 = 127 then (some 32) else (if a0 = 125 then (some 32) else (some 64))
theorem numeric_width.calls (a0 : Int) (r : Int) (w : World) (h : numeric_width.f a0 = some r) :
  Calls Tryz.prog 24 #[.int .u8 a0] w fun e w' => e = .returned (.int .i64 r) ∧ Drawn0 w w' := by
 have H : (if a0 = 127 then (some 32) else (if a0 = 125 then (some 32) else (some 64))) = some r := h
 clear h
 by_cases c2 : a0 = 127
 ·rw [if_pos c2] at H
  have c2b0 : (a0 == 127) = true := beq_iff_eq.mpr c2
  have c2b1 : (a0 != 127) = false := bne_eq_false_iff_eq.mpr c2
  clear c2
  obtain rfl := Option.some.inj H
  go_enter Tryz.func24, Tryz.ntmps24
  go_wp2
  go_ret
  exact ⟨sm_, by repeat (first | exact Drawn0.refl _ | apply Drawn0.step)⟩
 ·rw [if_neg c2] at H
  have c2b0 : (a0 == 127) = false := beq_eq_false_iff_ne.mpr c2
  have c2b1 : (a0 != 127) = true := bne_iff_ne.mpr c2
  by_cases c3 : a0 = 125
  ·rw [if_pos c3] at H
   have c3b0 : (a0 == 125) = true := beq_iff_eq.mpr c3
   have c3b1 : (a0 != 125) = false := bne_eq_false_iff_eq.mpr c3
   clear c3
   obtain rfl := Option.some.inj H
   go_enter Tryz.func24, Tryz.ntmps24
   go_wp2
   go_ret
   exact ⟨sm_, by repeat (first | exact Drawn0.refl _ | apply Drawn0.step)⟩
  ·rw [if_neg c3] at H
   have c3b0 : (a0 == 125) = false := beq_eq_false_iff_ne.mpr c3
   have c3b1 : (a0 != 125) = true := bne_iff_ne.mpr c3
   obtain rfl := Option.some.inj H
   go_enter Tryz.func24, Tryz.ntmps24
   go_wp2
   go_ret
   exact ⟨sm_, by repeat (first | exact Drawn0.refl _ | apply Drawn0.step)⟩
def numeric_Apply.f (k : Nat) (a0 : Int) (a1 : Int) (a2 : Int) : Option (Int × Int) := (numeric_Kind.f k a0).bind fun bt562 => (if bt562.2.2.2 = true then ((numeric_width.f bt562.1).bind fun t566 => ((shape_Cut.f t566 a1).bind fun t567 => ((numeric_width.f bt562.1).bind fun t568 => ((shape_Cut.f t568 a2).bind fun t569 => ((numeric_find.f k a0).bind fun bt570 => (if bt570.1 = 1 then ((numeric_truth.f (t567 == 0)).bind fun t574 => (some (t574, 0))) else (if bt570.1 = 2 then ((numeric_related.f bt570.2.1 bt570.2.2 t567 t569).bind fun t575 => ((numeric_truth.f t575).bind fun t576 => (some (t576, 0)))) else (if bt570.1 = 3 then ((numeric_compared.f k bt570.2.1 bt570.2.2 t567 t569).bind fun t577 => ((numeric_truth.f t577).bind fun t578 => (some (t578, 0)))) else (if bt570.1 = 4 then ((numeric_counted.f bt570.2.1 bt570.2.2 t567).bind fun t579 => (some (t579, 0))) else (if bt570.1 = 5 then ((numeric_reckoned.f bt570.2.1 bt570.2.2 t567 t569).bind fun bt580 => (some (bt580.1, bt580.2))) else (if bt570.1 = 6 then ((numeric_rounded.f k bt570.2.1 bt570.2.2 t567).bind fun t582 => (some (t582, 0))) else (if bt570.1 = 7 then ((numeric_floated.f k bt570.2.1 bt570.2.2 t567 t569).bind fun t583 => (some (t583, 0))) else (if bt570.1 = 9 then ((numeric_stopped.f k bt570.2.1 t567).bind fun t584 => (some (t584, 0))) else ((numeric_turn.f k bt570.2.1 t567).bind fun bt585 => (some (bt585.1, bt585.2)))))))))))))))) else (some (0, 0)))
theorem numeric_Apply.mono : ∀ a0 a1 a2 k, LeO (numeric_Apply.f k a0 a1 a2) (numeric_Apply.f (k + 1) a0 a1 a2) := by
 intro a0 a1 a2 k
 unfold numeric_Apply.f
 repeat' first
   | (with_reducible exact numeric_Kind.mono _ _)
   | (with_reducible exact numeric_compared.mono _ _ _ _ _)
   | (with_reducible exact numeric_find.mono _ _)
   | (with_reducible exact numeric_floated.mono _ _ _ _ _)
   | (with_reducible exact numeric_rounded.mono _ _ _ _)
   | (with_reducible exact numeric_stopped.mono _ _ _)
   | (with_reducible exact numeric_turn.mono _ _ _)
   | (with_reducible exact LeO.refl _)
   | (with_reducible exact LeO.none _)
   | (with_reducible refine LeO.ite ?_ ?_)
   | (with_reducible refine LeO.bind ?_ (fun _ => ?_))
   | exact numeric_Kind.mono _ _
   | exact numeric_compared.mono _ _ _ _ _
   | exact numeric_find.mono _ _
   | exact numeric_floated.mono _ _ _ _ _
   | exact numeric_rounded.mono _ _ _ _
   | exact numeric_stopped.mono _ _ _
   | exact numeric_turn.mono _ _ _
   | exact LeO.none _
   | refine LeO.ite ?_ ?_
   | refine LeO.bind ?_ (fun _ => ?_)
theorem numeric_Apply.calls (k : Nat) (a0 : Int) (a1 : Int) (a2 : Int) (r1 : Int) (r2 : Int) (w : World) (h : numeric_Apply.f k a0 a1 a2 = some (r1, r2)) :
  Calls Tryz.prog 9 #[.int .i64 a0, .int .u64 a1, .int .u64 a2] w fun e w' => e = .returned (.tuple #[.int .u64 r1, .int .i64 r2]) ∧ Below w.heap.size w w' := by
 have hu56 := Tryz.underlying56
 have HB := A_ (Below.refl w.heap.size w)
 have H : ((numeric_Kind.f k a0).bind fun bt562 => (if bt562.2.2.2 = true then ((numeric_width.f bt562.1).bind fun t566 => ((shape_Cut.f t566 a1).bind fun t567 => ((numeric_width.f bt562.1).bind fun t568 => ((shape_Cut.f t568 a2).bind fun t569 => ((numeric_find.f k a0).bind fun bt570 => (if bt570.1 = 1 then ((numeric_truth.f (t567 == 0)).bind fun t574 => (some (t574, 0))) else (if bt570.1 = 2 then ((numeric_related.f bt570.2.1 bt570.2.2 t567 t569).bind fun t575 => ((numeric_truth.f t575).bind fun t576 => (some (t576, 0)))) else (if bt570.1 = 3 then ((numeric_compared.f k bt570.2.1 bt570.2.2 t567 t569).bind fun t577 => ((numeric_truth.f t577).bind fun t578 => (some (t578, 0)))) else (if bt570.1 = 4 then ((numeric_counted.f bt570.2.1 bt570.2.2 t567).bind fun t579 => (some (t579, 0))) else (if bt570.1 = 5 then ((numeric_reckoned.f bt570.2.1 bt570.2.2 t567 t569).bind fun bt580 => (some (bt580.1, bt580.2))) else (if bt570.1 = 6 then ((numeric_rounded.f k bt570.2.1 bt570.2.2 t567).bind fun t582 => (some (t582, 0))) else (if bt570.1 = 7 then ((numeric_floated.f k bt570.2.1 bt570.2.2 t567 t569).bind fun t583 => (some (t583, 0))) else (if bt570.1 = 9 then ((numeric_stopped.f k bt570.2.1 t567).bind fun t584 => (some (t584, 0))) else ((numeric_turn.f k bt570.2.1 t567).bind fun bt585 => (some (bt585.1, bt585.2)))))))))))))))) else (some (0, 0)))) = some (r1, r2) := h
 clear h
 replace H := ob_ H
 obtain ⟨⟨t562, t563, t564, t565⟩, A40, H⟩ := H
 replace H : (if t565 = true then ((numeric_width.f t562).bind fun t566 => ((shape_Cut.f t566 a1).bind fun t567 => ((numeric_width.f t562).bind fun t568 => ((shape_Cut.f t568 a2).bind fun t569 => ((numeric_find.f k a0).bind fun bt570 => (if bt570.1 = 1 then ((numeric_truth.f (t567 == 0)).bind fun t574 => (some (t574, 0))) else (if bt570.1 = 2 then ((numeric_related.f bt570.2.1 bt570.2.2 t567 t569).bind fun t575 => ((numeric_truth.f t575).bind fun t576 => (some (t576, 0)))) else (if bt570.1 = 3 then ((numeric_compared.f k bt570.2.1 bt570.2.2 t567 t569).bind fun t577 => ((numeric_truth.f t577).bind fun t578 => (some (t578, 0)))) else (if bt570.1 = 4 then ((numeric_counted.f bt570.2.1 bt570.2.2 t567).bind fun t579 => (some (t579, 0))) else (if bt570.1 = 5 then ((numeric_reckoned.f bt570.2.1 bt570.2.2 t567 t569).bind fun bt580 => (some (bt580.1, bt580.2))) else (if bt570.1 = 6 then ((numeric_rounded.f k bt570.2.1 bt570.2.2 t567).bind fun t582 => (some (t582, 0))) else (if bt570.1 = 7 then ((numeric_floated.f k bt570.2.1 bt570.2.2 t567 t569).bind fun t583 => (some (t583, 0))) else (if bt570.1 = 9 then ((numeric_stopped.f k bt570.2.1 t567).bind fun t584 => (some (t584, 0))) else ((numeric_turn.f k bt570.2.1 t567).bind fun bt585 => (some (bt585.1, bt585.2)))))))))))))))) else (some (0, 0))) = some (r1, r2) := H
 have A4 := A_ A40;clear A40
 by_cases c5 : t565 = true
 ·subst c5
  have H1 : ((numeric_width.f t562).bind fun t566 => ((shape_Cut.f t566 a1).bind fun t567 => ((numeric_width.f t562).bind fun t568 => ((shape_Cut.f t568 a2).bind fun t569 => ((numeric_find.f k a0).bind fun bt570 => (if bt570.1 = 1 then ((numeric_truth.f (t567 == 0)).bind fun t574 => (some (t574, 0))) else (if bt570.1 = 2 then ((numeric_related.f bt570.2.1 bt570.2.2 t567 t569).bind fun t575 => ((numeric_truth.f t575).bind fun t576 => (some (t576, 0)))) else (if bt570.1 = 3 then ((numeric_compared.f k bt570.2.1 bt570.2.2 t567 t569).bind fun t577 => ((numeric_truth.f t577).bind fun t578 => (some (t578, 0)))) else (if bt570.1 = 4 then ((numeric_counted.f bt570.2.1 bt570.2.2 t567).bind fun t579 => (some (t579, 0))) else (if bt570.1 = 5 then ((numeric_reckoned.f bt570.2.1 bt570.2.2 t567 t569).bind fun bt580 => (some (bt580.1, bt580.2))) else (if bt570.1 = 6 then ((numeric_rounded.f k bt570.2.1 bt570.2.2 t567).bind fun t582 => (some (t582, 0))) else (if bt570.1 = 7 then ((numeric_floated.f k bt570.2.1 bt570.2.2 t567 t569).bind fun t583 => (some (t583, 0))) else (if bt570.1 = 9 then ((numeric_stopped.f k bt570.2.1 t567).bind fun t584 => (some (t584, 0))) else ((numeric_turn.f k bt570.2.1 t567).bind fun bt585 => (some (bt585.1, bt585.2)))))))))))))))) = some (r1, r2) := by rw [if_pos rfl] at H; exact H
  clear H;have H := H1;clear H1
  replace H := ob_ H
  obtain ⟨t566, A60, H⟩ := H
  replace H : ((shape_Cut.f t566 a1).bind fun t567 => ((numeric_width.f t562).bind fun t568 => ((shape_Cut.f t568 a2).bind fun t569 => ((numeric_find.f k a0).bind fun bt570 => (if bt570.1 = 1 then ((numeric_truth.f (t567 == 0)).bind fun t574 => (some (t574, 0))) else (if bt570.1 = 2 then ((numeric_related.f bt570.2.1 bt570.2.2 t567 t569).bind fun t575 => ((numeric_truth.f t575).bind fun t576 => (some (t576, 0)))) else (if bt570.1 = 3 then ((numeric_compared.f k bt570.2.1 bt570.2.2 t567 t569).bind fun t577 => ((numeric_truth.f t577).bind fun t578 => (some (t578, 0)))) else (if bt570.1 = 4 then ((numeric_counted.f bt570.2.1 bt570.2.2 t567).bind fun t579 => (some (t579, 0))) else (if bt570.1 = 5 then ((numeric_reckoned.f bt570.2.1 bt570.2.2 t567 t569).bind fun bt580 => (some (bt580.1, bt580.2))) else (if bt570.1 = 6 then ((numeric_rounded.f k bt570.2.1 bt570.2.2 t567).bind fun t582 => (some (t582, 0))) else (if bt570.1 = 7 then ((numeric_floated.f k bt570.2.1 bt570.2.2 t567 t569).bind fun t583 => (some (t583, 0))) else (if bt570.1 = 9 then ((numeric_stopped.f k bt570.2.1 t567).bind fun t584 => (some (t584, 0))) else ((numeric_turn.f k bt570.2.1 t567).bind fun bt585 => (some (bt585.1, bt585.2))))))))))))))) = some (r1, r2) := H
  have A6 := A_ A60;clear A60
  replace H := ob_ H
  obtain ⟨t567, A70, H⟩ := H
  replace H : ((numeric_width.f t562).bind fun t568 => ((shape_Cut.f t568 a2).bind fun t569 => ((numeric_find.f k a0).bind fun bt570 => (if bt570.1 = 1 then ((numeric_truth.f (t567 == 0)).bind fun t574 => (some (t574, 0))) else (if bt570.1 = 2 then ((numeric_related.f bt570.2.1 bt570.2.2 t567 t569).bind fun t575 => ((numeric_truth.f t575).bind fun t576 => (some (t576, 0)))) else (if bt570.1 = 3 then ((numeric_compared.f k bt570.2.1 bt570.2.2 t567 t569).bind fun t577 => ((numeric_truth.f t577).bind fun t578 => (some (t578, 0)))) else (if bt570.1 = 4 then ((numeric_counted.f bt570.2.1 bt570.2.2 t567).bind fun t579 => (some (t579, 0))) else (if bt570.1 = 5 then ((numeric_reckoned.f bt570.2.1 bt570.2.2 t567 t569).bind fun bt580 => (some (bt580.1, bt580.2))) else (if bt570.1 = 6 then ((numeric_rounded.f k bt570.2.1 bt570.2.2 t567).bind fun t582 => (some (t582, 0))) else (if bt570.1 = 7 then ((numeric_floated.f k bt570.2.1 bt570.2.2 t567 t569).bind fun t583 => (some (t583, 0))) else (if bt570.1 = 9 then ((numeric_stopped.f k bt570.2.1 t567).bind fun t584 => (some (t584, 0))) else ((numeric_turn.f k bt570.2.1 t567).bind fun bt585 => (some (bt585.1, bt585.2)))))))))))))) = some (r1, r2) := H
  have A7 := A_ A70;clear A70
  replace H := ob_ H
  obtain ⟨t568, A80, H⟩ := H
  replace H : ((shape_Cut.f t568 a2).bind fun t569 => ((numeric_find.f k a0).bind fun bt570 => (if bt570.1 = 1 then ((numeric_truth.f (t567 == 0)).bind fun t574 => (some (t574, 0))) else (if bt570.1 = 2 then ((numeric_related.f bt570.2.1 bt570.2.2 t567 t569).bind fun t575 => ((numeric_truth.f t575).bind fun t576 => (some (t576, 0)))) else (if bt570.1 = 3 then ((numeric_compared.f k bt570.2.1 bt570.2.2 t567 t569).bind fun t577 => ((numeric_truth.f t577).bind fun t578 => (some (t578, 0)))) else (if bt570.1 = 4 then ((numeric_counted.f bt570.2.1 bt570.2.2 t567).bind fun t579 => (some (t579, 0))) else (if bt570.1 = 5 then ((numeric_reckoned.f bt570.2.1 bt570.2.2 t567 t569).bind fun bt580 => (some (bt580.1, bt580.2))) else (if bt570.1 = 6 then ((numeric_rounded.f k bt570.2.1 bt570.2.2 t567).bind fun t582 => (some (t582, 0))) else (if bt570.1 = 7 then ((numeric_floated.f k bt570.2.1 bt570.2.2 t567 t569).bind fun t583 => (some (t583, 0))) else (if bt570.1 = 9 then ((numeric_stopped.f k bt570.2.1 t567).bind fun t584 => (some (t584, 0))) else ((numeric_turn.f k bt570.2.1 t567).bind fun bt585 => (some (bt585.1, bt585.2))))))))))))) = some (r1, r2) := H
  have A8 := A_ A80;clear A80
  have E2_ := Option.some.inj (A6.out.symm.trans A8.out)
  (try rw [← E2_] at H)
  clear A8 E2_
  replace H := ob_ H
  obtain ⟨t569, A90, H⟩ := H
  replace H : ((numeric_find.f k a0).bind fun bt570 => (if bt570.1 = 1 then ((numeric_truth.f (t567 == 0)).bind fun t574 => (some (t574, 0))) else (if bt570.1 = 2 then ((numeric_related.f bt570.2.1 bt570.2.2 t567 t569).bind fun t575 => ((numeric_truth.f t575).bind fun t576 => (some (t576, 0)))) else (if bt570.1 = 3 then ((numeric_compared.f k bt570.2.1 bt570.2.2 t567 t569).bind fun t577 => ((numeric_truth.f t577).bind fun t578 => (some (t578, 0)))) else (if bt570.1 = 4 then ((numeric_counted.f bt570.2.1 bt570.2.2 t567).bind fun t579 => (some (t579, 0))) else (if bt570.1 = 5 then ((numeric_reckoned.f bt570.2.1 bt570.2.2 t567 t569).bind fun bt580 => (some (bt580.1, bt580.2))) else (if bt570.1 = 6 then ((numeric_rounded.f k bt570.2.1 bt570.2.2 t567).bind fun t582 => (some (t582, 0))) else (if bt570.1 = 7 then ((numeric_floated.f k bt570.2.1 bt570.2.2 t567 t569).bind fun t583 => (some (t583, 0))) else (if bt570.1 = 9 then ((numeric_stopped.f k bt570.2.1 t567).bind fun t584 => (some (t584, 0))) else ((numeric_turn.f k bt570.2.1 t567).bind fun bt585 => (some (bt585.1, bt585.2)))))))))))) = some (r1, r2) := H
  have A9 := A_ A90;clear A90
  replace H := ob_ H
  obtain ⟨⟨t570, t571, t572⟩, A100, H⟩ := H
  replace H : (if t570 = 1 then ((numeric_truth.f (t567 == 0)).bind fun t574 => (some (t574, 0))) else (if t570 = 2 then ((numeric_related.f t571 t572 t567 t569).bind fun t575 => ((numeric_truth.f t575).bind fun t576 => (some (t576, 0)))) else (if t570 = 3 then ((numeric_compared.f k t571 t572 t567 t569).bind fun t577 => ((numeric_truth.f t577).bind fun t578 => (some (t578, 0)))) else (if t570 = 4 then ((numeric_counted.f t571 t572 t567).bind fun t579 => (some (t579, 0))) else (if t570 = 5 then ((numeric_reckoned.f t571 t572 t567 t569).bind fun bt580 => (some (bt580.1, bt580.2))) else (if t570 = 6 then ((numeric_rounded.f k t571 t572 t567).bind fun t582 => (some (t582, 0))) else (if t570 = 7 then ((numeric_floated.f k t571 t572 t567 t569).bind fun t583 => (some (t583, 0))) else (if t570 = 9 then ((numeric_stopped.f k t571 t567).bind fun t584 => (some (t584, 0))) else ((numeric_turn.f k t571 t567).bind fun bt585 => (some (bt585.1, bt585.2))))))))))) = some (r1, r2) := H
  have A10 := A_ A100;clear A100
  by_cases c11 : t570 = 1
  ·rw [if_pos c11] at H
   have c11b0 : (t570 == 1) = true := beq_iff_eq.mpr c11
   have c11b1 : (t570 != 1) = false := bne_eq_false_iff_eq.mpr c11
   clear c11
   replace H := ob_ H
   obtain ⟨t574, A120, H⟩ := H
   replace H : (some (t574, 0)) = some (r1, r2) := H
   have A12 := A_ A120;clear A120
   simp only [Option.some.injEq, Prod.mk.injEq] at H
   obtain ⟨rfl, rfl⟩ := H
   go_enter Tryz.func9, Tryz.ntmps9
   go_wp2_with (first | ((with_reducible refine gate_callee (f := 21) rfl ?_); refine goesL_ (some 15) rfl rfl Tryz.func21 (by kernel_rfl) rfl #[.int .i64 a0] rfl mp_ ?_; (with_reducible refine (numeric_Kind.calls k a0 t562 t563 t564 true _ A4.out).mono ?_); rintro e w13 ⟨rfl, hb⟩; refine ⟨_, rfl, ?_⟩; replace HB := A_ (below_step (hb_ HB.out) hb); (try clear hb); (try clear hb2); (try clear hk); (try clear hi)) | ((with_reducible refine gate_callee (f := 24) rfl ?_); refine goesL_ (some 23) rfl rfl Tryz.func24 (by kernel_rfl) rfl #[.int .u8 t562] rfl mp_ ?_; (with_reducible refine (numeric_width.calls t562 t566 _ A6.out).mono ?_); rintro e w' ⟨rfl, ⟨nd, rfl⟩⟩; refine ⟨_, rfl, ?_⟩; (try (rw [drewN_self w13]; generalize hq_ : World.drewN w13 _ = w13; have n0_ : Aside0 (Below w.heap.size w w13) := ⟨by rw [← hq_]; exact (hb_ HB.out)⟩; clear HB hq_; have HB := n0_; clear n0_))) | ((with_reducible refine gate_callee (f := 17) rfl ?_); refine goesL_ (some 25) rfl rfl Tryz.func17 (by kernel_rfl) rfl #[.int .i64 t566, .int .u64 a1] rfl mp_ ?_; (with_reducible refine (shape_Cut.calls t566 a1 t567 _ A7.out).mono ?_); rintro e w' ⟨rfl, ⟨nd, rfl⟩⟩; refine ⟨_, rfl, ?_⟩; (try (rw [drewN_self w13]; generalize hq_ : World.drewN w13 _ = w13; have n0_ : Aside0 (Below w.heap.size w w13) := ⟨by rw [← hq_]; exact (hb_ HB.out)⟩; clear HB hq_; have HB := n0_; clear n0_))) | ((with_reducible refine gate_callee (f := 24) rfl ?_); refine goesL_ (some 27) rfl rfl Tryz.func24 (by kernel_rfl) rfl #[.int .u8 t562] rfl mp_ ?_; (with_reducible refine (numeric_width.calls t562 t566 _ A6.out).mono ?_); rintro e w' ⟨rfl, ⟨nd, rfl⟩⟩; refine ⟨_, rfl, ?_⟩; (try (rw [drewN_self w13]; generalize hq_ : World.drewN w13 _ = w13; have n0_ : Aside0 (Below w.heap.size w w13) := ⟨by rw [← hq_]; exact (hb_ HB.out)⟩; clear HB hq_; have HB := n0_; clear n0_))) | ((with_reducible refine gate_callee (f := 17) rfl ?_); refine goesL_ (some 29) rfl rfl Tryz.func17 (by kernel_rfl) rfl #[.int .i64 t566, .int .u64 a2] rfl mp_ ?_; (with_reducible refine (shape_Cut.calls t566 a2 t569 _ A9.out).mono ?_); rintro e w' ⟨rfl, ⟨nd, rfl⟩⟩; refine ⟨_, rfl, ?_⟩; (try (rw [drewN_self w13]; generalize hq_ : World.drewN w13 _ = w13; have n0_ : Aside0 (Below w.heap.size w w13) := ⟨by rw [← hq_]; exact (hb_ HB.out)⟩; clear HB hq_; have HB := n0_; clear n0_))) | ((with_reducible refine gate_callee (f := 25) rfl ?_); refine goesL_ (some 31) rfl rfl Tryz.func25 (by kernel_rfl) rfl #[.int .i64 a0] rfl mp_ ?_; (with_reducible refine (numeric_find.calls k a0 t570 t571 t572 _ A10.out).mono ?_); rintro e w14 ⟨rfl, hb⟩; refine ⟨_, rfl, ?_⟩; replace HB := A_ (below_step (hb_ HB.out) hb); (try clear hb); (try clear hb2); (try clear hk); (try clear hi)) | ((with_reducible refine gate_dst (N := 12) rfl ?_); refine be_ 12 #[.int .i64 0, .int .i64 0, .int .i64 0] 56 ?_; intro gb573 hg w15 hbox hb; have BK573 := A_ (hbox); have GW573 := A_ (sz_ hg (hb_ HB.out)); have GE573 := A_ (sz_ hg (hb_ HB.out)); replace HB := A_ (below_step (hb_ HB.out) hb); clear hb hbox hg; have hcz16_0 := bv_ BK573.out 0; have hcz16_1 := bv_ BK573.out 1; have hcz16_2 := bv_ BK573.out 2; have hfz16_0 := blk_frozen BK573.out 0; have hfz16_1 := blk_frozen BK573.out 1; have hfz16_2 := blk_frozen BK573.out 2) | ((with_reducible refine gate_callee (f := 26) rfl ?_); refine goesL_ (some 38) rfl rfl Tryz.func26 (by kernel_rfl) rfl #[.bool (t567 == 0)] rfl mp_ ?_; (with_reducible refine (numeric_truth.calls (t567 == 0) t574 _ A12.out).mono ?_); rintro e w' ⟨rfl, ⟨nd, rfl⟩⟩; refine ⟨_, rfl, ?_⟩))
   go_ret2
   exact ⟨er_, hb1_ HB.out GE573.out⟩
  ·rw [if_neg c11] at H
   have c11b0 : (t570 == 1) = false := beq_eq_false_iff_ne.mpr c11
   have c11b1 : (t570 != 1) = true := bne_iff_ne.mpr c11
   by_cases c17 : t570 = 2
   ·rw [if_pos c17] at H
    have c17b0 : (t570 == 2) = true := beq_iff_eq.mpr c17
    have c17b1 : (t570 != 2) = false := bne_eq_false_iff_eq.mpr c17
    clear c17
    replace H := ob_ H
    obtain ⟨t575, A180, H⟩ := H
    replace H : ((numeric_truth.f t575).bind fun t576 => (some (t576, 0))) = some (r1, r2) := H
    have A18 := A_ A180;clear A180
    replace H := ob_ H
    obtain ⟨t576, A190, H⟩ := H
    replace H : (some (t576, 0)) = some (r1, r2) := H
    have A19 := A_ A190;clear A190
    simp only [Option.some.injEq, Prod.mk.injEq] at H
    obtain ⟨rfl, rfl⟩ := H
    go_enter Tryz.func9, Tryz.ntmps9
    go_wp2_with (first | ((with_reducible refine gate_callee (f := 21) rfl ?_); refine goesL_ (some 15) rfl rfl Tryz.func21 (by kernel_rfl) rfl #[.int .i64 a0] rfl mp_ ?_; (with_reducible refine (numeric_Kind.calls k a0 t562 t563 t564 true _ A4.out).mono ?_); rintro e w20 ⟨rfl, hb⟩; refine ⟨_, rfl, ?_⟩; replace HB := A_ (below_step (hb_ HB.out) hb); (try clear hb); (try clear hb2); (try clear hk); (try clear hi)) | ((with_reducible refine gate_callee (f := 24) rfl ?_); refine goesL_ (some 23) rfl rfl Tryz.func24 (by kernel_rfl) rfl #[.int .u8 t562] rfl mp_ ?_; (with_reducible refine (numeric_width.calls t562 t566 _ A6.out).mono ?_); rintro e w' ⟨rfl, ⟨nd, rfl⟩⟩; refine ⟨_, rfl, ?_⟩; (try (rw [drewN_self w20]; generalize hq_ : World.drewN w20 _ = w20; have n0_ : Aside0 (Below w.heap.size w w20) := ⟨by rw [← hq_]; exact (hb_ HB.out)⟩; clear HB hq_; have HB := n0_; clear n0_))) | ((with_reducible refine gate_callee (f := 17) rfl ?_); refine goesL_ (some 25) rfl rfl Tryz.func17 (by kernel_rfl) rfl #[.int .i64 t566, .int .u64 a1] rfl mp_ ?_; (with_reducible refine (shape_Cut.calls t566 a1 t567 _ A7.out).mono ?_); rintro e w' ⟨rfl, ⟨nd, rfl⟩⟩; refine ⟨_, rfl, ?_⟩; (try (rw [drewN_self w20]; generalize hq_ : World.drewN w20 _ = w20; have n0_ : Aside0 (Below w.heap.size w w20) := ⟨by rw [← hq_]; exact (hb_ HB.out)⟩; clear HB hq_; have HB := n0_; clear n0_))) | ((with_reducible refine gate_callee (f := 24) rfl ?_); refine goesL_ (some 27) rfl rfl Tryz.func24 (by kernel_rfl) rfl #[.int .u8 t562] rfl mp_ ?_; (with_reducible refine (numeric_width.calls t562 t566 _ A6.out).mono ?_); rintro e w' ⟨rfl, ⟨nd, rfl⟩⟩; refine ⟨_, rfl, ?_⟩; (try (rw [drewN_self w20]; generalize hq_ : World.drewN w20 _ = w20; have n0_ : Aside0 (Below w.heap.size w w20) := ⟨by rw [← hq_]; exact (hb_ HB.out)⟩; clear HB hq_; have HB := n0_; clear n0_))) | ((with_reducible refine gate_callee (f := 17) rfl ?_); refine goesL_ (some 29) rfl rfl Tryz.func17 (by kernel_rfl) rfl #[.int .i64 t566, .int .u64 a2] rfl mp_ ?_; (with_reducible refine (shape_Cut.calls t566 a2 t569 _ A9.out).mono ?_); rintro e w' ⟨rfl, ⟨nd, rfl⟩⟩; refine ⟨_, rfl, ?_⟩; (try (rw [drewN_self w20]; generalize hq_ : World.drewN w20 _ = w20; have n0_ : Aside0 (Below w.heap.size w w20) := ⟨by rw [← hq_]; exact (hb_ HB.out)⟩; clear HB hq_; have HB := n0_; clear n0_))) | ((with_reducible refine gate_callee (f := 25) rfl ?_); refine goesL_ (some 31) rfl rfl Tryz.func25 (by kernel_rfl) rfl #[.int .i64 a0] rfl mp_ ?_; (with_reducible refine (numeric_find.calls k a0 t570 t571 t572 _ A10.out).mono ?_); rintro e w21 ⟨rfl, hb⟩; refine ⟨_, rfl, ?_⟩; replace HB := A_ (below_step (hb_ HB.out) hb); (try clear hb); (try clear hb2); (try clear hk); (try clear hi)) | ((with_reducible refine gate_dst (N := 12) rfl ?_); refine be_ 12 #[.int .i64 0, .int .i64 0, .int .i64 0] 56 ?_; intro gb573 hg w22 hbox hb; have BK573 := A_ (hbox); have GW573 := A_ (sz_ hg (hb_ HB.out)); have GE573 := A_ (sz_ hg (hb_ HB.out)); replace HB := A_ (below_step (hb_ HB.out) hb); clear hb hbox hg; have hcz23_0 := bv_ BK573.out 0; have hcz23_1 := bv_ BK573.out 1; have hcz23_2 := bv_ BK573.out 2; have hfz23_0 := blk_frozen BK573.out 0; have hfz23_1 := blk_frozen BK573.out 1; have hfz23_2 := blk_frozen BK573.out 2) | ((with_reducible refine gate_callee (f := 27) rfl ?_); refine goesL_ (some 47) rfl rfl Tryz.func27 (by kernel_rfl) rfl #[.int .i64 t571, .int .i64 t572, .int .u64 t567, .int .u64 t569] rfl mp_ ?_; (with_reducible refine (numeric_related.calls t571 t572 t567 t569 t575 _ A18.out).mono ?_); rintro e w' ⟨rfl, ⟨nd, rfl⟩⟩; refine ⟨_, rfl, ?_⟩) | ((with_reducible refine gate_callee (f := 26) rfl ?_); refine goesL_ (some 48) rfl rfl Tryz.func26 (by kernel_rfl) rfl #[.bool t575] rfl mp_ ?_; (with_reducible refine (numeric_truth.calls t575 t576 _ A19.out).mono ?_); rintro e w' ⟨rfl, ⟨nd, rfl⟩⟩; refine ⟨_, rfl, ?_⟩))
    go_ret2
    exact ⟨er_, hb1_ HB.out GE573.out⟩
   ·rw [if_neg c17] at H
    have c17b0 : (t570 == 2) = false := beq_eq_false_iff_ne.mpr c17
    have c17b1 : (t570 != 2) = true := bne_iff_ne.mpr c17
    by_cases c24 : t570 = 3
    ·rw [if_pos c24] at H
     have c24b0 : (t570 == 3) = true := beq_iff_eq.mpr c24
     have c24b1 : (t570 != 3) = false := bne_eq_false_iff_eq.mpr c24
     clear c24
     replace H := ob_ H
     obtain ⟨t577, A250, H⟩ := H
     replace H : ((numeric_truth.f t577).bind fun t578 => (some (t578, 0))) = some (r1, r2) := H
     have A25 := A_ A250;clear A250
     replace H := ob_ H
     obtain ⟨t578, A260, H⟩ := H
     replace H : (some (t578, 0)) = some (r1, r2) := H
     have A26 := A_ A260;clear A260
     simp only [Option.some.injEq, Prod.mk.injEq] at H
     obtain ⟨rfl, rfl⟩ := H
     go_enter Tryz.func9, Tryz.ntmps9
     go_wp2_with (first | ((with_reducible refine gate_callee (f := 21) rfl ?_); refine goesL_ (some 15) rfl rfl Tryz.func21 (by kernel_rfl) rfl #[.int .i64 a0] rfl mp_ ?_; (with_reducible refine (numeric_Kind.calls k a0 t562 t563 t564 true _ A4.out).mono ?_); rintro e w27 ⟨rfl, hb⟩; refine ⟨_, rfl, ?_⟩; replace HB := A_ (below_step (hb_ HB.out) hb); (try clear hb); (try clear hb2); (try clear hk); (try clear hi)) | ((with_reducible refine gate_callee (f := 24) rfl ?_); refine goesL_ (some 23) rfl rfl Tryz.func24 (by kernel_rfl) rfl #[.int .u8 t562] rfl mp_ ?_; (with_reducible refine (numeric_width.calls t562 t566 _ A6.out).mono ?_); rintro e w' ⟨rfl, ⟨nd, rfl⟩⟩; refine ⟨_, rfl, ?_⟩; (try (rw [drewN_self w27]; generalize hq_ : World.drewN w27 _ = w27; have n0_ : Aside0 (Below w.heap.size w w27) := ⟨by rw [← hq_]; exact (hb_ HB.out)⟩; clear HB hq_; have HB := n0_; clear n0_))) | ((with_reducible refine gate_callee (f := 17) rfl ?_); refine goesL_ (some 25) rfl rfl Tryz.func17 (by kernel_rfl) rfl #[.int .i64 t566, .int .u64 a1] rfl mp_ ?_; (with_reducible refine (shape_Cut.calls t566 a1 t567 _ A7.out).mono ?_); rintro e w' ⟨rfl, ⟨nd, rfl⟩⟩; refine ⟨_, rfl, ?_⟩; (try (rw [drewN_self w27]; generalize hq_ : World.drewN w27 _ = w27; have n0_ : Aside0 (Below w.heap.size w w27) := ⟨by rw [← hq_]; exact (hb_ HB.out)⟩; clear HB hq_; have HB := n0_; clear n0_))) | ((with_reducible refine gate_callee (f := 24) rfl ?_); refine goesL_ (some 27) rfl rfl Tryz.func24 (by kernel_rfl) rfl #[.int .u8 t562] rfl mp_ ?_; (with_reducible refine (numeric_width.calls t562 t566 _ A6.out).mono ?_); rintro e w' ⟨rfl, ⟨nd, rfl⟩⟩; refine ⟨_, rfl, ?_⟩; (try (rw [drewN_self w27]; generalize hq_ : World.drewN w27 _ = w27; have n0_ : Aside0 (Below w.heap.size w w27) := ⟨by rw [← hq_]; exact (hb_ HB.out)⟩; clear HB hq_; have HB := n0_; clear n0_))) | ((with_reducible refine gate_callee (f := 17) rfl ?_); refine goesL_ (some 29) rfl rfl Tryz.func17 (by kernel_rfl) rfl #[.int .i64 t566, .int .u64 a2] rfl mp_ ?_; (with_reducible refine (shape_Cut.calls t566 a2 t569 _ A9.out).mono ?_); rintro e w' ⟨rfl, ⟨nd, rfl⟩⟩; refine ⟨_, rfl, ?_⟩; (try (rw [drewN_self w27]; generalize hq_ : World.drewN w27 _ = w27; have n0_ : Aside0 (Below w.heap.size w w27) := ⟨by rw [← hq_]; exact (hb_ HB.out)⟩; clear HB hq_; have HB := n0_; clear n0_))) | ((with_reducible refine gate_callee (f := 25) rfl ?_); refine goesL_ (some 31) rfl rfl Tryz.func25 (by kernel_rfl) rfl #[.int .i64 a0] rfl mp_ ?_; (with_reducible refine (numeric_find.calls k a0 t570 t571 t572 _ A10.out).mono ?_); rintro e w28 ⟨rfl, hb⟩; refine ⟨_, rfl, ?_⟩; replace HB := A_ (below_step (hb_ HB.out) hb); (try clear hb); (try clear hb2); (try clear hk); (try clear hi)) | ((with_reducible refine gate_dst (N := 12) rfl ?_); refine be_ 12 #[.int .i64 0, .int .i64 0, .int .i64 0] 56 ?_; intro gb573 hg w29 hbox hb; have BK573 := A_ (hbox); have GW573 := A_ (sz_ hg (hb_ HB.out)); have GE573 := A_ (sz_ hg (hb_ HB.out)); replace HB := A_ (below_step (hb_ HB.out) hb); clear hb hbox hg; have hcz30_0 := bv_ BK573.out 0; have hcz30_1 := bv_ BK573.out 1; have hcz30_2 := bv_ BK573.out 2; have hfz30_0 := blk_frozen BK573.out 0; have hfz30_1 := blk_frozen BK573.out 1; have hfz30_2 := blk_frozen BK573.out 2) | ((with_reducible refine gate_callee (f := 28) rfl ?_); refine goesL_ (some 57) rfl rfl Tryz.func28 (by kernel_rfl) rfl #[.int .i64 t571, .int .i64 t572, .int .u64 t567, .int .u64 t569] rfl mp_ ?_; (with_reducible refine (numeric_compared.calls k t571 t572 t567 t569 t577 _ A25.out).mono ?_); rintro e w31 ⟨rfl, hb⟩; refine ⟨_, rfl, ?_⟩; replace BK573 := A_ (blk_below (g := gb573) (o := .cells #[.int .i64 t570, .int .i64 t571, .int .i64 t572] 56 (0, 0)) (by (with_reducible repeat (first | refine blk_drewN ?_ _ | refine blk_drew ?_ | refine blk_alloc ?_ _)); refine blk_put (cs := #[.int .i64 t570, .int .i64 t571, .int .i64 0]) ?_ 2 _ rfl; (with_reducible repeat (first | refine blk_drewN ?_ _ | refine blk_drew ?_ | refine blk_alloc ?_ _)); refine blk_put (cs := #[.int .i64 t570, .int .i64 0, .int .i64 0]) ?_ 1 _ rfl; (with_reducible repeat (first | refine blk_drewN ?_ _ | refine blk_drew ?_ | refine blk_alloc ?_ _)); refine blk_put (cs := #[.int .i64 0, .int .i64 0, .int .i64 0]) ?_ 0 _ rfl; (with_reducible repeat (first | refine blk_drewN ?_ _ | refine blk_drew ?_ | refine blk_alloc ?_ _)); exact BK573.out) hb); replace HB := A_ (below_step (hb1_ HB.out GE573.out) hb); (try clear hb); (try clear hb2); (try clear hk); (try clear hi)) | ((with_reducible refine gate_callee (f := 26) rfl ?_); refine goesL_ (some 58) rfl rfl Tryz.func26 (by kernel_rfl) rfl #[.bool t577] rfl mp_ ?_; (with_reducible refine (numeric_truth.calls t577 t578 _ A26.out).mono ?_); rintro e w' ⟨rfl, ⟨nd, rfl⟩⟩; refine ⟨_, rfl, ?_⟩))
     go_ret2
     exact ⟨er_, hb1_ HB.out GE573.out⟩
    ·rw [if_neg c24] at H
     have c24b0 : (t570 == 3) = false := beq_eq_false_iff_ne.mpr c24
     have c24b1 : (t570 != 3) = true := bne_iff_ne.mpr c24
     by_cases c32 : t570 = 4
     ·rw [if_pos c32] at H
      have c32b0 : (t570 == 4) = true := beq_iff_eq.mpr c32
      have c32b1 : (t570 != 4) = false := bne_eq_false_iff_eq.mpr c32
      clear c32
      replace H := ob_ H
      obtain ⟨t579, A330, H⟩ := H
      replace H : (some (t579, 0)) = some (r1, r2) := H
      have A33 := A_ A330;clear A330
      simp only [Option.some.injEq, Prod.mk.injEq] at H
      obtain ⟨rfl, rfl⟩ := H
      go_enter Tryz.func9, Tryz.ntmps9
      go_wp2_with (first | ((with_reducible refine gate_callee (f := 21) rfl ?_); refine goesL_ (some 15) rfl rfl Tryz.func21 (by kernel_rfl) rfl #[.int .i64 a0] rfl mp_ ?_; (with_reducible refine (numeric_Kind.calls k a0 t562 t563 t564 true _ A4.out).mono ?_); rintro e w34 ⟨rfl, hb⟩; refine ⟨_, rfl, ?_⟩; replace HB := A_ (below_step (hb_ HB.out) hb); (try clear hb); (try clear hb2); (try clear hk); (try clear hi)) | ((with_reducible refine gate_callee (f := 24) rfl ?_); refine goesL_ (some 23) rfl rfl Tryz.func24 (by kernel_rfl) rfl #[.int .u8 t562] rfl mp_ ?_; (with_reducible refine (numeric_width.calls t562 t566 _ A6.out).mono ?_); rintro e w' ⟨rfl, ⟨nd, rfl⟩⟩; refine ⟨_, rfl, ?_⟩; (try (rw [drewN_self w34]; generalize hq_ : World.drewN w34 _ = w34; have n0_ : Aside0 (Below w.heap.size w w34) := ⟨by rw [← hq_]; exact (hb_ HB.out)⟩; clear HB hq_; have HB := n0_; clear n0_))) | ((with_reducible refine gate_callee (f := 17) rfl ?_); refine goesL_ (some 25) rfl rfl Tryz.func17 (by kernel_rfl) rfl #[.int .i64 t566, .int .u64 a1] rfl mp_ ?_; (with_reducible refine (shape_Cut.calls t566 a1 t567 _ A7.out).mono ?_); rintro e w' ⟨rfl, ⟨nd, rfl⟩⟩; refine ⟨_, rfl, ?_⟩; (try (rw [drewN_self w34]; generalize hq_ : World.drewN w34 _ = w34; have n0_ : Aside0 (Below w.heap.size w w34) := ⟨by rw [← hq_]; exact (hb_ HB.out)⟩; clear HB hq_; have HB := n0_; clear n0_))) | ((with_reducible refine gate_callee (f := 24) rfl ?_); refine goesL_ (some 27) rfl rfl Tryz.func24 (by kernel_rfl) rfl #[.int .u8 t562] rfl mp_ ?_; (with_reducible refine (numeric_width.calls t562 t566 _ A6.out).mono ?_); rintro e w' ⟨rfl, ⟨nd, rfl⟩⟩; refine ⟨_, rfl, ?_⟩; (try (rw [drewN_self w34]; generalize hq_ : World.drewN w34 _ = w34; have n0_ : Aside0 (Below w.heap.size w w34) := ⟨by rw [← hq_]; exact (hb_ HB.out)⟩; clear HB hq_; have HB := n0_; clear n0_))) | ((with_reducible refine gate_callee (f := 17) rfl ?_); refine goesL_ (some 29) rfl rfl Tryz.func17 (by kernel_rfl) rfl #[.int .i64 t566, .int .u64 a2] rfl mp_ ?_; (with_reducible refine (shape_Cut.calls t566 a2 t569 _ A9.out).mono ?_); rintro e w' ⟨rfl, ⟨nd, rfl⟩⟩; refine ⟨_, rfl, ?_⟩; (try (rw [drewN_self w34]; generalize hq_ : World.drewN w34 _ = w34; have n0_ : Aside0 (Below w.heap.size w w34) := ⟨by rw [← hq_]; exact (hb_ HB.out)⟩; clear HB hq_; have HB := n0_; clear n0_))) | ((with_reducible refine gate_callee (f := 25) rfl ?_); refine goesL_ (some 31) rfl rfl Tryz.func25 (by kernel_rfl) rfl #[.int .i64 a0] rfl mp_ ?_; (with_reducible refine (numeric_find.calls k a0 t570 t571 t572 _ A10.out).mono ?_); rintro e w35 ⟨rfl, hb⟩; refine ⟨_, rfl, ?_⟩; replace HB := A_ (below_step (hb_ HB.out) hb); (try clear hb); (try clear hb2); (try clear hk); (try clear hi)) | ((with_reducible refine gate_dst (N := 12) rfl ?_); refine be_ 12 #[.int .i64 0, .int .i64 0, .int .i64 0] 56 ?_; intro gb573 hg w36 hbox hb; have BK573 := A_ (hbox); have GW573 := A_ (sz_ hg (hb_ HB.out)); have GE573 := A_ (sz_ hg (hb_ HB.out)); replace HB := A_ (below_step (hb_ HB.out) hb); clear hb hbox hg; have hcz37_0 := bv_ BK573.out 0; have hcz37_1 := bv_ BK573.out 1; have hcz37_2 := bv_ BK573.out 2; have hfz37_0 := blk_frozen BK573.out 0; have hfz37_1 := blk_frozen BK573.out 1; have hfz37_2 := blk_frozen BK573.out 2) | ((with_reducible refine gate_callee (f := 29) rfl ?_); refine goesL_ (some 66) rfl rfl Tryz.func29 (by kernel_rfl) rfl #[.int .i64 t571, .int .i64 t572, .int .u64 t567] rfl mp_ ?_; (with_reducible refine (numeric_counted.calls t571 t572 t567 t579 _ A33.out).mono ?_); rintro e w38 ⟨rfl, hb⟩; refine ⟨_, rfl, ?_⟩; replace BK573 := A_ (blk_below (g := gb573) (o := .cells #[.int .i64 t570, .int .i64 t571, .int .i64 t572] 56 (0, 0)) (by (with_reducible repeat (first | refine blk_drewN ?_ _ | refine blk_drew ?_ | refine blk_alloc ?_ _)); refine blk_put (cs := #[.int .i64 t570, .int .i64 t571, .int .i64 0]) ?_ 2 _ rfl; (with_reducible repeat (first | refine blk_drewN ?_ _ | refine blk_drew ?_ | refine blk_alloc ?_ _)); refine blk_put (cs := #[.int .i64 t570, .int .i64 0, .int .i64 0]) ?_ 1 _ rfl; (with_reducible repeat (first | refine blk_drewN ?_ _ | refine blk_drew ?_ | refine blk_alloc ?_ _)); refine blk_put (cs := #[.int .i64 0, .int .i64 0, .int .i64 0]) ?_ 0 _ rfl; (with_reducible repeat (first | refine blk_drewN ?_ _ | refine blk_drew ?_ | refine blk_alloc ?_ _)); exact BK573.out) hb); replace HB := A_ (below_step (hb1_ HB.out GE573.out) hb); (try clear hb); (try clear hb2); (try clear hk); (try clear hi)))
      go_ret2
      exact ⟨er_, hb1_ HB.out GE573.out⟩
     ·rw [if_neg c32] at H
      have c32b0 : (t570 == 4) = false := beq_eq_false_iff_ne.mpr c32
      have c32b1 : (t570 != 4) = true := bne_iff_ne.mpr c32
      by_cases c39 : t570 = 5
      ·rw [if_pos c39] at H
       have c39b0 : (t570 == 5) = true := beq_iff_eq.mpr c39
       have c39b1 : (t570 != 5) = false := bne_eq_false_iff_eq.mpr c39
       clear c39
       replace H := ob_ H
       obtain ⟨⟨t580, t581⟩, A400, H⟩ := H
       replace H : (some (t580, t581)) = some (r1, r2) := H
       have A40 := A_ A400;clear A400
       simp only [Option.some.injEq, Prod.mk.injEq] at H
       obtain ⟨rfl, rfl⟩ := H
       go_enter Tryz.func9, Tryz.ntmps9
       go_wp2_with (first | ((with_reducible refine gate_callee (f := 21) rfl ?_); refine goesL_ (some 15) rfl rfl Tryz.func21 (by kernel_rfl) rfl #[.int .i64 a0] rfl mp_ ?_; (with_reducible refine (numeric_Kind.calls k a0 t562 t563 t564 true _ A4.out).mono ?_); rintro e w41 ⟨rfl, hb⟩; refine ⟨_, rfl, ?_⟩; replace HB := A_ (below_step (hb_ HB.out) hb); (try clear hb); (try clear hb2); (try clear hk); (try clear hi)) | ((with_reducible refine gate_callee (f := 24) rfl ?_); refine goesL_ (some 23) rfl rfl Tryz.func24 (by kernel_rfl) rfl #[.int .u8 t562] rfl mp_ ?_; (with_reducible refine (numeric_width.calls t562 t566 _ A6.out).mono ?_); rintro e w' ⟨rfl, ⟨nd, rfl⟩⟩; refine ⟨_, rfl, ?_⟩; (try (rw [drewN_self w41]; generalize hq_ : World.drewN w41 _ = w41; have n0_ : Aside0 (Below w.heap.size w w41) := ⟨by rw [← hq_]; exact (hb_ HB.out)⟩; clear HB hq_; have HB := n0_; clear n0_))) | ((with_reducible refine gate_callee (f := 17) rfl ?_); refine goesL_ (some 25) rfl rfl Tryz.func17 (by kernel_rfl) rfl #[.int .i64 t566, .int .u64 a1] rfl mp_ ?_; (with_reducible refine (shape_Cut.calls t566 a1 t567 _ A7.out).mono ?_); rintro e w' ⟨rfl, ⟨nd, rfl⟩⟩; refine ⟨_, rfl, ?_⟩; (try (rw [drewN_self w41]; generalize hq_ : World.drewN w41 _ = w41; have n0_ : Aside0 (Below w.heap.size w w41) := ⟨by rw [← hq_]; exact (hb_ HB.out)⟩; clear HB hq_; have HB := n0_; clear n0_))) | ((with_reducible refine gate_callee (f := 24) rfl ?_); refine goesL_ (some 27) rfl rfl Tryz.func24 (by kernel_rfl) rfl #[.int .u8 t562] rfl mp_ ?_; (with_reducible refine (numeric_width.calls t562 t566 _ A6.out).mono ?_); rintro e w' ⟨rfl, ⟨nd, rfl⟩⟩; refine ⟨_, rfl, ?_⟩; (try (rw [drewN_self w41]; generalize hq_ : World.drewN w41 _ = w41; have n0_ : Aside0 (Below w.heap.size w w41) := ⟨by rw [← hq_]; exact (hb_ HB.out)⟩; clear HB hq_; have HB := n0_; clear n0_))) | ((with_reducible refine gate_callee (f := 17) rfl ?_); refine goesL_ (some 29) rfl rfl Tryz.func17 (by kernel_rfl) rfl #[.int .i64 t566, .int .u64 a2] rfl mp_ ?_; (with_reducible refine (shape_Cut.calls t566 a2 t569 _ A9.out).mono ?_); rintro e w' ⟨rfl, ⟨nd, rfl⟩⟩; refine ⟨_, rfl, ?_⟩; (try (rw [drewN_self w41]; generalize hq_ : World.drewN w41 _ = w41; have n0_ : Aside0 (Below w.heap.size w w41) := ⟨by rw [← hq_]; exact (hb_ HB.out)⟩; clear HB hq_; have HB := n0_; clear n0_))) | ((with_reducible refine gate_callee (f := 25) rfl ?_); refine goesL_ (some 31) rfl rfl Tryz.func25 (by kernel_rfl) rfl #[.int .i64 a0] rfl mp_ ?_; (with_reducible refine (numeric_find.calls k a0 t570 t571 t572 _ A10.out).mono ?_); rintro e w42 ⟨rfl, hb⟩; refine ⟨_, rfl, ?_⟩; replace HB := A_ (below_step (hb_ HB.out) hb); (try clear hb); (try clear hb2); (try clear hk); (try clear hi)) | ((with_reducible refine gate_dst (N := 12) rfl ?_); refine be_ 12 #[.int .i64 0, .int .i64 0, .int .i64 0] 56 ?_; intro gb573 hg w43 hbox hb; have BK573 := A_ (hbox); have GW573 := A_ (sz_ hg (hb_ HB.out)); have GE573 := A_ (sz_ hg (hb_ HB.out)); replace HB := A_ (below_step (hb_ HB.out) hb); clear hb hbox hg; have hcz44_0 := bv_ BK573.out 0; have hcz44_1 := bv_ BK573.out 1; have hcz44_2 := bv_ BK573.out 2; have hfz44_0 := blk_frozen BK573.out 0; have hfz44_1 := blk_frozen BK573.out 1; have hfz44_2 := blk_frozen BK573.out 2) | ((with_reducible refine gate_callee (f := 30) rfl ?_); refine goesL_ (some 75) rfl rfl Tryz.func30 (by kernel_rfl) rfl #[.int .i64 t571, .int .i64 t572, .int .u64 t567, .int .u64 t569] rfl mp_ ?_; (with_reducible refine (numeric_reckoned.calls t571 t572 t567 t569 t580 t581 _ A40.out).mono ?_); rintro e w45 ⟨rfl, hb⟩; refine ⟨_, rfl, ?_⟩; replace BK573 := A_ (blk_below (g := gb573) (o := .cells #[.int .i64 t570, .int .i64 t571, .int .i64 t572] 56 (0, 0)) (by (with_reducible repeat (first | refine blk_drewN ?_ _ | refine blk_drew ?_ | refine blk_alloc ?_ _)); refine blk_put (cs := #[.int .i64 t570, .int .i64 t571, .int .i64 0]) ?_ 2 _ rfl; (with_reducible repeat (first | refine blk_drewN ?_ _ | refine blk_drew ?_ | refine blk_alloc ?_ _)); refine blk_put (cs := #[.int .i64 t570, .int .i64 0, .int .i64 0]) ?_ 1 _ rfl; (with_reducible repeat (first | refine blk_drewN ?_ _ | refine blk_drew ?_ | refine blk_alloc ?_ _)); refine blk_put (cs := #[.int .i64 0, .int .i64 0, .int .i64 0]) ?_ 0 _ rfl; (with_reducible repeat (first | refine blk_drewN ?_ _ | refine blk_drew ?_ | refine blk_alloc ?_ _)); exact BK573.out) hb); replace HB := A_ (below_step (hb1_ HB.out GE573.out) hb); (try clear hb); (try clear hb2); (try clear hk); (try clear hi)))
       go_ret2
       exact ⟨er_, hb1_ HB.out GE573.out⟩
      ·rw [if_neg c39] at H
       have c39b0 : (t570 == 5) = false := beq_eq_false_iff_ne.mpr c39
       have c39b1 : (t570 != 5) = true := bne_iff_ne.mpr c39
       by_cases c46 : t570 = 6
       ·rw [if_pos c46] at H
        have c46b0 : (t570 == 6) = true := beq_iff_eq.mpr c46
        have c46b1 : (t570 != 6) = false := bne_eq_false_iff_eq.mpr c46
        clear c46
        replace H := ob_ H
        obtain ⟨t582, A470, H⟩ := H
        replace H : (some (t582, 0)) = some (r1, r2) := H
        have A47 := A_ A470;clear A470
        simp only [Option.some.injEq, Prod.mk.injEq] at H
        obtain ⟨rfl, rfl⟩ := H
        go_enter Tryz.func9, Tryz.ntmps9
        go_wp2_with (first | ((with_reducible refine gate_callee (f := 21) rfl ?_); refine goesL_ (some 15) rfl rfl Tryz.func21 (by kernel_rfl) rfl #[.int .i64 a0] rfl mp_ ?_; (with_reducible refine (numeric_Kind.calls k a0 t562 t563 t564 true _ A4.out).mono ?_); rintro e w48 ⟨rfl, hb⟩; refine ⟨_, rfl, ?_⟩; replace HB := A_ (below_step (hb_ HB.out) hb); (try clear hb); (try clear hb2); (try clear hk); (try clear hi)) | ((with_reducible refine gate_callee (f := 24) rfl ?_); refine goesL_ (some 23) rfl rfl Tryz.func24 (by kernel_rfl) rfl #[.int .u8 t562] rfl mp_ ?_; (with_reducible refine (numeric_width.calls t562 t566 _ A6.out).mono ?_); rintro e w' ⟨rfl, ⟨nd, rfl⟩⟩; refine ⟨_, rfl, ?_⟩; (try (rw [drewN_self w48]; generalize hq_ : World.drewN w48 _ = w48; have n0_ : Aside0 (Below w.heap.size w w48) := ⟨by rw [← hq_]; exact (hb_ HB.out)⟩; clear HB hq_; have HB := n0_; clear n0_))) | ((with_reducible refine gate_callee (f := 17) rfl ?_); refine goesL_ (some 25) rfl rfl Tryz.func17 (by kernel_rfl) rfl #[.int .i64 t566, .int .u64 a1] rfl mp_ ?_; (with_reducible refine (shape_Cut.calls t566 a1 t567 _ A7.out).mono ?_); rintro e w' ⟨rfl, ⟨nd, rfl⟩⟩; refine ⟨_, rfl, ?_⟩; (try (rw [drewN_self w48]; generalize hq_ : World.drewN w48 _ = w48; have n0_ : Aside0 (Below w.heap.size w w48) := ⟨by rw [← hq_]; exact (hb_ HB.out)⟩; clear HB hq_; have HB := n0_; clear n0_))) | ((with_reducible refine gate_callee (f := 24) rfl ?_); refine goesL_ (some 27) rfl rfl Tryz.func24 (by kernel_rfl) rfl #[.int .u8 t562] rfl mp_ ?_; (with_reducible refine (numeric_width.calls t562 t566 _ A6.out).mono ?_); rintro e w' ⟨rfl, ⟨nd, rfl⟩⟩; refine ⟨_, rfl, ?_⟩; (try (rw [drewN_self w48]; generalize hq_ : World.drewN w48 _ = w48; have n0_ : Aside0 (Below w.heap.size w w48) := ⟨by rw [← hq_]; exact (hb_ HB.out)⟩; clear HB hq_; have HB := n0_; clear n0_))) | ((with_reducible refine gate_callee (f := 17) rfl ?_); refine goesL_ (some 29) rfl rfl Tryz.func17 (by kernel_rfl) rfl #[.int .i64 t566, .int .u64 a2] rfl mp_ ?_; (with_reducible refine (shape_Cut.calls t566 a2 t569 _ A9.out).mono ?_); rintro e w' ⟨rfl, ⟨nd, rfl⟩⟩; refine ⟨_, rfl, ?_⟩; (try (rw [drewN_self w48]; generalize hq_ : World.drewN w48 _ = w48; have n0_ : Aside0 (Below w.heap.size w w48) := ⟨by rw [← hq_]; exact (hb_ HB.out)⟩; clear HB hq_; have HB := n0_; clear n0_))) | ((with_reducible refine gate_callee (f := 25) rfl ?_); refine goesL_ (some 31) rfl rfl Tryz.func25 (by kernel_rfl) rfl #[.int .i64 a0] rfl mp_ ?_; (with_reducible refine (numeric_find.calls k a0 t570 t571 t572 _ A10.out).mono ?_); rintro e w49 ⟨rfl, hb⟩; refine ⟨_, rfl, ?_⟩; replace HB := A_ (below_step (hb_ HB.out) hb); (try clear hb); (try clear hb2); (try clear hk); (try clear hi)) | ((with_reducible refine gate_dst (N := 12) rfl ?_); refine be_ 12 #[.int .i64 0, .int .i64 0, .int .i64 0] 56 ?_; intro gb573 hg w50 hbox hb; have BK573 := A_ (hbox); have GW573 := A_ (sz_ hg (hb_ HB.out)); have GE573 := A_ (sz_ hg (hb_ HB.out)); replace HB := A_ (below_step (hb_ HB.out) hb); clear hb hbox hg; have hcz51_0 := bv_ BK573.out 0; have hcz51_1 := bv_ BK573.out 1; have hcz51_2 := bv_ BK573.out 2; have hfz51_0 := blk_frozen BK573.out 0; have hfz51_1 := blk_frozen BK573.out 1; have hfz51_2 := blk_frozen BK573.out 2) | ((with_reducible refine gate_callee (f := 31) rfl ?_); refine goesL_ (some 85) rfl rfl Tryz.func31 (by kernel_rfl) rfl #[.int .i64 t571, .int .i64 t572, .int .u64 t567] rfl mp_ ?_; (with_reducible refine (numeric_rounded.calls k t571 t572 t567 t582 _ A47.out).mono ?_); rintro e w52 ⟨rfl, hb⟩; refine ⟨_, rfl, ?_⟩; replace BK573 := A_ (blk_below (g := gb573) (o := .cells #[.int .i64 t570, .int .i64 t571, .int .i64 t572] 56 (0, 0)) (by (with_reducible repeat (first | refine blk_drewN ?_ _ | refine blk_drew ?_ | refine blk_alloc ?_ _)); refine blk_put (cs := #[.int .i64 t570, .int .i64 t571, .int .i64 0]) ?_ 2 _ rfl; (with_reducible repeat (first | refine blk_drewN ?_ _ | refine blk_drew ?_ | refine blk_alloc ?_ _)); refine blk_put (cs := #[.int .i64 t570, .int .i64 0, .int .i64 0]) ?_ 1 _ rfl; (with_reducible repeat (first | refine blk_drewN ?_ _ | refine blk_drew ?_ | refine blk_alloc ?_ _)); refine blk_put (cs := #[.int .i64 0, .int .i64 0, .int .i64 0]) ?_ 0 _ rfl; (with_reducible repeat (first | refine blk_drewN ?_ _ | refine blk_drew ?_ | refine blk_alloc ?_ _)); exact BK573.out) hb); replace HB := A_ (below_step (hb1_ HB.out GE573.out) hb); (try clear hb); (try clear hb2); (try clear hk); (try clear hi)))
        go_ret2
        exact ⟨er_, hb1_ HB.out GE573.out⟩
       ·rw [if_neg c46] at H
        have c46b0 : (t570 == 6) = false := beq_eq_false_iff_ne.mpr c46
        have c46b1 : (t570 != 6) = true := bne_iff_ne.mpr c46
        by_cases c53 : t570 = 7
        ·rw [if_pos c53] at H
         have c53b0 : (t570 == 7) = true := beq_iff_eq.mpr c53
         have c53b1 : (t570 != 7) = false := bne_eq_false_iff_eq.mpr c53
         clear c53
         replace H := ob_ H
         obtain ⟨t583, A540, H⟩ := H
         replace H : (some (t583, 0)) = some (r1, r2) := H
         have A54 := A_ A540;clear A540
         simp only [Option.some.injEq, Prod.mk.injEq] at H
         obtain ⟨rfl, rfl⟩ := H
         go_enter Tryz.func9, Tryz.ntmps9
         go_wp2_with (first | ((with_reducible refine gate_callee (f := 21) rfl ?_); refine goesL_ (some 15) rfl rfl Tryz.func21 (by kernel_rfl) rfl #[.int .i64 a0] rfl mp_ ?_; (with_reducible refine (numeric_Kind.calls k a0 t562 t563 t564 true _ A4.out).mono ?_); rintro e w55 ⟨rfl, hb⟩; refine ⟨_, rfl, ?_⟩; replace HB := A_ (below_step (hb_ HB.out) hb); (try clear hb); (try clear hb2); (try clear hk); (try clear hi)) | ((with_reducible refine gate_callee (f := 24) rfl ?_); refine goesL_ (some 23) rfl rfl Tryz.func24 (by kernel_rfl) rfl #[.int .u8 t562] rfl mp_ ?_; (with_reducible refine (numeric_width.calls t562 t566 _ A6.out).mono ?_); rintro e w' ⟨rfl, ⟨nd, rfl⟩⟩; refine ⟨_, rfl, ?_⟩; (try (rw [drewN_self w55]; generalize hq_ : World.drewN w55 _ = w55; have n0_ : Aside0 (Below w.heap.size w w55) := ⟨by rw [← hq_]; exact (hb_ HB.out)⟩; clear HB hq_; have HB := n0_; clear n0_))) | ((with_reducible refine gate_callee (f := 17) rfl ?_); refine goesL_ (some 25) rfl rfl Tryz.func17 (by kernel_rfl) rfl #[.int .i64 t566, .int .u64 a1] rfl mp_ ?_; (with_reducible refine (shape_Cut.calls t566 a1 t567 _ A7.out).mono ?_); rintro e w' ⟨rfl, ⟨nd, rfl⟩⟩; refine ⟨_, rfl, ?_⟩; (try (rw [drewN_self w55]; generalize hq_ : World.drewN w55 _ = w55; have n0_ : Aside0 (Below w.heap.size w w55) := ⟨by rw [← hq_]; exact (hb_ HB.out)⟩; clear HB hq_; have HB := n0_; clear n0_))) | ((with_reducible refine gate_callee (f := 24) rfl ?_); refine goesL_ (some 27) rfl rfl Tryz.func24 (by kernel_rfl) rfl #[.int .u8 t562] rfl mp_ ?_; (with_reducible refine (numeric_width.calls t562 t566 _ A6.out).mono ?_); rintro e w' ⟨rfl, ⟨nd, rfl⟩⟩; refine ⟨_, rfl, ?_⟩; (try (rw [drewN_self w55]; generalize hq_ : World.drewN w55 _ = w55; have n0_ : Aside0 (Below w.heap.size w w55) := ⟨by rw [← hq_]; exact (hb_ HB.out)⟩; clear HB hq_; have HB := n0_; clear n0_))) | ((with_reducible refine gate_callee (f := 17) rfl ?_); refine goesL_ (some 29) rfl rfl Tryz.func17 (by kernel_rfl) rfl #[.int .i64 t566, .int .u64 a2] rfl mp_ ?_; (with_reducible refine (shape_Cut.calls t566 a2 t569 _ A9.out).mono ?_); rintro e w' ⟨rfl, ⟨nd, rfl⟩⟩; refine ⟨_, rfl, ?_⟩; (try (rw [drewN_self w55]; generalize hq_ : World.drewN w55 _ = w55; have n0_ : Aside0 (Below w.heap.size w w55) := ⟨by rw [← hq_]; exact (hb_ HB.out)⟩; clear HB hq_; have HB := n0_; clear n0_))) | ((with_reducible refine gate_callee (f := 25) rfl ?_); refine goesL_ (some 31) rfl rfl Tryz.func25 (by kernel_rfl) rfl #[.int .i64 a0] rfl mp_ ?_; (with_reducible refine (numeric_find.calls k a0 t570 t571 t572 _ A10.out).mono ?_); rintro e w56 ⟨rfl, hb⟩; refine ⟨_, rfl, ?_⟩; replace HB := A_ (below_step (hb_ HB.out) hb); (try clear hb); (try clear hb2); (try clear hk); (try clear hi)) | ((with_reducible refine gate_dst (N := 12) rfl ?_); refine be_ 12 #[.int .i64 0, .int .i64 0, .int .i64 0] 56 ?_; intro gb573 hg w57 hbox hb; have BK573 := A_ (hbox); have GW573 := A_ (sz_ hg (hb_ HB.out)); have GE573 := A_ (sz_ hg (hb_ HB.out)); replace HB := A_ (below_step (hb_ HB.out) hb); clear hb hbox hg; have hcz58_0 := bv_ BK573.out 0; have hcz58_1 := bv_ BK573.out 1; have hcz58_2 := bv_ BK573.out 2; have hfz58_0 := blk_frozen BK573.out 0; have hfz58_1 := blk_frozen BK573.out 1; have hfz58_2 := blk_frozen BK573.out 2) | ((with_reducible refine gate_callee (f := 32) rfl ?_); refine goesL_ (some 94) rfl rfl Tryz.func32 (by kernel_rfl) rfl #[.int .i64 t571, .int .i64 t572, .int .u64 t567, .int .u64 t569] rfl mp_ ?_; (with_reducible refine (numeric_floated.calls k t571 t572 t567 t569 t583 _ A54.out).mono ?_); rintro e w59 ⟨rfl, hb⟩; refine ⟨_, rfl, ?_⟩; replace BK573 := A_ (blk_below (g := gb573) (o := .cells #[.int .i64 t570, .int .i64 t571, .int .i64 t572] 56 (0, 0)) (by (with_reducible repeat (first | refine blk_drewN ?_ _ | refine blk_drew ?_ | refine blk_alloc ?_ _)); refine blk_put (cs := #[.int .i64 t570, .int .i64 t571, .int .i64 0]) ?_ 2 _ rfl; (with_reducible repeat (first | refine blk_drewN ?_ _ | refine blk_drew ?_ | refine blk_alloc ?_ _)); refine blk_put (cs := #[.int .i64 t570, .int .i64 0, .int .i64 0]) ?_ 1 _ rfl; (with_reducible repeat (first | refine blk_drewN ?_ _ | refine blk_drew ?_ | refine blk_alloc ?_ _)); refine blk_put (cs := #[.int .i64 0, .int .i64 0, .int .i64 0]) ?_ 0 _ rfl; (with_reducible repeat (first | refine blk_drewN ?_ _ | refine blk_drew ?_ | refine blk_alloc ?_ _)); exact BK573.out) hb); replace HB := A_ (below_step (hb1_ HB.out GE573.out) hb); (try clear hb); (try clear hb2); (try clear hk); (try clear hi)))
         go_ret2
         exact ⟨er_, hb1_ HB.out GE573.out⟩
        ·rw [if_neg c53] at H
         have c53b0 : (t570 == 7) = false := beq_eq_false_iff_ne.mpr c53
         have c53b1 : (t570 != 7) = true := bne_iff_ne.mpr c53
         by_cases c60 : t570 = 9
         ·rw [if_pos c60] at H
          have c60b0 : (t570 == 9) = true := beq_iff_eq.mpr c60
          have c60b1 : (t570 != 9) = false := bne_eq_false_iff_eq.mpr c60
          clear c60
          replace H := ob_ H
          obtain ⟨t584, A610, H⟩ := H
          replace H : (some (t584, 0)) = some (r1, r2) := H
          have A61 := A_ A610;clear A610
          simp only [Option.some.injEq, Prod.mk.injEq] at H
          obtain ⟨rfl, rfl⟩ := H
          go_enter Tryz.func9, Tryz.ntmps9
          go_wp2_with (first | ((with_reducible refine gate_callee (f := 21) rfl ?_); refine goesL_ (some 15) rfl rfl Tryz.func21 (by kernel_rfl) rfl #[.int .i64 a0] rfl mp_ ?_; (with_reducible refine (numeric_Kind.calls k a0 t562 t563 t564 true _ A4.out).mono ?_); rintro e w62 ⟨rfl, hb⟩; refine ⟨_, rfl, ?_⟩; replace HB := A_ (below_step (hb_ HB.out) hb); (try clear hb); (try clear hb2); (try clear hk); (try clear hi)) | ((with_reducible refine gate_callee (f := 24) rfl ?_); refine goesL_ (some 23) rfl rfl Tryz.func24 (by kernel_rfl) rfl #[.int .u8 t562] rfl mp_ ?_; (with_reducible refine (numeric_width.calls t562 t566 _ A6.out).mono ?_); rintro e w' ⟨rfl, ⟨nd, rfl⟩⟩; refine ⟨_, rfl, ?_⟩; (try (rw [drewN_self w62]; generalize hq_ : World.drewN w62 _ = w62; have n0_ : Aside0 (Below w.heap.size w w62) := ⟨by rw [← hq_]; exact (hb_ HB.out)⟩; clear HB hq_; have HB := n0_; clear n0_))) | ((with_reducible refine gate_callee (f := 17) rfl ?_); refine goesL_ (some 25) rfl rfl Tryz.func17 (by kernel_rfl) rfl #[.int .i64 t566, .int .u64 a1] rfl mp_ ?_; (with_reducible refine (shape_Cut.calls t566 a1 t567 _ A7.out).mono ?_); rintro e w' ⟨rfl, ⟨nd, rfl⟩⟩; refine ⟨_, rfl, ?_⟩; (try (rw [drewN_self w62]; generalize hq_ : World.drewN w62 _ = w62; have n0_ : Aside0 (Below w.heap.size w w62) := ⟨by rw [← hq_]; exact (hb_ HB.out)⟩; clear HB hq_; have HB := n0_; clear n0_))) | ((with_reducible refine gate_callee (f := 24) rfl ?_); refine goesL_ (some 27) rfl rfl Tryz.func24 (by kernel_rfl) rfl #[.int .u8 t562] rfl mp_ ?_; (with_reducible refine (numeric_width.calls t562 t566 _ A6.out).mono ?_); rintro e w' ⟨rfl, ⟨nd, rfl⟩⟩; refine ⟨_, rfl, ?_⟩; (try (rw [drewN_self w62]; generalize hq_ : World.drewN w62 _ = w62; have n0_ : Aside0 (Below w.heap.size w w62) := ⟨by rw [← hq_]; exact (hb_ HB.out)⟩; clear HB hq_; have HB := n0_; clear n0_))) | ((with_reducible refine gate_callee (f := 17) rfl ?_); refine goesL_ (some 29) rfl rfl Tryz.func17 (by kernel_rfl) rfl #[.int .i64 t566, .int .u64 a2] rfl mp_ ?_; (with_reducible refine (shape_Cut.calls t566 a2 t569 _ A9.out).mono ?_); rintro e w' ⟨rfl, ⟨nd, rfl⟩⟩; refine ⟨_, rfl, ?_⟩; (try (rw [drewN_self w62]; generalize hq_ : World.drewN w62 _ = w62; have n0_ : Aside0 (Below w.heap.size w w62) := ⟨by rw [← hq_]; exact (hb_ HB.out)⟩; clear HB hq_; have HB := n0_; clear n0_))) | ((with_reducible refine gate_callee (f := 25) rfl ?_); refine goesL_ (some 31) rfl rfl Tryz.func25 (by kernel_rfl) rfl #[.int .i64 a0] rfl mp_ ?_; (with_reducible refine (numeric_find.calls k a0 t570 t571 t572 _ A10.out).mono ?_); rintro e w63 ⟨rfl, hb⟩; refine ⟨_, rfl, ?_⟩; replace HB := A_ (below_step (hb_ HB.out) hb); (try clear hb); (try clear hb2); (try clear hk); (try clear hi)) | ((with_reducible refine gate_dst (N := 12) rfl ?_); refine be_ 12 #[.int .i64 0, .int .i64 0, .int .i64 0] 56 ?_; intro gb573 hg w64 hbox hb; have BK573 := A_ (hbox); have GW573 := A_ (sz_ hg (hb_ HB.out)); have GE573 := A_ (sz_ hg (hb_ HB.out)); replace HB := A_ (below_step (hb_ HB.out) hb); clear hb hbox hg; have hcz65_0 := bv_ BK573.out 0; have hcz65_1 := bv_ BK573.out 1; have hcz65_2 := bv_ BK573.out 2; have hfz65_0 := blk_frozen BK573.out 0; have hfz65_1 := blk_frozen BK573.out 1; have hfz65_2 := blk_frozen BK573.out 2) | ((with_reducible refine gate_callee (f := 33) rfl ?_); refine goesL_ (some 100) rfl rfl Tryz.func33 (by kernel_rfl) rfl #[.int .i64 t571, .int .u64 t567] rfl mp_ ?_; (with_reducible refine (numeric_stopped.calls k t571 t567 t584 _ A61.out).mono ?_); rintro e w66 ⟨rfl, hb⟩; refine ⟨_, rfl, ?_⟩; replace BK573 := A_ (blk_below (g := gb573) (o := .cells #[.int .i64 t570, .int .i64 t571, .int .i64 t572] 56 (0, 0)) (by (with_reducible repeat (first | refine blk_drewN ?_ _ | refine blk_drew ?_ | refine blk_alloc ?_ _)); refine blk_put (cs := #[.int .i64 t570, .int .i64 t571, .int .i64 0]) ?_ 2 _ rfl; (with_reducible repeat (first | refine blk_drewN ?_ _ | refine blk_drew ?_ | refine blk_alloc ?_ _)); refine blk_put (cs := #[.int .i64 t570, .int .i64 0, .int .i64 0]) ?_ 1 _ rfl; (with_reducible repeat (first | refine blk_drewN ?_ _ | refine blk_drew ?_ | refine blk_alloc ?_ _)); refine blk_put (cs := #[.int .i64 0, .int .i64 0, .int .i64 0]) ?_ 0 _ rfl; (with_reducible repeat (first | refine blk_drewN ?_ _ | refine blk_drew ?_ | refine blk_alloc ?_ _)); exact BK573.out) hb); replace HB := A_ (below_step (hb1_ HB.out GE573.out) hb); (try clear hb); (try clear hb2); (try clear hk); (try clear hi)))
          go_ret2
          exact ⟨er_, hb1_ HB.out GE573.out⟩
         ·rw [if_neg c60] at H
          have c60b0 : (t570 == 9) = false := beq_eq_false_iff_ne.mpr c60
          have c60b1 : (t570 != 9) = true := bne_iff_ne.mpr c60
          replace H := ob_ H
          obtain ⟨⟨t585, t586⟩, A670, H⟩ := H
          replace H : (some (t585, t586)) = some (r1, r2) := H
          have A67 := A_ A670;clear A670
          simp only [Option.some.injEq, Prod.mk.injEq] at H
          obtain ⟨rfl, rfl⟩ := H
          go_enter Tryz.func9, Tryz.ntmps9
          go_wp2_with (first | ((with_reducible refine gate_callee (f := 21) rfl ?_); refine goesL_ (some 15) rfl rfl Tryz.func21 (by kernel_rfl) rfl #[.int .i64 a0] rfl mp_ ?_; (with_reducible refine (numeric_Kind.calls k a0 t562 t563 t564 true _ A4.out).mono ?_); rintro e w68 ⟨rfl, hb⟩; refine ⟨_, rfl, ?_⟩; replace HB := A_ (below_step (hb_ HB.out) hb); (try clear hb); (try clear hb2); (try clear hk); (try clear hi)) | ((with_reducible refine gate_callee (f := 24) rfl ?_); refine goesL_ (some 23) rfl rfl Tryz.func24 (by kernel_rfl) rfl #[.int .u8 t562] rfl mp_ ?_; (with_reducible refine (numeric_width.calls t562 t566 _ A6.out).mono ?_); rintro e w' ⟨rfl, ⟨nd, rfl⟩⟩; refine ⟨_, rfl, ?_⟩; (try (rw [drewN_self w68]; generalize hq_ : World.drewN w68 _ = w68; have n0_ : Aside0 (Below w.heap.size w w68) := ⟨by rw [← hq_]; exact (hb_ HB.out)⟩; clear HB hq_; have HB := n0_; clear n0_))) | ((with_reducible refine gate_callee (f := 17) rfl ?_); refine goesL_ (some 25) rfl rfl Tryz.func17 (by kernel_rfl) rfl #[.int .i64 t566, .int .u64 a1] rfl mp_ ?_; (with_reducible refine (shape_Cut.calls t566 a1 t567 _ A7.out).mono ?_); rintro e w' ⟨rfl, ⟨nd, rfl⟩⟩; refine ⟨_, rfl, ?_⟩; (try (rw [drewN_self w68]; generalize hq_ : World.drewN w68 _ = w68; have n0_ : Aside0 (Below w.heap.size w w68) := ⟨by rw [← hq_]; exact (hb_ HB.out)⟩; clear HB hq_; have HB := n0_; clear n0_))) | ((with_reducible refine gate_callee (f := 24) rfl ?_); refine goesL_ (some 27) rfl rfl Tryz.func24 (by kernel_rfl) rfl #[.int .u8 t562] rfl mp_ ?_; (with_reducible refine (numeric_width.calls t562 t566 _ A6.out).mono ?_); rintro e w' ⟨rfl, ⟨nd, rfl⟩⟩; refine ⟨_, rfl, ?_⟩; (try (rw [drewN_self w68]; generalize hq_ : World.drewN w68 _ = w68; have n0_ : Aside0 (Below w.heap.size w w68) := ⟨by rw [← hq_]; exact (hb_ HB.out)⟩; clear HB hq_; have HB := n0_; clear n0_))) | ((with_reducible refine gate_callee (f := 17) rfl ?_); refine goesL_ (some 29) rfl rfl Tryz.func17 (by kernel_rfl) rfl #[.int .i64 t566, .int .u64 a2] rfl mp_ ?_; (with_reducible refine (shape_Cut.calls t566 a2 t569 _ A9.out).mono ?_); rintro e w' ⟨rfl, ⟨nd, rfl⟩⟩; refine ⟨_, rfl, ?_⟩; (try (rw [drewN_self w68]; generalize hq_ : World.drewN w68 _ = w68; have n0_ : Aside0 (Below w.heap.size w w68) := ⟨by rw [← hq_]; exact (hb_ HB.out)⟩; clear HB hq_; have HB := n0_; clear n0_))) | ((with_reducible refine gate_callee (f := 25) rfl ?_); refine goesL_ (some 31) rfl rfl Tryz.func25 (by kernel_rfl) rfl #[.int .i64 a0] rfl mp_ ?_; (with_reducible refine (numeric_find.calls k a0 t570 t571 t572 _ A10.out).mono ?_); rintro e w69 ⟨rfl, hb⟩; refine ⟨_, rfl, ?_⟩; replace HB := A_ (below_step (hb_ HB.out) hb); (try clear hb); (try clear hb2); (try clear hk); (try clear hi)) | ((with_reducible refine gate_dst (N := 12) rfl ?_); refine be_ 12 #[.int .i64 0, .int .i64 0, .int .i64 0] 56 ?_; intro gb573 hg w70 hbox hb; have BK573 := A_ (hbox); have GW573 := A_ (sz_ hg (hb_ HB.out)); have GE573 := A_ (sz_ hg (hb_ HB.out)); replace HB := A_ (below_step (hb_ HB.out) hb); clear hb hbox hg; have hcz71_0 := bv_ BK573.out 0; have hcz71_1 := bv_ BK573.out 1; have hcz71_2 := bv_ BK573.out 2; have hfz71_0 := blk_frozen BK573.out 0; have hfz71_1 := blk_frozen BK573.out 1; have hfz71_2 := blk_frozen BK573.out 2) | ((with_reducible refine gate_callee (f := 34) rfl ?_); refine goesL_ (some 104) rfl rfl Tryz.func34 (by kernel_rfl) rfl #[.int .i64 t571, .int .u64 t567] rfl mp_ ?_; (with_reducible refine (numeric_turn.calls k t571 t567 t585 t586 _ A67.out).mono ?_); rintro e w72 ⟨rfl, hb⟩; refine ⟨_, rfl, ?_⟩; replace BK573 := A_ (blk_below (g := gb573) (o := .cells #[.int .i64 t570, .int .i64 t571, .int .i64 t572] 56 (0, 0)) (by (with_reducible repeat (first | refine blk_drewN ?_ _ | refine blk_drew ?_ | refine blk_alloc ?_ _)); refine blk_put (cs := #[.int .i64 t570, .int .i64 t571, .int .i64 0]) ?_ 2 _ rfl; (with_reducible repeat (first | refine blk_drewN ?_ _ | refine blk_drew ?_ | refine blk_alloc ?_ _)); refine blk_put (cs := #[.int .i64 t570, .int .i64 0, .int .i64 0]) ?_ 1 _ rfl; (with_reducible repeat (first | refine blk_drewN ?_ _ | refine blk_drew ?_ | refine blk_alloc ?_ _)); refine blk_put (cs := #[.int .i64 0, .int .i64 0, .int .i64 0]) ?_ 0 _ rfl; (with_reducible repeat (first | refine blk_drewN ?_ _ | refine blk_drew ?_ | refine blk_alloc ?_ _)); exact BK573.out) hb); replace HB := A_ (below_step (hb1_ HB.out GE573.out) hb); (try clear hb); (try clear hb2); (try clear hk); (try clear hi)))
          go_ret2
          exact ⟨er_, hb1_ HB.out GE573.out⟩
 ·replace c5 := Bool.eq_false_iff.mpr c5
  subst c5
  have H1 : (some (0, 0)) = some (r1, r2) := by rw [if_neg (show ¬ (false = true) by decide)] at H; exact H
  clear H;have H := H1;clear H1
  simp only [Option.some.injEq, Prod.mk.injEq] at H
  obtain ⟨rfl, rfl⟩ := H
  go_enter Tryz.func9, Tryz.ntmps9
  go_wp2_with (first | ((with_reducible refine gate_callee (f := 21) rfl ?_); refine goesL_ (some 15) rfl rfl Tryz.func21 (by kernel_rfl) rfl #[.int .i64 a0] rfl mp_ ?_; (with_reducible refine (numeric_Kind.calls k a0 t562 t563 t564 false _ A4.out).mono ?_); rintro e w73 ⟨rfl, hb⟩; refine ⟨_, rfl, ?_⟩; replace HB := A_ (below_step (hb_ HB.out) hb); (try clear hb); (try clear hb2); (try clear hk); (try clear hi)))
  go_ret2
  exact ⟨er_, hb_ HB.out⟩
def L14_awake.f (k : Nat)  : Option (Bool) := (numeric_Apply.f k 106 4294967295 1).bind fun bt587 => ((numeric_Apply.f k 110 5 0).bind fun bt589 => ((numeric_Apply.f k 146 1065353216 1065353216).bind fun bt591 => (if bt587.1 = 0 then (if bt587.2 = 0 then (if bt589.2 = 2 then (if bt591.1 = 1073741824 then (some (bt591.2 == 0)) else (some false)) else (some false)) else (some false)) else (some false))))
theorem L14_awake.mono : ∀ k, LeO (L14_awake.f k ) (L14_awake.f (k + 1) ) := by
 intro  k
 unfold L14_awake.f
 repeat' first
   | (with_reducible exact numeric_Apply.mono _ _ _ _)
   | (with_reducible exact LeO.refl _)
   | (with_reducible exact LeO.none _)
   | (with_reducible refine LeO.ite ?_ ?_)
   | (with_reducible refine LeO.bind ?_ (fun _ => ?_))
   | exact numeric_Apply.mono _ _ _ _
   | exact LeO.none _
   | refine LeO.ite ?_ ?_
   | refine LeO.bind ?_ (fun _ => ?_)
theorem L14_awake.calls (k : Nat)  (r : Bool) (w : World) (h : L14_awake.f k  = some r) :
  Calls Tryz.prog 19 #[] w fun e w' => e = .returned (.bool r) ∧ Below w.heap.size w w' := by
 have HB := A_ (Below.refl w.heap.size w)
 have H : ((numeric_Apply.f k 106 4294967295 1).bind fun bt587 => ((numeric_Apply.f k 110 5 0).bind fun bt589 => ((numeric_Apply.f k 146 1065353216 1065353216).bind fun bt591 => (if bt587.1 = 0 then (if bt587.2 = 0 then (if bt589.2 = 2 then (if bt591.1 = 1073741824 then (some (bt591.2 == 0)) else (some false)) else (some false)) else (some false)) else (some false))))) = some r := h
 clear h
 replace H := ob_ H
 obtain ⟨⟨t587, t588⟩, A10, H⟩ := H
 replace H : ((numeric_Apply.f k 110 5 0).bind fun bt589 => ((numeric_Apply.f k 146 1065353216 1065353216).bind fun bt591 => (if t587 = 0 then (if t588 = 0 then (if bt589.2 = 2 then (if bt591.1 = 1073741824 then (some (bt591.2 == 0)) else (some false)) else (some false)) else (some false)) else (some false)))) = some r := H
 have A1 := A_ A10;clear A10
 replace H := ob_ H
 obtain ⟨⟨t589, t590⟩, A20, H⟩ := H
 replace H : ((numeric_Apply.f k 146 1065353216 1065353216).bind fun bt591 => (if t587 = 0 then (if t588 = 0 then (if t590 = 2 then (if bt591.1 = 1073741824 then (some (bt591.2 == 0)) else (some false)) else (some false)) else (some false)) else (some false))) = some r := H
 have A2 := A_ A20;clear A20
 replace H := ob_ H
 obtain ⟨⟨t591, t592⟩, A30, H⟩ := H
 replace H : (if t587 = 0 then (if t588 = 0 then (if t590 = 2 then (if t591 = 1073741824 then (some (t592 == 0)) else (some false)) else (some false)) else (some false)) else (some false)) = some r := H
 have A3 := A_ A30;clear A30
 by_cases c4 : t587 = 0
 ·rw [if_pos c4] at H
  have c4b0 : (t587 == 0) = true := beq_iff_eq.mpr c4
  have c4b1 : (t587 != 0) = false := bne_eq_false_iff_eq.mpr c4
  clear c4
  by_cases c5 : t588 = 0
  ·rw [if_pos c5] at H
   have c5b0 : (t588 == 0) = true := beq_iff_eq.mpr c5
   have c5b1 : (t588 != 0) = false := bne_eq_false_iff_eq.mpr c5
   clear c5
   by_cases c6 : t590 = 2
   ·rw [if_pos c6] at H
    have c6b0 : (t590 == 2) = true := beq_iff_eq.mpr c6
    have c6b1 : (t590 != 2) = false := bne_eq_false_iff_eq.mpr c6
    clear c6
    by_cases c7 : t591 = 1073741824
    ·rw [if_pos c7] at H
     have c7b0 : (t591 == 1073741824) = true := beq_iff_eq.mpr c7
     have c7b1 : (t591 != 1073741824) = false := bne_eq_false_iff_eq.mpr c7
     clear c7
     obtain rfl := Option.some.inj H
     go_enter Tryz.func19, Tryz.ntmps19
     go_wp2_with (first | ((with_reducible refine gate_callee (f := 9) rfl ?_); refine goesL_ (some 8) rfl rfl Tryz.func9 (by kernel_rfl) rfl #[.int .i64 106, .int .u64 4294967295, .int .u64 1] rfl mp_ ?_; (with_reducible refine (numeric_Apply.calls k 106 4294967295 1 t587 t588 _ A1.out).mono ?_); rintro e w8 ⟨rfl, hb⟩; refine ⟨_, rfl, ?_⟩; replace HB := A_ (below_step (hb_ HB.out) hb); (try clear hb); (try clear hb2); (try clear hk); (try clear hi)) | ((with_reducible refine gate_callee (f := 9) rfl ?_); refine goesL_ (some 12) rfl rfl Tryz.func9 (by kernel_rfl) rfl #[.int .i64 110, .int .u64 5, .int .u64 0] rfl mp_ ?_; (with_reducible refine (numeric_Apply.calls k 110 5 0 t589 t590 _ A2.out).mono ?_); rintro e w9 ⟨rfl, hb⟩; refine ⟨_, rfl, ?_⟩; replace HB := A_ (below_step (hb_ HB.out) hb); (try clear hb); (try clear hb2); (try clear hk); (try clear hi)) | ((with_reducible refine gate_callee (f := 9) rfl ?_); refine goesL_ (some 16) rfl rfl Tryz.func9 (by kernel_rfl) rfl #[.int .i64 146, .int .u64 1065353216, .int .u64 1065353216] rfl mp_ ?_; (with_reducible refine (numeric_Apply.calls k 146 1065353216 1065353216 t591 t592 _ A3.out).mono ?_); rintro e w10 ⟨rfl, hb⟩; refine ⟨_, rfl, ?_⟩; replace HB := A_ (below_step (hb_ HB.out) hb); (try clear hb); (try clear hb2); (try clear hk); (try clear hi)))
     go_ret
     exact ⟨er_, hb_ HB.out⟩
    ·rw [if_neg c7] at H
     have c7b0 : (t591 == 1073741824) = false := beq_eq_false_iff_ne.mpr c7
     have c7b1 : (t591 != 1073741824) = true := bne_iff_ne.mpr c7
     obtain rfl := Option.some.inj H
     go_enter Tryz.func19, Tryz.ntmps19
     go_wp2_with (first | ((with_reducible refine gate_callee (f := 9) rfl ?_); refine goesL_ (some 8) rfl rfl Tryz.func9 (by kernel_rfl) rfl #[.int .i64 106, .int .u64 4294967295, .int .u64 1] rfl mp_ ?_; (with_reducible refine (numeric_Apply.calls k 106 4294967295 1 t587 t588 _ A1.out).mono ?_); rintro e w11 ⟨rfl, hb⟩; refine ⟨_, rfl, ?_⟩; replace HB := A_ (below_step (hb_ HB.out) hb); (try clear hb); (try clear hb2); (try clear hk); (try clear hi)) | ((with_reducible refine gate_callee (f := 9) rfl ?_); refine goesL_ (some 12) rfl rfl Tryz.func9 (by kernel_rfl) rfl #[.int .i64 110, .int .u64 5, .int .u64 0] rfl mp_ ?_; (with_reducible refine (numeric_Apply.calls k 110 5 0 t589 t590 _ A2.out).mono ?_); rintro e w12 ⟨rfl, hb⟩; refine ⟨_, rfl, ?_⟩; replace HB := A_ (below_step (hb_ HB.out) hb); (try clear hb); (try clear hb2); (try clear hk); (try clear hi)) | ((with_reducible refine gate_callee (f := 9) rfl ?_); refine goesL_ (some 16) rfl rfl Tryz.func9 (by kernel_rfl) rfl #[.int .i64 146, .int .u64 1065353216, .int .u64 1065353216] rfl mp_ ?_; (with_reducible refine (numeric_Apply.calls k 146 1065353216 1065353216 t591 t592 _ A3.out).mono ?_); rintro e w13 ⟨rfl, hb⟩; refine ⟨_, rfl, ?_⟩; replace HB := A_ (below_step (hb_ HB.out) hb); (try clear hb); (try clear hb2); (try clear hk); (try clear hi)))
     go_ret
     exact ⟨er_, hb_ HB.out⟩
   ·rw [if_neg c6] at H
    have c6b0 : (t590 == 2) = false := beq_eq_false_iff_ne.mpr c6
    have c6b1 : (t590 != 2) = true := bne_iff_ne.mpr c6
    obtain rfl := Option.some.inj H
    go_enter Tryz.func19, Tryz.ntmps19
    go_wp2_with (first | ((with_reducible refine gate_callee (f := 9) rfl ?_); refine goesL_ (some 8) rfl rfl Tryz.func9 (by kernel_rfl) rfl #[.int .i64 106, .int .u64 4294967295, .int .u64 1] rfl mp_ ?_; (with_reducible refine (numeric_Apply.calls k 106 4294967295 1 t587 t588 _ A1.out).mono ?_); rintro e w14 ⟨rfl, hb⟩; refine ⟨_, rfl, ?_⟩; replace HB := A_ (below_step (hb_ HB.out) hb); (try clear hb); (try clear hb2); (try clear hk); (try clear hi)) | ((with_reducible refine gate_callee (f := 9) rfl ?_); refine goesL_ (some 12) rfl rfl Tryz.func9 (by kernel_rfl) rfl #[.int .i64 110, .int .u64 5, .int .u64 0] rfl mp_ ?_; (with_reducible refine (numeric_Apply.calls k 110 5 0 t589 t590 _ A2.out).mono ?_); rintro e w15 ⟨rfl, hb⟩; refine ⟨_, rfl, ?_⟩; replace HB := A_ (below_step (hb_ HB.out) hb); (try clear hb); (try clear hb2); (try clear hk); (try clear hi)) | ((with_reducible refine gate_callee (f := 9) rfl ?_); refine goesL_ (some 16) rfl rfl Tryz.func9 (by kernel_rfl) rfl #[.int .i64 146, .int .u64 1065353216, .int .u64 1065353216] rfl mp_ ?_; (with_reducible refine (numeric_Apply.calls k 146 1065353216 1065353216 t591 t592 _ A3.out).mono ?_); rintro e w16 ⟨rfl, hb⟩; refine ⟨_, rfl, ?_⟩; replace HB := A_ (below_step (hb_ HB.out) hb); (try clear hb); (try clear hb2); (try clear hk); (try clear hi)))
    go_ret
    exact ⟨er_, hb_ HB.out⟩
  ·rw [if_neg c5] at H
   have c5b0 : (t588 == 0) = false := beq_eq_false_iff_ne.mpr c5
   have c5b1 : (t588 != 0) = true := bne_iff_ne.mpr c5
   obtain rfl := Option.some.inj H
   go_enter Tryz.func19, Tryz.ntmps19
   go_wp2_with (first | ((with_reducible refine gate_callee (f := 9) rfl ?_); refine goesL_ (some 8) rfl rfl Tryz.func9 (by kernel_rfl) rfl #[.int .i64 106, .int .u64 4294967295, .int .u64 1] rfl mp_ ?_; (with_reducible refine (numeric_Apply.calls k 106 4294967295 1 t587 t588 _ A1.out).mono ?_); rintro e w17 ⟨rfl, hb⟩; refine ⟨_, rfl, ?_⟩; replace HB := A_ (below_step (hb_ HB.out) hb); (try clear hb); (try clear hb2); (try clear hk); (try clear hi)) | ((with_reducible refine gate_callee (f := 9) rfl ?_); refine goesL_ (some 12) rfl rfl Tryz.func9 (by kernel_rfl) rfl #[.int .i64 110, .int .u64 5, .int .u64 0] rfl mp_ ?_; (with_reducible refine (numeric_Apply.calls k 110 5 0 t589 t590 _ A2.out).mono ?_); rintro e w18 ⟨rfl, hb⟩; refine ⟨_, rfl, ?_⟩; replace HB := A_ (below_step (hb_ HB.out) hb); (try clear hb); (try clear hb2); (try clear hk); (try clear hi)) | ((with_reducible refine gate_callee (f := 9) rfl ?_); refine goesL_ (some 16) rfl rfl Tryz.func9 (by kernel_rfl) rfl #[.int .i64 146, .int .u64 1065353216, .int .u64 1065353216] rfl mp_ ?_; (with_reducible refine (numeric_Apply.calls k 146 1065353216 1065353216 t591 t592 _ A3.out).mono ?_); rintro e w19 ⟨rfl, hb⟩; refine ⟨_, rfl, ?_⟩; replace HB := A_ (below_step (hb_ HB.out) hb); (try clear hb); (try clear hb2); (try clear hk); (try clear hi)))
   go_ret
   exact ⟨er_, hb_ HB.out⟩
 ·rw [if_neg c4] at H
  have c4b0 : (t587 == 0) = false := beq_eq_false_iff_ne.mpr c4
  have c4b1 : (t587 != 0) = true := bne_iff_ne.mpr c4
  obtain rfl := Option.some.inj H
  go_enter Tryz.func19, Tryz.ntmps19
  go_wp2_with (first | ((with_reducible refine gate_callee (f := 9) rfl ?_); refine goesL_ (some 8) rfl rfl Tryz.func9 (by kernel_rfl) rfl #[.int .i64 106, .int .u64 4294967295, .int .u64 1] rfl mp_ ?_; (with_reducible refine (numeric_Apply.calls k 106 4294967295 1 t587 t588 _ A1.out).mono ?_); rintro e w20 ⟨rfl, hb⟩; refine ⟨_, rfl, ?_⟩; replace HB := A_ (below_step (hb_ HB.out) hb); (try clear hb); (try clear hb2); (try clear hk); (try clear hi)) | ((with_reducible refine gate_callee (f := 9) rfl ?_); refine goesL_ (some 12) rfl rfl Tryz.func9 (by kernel_rfl) rfl #[.int .i64 110, .int .u64 5, .int .u64 0] rfl mp_ ?_; (with_reducible refine (numeric_Apply.calls k 110 5 0 t589 t590 _ A2.out).mono ?_); rintro e w21 ⟨rfl, hb⟩; refine ⟨_, rfl, ?_⟩; replace HB := A_ (below_step (hb_ HB.out) hb); (try clear hb); (try clear hb2); (try clear hk); (try clear hi)) | ((with_reducible refine gate_callee (f := 9) rfl ?_); refine goesL_ (some 16) rfl rfl Tryz.func9 (by kernel_rfl) rfl #[.int .i64 146, .int .u64 1065353216, .int .u64 1065353216] rfl mp_ ?_; (with_reducible refine (numeric_Apply.calls k 146 1065353216 1065353216 t591 t592 _ A3.out).mono ?_); rintro e w22 ⟨rfl, hb⟩; refine ⟨_, rfl, ?_⟩; replace HB := A_ (below_step (hb_ HB.out) hb); (try clear hb); (try clear hb2); (try clear hk); (try clear hi)))
  go_ret
  exact ⟨er_, hb_ HB.out⟩
end Go.Proofs.YtnmlmgmljoncoaaGreatDoor.PA
