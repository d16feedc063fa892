/- What the Go functions that a statement reaches compute, each as a Lean function with its proof, and the statement itself behind it, for every input; written by a program of this session (pp.py) out of the translation. -/
import Derived.Test.YtmjfenbbgfohlaaPAx0
import Derived.Test.YtmjfenbbgfohlaaPAsignAbs
import Derived.Test.YtmjfenbbgfohlaaPAsignCopysign
import Derived.Test.YtmjfenbbgfohlaaPAsignIs
import Derived.Test.YtmjfenbbgfohlaaPAsignNeg
import Derived.Test.YtmjfenbbgfohlaaPAtrunnionlaw10awake
namespace Go.Proofs.Ytmjfenbbgfohlaa.PA
open Go.RowKit Go.Proofs.YtmjfenbbgfohlaaW.PrintWords Go.Proofs.YtmjfenbbgfohlaaW.PrintLast Go.Proofs.YtmjfenbbgfohlaaW.PrintMore
attribute [local go_sem] max2_int min2_int max_two min_two max_three min_three max_four min_four   -- for this text's walks alone
set_option linter.unusedVariables false
set_option linter.unusedSimpArgs false

/-! ### trunnionlaw10_SignBack: function 5 -/
def trunnionlaw10_SignBack.j0 : Nat → Int → Int → Int → Bool → Option (Bool)
  | 0, _, _, _, _ => none
  | k + 1, x0, x1, x2, x17 => if x17 = true then (some true) else ((sign_Neg.f x0 x1).bind fun t145 => ((sign_Copysign.f x0 x1 x2).bind fun t146 => (if 0 ≤ (wrap64 (64 - x0)) then ((sign_Neg.f x0 t145).bind fun t147 => (if t147 = (shr .u64 (shl .u64 x1 (wrap64 (64 - x0))) (wrap64 (64 - x0))) then (if 0 ≤ (wrap64 (x0 - 1)) then (if (Go.bits .xor .u64 t145 (shr .u64 (shl .u64 x1 (wrap64 (64 - x0))) (wrap64 (64 - x0)))) = (shl .u64 1 (wrap64 (x0 - 1))) then ((sign_Is.f x0 t146).bind fun t148 => ((sign_Is.f x0 x2).bind fun t149 => (if (t148 == t149) = true then ((sign_Abs.f x0 t146).bind fun t150 => ((sign_Abs.f x0 x1).bind fun t151 => (if t150 = t151 then ((sign_Is.f x0 t145).bind fun t152 => ((sign_Is.f x0 x1).bind fun t153 => (some (t152 != t153)))) else (some false)))) else (some false)))) else (some false)) else (none)) else (some false))) else (none))))
def trunnionlaw10_SignBack.f (k : Nat) (a0 : Int) (a1 : Int) (a2 : Int) : Option (Bool) := (trunnionlaw10_awake.f).bind fun t144 => (if t144 = true then (if a0 = 32 then (trunnionlaw10_SignBack.j0 k a0 a1 a2 false) else (trunnionlaw10_SignBack.j0 k a0 a1 a2 (a0 != 64))) else (some false))
theorem trunnionlaw10_SignBack.mono_l : ∀ k, (∀ y0 y1 y2 y3, LeO (trunnionlaw10_SignBack.j0 k y0 y1 y2 y3) (trunnionlaw10_SignBack.j0 (k + 1) y0 y1 y2 y3))
  | 0 => fun _ _ _ _ r h => by simp [trunnionlaw10_SignBack.j0] at h
  | k + 1 => by
    have ih0 := trunnionlaw10_SignBack.mono_l k
    · intro y0 y1 y2 y3
      unfold trunnionlaw10_SignBack.j0
      repeat' first
      | (with_reducible exact ih0 _ _ _ _)
      | (with_reducible exact LeO.refl _)
      | (with_reducible exact LeO.none _)
      | (with_reducible refine LeO.ite ?_ ?_)
      | (with_reducible refine LeO.bind ?_ (fun _ => ?_))
      | exact ih0 _ _ _ _
      | exact LeO.none _
      | refine LeO.ite ?_ ?_
      | refine LeO.bind ?_ (fun _ => ?_)
theorem trunnionlaw10_SignBack.mono : ∀ a0 a1 a2 k, LeO (trunnionlaw10_SignBack.f k a0 a1 a2) (trunnionlaw10_SignBack.f (k + 1) a0 a1 a2) := by
  intro a0 a1 a2 k
  have ih0 := trunnionlaw10_SignBack.mono_l k
  unfold trunnionlaw10_SignBack.f
  repeat' first
      | (with_reducible exact ih0 _ _ _ _)
      | (with_reducible exact LeO.refl _)
      | (with_reducible exact LeO.none _)
      | (with_reducible refine LeO.ite ?_ ?_)
      | (with_reducible refine LeO.bind ?_ (fun _ => ?_))
      | exact ih0 _ _ _ _
      | exact LeO.none _
      | refine LeO.ite ?_ ?_
      | refine LeO.bind ?_ (fun _ => ?_)
set_option maxHeartbeats 8000000 in
set_option maxRecDepth 100000 in
theorem trunnionlaw10_SignBack.calls (k : Nat) (a0 : Int) (a1 : Int) (a2 : Int) (r : Bool) (w : World) (h : trunnionlaw10_SignBack.f k a0 a1 a2 = some r) :
    Calls Try.prog 5 #[.int .i64 a0, .int .u64 a1, .int .u64 a2] w fun e w' => e = .returned (.bool r) ∧ Below w.heap.size w w' := by
  have HB := Aside0.mk (Below.refl w.heap.size w)
  have H : ((trunnionlaw10_awake.f).bind fun t144 => (if t144 = true then (if a0 = 32 then (trunnionlaw10_SignBack.j0 k a0 a1 a2 false) else (trunnionlaw10_SignBack.j0 k a0 a1 a2 (a0 != 64))) else (some false))) = some r := h
  clear h
  replace H := Option.bind_eq_some_iff.mp H
  obtain ⟨t144, A40, H⟩ := H
  replace H : (if t144 = true then (if a0 = 32 then (trunnionlaw10_SignBack.j0 k a0 a1 a2 false) else (trunnionlaw10_SignBack.j0 k a0 a1 a2 (a0 != 64))) else (some false)) = some r := H
  have A4 := Aside0.mk A40
  clear A40
  by_cases c5 : t144 = true
  · subst c5
    have H1 : (if a0 = 32 then (trunnionlaw10_SignBack.j0 k a0 a1 a2 false) else (trunnionlaw10_SignBack.j0 k a0 a1 a2 (a0 != 64))) = some r := by rw [if_pos rfl] at H; exact H
    clear H
    have H := H1
    clear H1
    have HC6 := Aside0.mk H
    clear H
    go_enter Try.func5, Try.ntmps5
    go_upto_region 3 with (first | ((with_reducible refine gate_callee (f := 25) rfl ?_); refine goesL_ (some 10) rfl rfl Try.func25 (by kernel_rfl) rfl #[] rfl (by (try simp only [List.map_toArray, List.map_cons, List.map_nil]); first | done | rfl | (simp only [List.length_drop, List.length_take]; rfl)) ?_; (with_reducible refine (trunnionlaw10_awake.calls  true _ A4.out).mono ?_); rintro e w7 ⟨rfl, hb⟩; refine ⟨_, rfl, ?_⟩; have n0_ := Aside0.mk (below_step (by repeat (first | (with_reducible first | exact HB.out | apply below_alloc | apply pw_below_drewN | apply below_drew1) | exact HB.out)) hb); clear HB; have HB := n0_; clear n0_; (try clear hb); (try clear hb2); (try clear hk); (try clear hi)))
    (try simp only [Act.put, List.setIfInBounds_toArray, List.set_cons_zero, List.set_cons_succ])
    go_cut [17] (fun v17 wc => ∃ (kq : Nat) (x17_5 : Bool), v17 = .bool x17_5 ∧ Aside0 (trunnionlaw10_SignBack.j0 kq a0 a1 a2 x17_5 = some r) ∧ Aside0 (kq ≤ k) ∧ Aside0 (Below w.heap.size w wc))
    case first =>
      have H := HC6.out
      clear HC6
      by_cases c8 : a0 = 32
      · rw [if_pos c8] at H
        have c8b0 : (a0 == 32) = true := beq_iff_eq.mpr c8
        have c8b1 : (a0 != 32) = false := bne_eq_false_iff_eq.mpr c8
        clear c8
        (first | rw [c8b0] | (simp only [i64_w, i32_w]; rw [c8b0]) | skip)
        have H' := Aside0.mk H
        clear H
        go_wp2
        go_meet
        case rel => exact ⟨_, (false), (by first | rfl | (simp; done) | (simp [*]; done)), H', ⟨by first | omega | exact Nat.le_refl _⟩, ⟨by repeat (first | (with_reducible first | exact HB.out | apply below_alloc | apply pw_below_drewN | apply below_drew1) | exact HB.out)⟩⟩
      · rw [if_neg c8] at H
        have c8b0 : (a0 == 32) = false := beq_eq_false_iff_ne.mpr c8
        have c8b1 : (a0 != 32) = true := bne_iff_ne.mpr c8
        (first | rw [c8b0] | (simp only [i64_w, i32_w]; rw [c8b0]) | skip)
        have H' := Aside0.mk H
        clear H
        go_wp2
        go_meet
        case rel => exact ⟨_, ((a0 != 64)), (by first | rfl | (simp; done) | (simp [*]; done)), H', ⟨by first | omega | exact Nat.le_refl _⟩, ⟨by repeat (first | (with_reducible first | exact HB.out | apply below_alloc | apply pw_below_drewN | apply below_drew1) | exact HB.out)⟩⟩
    case rest =>
      clear HC6
      try clear c2
      try clear p2
      try clear c5
      try clear c8
      try clear c8b0
      try clear c8b1
      obtain ⟨kq, x17_5, rfl, HA, HJ5, HB⟩ := hcut
      cases kq with
      | zero => exact absurd HA.out (by simp [trunnionlaw10_SignBack.j0])
      | succ kj5 =>
        have H := HA.out
        clear HA
        simp only [trunnionlaw10_SignBack.j0] at H
        by_cases c9 : x17_5 = true
        · subst c9
          have H1 : (some true) = some r := by rw [if_pos rfl] at H; exact H
          clear H
          have H := H1
          clear H1
          obtain rfl := Option.some.inj H
          go_wp2
          go_ret
          exact ⟨by first | rfl | (simp [errW_none, errW_some] <;> rfl) | (simp [*, errW_none, errW_some] <;> rfl), by repeat (first | (with_reducible first | exact HB.out | apply below_alloc | apply pw_below_drewN | apply below_drew1) | exact HB.out)⟩
        · replace c9 := Bool.eq_false_iff.mpr c9
          subst c9
          have H1 : ((sign_Neg.f a0 a1).bind fun t145 => ((sign_Copysign.f a0 a1 a2).bind fun t146 => (if 0 ≤ (wrap64 (64 - a0)) then ((sign_Neg.f a0 t145).bind fun t147 => (if t147 = (shr .u64 (shl .u64 a1 (wrap64 (64 - a0))) (wrap64 (64 - a0))) then (if 0 ≤ (wrap64 (a0 - 1)) then (if (Go.bits .xor .u64 t145 (shr .u64 (shl .u64 a1 (wrap64 (64 - a0))) (wrap64 (64 - a0)))) = (shl .u64 1 (wrap64 (a0 - 1))) then ((sign_Is.f a0 t146).bind fun t148 => ((sign_Is.f a0 a2).bind fun t149 => (if (t148 == t149) = true then ((sign_Abs.f a0 t146).bind fun t150 => ((sign_Abs.f a0 a1).bind fun t151 => (if t150 = t151 then ((sign_Is.f a0 t145).bind fun t152 => ((sign_Is.f a0 a1).bind fun t153 => (some (t152 != t153)))) else (some false)))) else (some false)))) else (some false)) else (none)) else (some false))) else (none)))) = some r := by rw [if_neg (show ¬ (false = true) by decide)] at H; exact H
          clear H
          have H := H1
          clear H1
          replace H := Option.bind_eq_some_iff.mp H
          obtain ⟨t145, A100, H⟩ := H
          replace H : ((sign_Copysign.f a0 a1 a2).bind fun t146 => (if 0 ≤ (wrap64 (64 - a0)) then ((sign_Neg.f a0 t145).bind fun t147 => (if t147 = (shr .u64 (shl .u64 a1 (wrap64 (64 - a0))) (wrap64 (64 - a0))) then (if 0 ≤ (wrap64 (a0 - 1)) then (if (Go.bits .xor .u64 t145 (shr .u64 (shl .u64 a1 (wrap64 (64 - a0))) (wrap64 (64 - a0)))) = (shl .u64 1 (wrap64 (a0 - 1))) then ((sign_Is.f a0 t146).bind fun t148 => ((sign_Is.f a0 a2).bind fun t149 => (if (t148 == t149) = true then ((sign_Abs.f a0 t146).bind fun t150 => ((sign_Abs.f a0 a1).bind fun t151 => (if t150 = t151 then ((sign_Is.f a0 t145).bind fun t152 => ((sign_Is.f a0 a1).bind fun t153 => (some (t152 != t153)))) else (some false)))) else (some false)))) else (some false)) else (none)) else (some false))) else (none))) = some r := H
          have A10 := Aside0.mk A100
          clear A100
          replace H := Option.bind_eq_some_iff.mp H
          obtain ⟨t146, A110, H⟩ := H
          replace H : (if 0 ≤ (wrap64 (64 - a0)) then ((sign_Neg.f a0 t145).bind fun t147 => (if t147 = (shr .u64 (shl .u64 a1 (wrap64 (64 - a0))) (wrap64 (64 - a0))) then (if 0 ≤ (wrap64 (a0 - 1)) then (if (Go.bits .xor .u64 t145 (shr .u64 (shl .u64 a1 (wrap64 (64 - a0))) (wrap64 (64 - a0)))) = (shl .u64 1 (wrap64 (a0 - 1))) then ((sign_Is.f a0 t146).bind fun t148 => ((sign_Is.f a0 a2).bind fun t149 => (if (t148 == t149) = true then ((sign_Abs.f a0 t146).bind fun t150 => ((sign_Abs.f a0 a1).bind fun t151 => (if t150 = t151 then ((sign_Is.f a0 t145).bind fun t152 => ((sign_Is.f a0 a1).bind fun t153 => (some (t152 != t153)))) else (some false)))) else (some false)))) else (some false)) else (none)) else (some false))) else (none)) = some r := H
          have A11 := Aside0.mk A110
          clear A110
          obtain ⟨ji12, hji12⟩ : ∃ j_ : Int, (wrap64 (64 - a0)) = j_ := ⟨_, rfl⟩
          replace H : (if 0 ≤ (ji12) then ((sign_Neg.f a0 t145).bind fun t147 => (if t147 = (shr .u64 (shl .u64 a1 (ji12)) (ji12)) then (if 0 ≤ (wrap64 (a0 - 1)) then (if (Go.bits .xor .u64 t145 (shr .u64 (shl .u64 a1 (ji12)) (ji12))) = (shl .u64 1 (wrap64 (a0 - 1))) then ((sign_Is.f a0 t146).bind fun t148 => ((sign_Is.f a0 a2).bind fun t149 => (if (t148 == t149) = true then ((sign_Abs.f a0 t146).bind fun t150 => ((sign_Abs.f a0 a1).bind fun t151 => (if t150 = t151 then ((sign_Is.f a0 t145).bind fun t152 => ((sign_Is.f a0 a1).bind fun t153 => (some (t152 != t153)))) else (some false)))) else (some false)))) else (some false)) else (none)) else (some false))) else (none)) = some r := by first | (rw [hji12] at H; exact H) | (simp only [hji12] at H ⊢; exact H)
          (try rw [hji12] at A10)
          (try rw [hji12] at A11)
          have hji12w : (IntKind.i64.wrap (64 - a0)) = ji12 := (i64_w _).trans hji12
          by_cases c13 : 0 ≤ (ji12)
          · rw [if_pos c13] at H
            have c13b0 := eq_true c13
            have c13b1 : decide (0 ≤ (ji12)) = true := decide_eq_true c13
            clear c13
            obtain ⟨ji14, hji14⟩ : ∃ j_ : Int, (shl .u64 a1 (ji12)) = j_ := ⟨_, rfl⟩
            replace H : ((sign_Neg.f a0 t145).bind fun t147 => (if t147 = (shr .u64 (ji14) (ji12)) then (if 0 ≤ (wrap64 (a0 - 1)) then (if (Go.bits .xor .u64 t145 (shr .u64 (ji14) (ji12))) = (shl .u64 1 (wrap64 (a0 - 1))) then ((sign_Is.f a0 t146).bind fun t148 => ((sign_Is.f a0 a2).bind fun t149 => (if (t148 == t149) = true then ((sign_Abs.f a0 t146).bind fun t150 => ((sign_Abs.f a0 a1).bind fun t151 => (if t150 = t151 then ((sign_Is.f a0 t145).bind fun t152 => ((sign_Is.f a0 a1).bind fun t153 => (some (t152 != t153)))) else (some false)))) else (some false)))) else (some false)) else (none)) else (some false))) = some r := by first | (rw [hji14] at H; exact H) | (simp only [hji14] at H ⊢; exact H)
            (try rw [hji14] at A10)
            (try rw [hji14] at A11)
            have hji14_ : (IntKind.u64.wrap (a1 * 2 ^ min (ji12).toNat 64)) = ji14 := hji14
            have hji14z : (ji12) ≤ 64 → (IntKind.u64.wrap (a1 * 2 ^ (ji12).toNat)) = ji14 := shl_small hji14
            have c15b0 := eq_true (of_decide_eq_true (by first | (with_reducible assumption) | assumption) : 0 ≤ (ji12))
            obtain ⟨ji16, hji16⟩ : ∃ j_ : Int, (shr .u64 (ji14) (ji12)) = j_ := ⟨_, rfl⟩
            replace H : ((sign_Neg.f a0 t145).bind fun t147 => (if t147 = (ji16) then (if 0 ≤ (wrap64 (a0 - 1)) then (if (Go.bits .xor .u64 t145 (ji16)) = (shl .u64 1 (wrap64 (a0 - 1))) then ((sign_Is.f a0 t146).bind fun t148 => ((sign_Is.f a0 a2).bind fun t149 => (if (t148 == t149) = true then ((sign_Abs.f a0 t146).bind fun t150 => ((sign_Abs.f a0 a1).bind fun t151 => (if t150 = t151 then ((sign_Is.f a0 t145).bind fun t152 => ((sign_Is.f a0 a1).bind fun t153 => (some (t152 != t153)))) else (some false)))) else (some false)))) else (some false)) else (none)) else (some false))) = some r := by first | (rw [hji16] at H; exact H) | (simp only [hji16] at H ⊢; exact H)
            (try rw [hji16] at A10)
            (try rw [hji16] at A11)
            have hji16_ : ((ji14) / 2 ^ min (ji12).toNat 64) = ji16 := hji16
            have hji16z : (ji12) ≤ 64 → ((ji14) / 2 ^ (ji12).toNat) = ji16 := shr_small hji16
            replace H := Option.bind_eq_some_iff.mp H
            obtain ⟨t147, A170, H⟩ := H
            replace H : (if t147 = (ji16) then (if 0 ≤ (wrap64 (a0 - 1)) then (if (Go.bits .xor .u64 t145 (ji16)) = (shl .u64 1 (wrap64 (a0 - 1))) then ((sign_Is.f a0 t146).bind fun t148 => ((sign_Is.f a0 a2).bind fun t149 => (if (t148 == t149) = true then ((sign_Abs.f a0 t146).bind fun t150 => ((sign_Abs.f a0 a1).bind fun t151 => (if t150 = t151 then ((sign_Is.f a0 t145).bind fun t152 => ((sign_Is.f a0 a1).bind fun t153 => (some (t152 != t153)))) else (some false)))) else (some false)))) else (some false)) else (none)) else (some false)) = some r := H
            have A17 := Aside0.mk A170
            clear A170
            by_cases c18 : t147 = (ji16)
            · rw [if_pos c18] at H
              have c18b0 : (t147 == (ji16)) = true := beq_iff_eq.mpr c18
              have c18b1 : (t147 != (ji16)) = false := bne_eq_false_iff_eq.mpr c18
              clear c18
              obtain ⟨ji19, hji19⟩ : ∃ j_ : Int, (wrap64 (a0 - 1)) = j_ := ⟨_, rfl⟩
              replace H : (if 0 ≤ (ji19) then (if (Go.bits .xor .u64 t145 (ji16)) = (shl .u64 1 (ji19)) then ((sign_Is.f a0 t146).bind fun t148 => ((sign_Is.f a0 a2).bind fun t149 => (if (t148 == t149) = true then ((sign_Abs.f a0 t146).bind fun t150 => ((sign_Abs.f a0 a1).bind fun t151 => (if t150 = t151 then ((sign_Is.f a0 t145).bind fun t152 => ((sign_Is.f a0 a1).bind fun t153 => (some (t152 != t153)))) else (some false)))) else (some false)))) else (some false)) else (none)) = some r := by first | (rw [hji19] at H; exact H) | (simp only [hji19] at H ⊢; exact H)
              (try rw [hji19] at A10)
              (try rw [hji19] at A11)
              (try rw [hji19] at A17)
              have hji19w : (IntKind.i64.wrap (a0 - 1)) = ji19 := (i64_w _).trans hji19
              by_cases c20 : 0 ≤ (ji19)
              · rw [if_pos c20] at H
                have c20b0 := eq_true c20
                have c20b1 : decide (0 ≤ (ji19)) = true := decide_eq_true c20
                clear c20
                obtain ⟨ji21, hji21⟩ : ∃ j_ : Int, (shl .u64 1 (ji19)) = j_ := ⟨_, rfl⟩
                replace H : (if (Go.bits .xor .u64 t145 (ji16)) = (ji21) then ((sign_Is.f a0 t146).bind fun t148 => ((sign_Is.f a0 a2).bind fun t149 => (if (t148 == t149) = true then ((sign_Abs.f a0 t146).bind fun t150 => ((sign_Abs.f a0 a1).bind fun t151 => (if t150 = t151 then ((sign_Is.f a0 t145).bind fun t152 => ((sign_Is.f a0 a1).bind fun t153 => (some (t152 != t153)))) else (some false)))) else (some false)))) else (some false)) = some r := by first | (rw [hji21] at H; exact H) | (simp only [hji21] at H ⊢; exact H)
                (try rw [hji21] at A10)
                (try rw [hji21] at A11)
                (try rw [hji21] at A17)
                have hji21_ : (IntKind.u64.wrap (1 * 2 ^ min (ji19).toNat 64)) = ji21 := hji21
                have hji21z : (ji19) ≤ 64 → (IntKind.u64.wrap (1 * 2 ^ (ji19).toNat)) = ji21 := shl_small hji21
                have hji21u : (IntKind.u64.wrap (2 ^ min (ji19).toNat 64)) = ji21 := by have h_ := hji21_; rw [Int.one_mul] at h_; exact h_
                have hji21v : (ji19) ≤ 64 → (IntKind.u64.wrap (2 ^ (ji19).toNat)) = ji21 := fun hle_ => by have h_ := hji21z hle_; rw [Int.one_mul] at h_; exact h_
                by_cases c22 : (Go.bits .xor .u64 t145 (ji16)) = (ji21)
                · rw [if_pos c22] at H
                  have c22b0 : ((Go.bits .xor .u64 t145 (ji16)) == (ji21)) = true := beq_iff_eq.mpr c22
                  have c22b1 : ((Go.bits .xor .u64 t145 (ji16)) != (ji21)) = false := bne_eq_false_iff_eq.mpr c22
                  clear c22
                  replace H := Option.bind_eq_some_iff.mp H
                  obtain ⟨t148, A230, H⟩ := H
                  replace H : ((sign_Is.f a0 a2).bind fun t149 => (if (t148 == t149) = true then ((sign_Abs.f a0 t146).bind fun t150 => ((sign_Abs.f a0 a1).bind fun t151 => (if t150 = t151 then ((sign_Is.f a0 t145).bind fun t152 => ((sign_Is.f a0 a1).bind fun t153 => (some (t152 != t153)))) else (some false)))) else (some false))) = some r := H
                  have A23 := Aside0.mk A230
                  clear A230
                  replace H := Option.bind_eq_some_iff.mp H
                  obtain ⟨t149, A240, H⟩ := H
                  replace H : (if (t148 == t149) = true then ((sign_Abs.f a0 t146).bind fun t150 => ((sign_Abs.f a0 a1).bind fun t151 => (if t150 = t151 then ((sign_Is.f a0 t145).bind fun t152 => ((sign_Is.f a0 a1).bind fun t153 => (some (t152 != t153)))) else (some false)))) else (some false)) = some r := H
                  have A24 := Aside0.mk A240
                  clear A240
                  by_cases c25 : (t148 == t149) = true
                  · rw [if_pos c25] at H
                    have c25b0 : (t148 == t149) = true := c25
                    (try (have c25b1 : decide (t148 = t149) = true := by simpa using c25))
                    (try (have c25b2 : (t148 == t149) = true := by simpa using c25))
                    clear c25
                    replace H := Option.bind_eq_some_iff.mp H
                    obtain ⟨t150, A260, H⟩ := H
                    replace H : ((sign_Abs.f a0 a1).bind fun t151 => (if t150 = t151 then ((sign_Is.f a0 t145).bind fun t152 => ((sign_Is.f a0 a1).bind fun t153 => (some (t152 != t153)))) else (some false))) = some r := H
                    have A26 := Aside0.mk A260
                    clear A260
                    replace H := Option.bind_eq_some_iff.mp H
                    obtain ⟨t151, A270, H⟩ := H
                    replace H : (if t150 = t151 then ((sign_Is.f a0 t145).bind fun t152 => ((sign_Is.f a0 a1).bind fun t153 => (some (t152 != t153)))) else (some false)) = some r := H
                    have A27 := Aside0.mk A270
                    clear A270
                    by_cases c28 : t150 = t151
                    · rw [if_pos c28] at H
                      have c28b0 : (t150 == t151) = true := beq_iff_eq.mpr c28
                      have c28b1 : (t150 != t151) = false := bne_eq_false_iff_eq.mpr c28
                      clear c28
                      replace H := Option.bind_eq_some_iff.mp H
                      obtain ⟨t152, A290, H⟩ := H
                      replace H : ((sign_Is.f a0 a1).bind fun t153 => (some (t152 != t153))) = some r := H
                      have A29 := Aside0.mk A290
                      clear A290
                      replace H := Option.bind_eq_some_iff.mp H
                      obtain ⟨t153, A300, H⟩ := H
                      replace H : (some (t152 != t153)) = some r := H
                      have A30 := Aside0.mk A300
                      clear A300
                      obtain rfl := Option.some.inj H
                      go_wp2_with (first | ((with_reducible refine gate_callee (f := 28) rfl ?_); refine goesL_ (some 20) rfl rfl Try.func28 (by kernel_rfl) rfl #[.int .i64 a0, .int .u64 a1] rfl (by (try simp only [List.map_toArray, List.map_cons, List.map_nil]); first | done | rfl | (simp only [List.length_drop, List.length_take]; rfl)) ?_; (with_reducible refine (sign_Neg.calls a0 a1 t145 _ A10.out).mono ?_); rintro e w31 ⟨rfl, hb⟩; refine ⟨_, rfl, ?_⟩; have n0_ := Aside0.mk (below_step (by repeat (first | (with_reducible first | exact HB.out | apply below_alloc | apply pw_below_drewN | apply below_drew1) | exact HB.out)) hb); clear HB; have HB := n0_; clear n0_; (try clear hb); (try clear hb2); (try clear hk); (try clear hi)) | ((with_reducible refine gate_callee (f := 26) rfl ?_); refine goesL_ (some 24) rfl rfl Try.func26 (by kernel_rfl) rfl #[.int .i64 a0, .int .u64 a1, .int .u64 a2] rfl (by (try simp only [List.map_toArray, List.map_cons, List.map_nil]); first | done | rfl | (simp only [List.length_drop, List.length_take]; rfl)) ?_; (with_reducible refine (sign_Copysign.calls a0 a1 a2 t146 _ A11.out).mono ?_); rintro e w32 ⟨rfl, hb⟩; refine ⟨_, rfl, ?_⟩; have n0_ := Aside0.mk (below_step (by repeat (first | (with_reducible first | exact HB.out | apply below_alloc | apply pw_below_drewN | apply below_drew1) | exact HB.out)) hb); clear HB; have HB := n0_; clear n0_; (try clear hb); (try clear hb2); (try clear hk); (try clear hi)) | ((with_reducible refine gate_callee (f := 28) rfl ?_); refine goesL_ (some 34) rfl rfl Try.func28 (by kernel_rfl) rfl #[.int .i64 a0, .int .u64 t145] rfl (by (try simp only [List.map_toArray, List.map_cons, List.map_nil]); first | done | rfl | (simp only [List.length_drop, List.length_take]; rfl)) ?_; (with_reducible refine (sign_Neg.calls a0 t145 t147 _ A17.out).mono ?_); rintro e w33 ⟨rfl, hb⟩; refine ⟨_, rfl, ?_⟩; have n0_ := Aside0.mk (below_step (by repeat (first | (with_reducible first | exact HB.out | apply below_alloc | apply pw_below_drewN | apply below_drew1) | exact HB.out)) hb); clear HB; have HB := n0_; clear n0_; (try clear hb); (try clear hb2); (try clear hk); (try clear hi)) | (go_at_call 30; (with_reducible refine (sign_Is.calls a0 t146 t148 _ A23.out).mono ?_); rintro e w34 ⟨rfl, hb⟩; have n0_ := Aside0.mk (below_step (by repeat (first | (with_reducible first | exact HB.out | apply below_alloc | apply pw_below_drewN | apply below_drew1) | exact HB.out)) hb); clear HB; have HB := n0_; clear n0_; (try clear hb); (try clear hb2); (try clear hk); (try clear hi)) | (go_at_call 30; (with_reducible refine (sign_Is.calls a0 a2 t149 _ A24.out).mono ?_); rintro e w35 ⟨rfl, hb⟩; have n0_ := Aside0.mk (below_step (by repeat (first | (with_reducible first | exact HB.out | apply below_alloc | apply pw_below_drewN | apply below_drew1) | exact HB.out)) hb); clear HB; have HB := n0_; clear n0_; (try clear hb); (try clear hb2); (try clear hk); (try clear hi)) | (go_at_call 27; (with_reducible refine (sign_Abs.calls a0 t146 t150 _ A26.out).mono ?_); rintro e w36 ⟨rfl, hb⟩; have n0_ := Aside0.mk (below_step (by repeat (first | (with_reducible first | exact HB.out | apply below_alloc | apply pw_below_drewN | apply below_drew1) | exact HB.out)) hb); clear HB; have HB := n0_; clear n0_; (try clear hb); (try clear hb2); (try clear hk); (try clear hi)) | (go_at_call 27; (with_reducible refine (sign_Abs.calls a0 a1 t151 _ A27.out).mono ?_); rintro e w37 ⟨rfl, hb⟩; have n0_ := Aside0.mk (below_step (by repeat (first | (with_reducible first | exact HB.out | apply below_alloc | apply pw_below_drewN | apply below_drew1) | exact HB.out)) hb); clear HB; have HB := n0_; clear n0_; (try clear hb); (try clear hb2); (try clear hk); (try clear hi)) | (go_at_call 30; (with_reducible refine (sign_Is.calls a0 t145 t152 _ A29.out).mono ?_); rintro e w38 ⟨rfl, hb⟩; have n0_ := Aside0.mk (below_step (by repeat (first | (with_reducible first | exact HB.out | apply below_alloc | apply pw_below_drewN | apply below_drew1) | exact HB.out)) hb); clear HB; have HB := n0_; clear n0_; (try clear hb); (try clear hb2); (try clear hk); (try clear hi)) | (go_at_call 30; (with_reducible refine (sign_Is.calls a0 a1 t153 _ A30.out).mono ?_); rintro e w39 ⟨rfl, hb⟩; have n0_ := Aside0.mk (below_step (by repeat (first | (with_reducible first | exact HB.out | apply below_alloc | apply pw_below_drewN | apply below_drew1) | exact HB.out)) hb); clear HB; have HB := n0_; clear n0_; (try clear hb); (try clear hb2); (try clear hk); (try clear hi)))
                      go_ret
                      exact ⟨by first | rfl | (simp [errW_none, errW_some] <;> rfl) | (simp only [← hji12, ← hji14, ← hji16, ← hji19, ← hji21]; first | rfl | (simp [errW_none, errW_some] <;> rfl)) | (simp [*, errW_none, errW_some] <;> rfl), by repeat (first | (with_reducible first | exact HB.out | apply below_alloc | apply pw_below_drewN | apply below_drew1) | exact HB.out)⟩
                    · rw [if_neg c28] at H
                      have c28b0 : (t150 == t151) = false := beq_eq_false_iff_ne.mpr c28
                      have c28b1 : (t150 != t151) = true := bne_iff_ne.mpr c28
                      obtain rfl := Option.some.inj H
                      go_wp2_with (first | ((with_reducible refine gate_callee (f := 28) rfl ?_); refine goesL_ (some 20) rfl rfl Try.func28 (by kernel_rfl) rfl #[.int .i64 a0, .int .u64 a1] rfl (by (try simp only [List.map_toArray, List.map_cons, List.map_nil]); first | done | rfl | (simp only [List.length_drop, List.length_take]; rfl)) ?_; (with_reducible refine (sign_Neg.calls a0 a1 t145 _ A10.out).mono ?_); rintro e w40 ⟨rfl, hb⟩; refine ⟨_, rfl, ?_⟩; have n0_ := Aside0.mk (below_step (by repeat (first | (with_reducible first | exact HB.out | apply below_alloc | apply pw_below_drewN | apply below_drew1) | exact HB.out)) hb); clear HB; have HB := n0_; clear n0_; (try clear hb); (try clear hb2); (try clear hk); (try clear hi)) | ((with_reducible refine gate_callee (f := 26) rfl ?_); refine goesL_ (some 24) rfl rfl Try.func26 (by kernel_rfl) rfl #[.int .i64 a0, .int .u64 a1, .int .u64 a2] rfl (by (try simp only [List.map_toArray, List.map_cons, List.map_nil]); first | done | rfl | (simp only [List.length_drop, List.length_take]; rfl)) ?_; (with_reducible refine (sign_Copysign.calls a0 a1 a2 t146 _ A11.out).mono ?_); rintro e w41 ⟨rfl, hb⟩; refine ⟨_, rfl, ?_⟩; have n0_ := Aside0.mk (below_step (by repeat (first | (with_reducible first | exact HB.out | apply below_alloc | apply pw_below_drewN | apply below_drew1) | exact HB.out)) hb); clear HB; have HB := n0_; clear n0_; (try clear hb); (try clear hb2); (try clear hk); (try clear hi)) | ((with_reducible refine gate_callee (f := 28) rfl ?_); refine goesL_ (some 34) rfl rfl Try.func28 (by kernel_rfl) rfl #[.int .i64 a0, .int .u64 t145] rfl (by (try simp only [List.map_toArray, List.map_cons, List.map_nil]); first | done | rfl | (simp only [List.length_drop, List.length_take]; rfl)) ?_; (with_reducible refine (sign_Neg.calls a0 t145 t147 _ A17.out).mono ?_); rintro e w42 ⟨rfl, hb⟩; refine ⟨_, rfl, ?_⟩; have n0_ := Aside0.mk (below_step (by repeat (first | (with_reducible first | exact HB.out | apply below_alloc | apply pw_below_drewN | apply below_drew1) | exact HB.out)) hb); clear HB; have HB := n0_; clear n0_; (try clear hb); (try clear hb2); (try clear hk); (try clear hi)) | (go_at_call 30; (with_reducible refine (sign_Is.calls a0 t146 t148 _ A23.out).mono ?_); rintro e w43 ⟨rfl, hb⟩; have n0_ := Aside0.mk (below_step (by repeat (first | (with_reducible first | exact HB.out | apply below_alloc | apply pw_below_drewN | apply below_drew1) | exact HB.out)) hb); clear HB; have HB := n0_; clear n0_; (try clear hb); (try clear hb2); (try clear hk); (try clear hi)) | (go_at_call 30; (with_reducible refine (sign_Is.calls a0 a2 t149 _ A24.out).mono ?_); rintro e w44 ⟨rfl, hb⟩; have n0_ := Aside0.mk (below_step (by repeat (first | (with_reducible first | exact HB.out | apply below_alloc | apply pw_below_drewN | apply below_drew1) | exact HB.out)) hb); clear HB; have HB := n0_; clear n0_; (try clear hb); (try clear hb2); (try clear hk); (try clear hi)) | (go_at_call 27; (with_reducible refine (sign_Abs.calls a0 t146 t150 _ A26.out).mono ?_); rintro e w45 ⟨rfl, hb⟩; have n0_ := Aside0.mk (below_step (by repeat (first | (with_reducible first | exact HB.out | apply below_alloc | apply pw_below_drewN | apply below_drew1) | exact HB.out)) hb); clear HB; have HB := n0_; clear n0_; (try clear hb); (try clear hb2); (try clear hk); (try clear hi)) | (go_at_call 27; (with_reducible refine (sign_Abs.calls a0 a1 t151 _ A27.out).mono ?_); rintro e w46 ⟨rfl, hb⟩; have n0_ := Aside0.mk (below_step (by repeat (first | (with_reducible first | exact HB.out | apply below_alloc | apply pw_below_drewN | apply below_drew1) | exact HB.out)) hb); clear HB; have HB := n0_; clear n0_; (try clear hb); (try clear hb2); (try clear hk); (try clear hi)))
                      go_ret
                      exact ⟨by first | rfl | (simp [errW_none, errW_some] <;> rfl) | (simp only [← hji12, ← hji14, ← hji16, ← hji19, ← hji21]; first | rfl | (simp [errW_none, errW_some] <;> rfl)) | (simp [*, errW_none, errW_some] <;> rfl), by repeat (first | (with_reducible first | exact HB.out | apply below_alloc | apply pw_below_drewN | apply below_drew1) | exact HB.out)⟩
                  · rw [if_neg c25] at H
                    have c25b0 : (t148 == t149) = false := by simpa using c25
                    (try (have c25b1 : decide (t148 = t149) = false := by simpa using c25))
                    (try (have c25b2 : (t148 == t149) = false := by simpa using c25))
                    (try (have c25b3 : ¬ (t148 = t149) := by simpa using c25))
                    clear c25
                    obtain rfl := Option.some.inj H
                    go_wp2_with (first | ((with_reducible refine gate_callee (f := 28) rfl ?_); refine goesL_ (some 20) rfl rfl Try.func28 (by kernel_rfl) rfl #[.int .i64 a0, .int .u64 a1] rfl (by (try simp only [List.map_toArray, List.map_cons, List.map_nil]); first | done | rfl | (simp only [List.length_drop, List.length_take]; rfl)) ?_; (with_reducible refine (sign_Neg.calls a0 a1 t145 _ A10.out).mono ?_); rintro e w47 ⟨rfl, hb⟩; refine ⟨_, rfl, ?_⟩; have n0_ := Aside0.mk (below_step (by repeat (first | (with_reducible first | exact HB.out | apply below_alloc | apply pw_below_drewN | apply below_drew1) | exact HB.out)) hb); clear HB; have HB := n0_; clear n0_; (try clear hb); (try clear hb2); (try clear hk); (try clear hi)) | ((with_reducible refine gate_callee (f := 26) rfl ?_); refine goesL_ (some 24) rfl rfl Try.func26 (by kernel_rfl) rfl #[.int .i64 a0, .int .u64 a1, .int .u64 a2] rfl (by (try simp only [List.map_toArray, List.map_cons, List.map_nil]); first | done | rfl | (simp only [List.length_drop, List.length_take]; rfl)) ?_; (with_reducible refine (sign_Copysign.calls a0 a1 a2 t146 _ A11.out).mono ?_); rintro e w48 ⟨rfl, hb⟩; refine ⟨_, rfl, ?_⟩; have n0_ := Aside0.mk (below_step (by repeat (first | (with_reducible first | exact HB.out | apply below_alloc | apply pw_below_drewN | apply below_drew1) | exact HB.out)) hb); clear HB; have HB := n0_; clear n0_; (try clear hb); (try clear hb2); (try clear hk); (try clear hi)) | ((with_reducible refine gate_callee (f := 28) rfl ?_); refine goesL_ (some 34) rfl rfl Try.func28 (by kernel_rfl) rfl #[.int .i64 a0, .int .u64 t145] rfl (by (try simp only [List.map_toArray, List.map_cons, List.map_nil]); first | done | rfl | (simp only [List.length_drop, List.length_take]; rfl)) ?_; (with_reducible refine (sign_Neg.calls a0 t145 t147 _ A17.out).mono ?_); rintro e w49 ⟨rfl, hb⟩; refine ⟨_, rfl, ?_⟩; have n0_ := Aside0.mk (below_step (by repeat (first | (with_reducible first | exact HB.out | apply below_alloc | apply pw_below_drewN | apply below_drew1) | exact HB.out)) hb); clear HB; have HB := n0_; clear n0_; (try clear hb); (try clear hb2); (try clear hk); (try clear hi)) | (go_at_call 30; (with_reducible refine (sign_Is.calls a0 t146 t148 _ A23.out).mono ?_); rintro e w50 ⟨rfl, hb⟩; have n0_ := Aside0.mk (below_step (by repeat (first | (with_reducible first | exact HB.out | apply below_alloc | apply pw_below_drewN | apply below_drew1) | exact HB.out)) hb); clear HB; have HB := n0_; clear n0_; (try clear hb); (try clear hb2); (try clear hk); (try clear hi)) | (go_at_call 30; (with_reducible refine (sign_Is.calls a0 a2 t149 _ A24.out).mono ?_); rintro e w51 ⟨rfl, hb⟩; have n0_ := Aside0.mk (below_step (by repeat (first | (with_reducible first | exact HB.out | apply below_alloc | apply pw_below_drewN | apply below_drew1) | exact HB.out)) hb); clear HB; have HB := n0_; clear n0_; (try clear hb); (try clear hb2); (try clear hk); (try clear hi)))
                    go_ret
                    exact ⟨by first | rfl | (simp [errW_none, errW_some] <;> rfl) | (simp only [← hji12, ← hji14, ← hji16, ← hji19, ← hji21]; first | rfl | (simp [errW_none, errW_some] <;> rfl)) | (simp [*, errW_none, errW_some] <;> rfl), by repeat (first | (with_reducible first | exact HB.out | apply below_alloc | apply pw_below_drewN | apply below_drew1) | exact HB.out)⟩
                · rw [if_neg c22] at H
                  have c22b0 : ((Go.bits .xor .u64 t145 (ji16)) == (ji21)) = false := beq_eq_false_iff_ne.mpr c22
                  have c22b1 : ((Go.bits .xor .u64 t145 (ji16)) != (ji21)) = true := bne_iff_ne.mpr c22
                  obtain rfl := Option.some.inj H
                  go_wp2_with (first | ((with_reducible refine gate_callee (f := 28) rfl ?_); refine goesL_ (some 20) rfl rfl Try.func28 (by kernel_rfl) rfl #[.int .i64 a0, .int .u64 a1] rfl (by (try simp only [List.map_toArray, List.map_cons, List.map_nil]); first | done | rfl | (simp only [List.length_drop, List.length_take]; rfl)) ?_; (with_reducible refine (sign_Neg.calls a0 a1 t145 _ A10.out).mono ?_); rintro e w52 ⟨rfl, hb⟩; refine ⟨_, rfl, ?_⟩; have n0_ := Aside0.mk (below_step (by repeat (first | (with_reducible first | exact HB.out | apply below_alloc | apply pw_below_drewN | apply below_drew1) | exact HB.out)) hb); clear HB; have HB := n0_; clear n0_; (try clear hb); (try clear hb2); (try clear hk); (try clear hi)) | ((with_reducible refine gate_callee (f := 26) rfl ?_); refine goesL_ (some 24) rfl rfl Try.func26 (by kernel_rfl) rfl #[.int .i64 a0, .int .u64 a1, .int .u64 a2] rfl (by (try simp only [List.map_toArray, List.map_cons, List.map_nil]); first | done | rfl | (simp only [List.length_drop, List.length_take]; rfl)) ?_; (with_reducible refine (sign_Copysign.calls a0 a1 a2 t146 _ A11.out).mono ?_); rintro e w53 ⟨rfl, hb⟩; refine ⟨_, rfl, ?_⟩; have n0_ := Aside0.mk (below_step (by repeat (first | (with_reducible first | exact HB.out | apply below_alloc | apply pw_below_drewN | apply below_drew1) | exact HB.out)) hb); clear HB; have HB := n0_; clear n0_; (try clear hb); (try clear hb2); (try clear hk); (try clear hi)) | ((with_reducible refine gate_callee (f := 28) rfl ?_); refine goesL_ (some 34) rfl rfl Try.func28 (by kernel_rfl) rfl #[.int .i64 a0, .int .u64 t145] rfl (by (try simp only [List.map_toArray, List.map_cons, List.map_nil]); first | done | rfl | (simp only [List.length_drop, List.length_take]; rfl)) ?_; (with_reducible refine (sign_Neg.calls a0 t145 t147 _ A17.out).mono ?_); rintro e w54 ⟨rfl, hb⟩; refine ⟨_, rfl, ?_⟩; have n0_ := Aside0.mk (below_step (by repeat (first | (with_reducible first | exact HB.out | apply below_alloc | apply pw_below_drewN | apply below_drew1) | exact HB.out)) hb); clear HB; have HB := n0_; clear n0_; (try clear hb); (try clear hb2); (try clear hk); (try clear hi)))
                  go_ret
                  exact ⟨by first | rfl | (simp [errW_none, errW_some] <;> rfl) | (simp only [← hji12, ← hji14, ← hji16, ← hji19, ← hji21]; first | rfl | (simp [errW_none, errW_some] <;> rfl)) | (simp [*, errW_none, errW_some] <;> rfl), by repeat (first | (with_reducible first | exact HB.out | apply below_alloc | apply pw_below_drewN | apply below_drew1) | exact HB.out)⟩
              · rw [if_neg c20] at H
                exact absurd H (by simp)
            · rw [if_neg c18] at H
              have c18b0 : (t147 == (ji16)) = false := beq_eq_false_iff_ne.mpr c18
              have c18b1 : (t147 != (ji16)) = true := bne_iff_ne.mpr c18
              obtain rfl := Option.some.inj H
              go_wp2_with (first | ((with_reducible refine gate_callee (f := 28) rfl ?_); refine goesL_ (some 20) rfl rfl Try.func28 (by kernel_rfl) rfl #[.int .i64 a0, .int .u64 a1] rfl (by (try simp only [List.map_toArray, List.map_cons, List.map_nil]); first | done | rfl | (simp only [List.length_drop, List.length_take]; rfl)) ?_; (with_reducible refine (sign_Neg.calls a0 a1 t145 _ A10.out).mono ?_); rintro e w55 ⟨rfl, hb⟩; refine ⟨_, rfl, ?_⟩; have n0_ := Aside0.mk (below_step (by repeat (first | (with_reducible first | exact HB.out | apply below_alloc | apply pw_below_drewN | apply below_drew1) | exact HB.out)) hb); clear HB; have HB := n0_; clear n0_; (try clear hb); (try clear hb2); (try clear hk); (try clear hi)) | ((with_reducible refine gate_callee (f := 26) rfl ?_); refine goesL_ (some 24) rfl rfl Try.func26 (by kernel_rfl) rfl #[.int .i64 a0, .int .u64 a1, .int .u64 a2] rfl (by (try simp only [List.map_toArray, List.map_cons, List.map_nil]); first | done | rfl | (simp only [List.length_drop, List.length_take]; rfl)) ?_; (with_reducible refine (sign_Copysign.calls a0 a1 a2 t146 _ A11.out).mono ?_); rintro e w56 ⟨rfl, hb⟩; refine ⟨_, rfl, ?_⟩; have n0_ := Aside0.mk (below_step (by repeat (first | (with_reducible first | exact HB.out | apply below_alloc | apply pw_below_drewN | apply below_drew1) | exact HB.out)) hb); clear HB; have HB := n0_; clear n0_; (try clear hb); (try clear hb2); (try clear hk); (try clear hi)) | ((with_reducible refine gate_callee (f := 28) rfl ?_); refine goesL_ (some 34) rfl rfl Try.func28 (by kernel_rfl) rfl #[.int .i64 a0, .int .u64 t145] rfl (by (try simp only [List.map_toArray, List.map_cons, List.map_nil]); first | done | rfl | (simp only [List.length_drop, List.length_take]; rfl)) ?_; (with_reducible refine (sign_Neg.calls a0 t145 t147 _ A17.out).mono ?_); rintro e w57 ⟨rfl, hb⟩; refine ⟨_, rfl, ?_⟩; have n0_ := Aside0.mk (below_step (by repeat (first | (with_reducible first | exact HB.out | apply below_alloc | apply pw_below_drewN | apply below_drew1) | exact HB.out)) hb); clear HB; have HB := n0_; clear n0_; (try clear hb); (try clear hb2); (try clear hk); (try clear hi)))
              go_ret
              exact ⟨by first | rfl | (simp [errW_none, errW_some] <;> rfl) | (simp only [← hji12, ← hji14, ← hji16]; first | rfl | (simp [errW_none, errW_some] <;> rfl)) | (simp [*, errW_none, errW_some] <;> rfl), by repeat (first | (with_reducible first | exact HB.out | apply below_alloc | apply pw_below_drewN | apply below_drew1) | exact HB.out)⟩
          · rw [if_neg c13] at H
            exact absurd H (by simp)
  · replace c5 := Bool.eq_false_iff.mpr c5
    subst c5
    have H1 : (some false) = some r := by rw [if_neg (show ¬ (false = true) by decide)] at H; exact H
    clear H
    have H := H1
    clear H1
    obtain rfl := Option.some.inj H
    go_enter Try.func5, Try.ntmps5
    go_wp2_with (first | ((with_reducible refine gate_callee (f := 25) rfl ?_); refine goesL_ (some 10) rfl rfl Try.func25 (by kernel_rfl) rfl #[] rfl (by (try simp only [List.map_toArray, List.map_cons, List.map_nil]); first | done | rfl | (simp only [List.length_drop, List.length_take]; rfl)) ?_; (with_reducible refine (trunnionlaw10_awake.calls  false _ A4.out).mono ?_); rintro e w58 ⟨rfl, hb⟩; refine ⟨_, rfl, ?_⟩; have n0_ := Aside0.mk (below_step (by repeat (first | (with_reducible first | exact HB.out | apply below_alloc | apply pw_below_drewN | apply below_drew1) | exact HB.out)) hb); clear HB; have HB := n0_; clear n0_; (try clear hb); (try clear hb2); (try clear hk); (try clear hi)))
    go_ret
    exact ⟨by first | rfl | (simp [errW_none, errW_some] <;> rfl) | (simp [*, errW_none, errW_some] <;> rfl), by repeat (first | (with_reducible first | exact HB.out | apply below_alloc | apply pw_below_drewN | apply below_drew1) | exact HB.out)⟩

/-- THE ONE PURE STATEMENT of trunnionlaw10_SignBack: yours. -/
def trunnionlaw10_SignBack.Pure : Prop := ∀ (a0 : Int) (a1 : Int) (a2 : Int), (Lit.int .i64 a0).wf = true → (Lit.int .u64 a1).wf = true → (Lit.int .u64 a2).wf = true → ∃ k, trunnionlaw10_SignBack.f k a0 a1 a2 = some true
theorem trunnionlaw10_SignBack.walk (P : trunnionlaw10_SignBack.Pure) (a0 : Int) (a1 : Int) (a2 : Int) (w : World) (w0 : (Lit.int .i64 a0).wf = true) (w1 : (Lit.int .u64 a1).wf = true) (w2 : (Lit.int .u64 a2).wf = true) :
    Calls Try.prog 5 #[.int .i64 a0, .int .u64 a1, .int .u64 a2] w fun e w' => e = .returned (.bool true) ∧ Below w.heap.size w w' := by
  obtain ⟨k, h⟩ := P a0 a1 a2 w0 w1 w2
  refine (trunnionlaw10_SignBack.calls k a0 a1 a2 true w h).mono ?_
  rintro e w' ⟨rfl, hd⟩
  exact ⟨rfl, hd⟩

end Go.Proofs.Ytmjfenbbgfohlaa.PA
