/- What the Go functions that the statement NumericKinds reaches compute, and the mathematics on it, in the order in which one leans on the other; for every input. -/
import Derived.Test.YtnmlmgmljoncoaaGreatDoorVNumericKinds0
import Derived.Test.YtnmlmgmljoncoaaGreatDoorMNumericKinds0
import Derived.Test.YtnmlmgmljoncoaaGreatDoorMNumericKinds1
import Derived.Test.YtnmlmgmljoncoaaGreatDoorMNumericKinds9
import Derived.Test.YtnmlmgmljoncoaaGreatDoorMNumericKinds11
import Derived.Test.YtnmlmgmljoncoaaGreatDoorRows
import Derived.ProofKit
import Derived.JoinedOf
import Derived.KernelRfl
namespace Go.Proofs.YtnmlmgmljoncoaaGreatDoor.PA
open Go.RowKit Go.Proofs.YtnmlmgmljoncoaaGreatDoorW.PrintWords Go.Proofs.YtnmlmgmljoncoaaGreatDoorW.PrintLast Go.Proofs.YtnmlmgmljoncoaaGreatDoorW.PrintMore
attribute [local go_sem] max2_int min2_int max_two min_two max_three min_three max_four min_four   -- for this text's walks alone
set_option linter.unusedVariables false
set_option linter.unusedSimpArgs false
set_option maxHeartbeats 8000000
set_option maxRecDepth 100000
def L14_NumericKinds.f (k : Nat) (a0 : Int) : Option (Bool) := (L14_awake.f k).bind fun t667 => (if t667 = true then ((numeric_Kind.f k a0).bind fun bt668 => ((trunnionref14_Kind.f k a0).bind fun bt672 => (if bt668.1 = bt672.1 then (if bt668.2.1 = bt672.2.1 then (if bt668.2.2.1 = bt672.2.2 then (if (bt668.2.2.2 == (decide (bt672.2.1 > 0))) = true then ((numeric_Sat.f k a0).bind fun t675 => (if a0 ≥ 64512 then (some (t675 == (decide (a0 ≤ 64519)))) else (some (t675 == false)))) else (some false)) else (some false)) else (some false)) else (some false)))) else (some false))
theorem L14_NumericKinds.mono : ∀ a0 k, LeO (L14_NumericKinds.f k a0) (L14_NumericKinds.f (k + 1) a0) := by
 intro a0 k
 unfold L14_NumericKinds.f
 repeat' first
   | (with_reducible exact numeric_Kind.mono _ _)
   | (with_reducible exact numeric_Sat.mono _ _)
   | (with_reducible exact L14_awake.mono _)
   | (with_reducible exact trunnionref14_Kind.mono _ _)
   | (with_reducible exact LeO.refl _)
   | (with_reducible exact LeO.none _)
   | (with_reducible refine LeO.ite ?_ ?_)
   | (with_reducible refine LeO.bind ?_ (fun _ => ?_))
   | exact numeric_Kind.mono _ _
   | exact numeric_Sat.mono _ _
   | exact L14_awake.mono _
   | exact trunnionref14_Kind.mono _ _
   | exact LeO.none _
   | refine LeO.ite ?_ ?_
   | refine LeO.bind ?_ (fun _ => ?_)
theorem L14_NumericKinds.calls (k : Nat) (a0 : Int) (r : Bool) (w : World) (h : L14_NumericKinds.f k a0 = some r) (hr_ : Aside0 (r = true)) :
  Calls Tryz.prog 8 #[.int .i64 a0] w fun e w' => e = .returned (.bool r) ∧ Below w.heap.size w w' := by
 have HB := A_ (Below.refl w.heap.size w)
 have H : ((L14_awake.f k).bind fun t667 => (if t667 = true then ((numeric_Kind.f k a0).bind fun bt668 => ((trunnionref14_Kind.f k a0).bind fun bt672 => (if bt668.1 = bt672.1 then (if bt668.2.1 = bt672.2.1 then (if bt668.2.2.1 = bt672.2.2 then (if (bt668.2.2.2 == (decide (bt672.2.1 > 0))) = true then ((numeric_Sat.f k a0).bind fun t675 => (if a0 ≥ 64512 then (some (t675 == (decide (a0 ≤ 64519)))) else (some (t675 == false)))) else (some false)) else (some false)) else (some false)) else (some false)))) else (some false))) = some r := h
 clear h
 replace H := ob_ H
 obtain ⟨t667, A20, H⟩ := H
 replace H : (if t667 = true then ((numeric_Kind.f k a0).bind fun bt668 => ((trunnionref14_Kind.f k a0).bind fun bt672 => (if bt668.1 = bt672.1 then (if bt668.2.1 = bt672.2.1 then (if bt668.2.2.1 = bt672.2.2 then (if (bt668.2.2.2 == (decide (bt672.2.1 > 0))) = true then ((numeric_Sat.f k a0).bind fun t675 => (if a0 ≥ 64512 then (some (t675 == (decide (a0 ≤ 64519)))) else (some (t675 == false)))) else (some false)) else (some false)) else (some false)) else (some false)))) else (some false)) = some r := H
 have A2 := A_ A20;clear A20
 by_cases c3 : t667 = true
 ·subst c3
  have H1 : ((numeric_Kind.f k a0).bind fun bt668 => ((trunnionref14_Kind.f k a0).bind fun bt672 => (if bt668.1 = bt672.1 then (if bt668.2.1 = bt672.2.1 then (if bt668.2.2.1 = bt672.2.2 then (if (bt668.2.2.2 == (decide (bt672.2.1 > 0))) = true then ((numeric_Sat.f k a0).bind fun t675 => (if a0 ≥ 64512 then (some (t675 == (decide (a0 ≤ 64519)))) else (some (t675 == false)))) else (some false)) else (some false)) else (some false)) else (some false)))) = some r := by rw [if_pos rfl] at H; exact H
  clear H;have H := H1;clear H1
  replace H := ob_ H
  obtain ⟨⟨t668, t669, t670, t671⟩, A40, H⟩ := H
  replace H : ((trunnionref14_Kind.f k a0).bind fun bt672 => (if t668 = bt672.1 then (if t669 = bt672.2.1 then (if t670 = bt672.2.2 then (if (t671 == (decide (bt672.2.1 > 0))) = true then ((numeric_Sat.f k a0).bind fun t675 => (if a0 ≥ 64512 then (some (t675 == (decide (a0 ≤ 64519)))) else (some (t675 == false)))) else (some false)) else (some false)) else (some false)) else (some false))) = some r := H
  have A4 := A_ A40;clear A40
  replace H := ob_ H
  obtain ⟨⟨t672, t673, t674⟩, A50, H⟩ := H
  replace H : (if t668 = t672 then (if t669 = t673 then (if t670 = t674 then (if (t671 == (decide (t673 > 0))) = true then ((numeric_Sat.f k a0).bind fun t675 => (if a0 ≥ 64512 then (some (t675 == (decide (a0 ≤ 64519)))) else (some (t675 == false)))) else (some false)) else (some false)) else (some false)) else (some false)) = some r := H
  have A5 := A_ A50;clear A50
  by_cases c6 : t668 = t672
  ·rw [if_pos c6] at H
   have c6b0 : (t668 == t672) = true := beq_iff_eq.mpr c6
   have c6b1 : (t668 != t672) = false := bne_eq_false_iff_eq.mpr c6
   clear c6
   by_cases c7 : t669 = t673
   ·rw [if_pos c7] at H
    have c7b0 : (t669 == t673) = true := beq_iff_eq.mpr c7
    have c7b1 : (t669 != t673) = false := bne_eq_false_iff_eq.mpr c7
    clear c7
    by_cases c8 : t670 = t674
    ·rw [if_pos c8] at H
     have c8b0 : (t670 == t674) = true := beq_iff_eq.mpr c8
     have c8b1 : (t670 != t674) = false := bne_eq_false_iff_eq.mpr c8
     clear c8
     by_cases c9 : (t671 == (decide (t673 > 0))) = true
     ·rw [if_pos c9] at H
      have c9b0 : (t671 == (decide (t673 > 0))) = true := c9
      (try (have c9b1 : decide (t671 = (decide (t673 > 0))) = true := by simpa using c9))
      (try (have c9b2 : (t671 == (decide (t673 > 0))) = true := by simpa using c9))
      clear c9
      replace H := ob_ H
      obtain ⟨t675, A100, H⟩ := H
      replace H : (if a0 ≥ 64512 then (some (t675 == (decide (a0 ≤ 64519)))) else (some (t675 == false))) = some r := H
      have A10 := A_ A100;clear A100
      by_cases c11 : a0 ≥ 64512
      ·rw [if_pos c11] at H
       have c11b0 : decide (64512 ≤ a0) = true := decide_eq_true c11
       clear c11
       obtain rfl := Option.some.inj H
       go_enter Tryz.func8, Tryz.ntmps8
       go_wp2_with (first | ((with_reducible refine gate_callee (f := 19) rfl ?_); refine goesL_ (some 10) rfl rfl Tryz.func19 (by kernel_rfl) rfl #[] rfl mp_ ?_; (with_reducible refine (L14_awake.calls k  true _ A2.out).mono ?_); rintro e w12 ⟨rfl, hb⟩; refine ⟨_, rfl, ?_⟩; replace HB := A_ (below_step (hb_ HB.out) hb); (try clear hb); (try clear hb2); (try clear hk); (try clear hi)) | ((with_reducible refine gate_callee (f := 21) rfl ?_); refine goesL_ (some 14) rfl rfl Tryz.func21 (by kernel_rfl) rfl #[.int .i64 a0] rfl mp_ ?_; (with_reducible refine (numeric_Kind.calls k a0 t668 t669 t670 t671 _ A4.out).mono ?_); rintro e w13 ⟨rfl, hb⟩; refine ⟨_, rfl, ?_⟩; replace HB := A_ (below_step (hb_ HB.out) hb); (try clear hb); (try clear hb2); (try clear hk); (try clear hi)) | ((with_reducible refine gate_callee (f := 22) rfl ?_); refine goesL_ (some 21) rfl rfl Tryz.func22 (by kernel_rfl) rfl #[.int .i64 a0] rfl mp_ ?_; (with_reducible refine (trunnionref14_Kind.calls k a0 t672 t673 t674 _ A5.out).mono ?_); rintro e w14 ⟨rfl, hb⟩; refine ⟨_, rfl, ?_⟩; replace HB := A_ (below_step (hb_ HB.out) hb); (try clear hb); (try clear hb2); (try clear hk); (try clear hi)) | (go_at_call 23; (with_reducible refine (numeric_Sat.calls k a0 t675 _ A10.out).mono ?_); rintro e w15 ⟨rfl, hb⟩; replace HB := A_ (below_step (hb_ HB.out) hb); (try clear hb); (try clear hb2); (try clear hk); (try clear hi)))
       go_ret
       exact ⟨er_, hb_ HB.out⟩
      ·rw [if_neg c11] at H
       have c11b0 : decide (64512 ≤ a0) = false := decide_eq_false c11
       clear c11
       obtain rfl := Option.some.inj H
       go_enter Tryz.func8, Tryz.ntmps8
       go_wp2_with (first | ((with_reducible refine gate_callee (f := 19) rfl ?_); refine goesL_ (some 10) rfl rfl Tryz.func19 (by kernel_rfl) rfl #[] rfl mp_ ?_; (with_reducible refine (L14_awake.calls k  true _ A2.out).mono ?_); rintro e w16 ⟨rfl, hb⟩; refine ⟨_, rfl, ?_⟩; replace HB := A_ (below_step (hb_ HB.out) hb); (try clear hb); (try clear hb2); (try clear hk); (try clear hi)) | ((with_reducible refine gate_callee (f := 21) rfl ?_); refine goesL_ (some 14) rfl rfl Tryz.func21 (by kernel_rfl) rfl #[.int .i64 a0] rfl mp_ ?_; (with_reducible refine (numeric_Kind.calls k a0 t668 t669 t670 t671 _ A4.out).mono ?_); rintro e w17 ⟨rfl, hb⟩; refine ⟨_, rfl, ?_⟩; replace HB := A_ (below_step (hb_ HB.out) hb); (try clear hb); (try clear hb2); (try clear hk); (try clear hi)) | ((with_reducible refine gate_callee (f := 22) rfl ?_); refine goesL_ (some 21) rfl rfl Tryz.func22 (by kernel_rfl) rfl #[.int .i64 a0] rfl mp_ ?_; (with_reducible refine (trunnionref14_Kind.calls k a0 t672 t673 t674 _ A5.out).mono ?_); rintro e w18 ⟨rfl, hb⟩; refine ⟨_, rfl, ?_⟩; replace HB := A_ (below_step (hb_ HB.out) hb); (try clear hb); (try clear hb2); (try clear hk); (try clear hi)) | (go_at_call 23; (with_reducible refine (numeric_Sat.calls k a0 t675 _ A10.out).mono ?_); rintro e w19 ⟨rfl, hb⟩; replace HB := A_ (below_step (hb_ HB.out) hb); (try clear hb); (try clear hb2); (try clear hk); (try clear hi)))
       go_ret
       exact ⟨er_, hb_ HB.out⟩
     ·rw [if_neg c9] at H
      have c9b0 : (t671 == (decide (t673 > 0))) = false := by simpa using c9
      (try (have c9b1 : decide (t671 = (decide (t673 > 0))) = false := by simpa using c9))
      (try (have c9b2 : (t671 == (decide (t673 > 0))) = false := by simpa using c9))
      (try (have c9b3 : ¬ (t671 = (decide (t673 > 0))) := by simpa using c9))
      clear c9
      exact absurd ((Option.some.inj H).trans hr_.out) (by decide)
    ·rw [if_neg c8] at H
     have c8b0 : (t670 == t674) = false := beq_eq_false_iff_ne.mpr c8
     have c8b1 : (t670 != t674) = true := bne_iff_ne.mpr c8
     exact absurd ((Option.some.inj H).trans hr_.out) (by decide)
   ·rw [if_neg c7] at H
    have c7b0 : (t669 == t673) = false := beq_eq_false_iff_ne.mpr c7
    have c7b1 : (t669 != t673) = true := bne_iff_ne.mpr c7
    exact absurd ((Option.some.inj H).trans hr_.out) (by decide)
  ·rw [if_neg c6] at H
   have c6b0 : (t668 == t672) = false := beq_eq_false_iff_ne.mpr c6
   have c6b1 : (t668 != t672) = true := bne_iff_ne.mpr c6
   exact absurd ((Option.some.inj H).trans hr_.out) (by decide)
 ·replace c3 := Bool.eq_false_iff.mpr c3
  subst c3
  have H1 : (some false) = some r := by rw [if_neg (show ¬ (false = true) by decide)] at H; exact H
  clear H;have H := H1;clear H1
  exact absurd ((Option.some.inj H).trans hr_.out) (by decide)
def L14_NumericKinds.Pure : Prop := ∀ (a0 : Int), (Lit.int .i64 a0).wf = true → ∃ k, L14_NumericKinds.f k a0 = some true
theorem L14_NumericKinds.walk (P : L14_NumericKinds.Pure) (a0 : Int) (w : World) (w0 : (Lit.int .i64 a0).wf = true) :
  Calls Tryz.prog 8 #[.int .i64 a0] w fun e w' => e = .returned (.bool true) ∧ Below w.heap.size w w' := by
 obtain ⟨k, h⟩ := P a0 w0
 refine (L14_NumericKinds.calls k a0 true w h ⟨rfl⟩).mono ?_
 rintro e w' ⟨rfl, hd⟩
 exact ⟨rfl, hd⟩
end Go.Proofs.YtnmlmgmljoncoaaGreatDoor.PA
section
set_option linter.unusedVariables false
set_option linter.unusedSimpArgs false
namespace Go.Proofs.YtnmlmgmljoncoaaGreatDoor.Th
open Go.RowKit Go.Proofs.YtnmlmgmljoncoaaGreatDoorW.PrintWords Go.Proofs.YtnmlmgmljoncoaaGreatDoorW.PrintLast Go.Proofs.YtnmlmgmljoncoaaGreatDoorW.PrintMore Go.Proofs.YtnmlmgmljoncoaaGreatDoor.PA
def kindsR (k : Nat) (a0 : Int) : Option Bool := ((numeric_Kind.f k a0).bind fun bt919 => ((trunnionref14_Kind.f k a0).bind fun bt923 => (if bt919.1 = bt923.1 then (if bt919.2.1 = bt923.2.1 then (if bt919.2.2.1 = bt923.2.2 then (if (bt919.2.2.2 == (decide (bt923.2.1 > 0))) = true then ((numeric_Sat.f k a0).bind fun t926 => (if a0 ≥ 64512 then (some (t926 == (decide (a0 ≤ 64519)))) else (some (t926 == false)))) else (some false)) else (some false)) else (some false)) else (some false))))
theorem kinds_in : ∀ i : Fin 123, kindsR 40 (69 + ((i.val : Nat) : Int)) = some true := by decide +kernel
theorem kinds_sat : ∀ i : Fin 8, kindsR 40 (64512 + ((i.val : Nat) : Int)) = some true := by decide +kernel
theorem first_no (k : Nat) (op b sz g : Int) (h1 : -9223372036854775808 ≤ op) (h2 : op < 9223372036854775808) (hb : 0 < b ∧ b < 200) (hs : 0 < sz ∧ sz < 20) (h : ¬ (b ≤ op ∧ op < b + 2 * sz)) : numeric_first.f (k + 1) op b sz g = some (0, 0, 0, false) := by
  have e : ¬ (0 ≤ wrap64 (op - b) ∧ wrap64 (op - b) < 2 * sz) := by unfold wrap64; omega
  have e2 : wrap64 (2 * sz) = 2 * sz := by unfold wrap64; omega
  unfold numeric_first.f
  by_cases c : wrap64 (op - b) ≥ 0
  · rw [if_pos c, numeric_first.j0.eq_2, if_neg (by rw [decide_eq_true_iff]; omega), if_pos (by omega), e2, if_neg (by omega)]
  · rw [if_neg c, numeric_first.j0.eq_2, if_neg (by decide), if_neg (by omega)]
theorem find_no (k : Nat) (op : Int) (h1 : -9223372036854775808 ≤ op) (h2 : op < 9223372036854775808) (h : op < 69 ∨ 191 < op) (h' : op < 64512 ∨ 64519 < op) : numeric_find.f (k + 1) op = some (0, 0, 0) := by
  unfold numeric_find.f
  rw [first_no k op 69 11 2 h1 h2 (by omega) (by omega) (by omega), Option.bind_some, if_neg (by decide), first_no k op 91 6 3 h1 h2 (by omega) (by omega) (by omega), Option.bind_some, if_neg (by decide),
    first_no k op 103 18 5 h1 h2 (by omega) (by omega) (by omega), Option.bind_some, if_neg (by decide), first_no k op 139 14 7 h1 h2 (by omega) (by omega) (by omega), Option.bind_some, if_neg (by decide)]
  have j : numeric_find.j0 (k + 1) op false = some (0, 0, 0) := by
    rw [numeric_find.j0.eq_2, if_neg (by decide)]
    by_cases c : op ≥ 64512
    · rw [if_pos c, if_neg (by omega)]
    · rw [if_neg c]
  by_cases c : op ≥ 167
  · rw [if_pos c, decide_eq_false (by omega)]; exact j
  · rw [if_neg c]; exact j
theorem name_no (k : Nat) (op : Int) (h : op < 69 ∨ 191 < op) (h' : op < 64512 ∨ 64519 < op) : trunnionref14_Name.f (k + 2) op = some (⟨#[]⟩ : ByteArray) := by
  unfold trunnionref14_Name.f
  have j : trunnionref14_Name.j0 (k + 2) op false = some (⟨#[]⟩ : ByteArray) := by
    rw [trunnionref14_Name.j0.eq_2, if_neg (by decide)]
    by_cases c : op < 69
    · rw [if_pos c, trunnionref14_Name.j1.eq_2, if_pos rfl]
    · rw [if_neg c, decide_eq_true (by omega), trunnionref14_Name.j1.eq_2, if_pos rfl]
  by_cases c : op ≥ 64512
  · rw [if_pos c, decide_eq_false (by omega)]; exact j
  · rw [if_neg c]; exact j
theorem kinds_out (op : Int) (h1 : -9223372036854775808 ≤ op) (h2 : op < 9223372036854775808) (h : op < 69 ∨ 191 < op) (h' : op < 64512 ∨ 64519 < op) : kindsR 40 op = some true := by
  have f := find_no 39 op h1 h2 h h'
  have n := name_no 38 op h h'
  have kd : numeric_Kind.f 40 op = some (0, 0, 0, false) := by
    unfold numeric_Kind.f
    rw [f, Option.bind_some]; rfl
  have e0 : (⟨#[]⟩ : ByteArray).toList = [] := by decide +kernel
  have rk : trunnionref14_Kind.f 40 op = some (0, 0, 0) := by
    unfold trunnionref14_Kind.f
    rw [n, Option.bind_some, if_pos e0]
  have st : numeric_Sat.f 40 op = some false := by
    unfold numeric_Sat.f
    rw [f, Option.bind_some]; rfl
  unfold kindsR
  rw [kd, Option.bind_some, rk, Option.bind_some, if_pos rfl, if_pos rfl, if_pos rfl, if_pos (by decide), st, Option.bind_some]
  by_cases c : op ≥ 64512
  · rw [if_pos c, decide_eq_false (by omega)]; rfl
  · rw [if_neg c]; rfl
theorem NumericKindsP : L14_NumericKinds.Pure := by
  intro op h0
  have hb : -9223372036854775808 ≤ op ∧ op < 9223372036854775808 := by
    simp [Lit.wf, IntKind.min, IntKind.max, IntKind.signed, IntKind.bits] at h0; omega
  have main : kindsR 40 op = some true := by
    by_cases c : 69 ≤ op ∧ op ≤ 191
    · obtain ⟨i, hi⟩ := Int.eq_ofNat_of_zero_le (show 0 ≤ op - 69 by omega)
      have := kinds_in ⟨i, by omega⟩
      rwa [show (69 + ((i : Nat) : Int)) = op by omega] at this
    · by_cases c' : 64512 ≤ op ∧ op ≤ 64519
      · obtain ⟨i, hi⟩ := Int.eq_ofNat_of_zero_le (show 0 ≤ op - 64512 by omega)
        have := kinds_sat ⟨i, by omega⟩
        rwa [show (64512 + ((i : Nat) : Int)) = op by omega] at this
      · exact kinds_out op hb.1 hb.2 (by omega) (by omega)
  refine ⟨40, ?_⟩
  unfold L14_NumericKinds.f
  have aw : L14_awake.f 40 = some true := by decide +kernel
  rw [aw, Option.bind_some, if_pos rfl]
  exact main
end Go.Proofs.YtnmlmgmljoncoaaGreatDoor.Th
end
namespace Go.Proofs.YtnmlmgmljoncoaaGreatDoor.Pure
theorem NumericKinds : Go.Proofs.YtnmlmgmljoncoaaGreatDoor.PA.L14_NumericKinds.Pure := Go.Proofs.YtnmlmgmljoncoaaGreatDoor.Th.NumericKindsP
end Go.Proofs.YtnmlmgmljoncoaaGreatDoor.Pure
namespace Go.Proofs.YtnmlmgmljoncoaaGreatDoor.Facts
abbrev ch (n : Nat) : Char := Char.ofNat n
theorem words_word (w : List Char) (r : List Char) (h : w.all (fun c => c != ch 32) = true) : wordsSigns (w ++ ch 32 :: r) = w :: wordsSigns r := by
  induction w with
  | nil => rfl
  | cons c w ih =>
    rw [List.all_cons, Bool.and_eq_true] at h
    have hc : c ≠ ch 32 := bne_iff_ne.1 h.1
    rw [List.cons_append]
    rw [wordsSigns.eq_3 c _ (fun e => hc e), ih h.2]
def w1 : List Char := [ch 104, ch 97, ch 114, ch 110, ch 101, ch 115, ch 115]
def w2 : List Char := [ch 52, ch 97, ch 49, ch 99, ch 50, ch 51, ch 102, ch 54, ch 50, ch 55, ch 54, ch 57, ch 53, ch 52, ch 55, ch 53, ch 52, ch 97, ch 56, ch 102, ch 53, ch 99, ch 97, ch 50, ch 51, ch 56, ch 54, ch 48, ch 101, ch 102, ch 101, ch 52, ch 99, ch 57, ch 51, ch 98, ch 97, ch 51, ch 56, ch 54, ch 51, ch 101, ch 97, ch 55, ch 48, ch 50, ch 57, ch 98, ch 101, ch 49, ch 51, ch 51, ch 99, ch 97, ch 51, ch 51, ch 97, ch 100, ch 53, ch 98, ch 52, ch 55, ch 48, ch 100]
def w3 : List Char := [ch 99, ch 117, ch 116]
set_option maxRecDepth 100000 in
def tailSigns : List Char := [ch 97, ch 116, ch 32, ch 116, ch 114, ch 117, ch 110, ch 110, ch 105, ch 111, ch 110, ch 47, ch 116, ch 114, ch 117, ch 110, ch 110, ch 105, ch 111, ch 110, ch 116, ch 111, ch 112, ch 46, ch 84, ch 111, ch 112, ch 82, ch 111, ch 111, ch 116, ch 115, ch 32, ch 116, ch 114, ch 117, ch 110, ch 110, ch 105, ch 111, ch 110, ch 47, ch 116, ch 114, ch 117, ch 110, ch 110, ch 105, ch 111, ch 110, ch 116, ch 111, ch 112, ch 46, ch 84, ch 111, ch 112, ch 78, ch 101, ch 97, ch 114, ch 101, ch 115, ch 116, ch 32, ch 116, ch 114, ch 117, ch 110, ch 110, ch 105, ch 111, ch 110, ch 47, ch 116, ch 114, ch 117, ch 110, ch 110, ch 105, ch 111, ch 110, ch 108, ch 97, ch 119, ch 49, ch 52, ch 46, ch 78, ch 117, ch 109, ch 101, ch 114, ch 105, ch 99, ch 65, ch 112, ch 112, ch 108, ch 105, ch 101, ch 115, ch 32, ch 116, ch 114, ch 117, ch 110, ch 110, ch 105, ch 111, ch 110, ch 47, ch 116, ch 114, ch 117, ch 110, ch 110, ch 105, ch 111, ch 110, ch 108, ch 97, ch 119, ch 49, ch 52, ch 46, ch 78, ch 117, ch 109, ch 101, ch 114, ch 105, ch 99, ch 75, ch 101, ch 101, ch 112, ch 115, ch 32, ch 116, ch 114, ch 117, ch 110, ch 110, ch 105, ch 111, ch 110, ch 47, ch 116, ch 114, ch 117, ch 110, ch 110, ch 105, ch 111, ch 110, ch 108, ch 97, ch 119, ch 49, ch 52, ch 46, ch 78, ch 117, ch 109, ch 101, ch 114, ch 105, ch 99, ch 83, ch 119, ch 97, ch 112, ch 115, ch 32, ch 116, ch 114, ch 117, ch 110, ch 110, ch 105, ch 111, ch 110, ch 47, ch 116, ch 114, ch 117, ch 110, ch 110, ch 105, ch 111, ch 110, ch 108, ch 97, ch 119, ch 49, ch 52, ch 46, ch 78, ch 117, ch 109, ch 101, ch 114, ch 105, ch 99, ch 75, ch 105, ch 110, ch 100, ch 115]
set_option maxRecDepth 100000 in
theorem head_list : Tryz.prog.initOrder.toList = w1 ++ ch 32 :: (w2 ++ ch 32 :: (w3 ++ ch 32 :: tailSigns)) :=
  (congrArg String.toList (show Tryz.prog.initOrder = String.ofList (w1 ++ ch 32 :: (w2 ++ ch 32 :: (w3 ++ ch 32 :: tailSigns))) from rfl)).trans String.toList_ofList
theorem words : ∃ rest, behindMainWord (wordsSigns Tryz.prog.initOrder.toList) = w3 :: rest := by
  refine ⟨wordsSigns tailSigns, ?_⟩
  rw [head_list, words_word w1 _ (by kernel_rfl), words_word w2 _ (by kernel_rfl), words_word w3 _ (by kernel_rfl)]
  generalize wordsSigns tailSigns = rest
  have e : ((w1 == "harness".toList || w1 == "ownmain".toList) && isSumSigns w2) = true := by kernel_rfl
  show (if ((w1 == "harness".toList || w1 == "ownmain".toList) && isSumSigns w2) = true then w3 :: rest else w1 :: w2 :: w3 :: rest) = w3 :: rest
  rw [if_pos e]
theorem c3 : (w3 == "gc".toList) = false ∧ (w3 == "spec".toList) = false ∧ (w3 == "cut".toList) = true ∧ (w3 == "carried".toList) = false ∧ (w3 == "finals".toList) = false := ⟨by kernel_rfl, by kernel_rfl, by kernel_rfl, by kernel_rfl, by kernel_rfl⟩
theorem strip (rest : List (List Char)) : stripLifts liftWords (w3 :: rest) = ([], w3 :: rest) := by
  have key : ∀ l : List String, l.all (fun o => !(w3 == o.toList)) = true → stripLifts l (w3 :: rest) = ([], w3 :: rest) := by
    intro l
    induction l with
    | nil => intro _; rfl
    | cons o l ih =>
      intro h
      rw [List.all_cons, Bool.and_eq_true] at h
      unfold stripLifts
      rw [if_neg (fun e => by have h1 := h.1; rw [e] at h1; cases h1)]
      exact ih h.2
  exact key liftWords (by kernel_rfl)
theorem make_of (P : Program) (h : ∃ rest, behindMainWord (wordsSigns P.initOrder.toList) = w3 :: rest) : P.make = some .cut := by
  obtain ⟨rest, h⟩ := h
  unfold Program.make
  rw [h]
  show (if (w3 == "gc".toList || w3 == "spec".toList) = true then some Make.whole else if (w3 == "cut".toList || (w3 == "finals".toList && rest.head? == some "cut".toList)) = true then some Make.cut else _) = some Make.cut
  rw [if_neg (by rw [c3.1, c3.2.1]; decide), if_pos (by rw [c3.2.2.1, Bool.true_or])]
set_option maxRecDepth 100000 in
theorem liftsFact : Tryz.prog.liftsFinal = false := by
  unfold Program.liftsFinal Program.headLifts
  rw [head_list]
  kernel_rfl
theorem doorFact : (!Tryz.prog.laysLater && !Tryz.prog.bearsReflect && Tryz.prog.doorFits []) = true := by kernel_rfl
theorem makeFact : Tryz.prog.make = some .cut := make_of _ words
theorem enter_of (P : Program) (h : ∃ rest, behindMainWord (wordsSigns P.initOrder.toList) = w3 :: rest) (d : (!P.laysLater && !P.bearsReflect && P.doorFits []) = true) : P.mayEnter = true := by
  obtain ⟨rest, h⟩ := h
  rw [Bool.and_eq_true, Bool.and_eq_true] at d
  have e : ((some w3 == some "cut".toList) : Bool) = true := by kernel_rfl
  unfold Program.mayEnter
  rw [h]
  show ((_ || _) || ((stripLifts liftWords (w3 :: rest)).2.head? == some "cut".toList && ((stripLifts liftWords (w3 :: rest)).1.contains "finals" || !P.laysLater) && ((stripLifts liftWords (w3 :: rest)).1.contains "reflectrows" || !P.bearsReflect) &&
      ((stripLifts liftWords (w3 :: rest)).1.contains "reflectrows" || !(stripLifts liftWords (w3 :: rest)).1.contains "leanrows") && P.doorFits (stripLifts liftWords (w3 :: rest)).1)) = true
  rw [strip, Bool.or_eq_true]
  refine .inr ?_
  rw [Bool.and_eq_true, Bool.and_eq_true, Bool.and_eq_true, Bool.and_eq_true, Bool.or_eq_true, Bool.or_eq_true]
  exact ⟨⟨⟨⟨e, .inr d.1.1⟩, .inr d.1.2⟩, rfl⟩, d.2⟩
theorem enterFact : Tryz.prog.mayEnter = true := enter_of _ words doorFact
end Go.Proofs.YtnmlmgmljoncoaaGreatDoor.Facts
