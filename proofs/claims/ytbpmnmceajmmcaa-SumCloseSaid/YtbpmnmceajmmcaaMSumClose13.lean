/- What the Go functions that the statement SumClose reaches compute, and the mathematics on it, in the order in which one leans on the other; for every input. -/
import Derived.Test.YtbpmnmceajmmcaaVSumClose0
import Derived.Test.YtbpmnmceajmmcaaMSumClose5
import Derived.Test.YtbpmnmceajmmcaaMSumClose12
import Derived.Test.YtbpmnmceajmmcaaMSumClose9
import Derived.Test.YtbpmnmceajmmcaaMSumClose0
import Derived.Test.YtbpmnmceajmmcaaMSumClose4
import Derived.Test.YtbpmnmceajmmcaaMSumClose11
import Derived.Test.YtbpmnmceajmmcaaMSumClose8
import Derived.Test.YtbpmnmceajmmcaaMSumClose3
import Derived.Test.YtbpmnmceajmmcaaMSumClose10
import Derived.Test.YtbpmnmceajmmcaaMSumClose6
import Derived.Test.YtbpmnmceajmmcaaMSumClose1
import Derived.Test.YtbpmnmceajmmcaaMSumClose2
import Derived.Test.YtbpmnmceajmmcaaMSumClose7
import Derived.Test.YtbpmnmceajmmcaaRows
import Derived.ProofKit
import Derived.JoinedOf
import Derived.KernelRfl
section
set_option linter.unusedVariables false
set_option linter.unusedSimpArgs false
namespace Go.Proofs.Ytbpmnmceajmmcaa.Th
open Flo
theorem fmt_bd (w : Int) : (fmt w).f < 100 ∧ (-5000 < (fmt w).low ∧ (fmt w).low < 0) ∧ (fmt w).top < 5000 := by
  unfold fmt; split <;> decide
theorem fmt_f (w : Int) : (fmt w).f ≤ 52 := by unfold fmt; split <;> decide
theorem pk_ex (w : Int) (S : Nat) (e : Int) (hS : S < 340282366920938463463374607431768211456) : pkm (fmt w) S e false = (fmt w).rnd ((S : Rat) * tw e) := by
  have h := fmt_bd w
  rw [← pkx_f, pkm_rnd _ h.1 h.2.1 h.2.2 S e false hS]
theorem pk_mo (w : Int) {x : Rat} {S : Nat} {e : Int} (hS : S < 340282366920938463463374607431768211456) (h0 : 9007199254740992 ≤ S) (h1 : (S : Rat) * tw e < x) (h2 : x < ((S + 1 : Nat) : Rat) * tw e) : pkm (fmt w) S e true = (fmt w).rnd x := by
  have h := fmt_bd w
  have h3 : 2 ^ ((fmt w).f + 1) ≤ S := by
    have : 2 ^ ((fmt w).f + 1) ≤ 2 ^ 53 := Nat.pow_le_pow_right (by decide) (by have := fmt_f w; omega)
    rw [show (2 : Nat) ^ 53 = 9007199254740992 by decide] at this
    omega
  rw [rnd_more _ h1 h2 h3, pkm_rnd _ h.1 h.2.1 h.2.2 S e true hS]
abbrev Pt := Bool × Int × Int × Int
noncomputable def pv (p : Pt) : Rat := if p.2.1 = 1 then (if p.1 then -((p.2.2.2.toNat : Rat) * tw p.2.2.1) else (p.2.2.2.toNat : Rat) * tw p.2.2.1) else 0
noncomputable def fx (w : Int) (s : Rat) (z : Bool) : Nat := if s = 0 then mkN w 0 z else if s < 0 then mkN w ((fmt w).rnd (-s)) true else mkN w ((fmt w).rnd s) false
noncomputable def addP (w : Int) (p q : Pt) : Nat :=
  if p.2.1 = 3 ∨ q.2.1 = 3 then nanN w else if p.2.1 = 2 then (if q.2.1 = 2 ∧ p.1 ≠ q.1 then nanN w else mkN w (fmt w).inf p.1) else if q.2.1 = 2 then mkN w (fmt w).inf q.1
  else fx w (pv p + pv q) (p.1 && q.1)
theorem fx_pos (w : Int) {s : Rat} (h : 0 < s) (z : Bool) : fx w s z = mkN w ((fmt w).rnd s) false := by
  unfold fx; rw [if_neg (by grind), if_neg (by grind)]
theorem fx_neg (w : Int) {s : Rat} (h : 0 < s) (z : Bool) : fx w (-s) z = mkN w ((fmt w).rnd s) true := by
  unfold fx; rw [if_neg (by grind), if_pos (by grind), Rat.neg_neg]
theorem fx_zero (w : Int) (z : Bool) : fx w 0 z = mkN w 0 z := by unfold fx; rw [if_pos rfl]
theorem fx_sg (w : Int) {s : Rat} (h : 0 < s) (n z : Bool) : fx w (if n then -s else s) z = mkN w ((fmt w).rnd s) n := by
  cases n
  · exact fx_pos w h z
  · exact fx_neg w h z
theorem align_eq {sa sb : Nat} {ea eb : Int} (hab : eb ≤ ea) (h0 : 0 < sa) {u d : Nat} (hu : (u : Int) = min (ea - eb) 64) (hd : (d : Int) = ea - eb - u) :
    (sa : Rat) * tw ea = ((sa * 2 ^ u : Nat) : Rat) * tw (ea - u) ∧ ((sb / 2 ^ d : Nat) : Rat) * tw (ea - u) ≤ (sb : Rat) * tw eb ∧ (sb : Rat) * tw eb < ((sb / 2 ^ d + 1 : Nat) : Rat) * tw (ea - u) ∧
    (sb % 2 ^ d = 0 → (sb : Rat) * tw eb = ((sb / 2 ^ d : Nat) : Rat) * tw (ea - u)) ∧ (sb % 2 ^ d ≠ 0 → ((sb / 2 ^ d : Nat) : Rat) * tw (ea - u) < (sb : Rat) * tw eb ∧ u = 64) := by
  have hp : 0 < 2 ^ d := Nat.pow_pos (by decide)
  have e1 : tw (ea - u) = ((2 ^ d : Nat) : Rat) * tw eb := by rw [tw_sub_nat (ea - u) eb (by omega)]; congr 3; omega
  have T := tw_pos eb
  have h1 := Nat.div_add_mod sb (2 ^ d)
  have h2 := Nat.mod_lt sb hp
  have e3 : ∀ x : Nat, (x : Rat) * tw (ea - u) = ((2 ^ d * x : Nat) : Rat) * tw eb := fun x => by rw [e1, Nat.mul_comm]; push_cast; grind
  refine ⟨?_, ?_, ?_, ?_, ?_⟩
  · rw [tw_sub_nat ea (ea - u) (by omega), show (ea - (ea - (u : Int))).toNat = u by omega]; push_cast; grind
  · rw [e3]; exact mul_le (nat_le.2 (by omega)) T
  · rw [e3]; exact mul_lt (nat_lt.2 (by rw [Nat.mul_add]; omega)) T
  · intro h; rw [e3]; congr 2; omega
  · intro h
    refine ⟨?_, ?_⟩
    · rw [e3]; exact mul_lt (nat_lt.2 (by omega)) T
    · rcases Nat.eq_zero_or_pos d with h3 | h3
      · subst h3; rw [Nat.pow_zero, Nat.mod_one] at h; exact absurd rfl h
      · omega
end Go.Proofs.Ytbpmnmceajmmcaa.Th
end
section
set_option linter.unusedVariables false
set_option linter.unusedSimpArgs false
namespace Go.Proofs.Ytbpmnmceajmmcaa.Th
open Go.RowKit Go.Proofs.YtbpmnmceajmmcaaW.PrintWords Go.Proofs.YtbpmnmceajmmcaaW.PrintLast Go.Proofs.YtbpmnmceajmmcaaW.PrintMore Go.Proofs.Ytbpmnmceajmmcaa.PA Dig

theorem one_dg : Ev (fun k => r1_Of.f k 1) (dg 1) := of_dg 1 (by decide)
theorem cmp_nonneg (m n : Nat) : cmpN m n ≥ 0 ↔ n ≤ m := by unfold cmpN; split <;> (try split) <;> omega
theorem div_loop (A n : Nat) (hn0 : 0 < n) (hA : bl A < 100000000) (hn : bl n < 100000000) (s : Nat) : ∀ (q m : Nat), s < 100000000 → q * n + m = A → m < n * 2 ^ s →
    Ev (fun k => r1_Div.l0 k ((s : Int) - 1) (dg n) (dg q) (dg m)) (dg (A / n), dg (A % n)) := by
  induction s with
  | zero =>
    intro q m _ he hm
    refine Ev.step (fun _ => r1_Div.l0.eq_2 ..) ?_
    refine Ev.neg (by omega) (Ev.out ?_)
    rw [Nat.pow_zero, Nat.mul_one] at hm
    have h1 : A / n = q := by rw [← he, Nat.mul_comm, Nat.mul_add_div hn0, Nat.div_eq_of_lt hm, Nat.add_zero]
    have h2 : A % n = m := by rw [← he, Nat.mul_comm, Nat.mul_add_mod, Nat.mod_eq_of_lt hm]
    rw [h1, h2]
  | succ s ih =>
    intro q m hs he hm
    have e1 : (((s + 1 : Nat) : Int) - 1) = ((s : Nat) : Int) := by omega
    rw [e1]
    have hm2 : m ≤ A := by omega
    have hq2 : q ≤ A := Nat.le_trans (Nat.le_mul_of_pos_right q hn0) (by omega)
    have b1 := bl_mono hm2
    have b2 := bl_mono hq2
    have b3 := bl_shl n s
    have hw : wrap64 ((s : Int) - 1) = (s : Int) - 1 := w64_id (by omega) (by omega)
    refine Ev.step (fun _ => r1_Div.l0.eq_2 ..) ?_
    rw [hw]
    refine Ev.pos (by omega) (Ev.bind (shl_bl n s (by omega) (by omega)) (Ev.bind (cmp_bl m (n * 2 ^ s) (by omega) (by omega)) ?_))
    by_cases h : n * 2 ^ s ≤ m
    · refine Ev.pos ((cmp_nonneg _ _).2 h) (Ev.bind (sub_bl m (n * 2 ^ s) h (by omega)) (Ev.bind one_dg (Ev.bind (shl_bl 1 s (by omega) (by decide)) ?_)))
      have h3 : 2 ^ s ≤ A := Nat.le_trans (Nat.le_mul_of_pos_left _ hn0) (Nat.le_trans h hm2)
      have b4 := bl_mono h3
      rw [Nat.one_mul]
      refine Ev.bind (add_bl q (2 ^ s) (by omega) (by omega)) (ih (q + 2 ^ s) (m - n * 2 ^ s) (by omega) ?_ ?_)
      · rw [Nat.add_mul, Nat.mul_comm (2 ^ s) n]; omega
      · rw [Nat.pow_succ, ← Nat.mul_assoc] at hm; omega
    · exact Ev.neg (fun h' => h ((cmp_nonneg _ _).1 h')) (ih q m (by omega) he (by omega))
theorem div_dg (a b : Nat) (hb : 0 < b) (ha1 : bl a < 100000000) (hb1 : bl b < 100000000) : Ev (fun k => r1_Div.f k (dg a) (dg b)) (dg (a / b), dg (a % b)) := by
  unfold r1_Div.f
  refine Ev.bind (len_dg a (by omega)) (Ev.bind (len_dg b (by omega)) ?_)
  rw [w64_id (by omega) (by omega)]
  by_cases h : bl b ≤ bl a
  · rw [show ((bl a : Nat) : Int) - ((bl b : Nat) : Int) = (((bl a - bl b + 1 : Nat) : Int) - 1) by omega, ← dg_zero]
    have h4 := bl_pos.2 hb
    refine div_loop a b hb ha1 hb1 (bl a - bl b + 1) 0 a (by omega) (by simp) ?_
    have h1 := lt_two_bl a
    have h2 := two_bl_le hb
    have h3 : 2 ^ (bl b - 1) * 2 ^ (bl a - bl b + 1) ≤ b * 2 ^ (bl a - bl b + 1) := Nat.mul_le_mul_right _ h2
    rw [← Nat.pow_add, show bl b - 1 + (bl a - bl b + 1) = bl a by omega] at h3
    omega
  · refine Ev.step (fun _ => r1_Div.l0.eq_2 ..) ?_
    have h1 : a < b := by
      rcases Nat.lt_or_ge a b with h1 | h1
      · exact h1
      · exact absurd (bl_mono h1) h
    refine Ev.neg (by omega) (Ev.out ?_)
    rw [Nat.div_eq_of_lt h1, Nat.mod_eq_of_lt h1, dg_zero]
theorem dg_len_pos (n : Nat) : decide (((dg n).length : Int) > 0) = decide (0 < n) := by
  have := len_pos (n := n)
  by_cases h : 0 < n
  · rw [decide_eq_true h, decide_eq_true (by omega)]
  · rw [decide_eq_false h, decide_eq_false (by omega)]
theorem half_dg (a n : Nat) (ha : bl a < 100000000) (hn : n < 90000000) : Ev (fun k => r1_Half.f k (dg a) n) (dg (a / 2 ^ n), decide (0 < a % 2 ^ n)) := by
  unfold r1_Half.f
  have h1 := bl_two n
  refine Ev.bind one_dg (Ev.bind (shl_bl 1 n (by omega) (by decide)) ?_)
  rw [Nat.one_mul]
  refine Ev.bind (div_dg a (2 ^ n) (Nat.pow_pos (by decide)) ha (by omega)) (Ev.out ?_)
  rw [dg_len_pos]
end Go.Proofs.Ytbpmnmceajmmcaa.Th
end
section
set_option linter.unusedVariables false
set_option linter.unusedSimpArgs false
namespace Go.Proofs.Ytbpmnmceajmmcaa.Th
open Go.RowKit Go.Proofs.YtbpmnmceajmmcaaW.PrintWords Go.Proofs.YtbpmnmceajmmcaaW.PrintLast Go.Proofs.YtbpmnmceajmmcaaW.PrintMore Go.Proofs.Ytbpmnmceajmmcaa.PA Bit Dig Flo
theorem r2Fw (w : Int) (hw : w = 32 ∨ w = 64) : r2_F.f w = some (((fmt w).f : Nat) : Int) := by rcases hw with rfl | rfl <;> decide +kernel
theorem r3Low (w : Int) (hw : w = 32 ∨ w = 64) : r3_Low.f w = some (fmt w).low := by rcases hw with rfl | rfl <;> decide +kernel
theorem r2Topw (w : Int) (hw : w = 32 ∨ w = 64) : Ev (fun k => r2_Top.f k w) (((fmt w).top : Nat) : Int) := by rcases hw with rfl | rfl; exact r2Top32; exact r2Top64
theorem r2Tfw (w : Int) (hw : w = 32 ∨ w = 64) : Ev (fun k => r2_Two.f k (((fmt w).f : Nat) : Int)) ((2 ^ (fmt w).f : Nat) : Int) := two_f _ (by have := (fmt_f w); omega)
theorem r2Infw (w : Int) (hw : w = 32 ∨ w = 64) (s : Bool) : Ev (fun k => r2_Inf.f k w s) ((mkN w (fmt w).inf s : Nat) : Int) := by rcases hw with rfl | rfl; exact r2Inf32 s; exact r2Inf64 s
theorem r2Nanw (w : Int) (hw : w = 32 ∨ w = 64) : Ev (fun k => r2_Nan.f k w) ((nanN w : Nat) : Int) := by rcases hw with rfl | rfl; exact r2Nan32; exact r2Nan64
theorem r2Makew (w : Int) (hw : w = 32 ∨ w = 64) (s : Bool) (e fr : Nat) (he : e ≤ (fmt w).top) (hf : fr < 2 ^ (fmt w).f) : Ev (fun k => r2_Make.f k w s e fr) ((mkN w (e * 2 ^ (fmt w).f + fr) s : Nat) : Int) := by
  rcases hw with rfl | rfl
  · exact r2Make32 s e fr he hf
  · exact r2Make64 s e fr he hf
theorem len_zero (n : Nat) : ((dg n).length : Int) = 0 ↔ n = 0 := by
  have := @len_pos n
  omega
theorem quotS (a b : Nat) (hb : 0 < b) (ha1 : bl a < 10000000) (hb1 : bl b < 10000000) : Ev (fun k => r3_Quotient.f k (dg a) (dg b)) (dg (rne a b)) := by
  unfold r3_Quotient.f
  have hm : bl (a % b) ≤ bl a := bl_mono (Nat.mod_le _ _)
  have hq : bl (a / b) ≤ bl a := bl_mono (Nat.div_le_self _ _)
  have hs := bl_shl (a % b) 1
  refine Ev.bind (div_dg a b hb (by omega) (by omega)) (Ev.bind (shl_bl (a % b) 1 (by decide) (by omega)) ?_)
  rw [show a % b * 2 ^ 1 = 2 * (a % b) by omega] at *
  refine Ev.bind (cmp_bl _ b (by omega) (by omega)) ?_
  have yes : Ev (fun k => r3_Quotient.j0 k true (dg (a / b))) (dg (a / b + 1)) :=
    Ev.step (fun _ => r3_Quotient.j0.eq_2 ..) (Ev.pos rfl (Ev.bind (of_dg 1 (by decide)) (Ev.bind (add_bl (a / b) 1 (by omega) (by decide)) (Ev.out rfl))))
  have no : Ev (fun k => r3_Quotient.j0 k false (dg (a / b))) (dg (a / b)) :=
    Ev.step (fun _ => r3_Quotient.j0.eq_2 ..) (Ev.neg (by decide) (Ev.out rfl))
  unfold cmpN rne
  by_cases h1 : b < 2 * (a % b)
  · rw [if_neg (show ¬ 2 * (a % b) < b by omega), if_pos h1, if_pos (.inl h1)]
    exact Ev.pos (by decide) yes
  · by_cases h2 : 2 * (a % b) = b
    · rw [if_neg (show ¬ 2 * (a % b) < b by omega), if_neg h1]
      refine Ev.neg (by decide) (Ev.pos rfl (Ev.bs (uint_dg _) ?_))
      have e : (Int.tmod ((a / b % 18446744073709551616 : Nat) : Int) 2 == 1) = decide (a / b % 2 = 1) := by
        rw [Int.tmod_eq_emod_of_nonneg (by omega), Bool.eq_iff_iff]; simp; omega
      rw [e]
      by_cases h3 : a / b % 2 = 1
      · rw [decide_eq_true h3, if_pos (.inr ⟨h2, h3⟩)]; exact yes
      · rw [decide_eq_false h3, if_neg (by omega)]; exact no
    · rw [if_pos (show 2 * (a % b) < b by omega), if_neg (by omega)]
      exact Ev.neg (by decide) (Ev.neg (by decide) no)
theorem underS (a b : Nat) (s : Int) (ha1 : bl a < 1000000) (hb1 : bl b < 1000000) (hs : -1000000 < s ∧ s < 1000000) : Ev (fun k => r3_under.f k (dg a) (dg b) s) (decide ((a : Rat) * tw s < (b : Rat))) := by
  unfold r3_under.f
  have hc : ∀ m n : Nat, decide (cmpN m n < 0) = decide (m < n) := fun m n => by
    unfold cmpN
    by_cases h : m < n
    · rw [if_pos h, decide_eq_true h]; rfl
    · rw [if_neg h, decide_eq_false h]; split <;> rfl
  by_cases h : s ≥ 0
  · obtain ⟨n, rfl⟩ := Int.eq_ofNat_of_zero_le h
    have h2 := bl_shl a n
    refine Ev.pos h (Ev.bind (shl_bl a n (by omega) (by omega)) (Ev.bind (cmp_bl _ b (by omega) (by omega)) (Ev.out ?_)))
    rw [hc]
    refine decide_eq_decide.2 ?_
    rw [tw_nat, ← nat_lt]; push_cast; rfl
  · obtain ⟨n, hn⟩ := Int.eq_ofNat_of_zero_le (show 0 ≤ -s by omega)
    have h2 := bl_shl b n
    obtain rfl : s = -(n : Int) := by omega
    refine Ev.neg h ?_
    rw [w64_id (by omega) (by omega), Int.neg_neg]
    refine Ev.bind (shl_bl b n (by omega) (by omega)) (Ev.bind (cmp_bl a _ (by omega) (by omega)) (Ev.out ?_))
    rw [hc]
    refine decide_eq_decide.2 ?_
    have T := tw_pos (n : Int)
    have e1 : tw (-(n : Int)) * tw n = 1 := by rw [← tw_add, Int.add_left_neg, tw_zero]
    have e2 : ((b * 2 ^ n : Nat) : Rat) = (b : Rat) * tw n := by rw [tw_nat]; push_cast; rfl
    rw [← nat_lt, e2]
    constructor
    · intro h3
      refine lt_of_mul (t := tw n) ?_ T
      rw [Rat.mul_assoc, e1, Rat.mul_one]; exact h3
    · intro h3
      have := mul_lt h3 T
      rwa [Rat.mul_assoc, e1, Rat.mul_one] at this
theorem grainS (a b : Nat) (s : Int) (hb : 0 < b) (ha1 : bl a < 1000000) (hb1 : bl b < 1000000) (hs : -1000000 < s ∧ s < 1000000) : ∃ A B : Nat, 0 < B ∧ (∀ x : Rat, x * (b : Rat) = (a : Rat) * tw s → x * (B : Rat) = (A : Rat)) ∧ Ev (fun k => r3_grain.f k (dg a) (dg b) s) (dg (rne A B)) := by
  unfold r3_grain.f
  by_cases h : s ≥ 0
  · obtain ⟨n, rfl⟩ := Int.eq_ofNat_of_zero_le h
    have h2 := bl_shl a n
    refine ⟨a * 2 ^ n, b, hb, fun x hx => ?_, Ev.pos h (Ev.bind (shl_bl a n (by omega) (by omega)) (Ev.bind (quotS _ b hb (by omega) (by omega)) (Ev.out rfl)))⟩
    rw [hx, tw_nat]; push_cast; rfl
  · obtain ⟨n, hn⟩ := Int.eq_ofNat_of_zero_le (show 0 ≤ -s by omega)
    have h2 := bl_shl b n
    obtain rfl : s = -(n : Int) := by omega
    refine ⟨a, b * 2 ^ n, Nat.mul_pos hb (Nat.pow_pos (by decide)), fun x hx => ?_, ?_⟩
    · have e1 : tw (-(n : Int)) * tw n = 1 := by rw [← tw_add, Int.add_left_neg, tw_zero]
      have e2 : ((b * 2 ^ n : Nat) : Rat) = (b : Rat) * tw n := by rw [tw_nat]; push_cast; rfl
      rw [e2, ← Rat.mul_assoc, hx, Rat.mul_assoc, e1, Rat.mul_one]
    · refine Ev.neg h ?_
      rw [w64_id (by omega) (by omega), Int.neg_neg]
      exact Ev.bind (shl_bl b n (by omega) (by omega)) (Ev.bind (quotS a _ (Nat.mul_pos hb (Nat.pow_pos (by decide))) (by omega) (by omega)) (Ev.out rfl))
theorem finS (w : Int) (hw : w = 32 ∨ w = 64) (s : Bool) (q n : Nat) (hn : n < 2 ^ (fmt w).f * 2) (hl : 0 < q → 2 ^ (fmt w).f ≤ n) (hq : q < 1000000) :
    Ev (fun k => r3_Near.j2 k w s (((fmt w).f : Nat) : Int) ((q : Int) + (fmt w).low) (dg n)) ((mkN w (if (fmt w).top < q + 2 then (fmt w).inf else if n < 2 ^ (fmt w).f then n else (q + 1) * 2 ^ (fmt w).f + (n - 2 ^ (fmt w).f)) s : Nat) : Int) := by
  have hb := fmt_bd w
  have hp : 2 ^ (fmt w).f ≤ 4503599627370496 := by
    rw [show (4503599627370496 : Nat) = 2 ^ 52 by decide]; exact Nat.pow_le_pow_right (by decide) (fmt_f w)
  have ht := (fmt w).ht
  refine Ev.step (fun _ => r3_Near.j2.eq_2 ..) (Ev.bs (r3Low w hw) (Ev.bind (r2Topw w hw) ?_))
  rw [w64_id (n := (fmt w).low + ((fmt w).top : Int)) (by omega) (by omega), w64_id (by omega) (by omega)]
  by_cases c1 : (fmt w).top < q + 2
  · rw [if_pos c1]
    exact Ev.pos (by omega) (Ev.bind (r2Infw w hw s) (Ev.out rfl))
  · rw [if_neg c1]
    refine Ev.neg (by omega) (Ev.bs (uint_dg n) (Ev.bind (r2Tfw w hw) ?_))
    rw [Nat.mod_eq_of_lt (by omega)]
    by_cases c2 : n < 2 ^ (fmt w).f
    · rw [if_pos c2]
      have := r2Makew w hw s 0 n (Nat.zero_le _) c2
      rw [Nat.zero_mul, Nat.zero_add] at this
      exact Ev.pos (by exact_mod_cast c2) (Ev.bind this (Ev.out rfl))
    · rw [if_neg c2]
      have := r2Makew w hw s (q + 1) (n - 2 ^ (fmt w).f) (by omega) (by omega)
      refine Ev.neg (by intro k; exact c2 (by exact_mod_cast k)) (Ev.bs (r3Low w hw) (Ev.bind (r2Tfw w hw) ?_))
      rw [show (q : Int) + (fmt w).low - (fmt w).low = q by omega, w64_id (n := (q : Int)) (by omega) (by omega), w64_id (by omega) (by omega), u64_id (by omega) (by omega), show (n : Int) - ((2 ^ (fmt w).f : Nat) : Int) = ((n - 2 ^ (fmt w).f : Nat) : Int) by omega]
      exact Ev.bind this (Ev.out rfl)
theorem nearS (w : Int) (hw : w = 32 ∨ w = 64) (s : Bool) (a b : Nat) (kk : Int) (ha : 0 < a) (hb : 0 < b) (ha1 : bl a < 100000) (hb1 : bl b < 100000) (hk : -10000 < kk ∧ kk < 10000) (x : Rat) (hx : x * (b : Rat) = (a : Rat) * tw kk) :
    Ev (fun k => r3_Near.f k w s (dg a) (dg b) kk) ((mkN w ((fmt w).rnd x) s : Nat) : Int) := by
  have bd := fmt_bd w
  have hff := fmt_f w
  have h3 : ∀ n : Nat, 0 < n → 2 ^ bl n ≤ 2 * n := fun n h => by
    have h1 := two_bl_le h
    have h0 := bl_pos.2 h
    have : 2 ^ bl n = 2 ^ (bl n - 1) * 2 := by rw [← Nat.pow_succ]; congr 1; omega
    omega
  have mx_ : ∀ a b : Int, mx a b = max a b := fun a b => by unfold mx; split <;> omega
  unfold r3_Near.f
  refine Ev.bs (r2Fw w hw) (Ev.bind (len_dg a (by omega)) (Ev.bind (len_dg b (by omega)) (Ev.bs (r3Low w hw) (Ev.bs (r3Low w hw) ?_))))
  rw [w64_id (n := ((bl a : Nat) : Int) - ((bl b : Nat) : Int)) (by omega) (by omega), w64_id (n := ((bl a : Nat) : Int) - ((bl b : Nat) : Int) + kk) (by omega) (by omega), w64_id (by omega) (by omega), mx_]
  obtain ⟨q0, hq0⟩ : ∃ q0, max ((bl a : Int) - bl b + kk - (fmt w).f) (fmt w).low = q0 := ⟨_, rfl⟩
  rw [hq0]
  have hqb : (fmt w).low ≤ q0 ∧ q0 < 200000 := by omega
  have hB' : (0 : Rat) < (b : Rat) := by exact_mod_cast hb
  -- the test
  have hunder : Ev (fun k => r3_under.f k (dg a) (dg b) (kk - q0 - (fmt w).f)) (decide (x < tw (q0 + (fmt w).f))) := by
    have := underS a b (kk - q0 - (fmt w).f) (by omega) (by omega) (by omega)
    have e : decide ((a : Rat) * tw (kk - q0 - (fmt w).f) < (b : Rat)) = decide (x < tw (q0 + (fmt w).f)) := by
      refine decide_eq_decide.2 ?_
      have T := tw_pos (q0 + (fmt w).f)
      have e1 : tw kk = tw (kk - q0 - (fmt w).f) * tw (q0 + (fmt w).f) := by rw [← tw_add]; congr 1; omega
      constructor
      · intro h
        have := mul_lt h T
        rw [Rat.mul_assoc, ← e1, ← hx] at this
        exact lt_of_mul (t := (b : Rat)) (by grind) hB'
      · intro h
        have := mul_lt h hB'
        rw [hx, e1, ← Rat.mul_assoc] at this
        exact lt_of_mul (t := tw (q0 + (fmt w).f)) (by grind) T
    rw [e] at this
    exact this
  obtain ⟨q1, hq1⟩ : ∃ q1, (if (fmt w).low < q0 ∧ x < tw (q0 + (fmt w).f) then q0 - 1 else q0) = q1 := ⟨_, rfl⟩
  obtain ⟨d1, d2, d3⟩ := Fmt.Rnd.doc (fmt w) (h3 a ha) (lt_two_bl a) hb (h3 b hb) (lt_two_bl b) hx hq0.symm hq1.symm
  obtain ⟨q, hq⟩ := Int.eq_ofNat_of_zero_le (show 0 ≤ q1 - (fmt w).low by omega)
  have hqq : q1 = (q : Int) + (fmt w).low := by omega
  have hqn : q < 100000000 := by
    have : q1 ≤ q0 := by rw [← hq1]; split <;> omega
    omega
  obtain ⟨A, B, hBp, hAB, hg⟩ := grainS a b (kk - q1) hb (by omega) (by omega) (by omega)
  have hxe : x * (B : Rat) = (A : Rat) * tw (q + (fmt w).low) := by
    have T := tw_pos (-q1)
    have e1 : tw (-q1) * tw q1 = 1 := by rw [← tw_add, Int.add_left_neg, tw_zero]
    have e2 : tw (kk - q1) = tw kk * tw (-q1) := by rw [← tw_add]; congr 1
    have := hAB (x * tw (-q1)) (by rw [e2, ← Rat.mul_assoc, ← hx]; grind)
    rw [← this, ← hqq]
    grind
  have hx2 : x < tw (q + (fmt w).low + (fmt w).f + 1) := by rw [← hqq]; exact d2
  have hl2 : 0 < q → tw (q + (fmt w).low + (fmt w).f) ≤ x := fun h => by rw [← hqq]; exact d3 (by omega)
  obtain ⟨n1, n2⟩ := (fmt w).make_bd hx2 hl2 (fun h => (fmt w).near_lo hBp hxe h) ((fmt w).near_hi hBp hxe)
  have R := Fmt.Rnd.near (fmt w) hBp hxe hx2 hl2
  rw [(fmt w).rnd_of R, ← (fmt w).fin_eq n1 n2]
  have p2 : 2 ^ ((fmt w).f + 1) = 2 ^ (fmt w).f * 2 := Nat.pow_succ ..
  have pp := (fmt w).pow_pos
  generalize hN : rne A B = n at *
  have ln : bl n ≤ (fmt w).f + 2 := bl_le.2 (by rw [Nat.pow_succ]; omega)
  have hqs : q < 1000000 := by
    have : q1 ≤ q0 := by rw [← hq1]; split <;> omega
    omega
  have tail : Ev (fun k => r3_Near.j1 k w s kk (((fmt w).f : Nat) : Int) q1 (dg a) (dg b)) ((mkN w ((fmt w).fin q n) s : Nat) : Int) := by
    refine Ev.step (fun _ => r3_Near.j1.eq_2 ..) ?_
    rw [w64_id (n := kk - q1) (by omega) (by omega), w64_id (n := (((fmt w).f : Nat) : Int) + 1) (by omega) (by omega)]
    refine Ev.bind hg (Ev.bind (len_dg n (by omega)) ?_)
    by_cases c : n = 2 ^ ((fmt w).f + 1)
    · have hbn : bl n = (fmt w).f + 2 := by rw [c, bl_two]
      have hh := half_dg n 1 (by omega) (by decide)
      have e5 : n / 2 ^ 1 = 2 ^ (fmt w).f := by rw [c, Nat.pow_succ, Nat.pow_one]; omega
      rw [e5] at hh
      refine Ev.pos (by omega) (Ev.bind hh ?_)
      rw [w64_id (by omega) (by omega)]
      have := finS w hw s (q + 1) (2 ^ (fmt w).f) (by omega) (fun _ => Nat.le_refl _) (by omega)
      rw [show (((q + 1 : Nat) : Int) + (fmt w).low) = q1 + 1 by omega] at this
      have e6 : (fmt w).fin q n = (if (fmt w).top < q + 1 + 2 then (fmt w).inf else if 2 ^ (fmt w).f < 2 ^ (fmt w).f then 2 ^ (fmt w).f else (q + 1 + 1) * 2 ^ (fmt w).f + (2 ^ (fmt w).f - 2 ^ (fmt w).f)) := by
        unfold Fmt.fin
        rw [if_pos c, if_neg (Nat.lt_irrefl _), Nat.sub_self]
        rfl
      rw [e6]; exact this
    · have hbn : bl n ≤ (fmt w).f + 1 := bl_le.2 (by omega)
      refine Ev.neg (by omega) ?_
      have := finS w hw s q n (by omega) n2 hqs
      rw [← hqq] at this
      have e6 : (fmt w).fin q n = (if (fmt w).top < q + 2 then (fmt w).inf else if n < 2 ^ (fmt w).f then n else (q + 1) * 2 ^ (fmt w).f + (n - 2 ^ (fmt w).f)) := by
        unfold Fmt.fin
        rw [if_neg c]
      rw [e6]; exact this
  by_cases c : (fmt w).low < q0
  · refine Ev.pos c ?_
    rw [w64_id (n := kk - q0) (by omega) (by omega), w64_id (n := kk - q0 - ((fmt w).f : Int)) (by omega) (by omega)]
    refine Ev.bind hunder (Ev.step (fun _ => r3_Near.j0.eq_2 ..) ?_)
    by_cases c2 : x < tw (q0 + (fmt w).f)
    · rw [decide_eq_true c2]
      rw [if_pos ⟨c, c2⟩] at hq1
      refine Ev.pos rfl ?_
      rw [w64_id (by omega) (by omega), hq1]; exact tail
    · rw [decide_eq_false c2]
      rw [if_neg (fun h => c2 h.2)] at hq1
      refine Ev.neg (by decide) ?_
      rw [hq1]; exact tail
  · rw [if_neg (fun h => c h.1)] at hq1
    refine Ev.neg c (Ev.step (fun _ => r3_Near.j0.eq_2 ..) (Ev.neg (by decide) ?_))
    rw [hq1]; exact tail
theorem zero_mul' (w : Int) (hw : w = 32 ∨ w = 64) (s : Bool) : Ev (fun k => r2_Make.f k w s 0 0) ((mkN w 0 s : Nat) : Int) := by
  have := r2Makew w hw s 0 0 (Nat.zero_le _) ((fmt w).pow_pos)
  rwa [Nat.zero_mul] at this
theorem exactS (w : Int) (hw : w = 32 ∨ w = 64) (s : Bool) (n : Nat) (e : Int) (hn : bl n < 2900) : Ev (fun k => r3_Exact.f k w s (dg n) e) ((mkN w ((fmt w).rnd ((n : Rat) * tw e)) s : Nat) : Int) := by
  have bd := fmt_bd w
  have hff := fmt_f w
  have ht := (fmt w).ht
  unfold r3_Exact.f
  have z := zero_mul' w hw s
  by_cases h0 : n = 0
  · subst h0
    rw [show ((0 : Nat) : Rat) * tw e = 0 by simp, Fmt.rnd_zero]
    exact Ev.pos ((len_zero 0).2 rfl) (Ev.step (fun _ => r3_Exact.j0.eq_2 ..) (Ev.pos rfl (Ev.bind z (Ev.out rfl))))
  · refine Ev.neg (fun k => h0 ((len_zero n).1 k)) (Ev.step (fun _ => r3_Exact.j0.eq_2 ..) ?_)
    have hlt := lt_two_bl n
    by_cases c1 : e < -4000
    · have : (fmt w).rnd ((n : Rat) * tw e) = 0 := by
        refine (fmt w).rnd_of (Fmt.Rnd.tiny _ ?_)
        have h4 := mul_lt (nat_lt.2 hlt) (tw_pos e)
        rw [← tw_nat, ← tw_add] at h4
        have h5 : tw ((bl n : Nat) + e) ≤ tw ((fmt w).low - 1) := tw_le (by
          have : -1100 ≤ (fmt w).low := by unfold fmt; split <;> decide
          omega)
        grind
      rw [this]
      exact Ev.pos (decide_eq_true c1) (Ev.bind z (Ev.out rfl))
    · refine Ev.neg (fun k => c1 (of_decide_eq_true k)) ?_
      by_cases c2 : e > 4000
      · have : (fmt w).rnd ((n : Rat) * tw e) = (fmt w).inf := by
          refine (fmt w).rnd_inf ?_
          rw [(fmt w).val_inf]
          have h2 : ((1 : Nat) : Rat) ≤ (n : Rat) := nat_le.2 (by omega)
          have h3 := mul_le h2 (tw_pos e)
          have h4 : tw ((fmt w).top - 1 + (fmt w).low + (fmt w).f) ≤ tw e := tw_le (by
            have : ((fmt w).top : Int) - 1 + (fmt w).low + (fmt w).f ≤ 1100 := by unfold fmt; split <;> decide
            omega)
          have h5 : ((1 : Nat) : Rat) * tw e = tw e := by simp
          rw [h5] at h3
          exact Rat.le_trans h4 h3
        rw [this]
        exact Ev.pos c2 (Ev.bind (r2Infw w hw s) (Ev.out rfl))
      · refine Ev.neg c2 (Ev.bind (of_dg 1 (by decide)) (Ev.bind (nearS w hw s n 1 e (by omega) (by decide) (by omega) (by decide) (by omega) _ ?_) (Ev.out rfl)))
        simp
end Go.Proofs.Ytbpmnmceajmmcaa.Th
end
section
set_option linter.unusedVariables false
set_option linter.unusedSimpArgs false
namespace Go.Proofs.Ytbpmnmceajmmcaa.Th
open Go.RowKit Go.Proofs.YtbpmnmceajmmcaaW.PrintWords Go.Proofs.YtbpmnmceajmmcaaW.PrintLast Go.Proofs.YtbpmnmceajmmcaaW.PrintMore Go.Proofs.Ytbpmnmceajmmcaa.PA Bit Flo
theorem packE (w : Int) (hw : w = 32 ∨ w = 64) (s : Bool) (h l : Nat) (hh : h < 18446744073709551616) (hl : l < 18446744073709551616) (e : Int) (m : Bool) : round_Pack.f w s h l e m = some ((mkN w (pkm (fmt w) (wn h l) e m) s : Nat) : Int) := by
  unfold round_Pack.f
  rw [if_pos (by omega), if_pos hw, Int.toNat_natCast, Int.toNat_natCast]
theorem packV (w : Int) (hw : w = 32 ∨ w = 64) (s : Bool) (V : Nat) (hV : V < 340282366920938463463374607431768211456) (e : Int) (m : Bool) : round_Pack.f w s ((V / 18446744073709551616 : Nat) : Int) ((V % 18446744073709551616 : Nat) : Int) e m = some ((mkN w (pkm (fmt w) V e m) s : Nat) : Int) := by
  rw [packE w hw s _ _ (hi64 hV) (lo64 V), wn_div]
theorem pack1 (w : Int) (hw : w = 32 ∨ w = 64) (s : Bool) (n : Nat) (hn : n < 18446744073709551616) (e : Int) : round_Pack.f w s 0 n e false = some ((mkN w ((fmt w).rnd ((n : Rat) * tw e)) s : Nat) : Int) := by
  have := packE w hw s 0 n (by decide) hn e false
  rw [show wn 0 n = n by unfold wn; omega, pk_ex w n e (by omega)] at this
  exact this
theorem shN (w : Int) (hw : w = 32 ∨ w = 64) : shape_Nan.f w = some ((nanN w : Nat) : Int) := by rcases hw with rfl | rfl; exact shNan32; exact shNan64
theorem pv0 {p : Pt} (h : p.2.1 ≠ 1) : pv p = 0 := by unfold pv; rw [if_neg h]
theorem pv1 (s : Bool) (e : Int) (g : Nat) : pv (s, 1, e, (g : Int)) = if s then -((g : Rat) * tw e) else (g : Rat) * tw e := by
  unfold pv; rw [if_pos rfl]; simp
theorem pos_tw {g : Nat} (h : 0 < g) (e : Int) : 0 < (g : Rat) * tw e := Rat.mul_pos (by exact_mod_cast h) (tw_pos e)
def PtOk (p : Pt) : Prop := (p.2.1 = 0 ∨ p.2.1 = 1 ∨ p.2.1 = 2 ∨ p.2.1 = 3) ∧ (p.2.1 = 1 → 0 < p.2.2.2) ∧ (p.2.1 ≠ 1 → p.2.2.2 = 0 ∧ p.2.2.1 = 0) ∧ 0 ≤ p.2.2.2 ∧ p.2.2.2 < 9007199254740992 ∧ -1100 ≤ p.2.2.1 ∧ p.2.2.1 ≤ 1000
theorem opn_ok (w : Int) (hw : w = 32 ∨ w = 64) (a : Nat) : PtOk (opn w a) := by
  rcases kinds w hw a with ⟨_, h⟩ | ⟨h1, h2, h⟩ | ⟨_, h⟩ | ⟨_, h⟩ <;> rw [h]
  · exact ⟨.inl rfl, fun h => absurd h (by simp), fun _ => ⟨rfl, rfl⟩, by simp, by simp, by simp, by simp⟩
  · have h3 := ex_bd w hw _ h2
    have h4 := sg_64 w hw (magN w a)
    refine ⟨.inr (.inl rfl), fun _ => ?_, fun h => absurd rfl h, by simp, by simp; omega, by simp; omega, by simp; omega⟩
    have : 0 < (fmt w).val (magN w a) := (fmt w).val_pos.2 h1
    unfold Fmt.val at this
    rcases Nat.eq_zero_or_pos ((fmt w).sg (magN w a)) with h5 | h5
    · rw [h5] at this; simp at this
    · simp; omega
  · exact ⟨.inr (.inr (.inl rfl)), fun h => absurd h (by simp), fun _ => ⟨rfl, rfl⟩, by simp, by simp, by simp, by simp⟩
  · exact ⟨.inr (.inr (.inr rfl)), fun h => absurd h (by simp), fun _ => ⟨rfl, rfl⟩, by simp, by simp, by simp, by simp⟩
end Go.Proofs.Ytbpmnmceajmmcaa.Th
end
section
set_option linter.unusedVariables false
set_option linter.unusedSimpArgs false
namespace Go.Proofs.Ytbpmnmceajmmcaa.Th
open Go.RowKit Go.Proofs.YtbpmnmceajmmcaaW.PrintWords Go.Proofs.YtbpmnmceajmmcaaW.PrintLast Go.Proofs.YtbpmnmceajmmcaaW.PrintMore Go.Proofs.Ytbpmnmceajmmcaa.PA Bit Dig Flo
noncomputable def narG (w : Int) (s : Bool) (kd e : Int) (g : Nat) : Nat := if kd = 0 then mkN w 0 s else if kd = 1 then mkN w ((fmt w).rnd ((g : Rat) * tw e)) s else if kd = 2 then mkN w (fmt w).inf s else if kd = 3 then nanN w else 0
theorem narrowG (w : Int) (hw : w = 32 ∨ w = 64) (s : Bool) (kd e : Int) (g : Nat) (hg : g < 18446744073709551616) : round_Narrow.f w s kd e g = some ((narG w s kd e g : Nat) : Int) := by
  unfold round_Narrow.f narG
  by_cases h0 : kd = 0
  · rw [if_pos h0, if_pos h0, shZ w hw, Option.bind_some]
  · rw [if_neg h0, if_neg h0]
    by_cases h1 : kd = 1
    · rw [if_pos h1, if_pos h1, ofW g, Option.bind_some]
      show (round_Pack.f w s 0 (g : Int) e false).bind _ = _
      rw [pack1 w hw s g hg e, Option.bind_some]
    · rw [if_neg h1, if_neg h1]
      by_cases h2 : kd = 2
      · rw [if_pos h2, if_pos h2, shI w hw, Option.bind_some]
      · rw [if_neg h2, if_neg h2]
        by_cases h3 : kd = 3
        · rw [if_pos h3, if_pos h3, shN w hw, Option.bind_some]
        · rw [if_neg h3, if_neg h3]; rfl
theorem bl53 {g : Nat} (h : g < 9007199254740992) : bl g ≤ 53 := bl_le.2 h
def Can (w : Int) (r : Nat) : Prop := r = nanN w ∨ ∃ m s, m ≤ (fmt w).inf ∧ r = mkN w m s
theorem inf_sb (w : Int) (hw : w = 32 ∨ w = 64) : (fmt w).inf < sb w ∧ nanN w < sb w ∧ (fmt w).inf < nanN w ∧ nanN w = mkN w (nanN w) false := by
  rcases hw with rfl | rfl
  · rw [fmt32, inf32]; exact ⟨by decide, by decide, by decide, by decide⟩
  · rw [fmt64, inf64]; exact ⟨by decide, by decide, by decide, by decide⟩
theorem can_fx (w : Int) (s : Rat) (z : Bool) : Can w (fx w s z) := by
  unfold fx
  split
  · exact .inr ⟨_, _, Nat.zero_le _, rfl⟩
  · split <;> exact .inr ⟨_, _, (fmt w).rnd_le _, rfl⟩
theorem can_cut {w : Int} (hw : w = 32 ∨ w = 64) {r : Nat} (h : Can w r) : cutN w r = r ∧ r < 18446744073709551616 := by
  have hs := inf_sb w hw
  have h2 : 2 * sb w ≤ 18446744073709551616 := by unfold sb; split <;> decide
  rcases h with rfl | ⟨m, s, hm, rfl⟩
  · rw [hs.2.2.2, cut_mk w hw _ _ hs.2.1, ← hs.2.2.2]; exact ⟨rfl, by omega⟩
  · rw [cut_mk w hw _ _ (by omega)]
    refine ⟨rfl, ?_⟩
    unfold mkN; split <;> omega
def oneN (w : Int) : Nat := if w = 32 then 1065353216 else 4607182418800017408
theorem val_one (w : Int) (hw : w = 32 ∨ w = 64) : (fmt w).val (oneN w) = 1 ∧ oneN w < (fmt w).inf ∧ 0 < oneN w := by
  rcases hw with rfl | rfl
  · refine ⟨?_, by rw [fmt32, inf32]; decide, by decide⟩
    unfold Fmt.val
    rw [fmt32, show oneN 32 = 127 * 2 ^ f32.f + 0 by decide]
    have := Fmt.sg_mk f32 126 (2 ^ f32.f) (by decide) (fun _ => Nat.le_refl _)
    rw [show 127 * 2 ^ f32.f + 0 = 126 * 2 ^ f32.f + 2 ^ f32.f by decide, this.1, this.2]
    rw [show ((2 ^ f32.f : Nat) : Rat) = tw 23 from (tw_nat 23).symm, ← tw_add]
    exact tw_zero
  · refine ⟨?_, by rw [fmt64, inf64]; decide, by decide⟩
    unfold Fmt.val
    rw [fmt64, show oneN 64 = 1022 * 2 ^ f64.f + 2 ^ f64.f by decide]
    have := Fmt.sg_mk f64 1022 (2 ^ f64.f) (by decide) (fun _ => Nat.le_refl _)
    rw [this.1, this.2]
    rw [show ((2 ^ f64.f : Nat) : Rat) = tw 52 from (tw_nat 52).symm, ← tw_add]
    exact tw_zero
theorem wAdd {A B : Nat} (h : A + B < 340282366920938463463374607431768211456) : wide_Add.f (wH A) (wL A) (wH B) (wL B) = some (wH (A + B), wL (A + B)) := by
  have := addW (A / 18446744073709551616) (A % 18446744073709551616) (B / 18446744073709551616) (B % 18446744073709551616) (hi64 (by omega)) (lo64 A) (hi64 (by omega)) (lo64 B)
  rw [wn_div, wn_div, Nat.mod_eq_of_lt h] at this
  exact this
theorem wSub {A B : Nat} (h : A < 340282366920938463463374607431768211456) (hb : B ≤ A) : wide_Sub.f (wH A) (wL A) (wH B) (wL B) = some (wH (A - B), wL (A - B)) := by
  have := subW (A / 18446744073709551616) (A % 18446744073709551616) (B / 18446744073709551616) (B % 18446744073709551616) (hi64 (by omega)) (lo64 A) (hi64 (by omega)) (lo64 B)
  rw [wn_div, wn_div, show (A + (340282366920938463463374607431768211456 - B)) % 340282366920938463463374607431768211456 = A - B by omega] at this
  exact this
theorem wCmp (A B : Nat) : wide_Cmp.f (wH A) (wL A) (wH B) (wL B) = some (cmpN A B) := by
  have := cmpW (A / 18446744073709551616) (A % 18446744073709551616) (B / 18446744073709551616) (B % 18446744073709551616) (lo64 A) (lo64 B)
  rwa [wn_div, wn_div] at this
theorem wPack (w : Int) (hw : w = 32 ∨ w = 64) (s : Bool) (V : Nat) (hV : V < 340282366920938463463374607431768211456) (e : Int) (m : Bool) : round_Pack.f w s (wH V) (wL V) e m = some ((mkN w (pkm (fmt w) V e m) s : Nat) : Int) := packV w hw s V hV e m
theorem alignE (s t : Bool) (k1 k2 : Int) {g g2 : Nat} {e e2 : Int} (hg : g < 9007199254740992) (hg2 : g2 < 9007199254740992) (h1 : -1100 ≤ e2) (h2 : e2 ≤ e) (h3 : e ≤ 1000) {u d : Nat} (hu : (u : Int) = min (e - e2) 64) (hd : (d : Int) = e - e2 - u) :
    sum_align.f s k1 e g t k2 e2 g2 = some (wH (g * 2 ^ u), wL (g * 2 ^ u), wH (g2 / 2 ^ d), wL (g2 / 2 ^ d), e - u, decide (g2 % 2 ^ d ≠ 0)) := by
  have hp : 2 ^ u ≤ 18446744073709551616 := by
    have := Nat.pow_le_pow_right (show 0 < 2 by decide) (show u ≤ 64 by omega)
    rwa [show (2 : Nat) ^ 64 = 18446744073709551616 by decide] at this
  have hm : g * 2 ^ u < 340282366920938463463374607431768211456 := by
    have := Nat.mul_le_mul (show g ≤ 9007199254740992 by omega) hp
    omega
  unfold sum_align.f
  rw [ofW g, Option.bind_some, w64_id (n := e - e2) (by omega) (by omega)]
  have hmn : mn (e - e2) 64 = (u : Int) := by unfold mn; rw [hu]; split <;> omega
  rw [hmn]
  have hl := wLeft (V := g) (by omega) u (by omega) hm
  have hr := wRight (V := g2) (by omega) d (by omega)
  rw [(wSmall (V := g) (by omega)).1, (wSmall (V := g) (by omega)).2] at hl
  rw [(wSmall (V := g2) (by omega)).1, (wSmall (V := g2) (by omega)).2] at hr
  simp only
  rw [hl, Option.bind_some, ofW g2, Option.bind_some, w64_id (n := e - e2 - u) (by omega) (by omega), ← hd]
  simp only
  rw [hr, Option.bind_some, w64_id (n := e - u) (by omega) (by omega)]
theorem natSub {a b : Nat} (h : b ≤ a) : ((a - b : Nat) : Rat) = (a : Rat) - b := by
  obtain ⟨c, rfl⟩ := Nat.le.dest h
  rw [Nat.add_sub_cancel_left, Rat.natCast_add]; grind
theorem subMul (a b c : Rat) : (a - b) * c = a * c - b * c := by grind
theorem finOrd (w : Int) (hw : w = 32 ∨ w = 64) (s t : Bool) (k1 k2 : Int) {g g2 : Nat} {e e2 : Int} (g0 : 0 < g) (g20 : 0 < g2) (hg : g < 9007199254740992) (hg2 : g2 < 9007199254740992) (h1 : -1100 ≤ e2) (h2 : e2 ≤ e) (h3 : e ≤ 1000) :
    Ev (fun k => sum_finite.j0 k w s k1 e g t k2 e2 g2) ((fx w (pv (s, 1, e, (g : Int)) + pv (t, 1, e2, (g2 : Int))) (s && t) : Nat) : Int) := by
  obtain ⟨u, hu⟩ : ∃ u : Nat, (u : Int) = min (e - e2) 64 := ⟨(min (e - e2) 64).toNat, by omega⟩
  obtain ⟨d, hd⟩ : ∃ d : Nat, (d : Int) = e - e2 - u := ⟨(e - e2 - u).toNat, by omega⟩
  have al := alignE s t k1 k2 hg hg2 h1 h2 h3 hu hd
  obtain ⟨f1, f2, f3, f4, f5⟩ := align_eq (sa := g) (sb := g2) h2 g0 hu hd
  have hp : 2 ^ u ≤ 18446744073709551616 := by
    have := Nat.pow_le_pow_right (show 0 < 2 by decide) (show u ≤ 64 by omega)
    rwa [show (2 : Nat) ^ 64 = 18446744073709551616 by decide] at this
  have hm : g * 2 ^ u < 170141183460469231731687303715884105728 := by
    have := Nat.mul_le_mul (show g ≤ 9007199254740992 by omega) hp
    omega
  have hb : g2 / 2 ^ d ≤ g2 := Nat.div_le_self _ _
  have hA : g2 % 2 ^ d ≠ 0 → 18446744073709551616 ≤ g * 2 ^ u := fun h => by
    have := (f5 h).2
    rw [this, show (2 : Nat) ^ 64 = 18446744073709551616 by decide]
    omega
  have pX := pos_tw g0 e
  have pY := pos_tw g20 e2
  rw [pv1, pv1]
  generalize (g : Rat) * tw e = X at *
  generalize (g2 : Rat) * tw e2 = Y at *
  generalize hAA : g * 2 ^ u = A at *
  generalize hBB : g2 / 2 ^ d = B at *
  generalize hEE : e - (u : Int) = E at *
  have T := tw_pos E
  obtain ⟨lost, hl⟩ : ∃ l : Bool, decide (g2 % 2 ^ d ≠ 0) = l := ⟨_, rfl⟩
  rw [hl] at al
  have c0 : lost = false → Y = (B : Rat) * tw E := fun h => f4 (by rw [h] at hl; simpa using hl)
  have c1 : lost = true → (B : Rat) * tw E < Y ∧ 18446744073709551616 ≤ A := fun h => by
    rw [h] at hl
    have : g2 % 2 ^ d ≠ 0 := by simpa using hl
    exact ⟨(f5 this).1, hA this⟩
  clear f4 f5 hA hl
  have cast1 : ∀ n : Nat, ((n + 1 : Nat) : Rat) = (n : Rat) + 1 := fun n => by push_cast; rfl
  refine Ev.step (fun _ => sum_finite.j0.eq_2 ..) (Ev.bs al ?_)
  simp only
  by_cases hst : s = t
  · subst hst
    refine Ev.pos (by simp) (Ev.bs (wAdd (by omega)) (Ev.bs (wPack w hw s _ (by omega) E lost) (Ev.out ?_)))
    have e1 : (if s then -X else X) + (if s then -Y else Y) = if s then -(X + Y) else X + Y := by cases s <;> simp <;> grind
    rw [e1, fx_sg w (by grind)]
    cases hlo : lost
    · rw [pk_ex w _ _ (by omega), f1, c0 hlo, Rat.natCast_add, Rat.add_mul]
    · rw [pk_mo w (x := X + Y) (by omega) (by have := (c1 hlo).2; omega)]
      · have := (c1 hlo).1
        rw [Rat.natCast_add, Rat.add_mul, f1]; grind
      · rw [cast1, Rat.natCast_add, f1]
        rw [cast1] at f3
        grind
  · refine Ev.neg (by simpa using hst) (Ev.bs (wCmp A B) ?_)
    have e1 : (if s then -X else X) + (if t then -Y else Y) = if s then -(X - Y) else X - Y := by revert hst; cases s <;> cases t <;> simp <;> grind
    have e2' : (if s then -X else X) + (if t then -Y else Y) = if t then -(Y - X) else Y - X := by revert hst; cases s <;> cases t <;> simp <;> grind
    have ez : (s && t) = false := by revert hst; cases s <;> cases t <;> simp
    rcases Nat.lt_trichotomy A B with hc | hc | hc
    · have hlo : lost = false := by
        cases hlo : lost
        · rfl
        · have := (c1 hlo).2; omega
      rw [show cmpN A B = -1 by unfold cmpN; rw [if_pos hc]]
      refine Ev.neg (by decide) (Ev.pos rfl (Ev.bs (wSub (by omega) (by omega)) (Ev.bs (wPack w hw t _ (by omega) E false) (Ev.out ?_))))
      have hlt : (A : Rat) * tw E < (B : Rat) * tw E := mul_lt (nat_lt.2 hc) T
      rw [e2', fx_sg w (by rw [f1, c0 hlo]; grind), pk_ex w _ _ (by omega), f1, c0 hlo]
      rw [show ((B - A : Nat) : Rat) = (B : Rat) - A by rw [natSub (by omega)], subMul]
    · have hlo : lost = false := by
        cases hlo : lost
        · rfl
        · have := (c1 hlo).2; omega
      rw [show cmpN A B = 0 by unfold cmpN; rw [if_neg (by omega), if_neg (by omega)]]
      refine Ev.pos rfl (Ev.bs (shZ w hw false) (Ev.out ?_))
      rw [e1, f1, c0 hlo, hc, show (B : Rat) * tw E - (B : Rat) * tw E = 0 by grind, ez]
      cases s <;> simp [fx_zero]
    · rw [show cmpN A B = 1 by unfold cmpN; rw [if_neg (by omega), if_pos hc]]
      refine Ev.neg (by decide) (Ev.neg (by decide) (Ev.bs (wSub (by omega) (by omega)) ?_))
      cases hlo : lost
      · refine Ev.neg (by decide) (Ev.bs (wPack w hw s _ (by omega) E false) (Ev.out ?_))
        have hlt : (B : Rat) * tw E < (A : Rat) * tw E := mul_lt (nat_lt.2 hc) T
        rw [e1, fx_sg w (by rw [f1, c0 hlo]; grind), pk_ex w _ _ (by omega), f1, c0 hlo]
        rw [show ((A - B : Nat) : Rat) = (A : Rat) - B by rw [natSub (by omega)], subMul]
      · have h64 := (c1 hlo).2
        have hlt := (c1 hlo).1
        have hle : ((B + 1 : Nat) : Rat) * tw E ≤ (A : Rat) * tw E := mul_le (nat_le.2 (by omega)) T
        have w1 : wide_Sub.f (wH (A - B)) (wL (A - B)) 0 1 = some (wH (A - B - 1), wL (A - B - 1)) := by
          have := wSub (A := A - B) (B := 1) (by omega) (by omega)
          rwa [(wSmall (V := 1) (by decide)).1, (wSmall (V := 1) (by decide)).2] at this
        refine Ev.pos rfl (Ev.bs (show wide_Of.f 1 = some (0, 1) from rfl) (Ev.bs w1 (Ev.bs (wPack w hw s _ (by omega) E true) (Ev.out ?_))))
        rw [e1, fx_sg w (by rw [f1]; grind)]
        rw [pk_mo w (x := X - Y) (by omega) (by omega)]
        · rw [f1]
          have : ((A - B - 1 : Nat) : Rat) = (A : Rat) - B - 1 := by rw [natSub (by omega), natSub (by omega)]; rfl
          rw [this]
          rw [cast1] at f3
          grind
        · rw [f1, show A - B - 1 + 1 = A - B by omega, natSub (by omega)]
          grind
theorem pvF (s : Bool) {kd e : Int} {g : Nat} (h : kd = 1 ∨ g = 0) : pv (s, kd, e, (g : Int)) = if s then -((g : Rat) * tw e) else (g : Rat) * tw e := by
  rcases h with rfl | rfl
  · exact pv1 s e g
  · unfold pv
    simp only
    split
    · simp
    · cases s <;> simp
theorem toLow {g : Nat} {e lo : Int} {u : Nat} (h : (u : Int) = e - lo) : (g : Rat) * tw e = ((g * 2 ^ u : Nat) : Rat) * tw lo := by
  rw [show e = (u : Int) + lo by omega, tw_add, tw_nat]
  push_cast
  grind
theorem fx_sgn (w : Int) (n : Nat) (e : Int) (s : Bool) : fx w (if s then -((n : Rat) * tw e) else (n : Rat) * tw e) s = mkN w ((fmt w).rnd ((n : Rat) * tw e)) s := by
  rcases Nat.eq_zero_or_pos n with h | h
  · subst h
    rw [show ((0 : Nat) : Rat) * tw e = 0 by simp, Fmt.rnd_zero]
    cases s <;> simp [fx_zero, Rat.neg_zero]
  · exact fx_sg w (pos_tw h e) s s
theorem exactR (w : Int) (hw : w = 32 ∨ w = 64) (p q : Pt) (hp : PtOk p) (hq : PtOk q) : Ev (fun k => r4_exact.f k w p.1 p.2.1 p.2.2.1 p.2.2.2 q.1 q.2.1 q.2.2.1 q.2.2.2) ((fx w (pv p + pv q) (p.1 && q.1) : Nat) : Int) := by
  obtain ⟨s, kd, e, g⟩ := p
  obtain ⟨t, kd2, e2, g2⟩ := q
  obtain ⟨h1, h2, h0, h3, h4, h5, h6⟩ := hp
  obtain ⟨k1, k2, k0, k3, k4, k5, k6⟩ := hq
  simp only at h1 h2 h0 h3 h4 h5 h6 k1 k2 k0 k3 k4 k5 k6
  obtain ⟨g, rfl⟩ := Int.eq_ofNat_of_zero_le h3
  obtain ⟨g2, rfl⟩ := Int.eq_ofNat_of_zero_le k3
  simp only
  have f1 : kd = 1 ∨ g = 0 := by
    by_cases h : kd = 1
    · exact .inl h
    · have := (h0 h).1; exact .inr (by omega)
  have f2 : kd2 = 1 ∨ g2 = 0 := by
    by_cases h : kd2 = 1
    · exact .inl h
    · have := (k0 h).1; exact .inr (by omega)
  obtain ⟨lo, hlo⟩ : ∃ lo, mn e e2 = lo := ⟨_, rfl⟩
  have hl : lo ≤ e ∧ lo ≤ e2 ∧ (lo = e ∨ lo = e2) := by unfold mn at hlo; split at hlo <;> omega
  obtain ⟨u, hu⟩ := Int.eq_ofNat_of_zero_le (show 0 ≤ e - lo by omega)
  obtain ⟨v, hv⟩ := Int.eq_ofNat_of_zero_le (show 0 ≤ e2 - lo by omega)
  rw [pvF s f1, pvF t f2, toLow (g := g) hu.symm, toLow (g := g2) hv.symm]
  have b1 := bl53 (show g < 9007199254740992 by omega)
  have b2 := bl53 (show g2 < 9007199254740992 by omega)
  have b3 := bl_shl g u
  have b4 := bl_shl g2 v
  unfold r4_exact.f
  rw [hlo, w64_id (n := e - lo) (by omega) (by omega), w64_id (n := e2 - lo) (by omega) (by omega), hu, hv]
  refine Ev.bind (of_dg g (by omega)) (Ev.bind (shl_bl g u (by omega) (by omega)) (Ev.bind (of_dg g2 (by omega)) (Ev.bind (shl_bl g2 v (by omega) (by omega)) ?_)))
  generalize g * 2 ^ u = X at *
  generalize g2 * 2 ^ v = Y at *
  have b5 := bl_add X Y
  by_cases c1 : s = t
  · subst c1
    refine Ev.pos (by simp) (Ev.bind (add_bl X Y (by omega) (by omega)) (Ev.bind (exactS w hw s (X + Y) lo (by omega)) (Ev.out ?_)))
    rw [Bool.and_self, ← fx_sgn]
    congr 2
    push_cast
    cases s <;> simp <;> grind
  · refine Ev.neg (by simpa using c1) (Ev.bind (cmp_bl X Y (by omega) (by omega)) ?_)
    have hst : (s && t) = false := by cases s <;> cases t <;> simp at c1 ⊢
    rw [hst]
    unfold cmpN
    rcases Nat.lt_trichotomy X Y with c2 | c2 | c2
    · rw [if_pos c2]
      have b6 : bl (Y - X) ≤ bl Y := bl_mono (Nat.sub_le _ _)
      refine Ev.neg (by decide) (Ev.pos (by decide) (Ev.bind (sub_bl Y X (by omega) (by omega)) (Ev.bind (exactS w hw t (Y - X) lo (by omega)) (Ev.out ?_))))
      have P := pos_tw (show 0 < Y - X by omega) lo
      rw [← fx_sg w P t false]
      congr 2
      have e1 : ((Y - X : Nat) : Rat) = (Y : Rat) - (X : Rat) := by
        have : ((Y - X : Nat) : Rat) + (X : Rat) = (Y : Rat) := by exact_mod_cast congrArg (Nat.cast (R := Rat)) (show Y - X + X = Y by omega)
        grind
      rw [e1]
      cases s <;> cases t <;> simp at c1 ⊢ <;> grind
    · subst c2
      rw [if_neg (Nat.lt_irrefl _), if_neg (Nat.lt_irrefl _)]
      refine Ev.pos rfl (Ev.out ?_)
      rw [show (if s = true then -((X : Rat) * tw lo) else (X : Rat) * tw lo) + (if t = true then -((X : Rat) * tw lo) else (X : Rat) * tw lo) = 0 by cases s <;> cases t <;> simp at c1 ⊢ <;> grind, fx_zero]
      simp [mkN]
    · rw [if_neg (by omega), if_pos c2]
      have b6 : bl (X - Y) ≤ bl X := bl_mono (Nat.sub_le _ _)
      refine Ev.neg (by decide) (Ev.neg (by decide) (Ev.bind (sub_bl X Y (by omega) (by omega)) (Ev.bind (exactS w hw s (X - Y) lo (by omega)) (Ev.out ?_))))
      have P := pos_tw (show 0 < X - Y by omega) lo
      rw [← fx_sg w P s false]
      congr 2
      have e1 : ((X - Y : Nat) : Rat) = (X : Rat) - (Y : Rat) := by
        have : ((X - Y : Nat) : Rat) + (Y : Rat) = (X : Rat) := by exact_mod_cast congrArg (Nat.cast (R := Rat)) (show X - Y + Y = X by omega)
        grind
      rw [e1]
      cases s <;> cases t <;> simp at c1 ⊢ <;> grind
theorem partsR (w : Int) (hw : w = 32 ∨ w = 64) (p q : Pt) (hp : PtOk p) (hq : PtOk q) : Ev (fun k => r4_parts.f k w p.1 p.2.1 p.2.2.1 p.2.2.2 q.1 q.2.1 q.2.2.1 q.2.2.2) ((addP w p q : Nat) : Int) := by
  have ex := exactR w hw p q hp hq
  obtain ⟨s, kd, e, g⟩ := p
  obtain ⟨t, kd2, e2, g2⟩ := q
  simp only at ex ⊢
  unfold r4_parts.f
  by_cases n1 : kd = 3
  · subst n1
    refine Ev.pos rfl (Ev.step (fun _ => r4_parts.j0.eq_2 ..) (Ev.pos rfl (Ev.bind (r2Nanw w hw) (Ev.out ?_))))
    simp [addP]
  refine Ev.neg n1 ?_
  by_cases n2 : kd2 = 3
  · subst n2
    refine Ev.pos rfl (Ev.step (fun _ => r4_parts.j0.eq_2 ..) (Ev.pos rfl (Ev.bind (r2Nanw w hw) (Ev.out ?_))))
    simp [addP]
  refine Ev.neg n2 ?_
  by_cases i1 : kd = 2
  · subst i1
    refine Ev.pos rfl ?_
    by_cases i2 : kd2 = 2
    · subst i2
      refine Ev.pos rfl (Ev.step (fun _ => r4_parts.j0.eq_2 ..) ?_)
      by_cases c : s = t
      · subst c
        exact Ev.neg (by simp) (Ev.pos rfl (Ev.bind (r2Infw w hw s) (Ev.out (by simp [addP]))))
      · exact Ev.pos (by simpa using c) (Ev.bind (r2Nanw w hw) (Ev.out (by simp [addP, c])))
    · exact Ev.neg i2 (Ev.step (fun _ => r4_parts.j0.eq_2 ..) (Ev.neg (by decide) (Ev.pos rfl (Ev.bind (r2Infw w hw s) (Ev.out (by simp [addP, n2, i2]))))))
  · refine Ev.neg i1 (Ev.step (fun _ => r4_parts.j0.eq_2 ..) (Ev.neg (by decide) (Ev.neg i1 ?_)))
    by_cases i2 : kd2 = 2
    · subst i2
      exact Ev.pos rfl (Ev.bind (r2Infw w hw t) (Ev.out (by simp [addP, n1, i1])))
    · refine Ev.neg i2 (Ev.bind ex (Ev.out ?_))
      simp [addP, n1, n2, i1, i2]
theorem subR (w : Int) (hw : w = 32 ∨ w = 64) (a b : Nat) (ha : a < 18446744073709551616) (hb : b < 18446744073709551616) : Ev (fun k => r4_Sub.f k w a b) ((addP w (opn w a) (!(opn w b).1, (opn w b).2) : Nat) : Int) := by
  unfold r4_Sub.f
  exact Ev.bind (r2Open w hw b hb) (Ev.bind (r2Open w hw a ha) (Ev.bind (partsR w hw (opn w a) (!(opn w b).1, (opn w b).2) (opn_ok w hw a) (opn_ok w hw b)) (Ev.out rfl)))
set_option maxRecDepth 20000 in
theorem partsE (w : Int) (hw : w = 32 ∨ w = 64) (p q : Pt) (hp : PtOk p) (hq : PtOk q) : Ev (fun k => sum_parts.f k w p.1 p.2.1 p.2.2.1 p.2.2.2 q.1 q.2.1 q.2.2.1 q.2.2.2) ((addP w p q : Nat) : Int) := by
  obtain ⟨s, kd, e, g⟩ := p
  obtain ⟨t, kd2, e2, g2⟩ := q
  obtain ⟨h1, h2, h0, h3, h4, h5, h6⟩ := hp
  obtain ⟨k1, k2, k0, k3, k4, k5, k6⟩ := hq
  simp only at h1 h2 h0 h3 h4 h5 h6 k1 k2 k0 k3 k4 k5 k6
  obtain ⟨g, rfl⟩ := Int.eq_ofNat_of_zero_le h3
  obtain ⟨g2, rfl⟩ := Int.eq_ofNat_of_zero_le k3
  simp only
  have nar1 : kd = 1 → round_Narrow.f w s kd e g = some ((fx w (pv (s, 1, e, (g : Int))) true : Nat) : Int) := fun h => by
    rw [narrowG w hw s kd e g (by omega)]
    unfold narG
    rw [if_neg (by omega), if_pos h, pv1, fx_sg w (pos_tw (by have := h2 h; omega) _)]
  have nar2 : kd2 = 1 → round_Narrow.f w t kd2 e2 g2 = some ((fx w (pv (t, 1, e2, (g2 : Int))) true : Nat) : Int) := fun h => by
    rw [narrowG w hw t kd2 e2 g2 (by omega)]
    unfold narG
    rw [if_neg (by omega), if_pos h, pv1, fx_sg w (pos_tw (by have := k2 h; omega) _)]
  have fz : ∀ x z z', x ≠ 0 → fx w x z = fx w x z' := fun x z z' h => by unfold fx; rw [if_neg h, if_neg h]
  have nz1 : kd = 1 → pv (s, 1, e, (g : Int)) ≠ 0 := fun h => by
    have := pos_tw (show 0 < g by have := h2 h; omega) e
    rw [pv1]; cases s <;> simp <;> grind
  have nz2 : kd2 = 1 → pv (t, 1, e2, (g2 : Int)) ≠ 0 := fun h => by
    have := pos_tw (show 0 < g2 by have := k2 h; omega) e2
    rw [pv1]; cases t <;> simp <;> grind
  have fin : kd = 1 → kd2 = 1 → Ev (fun k => sum_finite.f k w s kd e g t kd2 e2 g2) ((fx w (pv (s, 1, e, (g : Int)) + pv (t, 1, e2, (g2 : Int))) (s && t) : Nat) : Int) := fun ha hb => by
    unfold sum_finite.f
    by_cases hlt : e < e2
    · have := finOrd w hw t s kd2 kd (g := g2) (g2 := g) (e := e2) (e2 := e) (by have := k2 hb; omega) (by have := h2 ha; omega) (by omega) (by omega) h5 (by omega) k6
      rw [Rat.add_comm, Bool.and_comm]
      exact Ev.pos hlt this
    · exact Ev.neg hlt (finOrd w hw s t kd kd2 (g := g) (g2 := g2) (e := e) (e2 := e2) (by have := h2 ha; omega) (by have := k2 hb; omega) (by omega) (by omega) k5 (by omega) h6)
  unfold sum_parts.f
  by_cases n1 : kd = 3
  · subst n1
    refine Ev.pos rfl (Ev.step (fun _ => sum_parts.j0.eq_2 ..) (Ev.pos rfl (Ev.bs (shN w hw) (Ev.out ?_))))
    simp [addP]
  refine Ev.neg n1 (Ev.step (fun _ => sum_parts.j0.eq_2 ..) ?_)
  by_cases n2 : kd2 = 3
  · subst n2
    refine Ev.pos rfl (Ev.bs (shN w hw) (Ev.out ?_))
    simp [addP]
  refine Ev.neg (by simpa using n2) ?_
  by_cases i1 : kd = 2
  · subst i1
    refine Ev.pos rfl (Ev.step (fun _ => sum_parts.j1.eq_2 ..) (Ev.pos rfl (Ev.bind (r := ((addP w (s, 2, e, (g : Int)) (t, kd2, e2, (g2 : Int)) : Nat) : Int)) ?_ (Ev.out rfl))))
    unfold sum_infinite.f
    refine Ev.pos rfl ?_
    by_cases i2 : kd2 = 2
    · subst i2
      refine Ev.pos rfl (Ev.step (fun _ => sum_infinite.j0.eq_2 ..) ?_)
      by_cases hst : s = t
      · exact Ev.neg (by simpa using hst) (Ev.bs (shI w hw s) (Ev.out (by simp [addP, hst])))
      · exact Ev.pos (by simpa using hst) (Ev.bs (shN w hw) (Ev.out (by simp [addP, hst])))
    · exact Ev.neg i2 (Ev.step (fun _ => sum_infinite.j0.eq_2 ..) (Ev.neg (by decide) (Ev.bs (shI w hw s) (Ev.out (by simp [addP, n2, i2])))))
  refine Ev.neg i1 (Ev.step (fun _ => sum_parts.j1.eq_2 ..) ?_)
  by_cases i2 : kd2 = 2
  · subst i2
    refine Ev.pos rfl (Ev.bind (r := ((addP w (s, kd, e, (g : Int)) (t, 2, e2, (g2 : Int)) : Nat) : Int)) ?_ (Ev.out rfl))
    unfold sum_infinite.f
    exact Ev.neg i1 (Ev.bs (shI w hw t) (Ev.out (by simp [addP, n1, i1])))
  refine Ev.neg (by simpa using i2) ?_
  have hA : addP w (s, kd, e, (g : Int)) (t, kd2, e2, (g2 : Int)) = fx w (pv (s, kd, e, (g : Int)) + pv (t, kd2, e2, (g2 : Int))) (s && t) := by simp [addP, n1, n2, i1, i2]
  rw [hA]
  by_cases z1 : kd = 0
  · subst z1
    refine Ev.pos rfl (Ev.step (fun _ => sum_parts.j2.eq_2 ..) ?_)
    rw [pv0 (p := (s, 0, e, (g : Int))) (by simp), Rat.zero_add]
    by_cases z2 : kd2 = 0
    · subst z2
      rw [pv0 (p := (t, 0, e2, (g2 : Int))) (by simp), fx_zero]
      refine Ev.pos rfl ?_
      cases s
      · exact Ev.neg (by decide) (Ev.bs (shZ w hw false) (Ev.out (by simp)))
      · exact Ev.pos rfl (Ev.bs (shZ w hw t) (Ev.out (by simp)))
    · have o2 : kd2 = 1 := by omega
      refine Ev.neg (by simpa using z2) (Ev.pos rfl (Ev.bs (nar2 o2) (Ev.out ?_)))
      rw [o2, fz _ true (s && t) (nz2 o2)]
  · have o1 : kd = 1 := by omega
    refine Ev.neg z1 (Ev.step (fun _ => sum_parts.j2.eq_2 ..) (Ev.neg (by decide) (Ev.neg z1 ?_)))
    by_cases z2 : kd2 = 0
    · refine Ev.pos z2 (Ev.bs (nar1 o1) (Ev.out ?_))
      rw [o1, z2, pv0 (p := (t, 0, e2, (g2 : Int))) (by simp), Rat.add_zero, fz _ true (s && t) (nz1 o1)]
    · have o2 : kd2 = 1 := by omega
      refine Ev.neg z2 (Ev.bind (fin o1 o2) (Ev.out ?_))
      rw [o1, o2]
def fl (p : Pt) : Pt := (!p.1, p.2)
theorem fl_ok {p : Pt} (h : PtOk p) : PtOk (fl p) := h
theorem sumE (w : Int) (hw : w = 32 ∨ w = 64) (a b : Nat) (ha : a < 18446744073709551616) (hb : b < 18446744073709551616) : Ev (fun k => sum_Add.f k w a b) ((addP w (opn w a) (opn w b) : Nat) : Int) := by
  unfold sum_Add.f
  refine Ev.bs (show sum_known.f w = some true by rcases hw with rfl | rfl <;> rfl) (Ev.pos rfl (Ev.bind (openS w hw a ha) (Ev.bind (openS w hw b hb) ?_)))
  exact Ev.bind (partsE w hw _ _ (opn_ok w hw a) (opn_ok w hw b)) (Ev.out rfl)
theorem subE (w : Int) (hw : w = 32 ∨ w = 64) (a b : Nat) (ha : a < 18446744073709551616) (hb : b < 18446744073709551616) : Ev (fun k => sum_Sub.f k w a b) ((addP w (opn w a) (fl (opn w b)) : Nat) : Int) := by
  unfold sum_Sub.f
  refine Ev.bs (show sum_known.f w = some true by rcases hw with rfl | rfl <;> rfl) (Ev.pos rfl (Ev.bind (openS w hw b hb) (Ev.bind (openS w hw a ha) ?_)))
  exact Ev.bind (partsE w hw (opn w a) (fl (opn w b)) (opn_ok w hw a) (fl_ok (opn_ok w hw b))) (Ev.out rfl)
theorem can_add (w : Int) (p q : Pt) : Can w (addP w p q) := by
  unfold addP
  split
  · exact .inl rfl
  · split
    · split
      · exact .inl rfl
      · exact .inr ⟨_, _, Nat.le_refl _, rfl⟩
    · split
      · exact .inr ⟨_, _, Nat.le_refl _, rfl⟩
      · exact can_fx ..
noncomputable def ev (p : Pt) : Rat := if p.2.1 = 2 then (if p.1 then -tw 5000 else tw 5000) else pv p
noncomputable def vl (w : Int) (m : Nat) : Rat := if m = (fmt w).inf then tw 5000 else (fmt w).val m
noncomputable def rd' (w : Int) (x : Rat) : Rat := if x = 0 then 0 else if x < 0 then -vl w ((fmt w).rnd (-x)) else vl w ((fmt w).rnd x)
theorem mag_bd {g : Nat} (h : g < 9007199254740992) {e : Int} (he : e ≤ 1000) : (g : Rat) * tw e < tw 5000 := by
  have h1 : (g : Rat) * tw e < ((2 ^ 53 : Nat) : Rat) * tw e := mul_lt (nat_lt.2 (by omega)) (tw_pos e)
  rw [show ((2 ^ 53 : Nat) : Rat) = tw 53 from (tw_nat 53).symm, ← tw_add] at h1
  have h2 : tw (53 + e) ≤ tw 5000 := tw_le (by omega)
  grind
theorem pv_bd {p : Pt} (hp : PtOk p) : -tw 5000 < pv p ∧ pv p < tw 5000 := by
  obtain ⟨s, kd, e, g⟩ := p
  obtain ⟨h1, h2, h0, h3, h4, h5, h6⟩ := hp
  simp only at h1 h2 h0 h3 h4 h5 h6
  obtain ⟨g, rfl⟩ := Int.eq_ofNat_of_zero_le h3
  have T := tw_pos 5000
  have b := mag_bd (show g < 9007199254740992 by omega) h6
  have n : 0 ≤ (g : Rat) * tw e := Rat.mul_nonneg (by exact_mod_cast Nat.zero_le g) (Rat.le_of_lt (tw_pos e))
  by_cases hk : kd = 1
  · subst hk
    rw [pv1]
    cases s <;> simp <;> constructor <;> grind
  · rw [pv0 (by simpa using hk)]; constructor <;> grind
theorem vl_val (w : Int) {m : Nat} (h : m < (fmt w).inf) : vl w m = (fmt w).val m := by unfold vl; rw [if_neg (by omega)]
theorem ev_mk (w : Int) (hw : w = 32 ∨ w = 64) {m : Nat} (s : Bool) (hm : m ≤ (fmt w).inf) : ev (opn w (mkN w m s)) = (if s then -vl w m else vl w m) ∧ (opn w (mkN w m s)).2.1 ≠ 3 ∧ ((opn w (mkN w m s)).2.1 = 2 ↔ m = (fmt w).inf) := by
  have hi := inf_sb w hw
  have ip := (fmt w).inf_pos
  rw [opn_mk w hw m s (by omega)]
  by_cases h0 : m = 0
  · rw [if_pos h0]
    subst h0
    refine ⟨?_, by simp, by simp; omega⟩
    unfold ev
    rw [vl_val w ip, (fmt w).val_zero]
    simp [pv0]
  · rw [if_neg h0]
    by_cases h1 : m < (fmt w).inf
    · rw [if_pos h1]
      refine ⟨?_, by simp, by simp; omega⟩
      unfold ev
      rw [vl_val w h1]
      simp only
      rw [if_neg (by decide), pv1]
      rfl
    · rw [if_neg h1, if_pos (by omega)]
      refine ⟨?_, by simp, by simp; omega⟩
      unfold ev vl
      rw [if_pos (by omega : m = (fmt w).inf)]
      simp
theorem ev_fx (w : Int) (hw : w = 32 ∨ w = 64) (x : Rat) (z : Bool) : ev (opn w (fx w x z)) = rd' w x ∧ (opn w (fx w x z)).2.1 ≠ 3 := by
  unfold fx rd'
  by_cases h0 : x = 0
  · rw [if_pos h0, if_pos h0]
    obtain ⟨e1, e2, _⟩ := ev_mk w hw z (Nat.zero_le _)
    refine ⟨?_, e2⟩
    rw [e1, vl_val w (fmt w).inf_pos, (fmt w).val_zero]
    cases z <;> simp [Rat.neg_zero]
  · rw [if_neg h0, if_neg h0]
    by_cases h1 : x < 0
    · rw [if_pos h1, if_pos h1]
      obtain ⟨e1, e2, _⟩ := ev_mk w hw true ((fmt w).rnd_le (-x))
      exact ⟨by rw [e1]; simp, e2⟩
    · rw [if_neg h1, if_neg h1]
      obtain ⟨e1, e2, _⟩ := ev_mk w hw false ((fmt w).rnd_le x)
      exact ⟨by rw [e1]; simp, e2⟩
theorem grid (w : Int) (hw : w = 32 ∨ w = 64) (a : Nat) : ∃ N : Int, pv (opn w a) = (N : Rat) * tw (fmt w).low := by
  have hval : ∀ m, ∃ N : Nat, (fmt w).val m = (N : Rat) * tw (fmt w).low := fun m => ⟨_, (fmt w).val_over ((fmt w).low_ex m)⟩
  rcases kinds w hw a with ⟨_, h⟩ | ⟨h1, h2, h⟩ | ⟨_, h⟩ | ⟨_, h⟩
  · exact ⟨0, by rw [h, pv0 (by simp)]; simp⟩
  · obtain ⟨N, hN⟩ := hval (magN w a)
    unfold Fmt.val at hN
    rw [h, pv1, hN]
    cases sgB w a
    · exact ⟨(N : Int), by push_cast; simp⟩
    · exact ⟨-N, by push_cast; simp; grind⟩
  · exact ⟨0, by rw [h, pv0 (by simp)]; simp⟩
  · exact ⟨0, by rw [h, pv0 (by simp)]; simp⟩
theorem sub_pos (w : Int) (hw : w = 32 ∨ w = 64) (a b : Nat) (h : 0 < pv (opn w a) - pv (opn w b)) : 0 < (fmt w).rnd (pv (opn w a) - pv (opn w b)) := by
  obtain ⟨N, hN⟩ := grid w hw a
  obtain ⟨M, hM⟩ := grid w hw b
  have T := tw_pos (fmt w).low
  refine (fmt w).rnd_pos ?_
  have e : pv (opn w a) - pv (opn w b) = ((N - M : Int) : Rat) * tw (fmt w).low := by rw [hN, hM]; push_cast; grind
  rw [e] at h ⊢
  have h1 : 0 < N - M := by
    have : (0 : Rat) * tw (fmt w).low < ((N - M : Int) : Rat) * tw (fmt w).low := by rw [Rat.zero_mul]; exact h
    have := lt_of_mul this T
    exact_mod_cast this
  have h2 : ((1 : Int) : Rat) ≤ ((N - M : Int) : Rat) := by exact_mod_cast h1
  have h3 := mul_le h2 T
  have h4 : ((1 : Int) : Rat) * tw (fmt w).low = tw (fmt w).low := by simp
  rw [h4] at h3
  exact h3
noncomputable def cmpE (p q : Pt) : Int := if p.2.1 = 3 ∨ q.2.1 = 3 then 2 else if ev p < ev q then -1 else if ev q < ev p then 1 else 0
theorem j1E (w : Int) (hw : w = 32 ∨ w = 64) (a b : Nat) (ha : a < 18446744073709551616) (hb : b < 18446744073709551616) {m : Nat} {s : Bool} (h : addP w (opn w a) (fl (opn w b)) = mkN w m s) (hm : m ≤ (fmt w).inf) :
    Ev (fun k => r4_Cmp.j1 k w a b false) (if m = 0 then 0 else if s then -1 else 1) := by
  have hi := inf_sb w hw
  have e1 := subR w hw a b ha hb
  rw [show ((!(opn w b).1, (opn w b).2) : Pt) = fl (opn w b) from rfl, h] at e1
  have hlt : mkN w m s < 18446744073709551616 := h ▸ (can_cut hw (can_add w (opn w a) (fl (opn w b)))).2
  refine Ev.step (fun _ => r4_Cmp.j1.eq_2 ..) (Ev.neg (by decide) (Ev.bind e1 (Ev.bind (r2Open w hw _ hlt) ?_)))
  rw [opn_mk w hw m s (by omega)]
  by_cases h0 : m = 0
  · rw [if_pos h0, if_pos h0]
    exact Ev.pos rfl (Ev.out rfl)
  · rw [if_neg h0, if_neg h0]
    by_cases h1 : m < (fmt w).inf
    · rw [if_pos h1]
      refine Ev.neg (by simp) ?_
      cases s
      · exact Ev.neg (by simp) (Ev.out rfl)
      · exact Ev.pos rfl (Ev.out rfl)
    · rw [if_neg h1, if_pos (show m = (fmt w).inf by omega)]
      refine Ev.neg (by simp) ?_
      cases s
      · exact Ev.neg (by simp) (Ev.out rfl)
      · exact Ev.pos rfl (Ev.out rfl)
theorem pv_fl (p : Pt) : pv (fl p) = -pv p := by
  unfold fl pv
  simp only
  split
  · cases p.1 <;> simp [Rat.neg_neg]
  · rw [Rat.neg_zero]
theorem j1V (w : Int) (hw : w = 32 ∨ w = 64) (a b : Nat) (ha : a < 18446744073709551616) (hb : b < 18446744073709551616) (n1 : (opn w a).2.1 ≠ 3) (n2 : (opn w b).2.1 ≠ 3) (hi : ¬ ((opn w a).2.1 = 2 ∧ (opn w b).2.1 = 2 ∧ (opn w a).1 = (opn w b).1)) :
    Ev (fun k => r4_Cmp.j1 k w a b false) (cmpE (opn w a) (opn w b)) := by
  have T := tw_pos 5000
  have ip := (fmt w).inf_pos
  have ba := pv_bd (opn_ok w hw a)
  have bb := pv_bd (opn_ok w hw b)
  have sp := sub_pos w hw a b
  have sq := sub_pos w hw b a
  have key := fun {m s} => @j1E w hw a b ha hb m s
  unfold cmpE
  rw [if_neg (by omega)]
  generalize opn w a = p at *
  generalize opn w b = q at *
  have hf3 : (fl q).2.1 = q.2.1 := rfl
  by_cases i1 : p.2.1 = 2
  · have hA : addP w p (fl q) = mkN w (fmt w).inf p.1 := by
      unfold addP
      rw [if_neg (by rw [hf3]; omega), if_pos i1]
      by_cases i2 : q.2.1 = 2
      · have hne : p.1 ≠ q.1 := fun e => hi ⟨i1, i2, e⟩
        have : p.1 = (fl q).1 := by unfold fl; simp only; cases hp : p.1 <;> cases hq : q.1 <;> simp_all
        rw [if_neg (fun x => x.2 this)]
      · rw [if_neg (fun x => i2 x.1)]
    have := key hA (Nat.le_refl _)
    rw [if_neg (by omega)] at this
    have e1 : ev p = if p.1 then -tw 5000 else tw 5000 := by unfold ev; rw [if_pos i1]
    have hq : p.1 = true → -tw 5000 < ev q := fun h => by
      unfold ev
      split
      · rename_i i2
        have : q.1 = false := by cases hq : q.1; rfl; exact absurd ⟨i1, i2, by rw [h, hq]⟩ hi
        rw [this]; simp; grind
      · exact bb.1
    have hq2 : p.1 = false → ev q < tw 5000 := fun h => by
      unfold ev
      split
      · rename_i i2
        have : q.1 = true := by cases hq : q.1; exact absurd ⟨i1, i2, by rw [h, hq]⟩ hi; rfl
        rw [this]; simp; grind
      · exact bb.2
    rw [e1]
    cases hs : p.1
    · rw [hs] at this
      have h2 := hq2 hs
      simp only [Bool.false_eq_true, if_false] at this ⊢
      rw [if_neg (by grind), if_pos h2]; exact this
    · rw [hs] at this
      have h2 := hq hs
      simp only [if_true] at this ⊢
      rw [if_pos h2]; exact this
  · have e1 : ev p = pv p := by unfold ev; rw [if_neg i1]
    rw [e1]
    by_cases i2 : q.2.1 = 2
    · have hA : addP w p (fl q) = mkN w (fmt w).inf (!q.1) := by
        unfold addP
        rw [if_neg (by rw [hf3]; omega), if_neg i1, if_pos (show (fl q).2.1 = 2 from i2)]; rfl
      have := key hA (Nat.le_refl _)
      rw [if_neg (by omega)] at this
      have e2 : ev q = if q.1 then -tw 5000 else tw 5000 := by unfold ev; rw [if_pos i2]
      rw [e2]
      cases hs : q.1
      · rw [hs] at this
        simp only [Bool.false_eq_true, if_false, Bool.not_false, if_true] at this ⊢
        rw [if_pos ba.2]; exact this
      · rw [hs] at this
        simp only [Bool.false_eq_true, if_false, Bool.not_true, if_true] at this ⊢
        rw [if_neg (by grind), if_pos ba.1]; exact this
    · have e2 : ev q = pv q := by unfold ev; rw [if_neg i2]
      rw [e2]
      have hA : addP w p (fl q) = fx w (pv p - pv q) (p.1 && (fl q).1) := by
        unfold addP
        rw [if_neg (by rw [hf3]; omega), if_neg i1, if_neg (show ¬ (fl q).2.1 = 2 from i2), pv_fl, show pv p + -pv q = pv p - pv q by grind]
      unfold fx at hA
      by_cases c0 : pv p - pv q = 0
      · rw [if_pos c0] at hA
        have := key hA (Nat.zero_le _)
        rw [if_pos rfl] at this
        rw [if_neg (by grind), if_neg (by grind)]; exact this
      · rw [if_neg c0] at hA
        by_cases c1 : pv p - pv q < 0
        · rw [if_pos c1, show -(pv p - pv q) = pv q - pv p by grind] at hA
          have h0 := sq (by grind)
          have := key hA ((fmt w).rnd_le _)
          rw [if_neg (by omega)] at this
          rw [if_pos (by grind)]; exact this
        · rw [if_neg c1] at hA
          have h0 := sp (by grind)
          have := key hA ((fmt w).rnd_le _)
          rw [if_neg (by omega)] at this
          rw [if_neg (by grind), if_pos (by grind)]; exact this
theorem cmpR (w : Int) (hw : w = 32 ∨ w = 64) (a b : Nat) (ha : a < 18446744073709551616) (hb : b < 18446744073709551616) : Ev (fun k => r4_Cmp.f k w a b) (cmpE (opn w a) (opn w b)) := by
  unfold r4_Cmp.f
  refine Ev.bind (r2Open w hw a ha) (Ev.bind (r2Open w hw b hb) ?_)
  by_cases n1 : (opn w a).2.1 = 3
  · refine Ev.pos n1 (Ev.step (fun _ => r4_Cmp.j0.eq_2 ..) (Ev.pos rfl (Ev.out ?_)))
    unfold cmpE; rw [if_pos (.inl n1)]
  · refine Ev.neg n1 (Ev.step (fun _ => r4_Cmp.j0.eq_2 ..) ?_)
    by_cases n2 : (opn w b).2.1 = 3
    · refine Ev.pos (by simpa using n2) (Ev.out ?_)
      unfold cmpE; rw [if_pos (.inr n2)]
    · refine Ev.neg (by simpa using n2) ?_
      have V := j1V w hw a b ha hb n1 n2
      by_cases i1 : (opn w a).2.1 = 2
      · refine Ev.pos i1 ?_
        by_cases i2 : (opn w b).2.1 = 2
        · refine Ev.pos i2 ?_
          by_cases hs : (opn w a).1 = (opn w b).1
          · rw [show ((opn w a).1 == (opn w b).1) = true by simpa using hs]
            refine Ev.step (fun _ => r4_Cmp.j1.eq_2 ..) (Ev.pos rfl (Ev.out ?_))
            have e : ev (opn w a) = ev (opn w b) := by unfold ev; rw [if_pos i1, if_pos i2, hs]
            unfold cmpE; rw [if_neg (by omega), e, if_neg (by grind), if_neg (by grind)]
          · rw [show ((opn w a).1 == (opn w b).1) = false by simpa using hs]
            exact V (fun x => hs x.2.2)
        · exact Ev.neg i2 (V (fun x => i2 x.2.1))
      · exact Ev.neg i1 (V (fun x => i1 x.1))
theorem dblV (w : Int) (hw : w = 32 ∨ w = 64) {ma mb : Nat} (h0 : 0 < ma) (ha : ma < (fmt w).inf) (hb : mb < (fmt w).inf) (h : ¬ rd' w ((fmt w).val ma + (fmt w).val ma) < (fmt w).val mb) : (fmt w).val mb ≤ (fmt w).val ma + (fmt w).val ma := by
  rcases Decidable.em ((fmt w).val mb ≤ (fmt w).val ma + (fmt w).val ma) with h1 | h1
  · exact h1
  · exfalso
    have hp := (fmt w).val_pos.2 h0
    obtain ⟨m, hm⟩ := (fmt w).val_repr (n := (fmt w).sg ma) (e := (fmt w).ex ma + 1) (Nat.le_of_lt ((fmt w).sg_lt ma)) (by have := (fmt w).low_ex ma; omega)
    have e : (fmt w).val m = (fmt w).val ma + (fmt w).val ma := by
      rw [hm, tw_succ]
      have : (fmt w).val ma = ((fmt w).sg ma : Rat) * tw ((fmt w).ex ma) := rfl
      rw [this]; grind
    have hlt : m < mb := (fmt w).val_lt_iff.1 (by rw [e]; grind)
    refine h ?_
    rw [← e]
    unfold rd'
    rw [if_neg (by rw [e]; grind), if_neg (by rw [e]; grind), (fmt w).rnd_val (by omega), vl_val w (by omega)]
    exact (fmt w).val_lt hlt
theorem ster (w : Int) (hw : w = 32 ∨ w = 64) {ma mb : Nat} (h1 : (fmt w).val mb ≤ (fmt w).val ma) (h2 : (fmt w).val ma ≤ (fmt w).val mb + (fmt w).val mb) : ∃ m, (fmt w).val m = (fmt w).val ma - (fmt w).val mb := by
  obtain ⟨lo, hlo⟩ : ∃ lo, min ((fmt w).ex ma) ((fmt w).ex mb) = lo := ⟨_, rfl⟩
  have T := tw_pos lo
  have ea := (fmt w).val_over (m := ma) (e := lo) (by omega)
  have eb := (fmt w).val_over (m := mb) (e := lo) (by omega)
  have la := (fmt w).sg_lt ma
  have lb := (fmt w).sg_lt mb
  have low : (fmt w).low ≤ lo := by have := (fmt w).low_ex ma; have := (fmt w).low_ex mb; omega
  have hX : ∀ X Y : Nat, ((fmt w).val ma = (X : Rat) * tw lo) → ((fmt w).val mb = (Y : Rat) * tw lo) → (X < 2 ^ ((fmt w).f + 1) ∨ Y < 2 ^ ((fmt w).f + 1)) → ∃ m, (fmt w).val m = (fmt w).val ma - (fmt w).val mb := by
    intro X Y hx hy hb
    rw [hx, hy] at h1 h2
    have k1 : Y ≤ X := nat_le.1 (le_of_mul h1 T)
    have k2 : X ≤ Y + Y := by
      refine nat_le.1 (le_of_mul (t := tw lo) ?_ T)
      push_cast; grind
    obtain ⟨m, hm⟩ := (fmt w).val_repr (n := X - Y) (e := lo) (by omega) low
    refine ⟨m, ?_⟩
    rw [hm, hx, hy]
    have e1 : ((X - Y : Nat) : Rat) = (X : Rat) - (Y : Rat) := by
      have : ((X - Y : Nat) : Rat) + (Y : Rat) = (X : Rat) := by exact_mod_cast congrArg (Nat.cast (R := Rat)) (show X - Y + Y = X by omega)
      grind
    rw [e1]; grind
  refine hX _ _ ea eb ?_
  rcases (show lo = (fmt w).ex ma ∨ lo = (fmt w).ex mb by omega) with h | h
  · left
    rw [show ((fmt w).ex ma - lo).toNat = 0 by omega, Nat.pow_zero, Nat.mul_one]; exact la
  · right
    rw [show ((fmt w).ex mb - lo).toNat = 0 by omega, Nat.pow_zero, Nat.mul_one]; exact lb
theorem sub_ex (w : Int) (hw : w = 32 ∨ w = 64) {ma mb : Nat} (ha : ma < (fmt w).inf) (hb : mb < (fmt w).inf) (h1 : (fmt w).val ma ≤ (fmt w).val mb + (fmt w).val mb) (h2 : (fmt w).val mb ≤ (fmt w).val ma + (fmt w).val ma) :
    ∃ m s, m < (fmt w).inf ∧ fx w ((fmt w).val ma - (fmt w).val mb) false = mkN w m s ∧ pv (opn w (mkN w m s)) = (fmt w).val ma - (fmt w).val mb ∧ (opn w (mkN w m s)).2.1 ≠ 3 ∧ (opn w (mkN w m s)).2.1 ≠ 2 := by
  have na := (fmt w).val_nonneg ma
  have nb := (fmt w).val_nonneg mb
  have fin : ∀ m s, m < (fmt w).inf → pv (opn w (mkN w m s)) = (if s then -(fmt w).val m else (fmt w).val m) ∧ (opn w (mkN w m s)).2.1 ≠ 3 ∧ (opn w (mkN w m s)).2.1 ≠ 2 := by
    intro m s hm
    obtain ⟨e1, e2, e3⟩ := ev_mk w hw s (Nat.le_of_lt hm)
    have e4 : (opn w (mkN w m s)).2.1 ≠ 2 := fun h => by have := e3.1 h; omega
    refine ⟨?_, e2, e4⟩
    unfold ev at e1
    rw [if_neg e4, vl_val w hm] at e1
    exact e1
  have dn : ∀ {m mc : Nat} {x : Rat}, mc < (fmt w).inf → (fmt w).val m = x → x ≤ (fmt w).val mc → m < (fmt w).inf := fun {m mc x} hm e h => by
    have := ((fmt w).val_le_iff (a := m) (b := mc)).1 (by rw [e]; exact h)
    omega
  by_cases c0 : (fmt w).val ma - (fmt w).val mb = 0
  · refine ⟨0, false, (fmt w).inf_pos, ?_, ?_⟩
    · unfold fx; rw [if_pos c0]
    · obtain ⟨e1, e2, e3⟩ := fin 0 false (fmt w).inf_pos
      refine ⟨?_, e2, e3⟩
      rw [e1, c0, (fmt w).val_zero]; simp
  · by_cases c1 : (fmt w).val ma - (fmt w).val mb < 0
    · obtain ⟨m, hm⟩ := ster w hw (ma := mb) (mb := ma) (by grind) h2
      have hlt := dn hb hm (by grind)
      refine ⟨m, true, hlt, ?_, ?_⟩
      · unfold fx
        rw [if_neg c0, if_pos c1, show -((fmt w).val ma - (fmt w).val mb) = (fmt w).val mb - (fmt w).val ma by grind, ← hm, (fmt w).rnd_val (by omega)]
      · obtain ⟨e1, e2, e3⟩ := fin m true hlt
        refine ⟨?_, e2, e3⟩
        rw [e1, hm]; simp; grind
    · obtain ⟨m, hm⟩ := ster w hw (ma := ma) (mb := mb) (by grind) h1
      have hlt := dn ha hm (by grind)
      refine ⟨m, false, hlt, ?_, ?_⟩
      · unfold fx
        rw [if_neg c0, if_neg c1, ← hm, (fmt w).rnd_val (by omega)]
      · obtain ⟨e1, e2, e3⟩ := fin m false hlt
        refine ⟨?_, e2, e3⟩
        rw [e1, hm]; simp
theorem awake04C : Ev (fun k => L04_awake.f k) true := Ev.of (fun k => L04_awake.mono k) (k := 12) (by decide +kernel)
theorem cmp_dbl (w : Int) (hw : w = 32 ∨ w = 64) {p q : Pt} (hp : p.2.1 = 1) (hq : q.2.1 = 1) (h : ¬ cmpE (opn w (addP w p p)) q < 0) : ¬ rd' w (pv p + pv p) < pv q := by
  intro l
  have hA : addP w p p = fx w (pv p + pv p) (p.1 && p.1) := by
    unfold addP
    rw [if_neg (by omega), if_neg (by omega), if_neg (by omega)]
  obtain ⟨e1, e2⟩ := ev_fx w hw (pv p + pv p) (p.1 && p.1)
  rw [hA] at h
  unfold cmpE at h
  rw [if_neg (by omega), e1, show ev q = pv q by unfold ev; rw [if_neg (by omega)], if_pos l] at h
  exact h (by decide)
theorem SumCloseP : L04_SumClose.Pure := by
  intro w a b hw0 ha0 hb0
  obtain ⟨ha1, ha2⟩ := wf_u64 ha0
  obtain ⟨a, rfl⟩ := Int.eq_ofNat_of_zero_le ha1
  have ha : a < 18446744073709551616 := by omega
  obtain ⟨hb1, hb2⟩ := wf_u64 hb0
  obtain ⟨b, rfl⟩ := Int.eq_ofNat_of_zero_le hb1
  have hb : b < 18446744073709551616 := by omega
  refine Ev.rounds ?_
  unfold L04_SumClose.f
  refine Ev.bind awake04C (Ev.pos rfl (Ev.bs (known_f w) ?_))
  by_cases hw : w = 32 ∨ w = 64
  · rw [decide_eq_true hw]
    have out : Ev (fun k => L04_SumClose.j0 k w a b true) true := Ev.step (fun _ => L04_SumClose.j0.eq_2 ..) (Ev.pos rfl (Ev.out rfl))
    refine Ev.pos rfl (Ev.bind (r2Open w hw a ha) (Ev.bind (r2Open w hw b hb) ?_))
    by_cases k1 : (opn w a).2.1 = 1
    · refine Ev.pos k1 ?_
      by_cases k2 : (opn w b).2.1 = 1
      · refine Ev.pos k2 ?_
        by_cases s1 : (opn w a).1 = true
        · exact Ev.pos s1 out
        · refine Ev.neg s1 ?_
          by_cases s2 : (opn w b).1 = true
          · exact Ev.pos s2 out
          · refine Ev.neg s2 (Ev.bind (sumE w hw a a ha ha) (Ev.bind (cmpR w hw _ b (can_cut hw (can_add w _ _)).2 hb) ?_))
            by_cases c1 : cmpE (opn w (addP w (opn w a) (opn w a))) (opn w b) < 0
            · exact Ev.pos c1 out
            · refine Ev.neg c1 (Ev.bind (sumE w hw b b hb hb) (Ev.bind (cmpR w hw _ a (can_cut hw (can_add w _ _)).2 ha) ?_))
              by_cases c2 : cmpE (opn w (addP w (opn w b) (opn w b))) (opn w a) < 0
              · rw [decide_eq_true c2]; exact out
              · rw [decide_eq_false c2]
                have d1 := cmp_dbl w hw k1 k2 c1
                have d2 := cmp_dbl w hw k2 k1 c2
                have s1' : (opn w a).1 = false := by cases h : (opn w a).1; rfl; exact absurd h s1
                have s2' : (opn w b).1 = false := by cases h : (opn w b).1; rfl; exact absurd h s2
                rcases kinds w hw a with ⟨_, hk⟩ | ⟨a1, a2, hka⟩ | ⟨_, hk⟩ | ⟨_, hk⟩
                · rw [hk] at k1; exact absurd k1 (by simp)
                · rcases kinds w hw b with ⟨_, hk⟩ | ⟨b1, b2, hkb⟩ | ⟨_, hk⟩ | ⟨_, hk⟩
                  · rw [hk] at k2; exact absurd k2 (by simp)
                  · have ga : sgB w a = false := by rw [hka] at s1'; exact s1'
                    have gb : sgB w b = false := by rw [hkb] at s2'; exact s2'
                    have va : pv (opn w a) = (fmt w).val (magN w a) := by rw [hka, pv1, ga]; simp; rfl
                    have vb : pv (opn w b) = (fmt w).val (magN w b) := by rw [hkb, pv1, gb]; simp; rfl
                    rw [va, vb] at d1 d2
                    have e1 := dblV w hw a1 a2 b2 d1
                    have e2 := dblV w hw b1 b2 a2 d2
                    obtain ⟨m, s, hm, hfx, hpv, hn3, hn2⟩ := sub_ex w hw a2 b2 e2 e1
                    have hS : addP w (opn w a) (fl (opn w b)) = mkN w m s := by
                      unfold addP
                      rw [if_neg (by rw [show (fl (opn w b)).2.1 = (opn w b).2.1 from rfl]; omega), if_neg (by omega), if_neg (by rw [show (fl (opn w b)).2.1 = (opn w b).2.1 from rfl]; omega), pv_fl, va, vb, s1', Bool.false_and, show (fmt w).val (magN w a) + -(fmt w).val (magN w b) = (fmt w).val (magN w a) - (fmt w).val (magN w b) by grind]
                      exact hfx
                    have hlt : mkN w m s < 18446744073709551616 := hS ▸ (can_cut hw (can_add w (opn w a) (fl (opn w b)))).2
                    have o1 := subE w hw a b ha hb
                    rw [hS] at o1
                    have o2 := sumE w hw (mkN w m s) b hlt hb
                    have hT : addP w (opn w (mkN w m s)) (opn w b) = cutN w a := by
                      unfold addP
                      rw [if_neg (by omega), if_neg hn2, if_neg (by omega), hpv, vb, show (fmt w).val (magN w a) - (fmt w).val (magN w b) + (fmt w).val (magN w b) = (fmt w).val (magN w a) by grind, fx_pos w ((fmt w).val_pos.2 a1), (fmt w).rnd_val (by omega), cut_as_mk w hw a ha, ga]
                    rw [hT] at o2
                    exact Ev.step (fun _ => L04_SumClose.j0.eq_2 ..) (Ev.neg (by decide) (Ev.bind o1 (Ev.bind o2 (Ev.bs (r2Cut w a hw) (Ev.out (by simp))))))
                  · rw [hk] at k2; exact absurd k2 (by simp)
                  · rw [hk] at k2; exact absurd k2 (by simp)
                · rw [hk] at k1; exact absurd k1 (by simp)
                · rw [hk] at k1; exact absurd k1 (by simp)
      · exact Ev.neg k2 out
    · exact Ev.neg k1 out
  · rw [decide_eq_false hw]
    exact Ev.neg (by decide) (Ev.out rfl)
end Go.Proofs.Ytbpmnmceajmmcaa.Th
end
namespace Go.Proofs.Ytbpmnmceajmmcaa.Pure
theorem SumClose : Go.Proofs.Ytbpmnmceajmmcaa.PA.L04_SumClose.Pure := Go.Proofs.Ytbpmnmceajmmcaa.Th.SumCloseP
end Go.Proofs.Ytbpmnmceajmmcaa.Pure
namespace Go.Proofs.Ytbpmnmceajmmcaa.Facts
abbrev ch (n : Nat) : Char := Char.ofNat n
theorem words_word (w : List Char) (r : List Char) (h : w.all (fun c => c != ch 32) = true) : wordsSigns (w ++ ch 32 :: r) = w :: wordsSigns r := by
  induction w with
  | nil => rfl
  | cons c w ih =>
    rw [List.all_cons, Bool.and_eq_true] at h
    have hc : c ≠ ch 32 := bne_iff_ne.1 h.1
    rw [List.cons_append]
    rw [wordsSigns.eq_3 c _ (fun e => hc e), ih h.2]
def w1 : List Char := [ch 104, ch 97, ch 114, ch 110, ch 101, ch 115, ch 115]
def w2 : List Char := [ch 97, ch 57, ch 99, ch 102, ch 100, ch 53, ch 99, ch 57, ch 100, ch 54, ch 48, ch 56, ch 102, ch 100, ch 52, ch 54, ch 54, ch 52, ch 54, ch 53, ch 57, ch 56, ch 53, ch 100, ch 57, ch 55, ch 54, ch 57, ch 102, ch 102, ch 100, ch 56, ch 53, ch 100, ch 49, ch 56, ch 54, ch 56, ch 53, ch 55, ch 54, ch 97, ch 49, ch 53, ch 100, ch 100, ch 56, ch 49, ch 54, ch 55, ch 99, ch 101, ch 56, ch 52, ch 54, ch 98, ch 102, ch 55, ch 57, ch 48, ch 52, ch 55, ch 56, ch 49]
def w3 : List Char := [ch 99, ch 117, ch 116]
set_option maxRecDepth 100000 in
def tailSigns : List Char := [ch 97, ch 116, ch 32, ch 116, ch 114, ch 117, ch 110, ch 110, ch 105, ch 111, ch 110, ch 47, ch 116, ch 114, ch 117, ch 110, ch 110, ch 105, ch 111, ch 110, ch 108, ch 97, ch 119, ch 48, ch 53, ch 46, ch 80, ch 114, ch 111, ch 100, ch 117, ch 99, ch 116, ch 84, ch 119, ch 105, ch 99, ch 101, ch 32, ch 116, ch 114, ch 117, ch 110, ch 110, ch 105, ch 111, ch 110, ch 47, ch 116, ch 114, ch 117, ch 110, ch 110, ch 105, ch 111, ch 110, ch 108, ch 97, ch 119, ch 48, ch 53, ch 46, ch 80, ch 114, ch 111, ch 100, ch 117, ch 99, ch 116, ch 83, ch 99, ch 97, ch 108, ch 101, ch 115, ch 32, ch 116, ch 114, ch 117, ch 110, ch 110, ch 105, ch 111, ch 110, ch 47, ch 116, ch 114, ch 117, ch 110, ch 110, ch 105, ch 111, ch 110, ch 108, ch 97, ch 119, ch 48, ch 54, ch 46, ch 81, ch 117, ch 111, ch 116, ch 105, ch 101, ch 110, ch 116, ch 68, ch 105, ch 118, ch 115, ch 32, ch 116, ch 114, ch 117, ch 110, ch 110, ch 105, ch 111, ch 110, ch 47, ch 116, ch 114, ch 117, ch 110, ch 110, ch 105, ch 111, ch 110, ch 108, ch 97, ch 119, ch 48, ch 54, ch 46, ch 81, ch 117, ch 111, ch 116, ch 105, ch 101, ch 110, ch 116, ch 75, ch 101, ch 101, ch 112, ch 115, ch 32, ch 116, ch 114, ch 117, ch 110, ch 110, ch 105, ch 111, ch 110, ch 47, ch 116, ch 114, ch 117, ch 110, ch 110, ch 105, ch 111, ch 110, ch 108, ch 97, ch 119, ch 48, ch 54, ch 46, ch 81, ch 117, ch 111, ch 116, ch 105, ch 101, ch 110, ch 116, ch 83, ch 99, ch 97, ch 108, ch 101, ch 32, ch 116, ch 114, ch 117, ch 110, ch 110, ch 105, ch 111, ch 110, ch 47, ch 116, ch 114, ch 117, ch 110, ch 110, ch 105, ch 111, ch 110, ch 108, ch 97, ch 119, ch 48, ch 51, ch 46, ch 82, ch 111, ch 117, ch 110, ch 100, ch 80, ch 97, ch 99, ch 107, ch 115, ch 32, ch 116, ch 114, ch 117, ch 110, ch 110, ch 105, ch 111, ch 110, ch 47, ch 116, ch 114, ch 117, ch 110, ch 110, ch 105, ch 111, ch 110, ch 108, ch 97, ch 119, ch 48, ch 51, ch 46, ch 82, ch 111, ch 117, ch 110, ch 100, ch 82, ch 105, ch 115, ch 101, ch 115, ch 32, ch 116, ch 114, ch 117, ch 110, ch 110, ch 105, ch 111, ch 110, ch 47, ch 116, ch 114, ch 117, ch 110, ch 110, ch 105, ch 111, ch 110, ch 108, ch 97, ch 119, ch 48, ch 51, ch 46, ch 82, ch 111, ch 117, ch 110, ch 100, ch 75, ch 101, ch 101, ch 112, ch 115, ch 32, ch 116, ch 114, ch 117, ch 110, ch 110, ch 105, ch 111, ch 110, ch 47, ch 116, ch 114, ch 117, ch 110, ch 110, ch 105, ch 111, ch 110, ch 108, ch 97, ch 119, ch 48, ch 52, ch 46, ch 83, ch 117, ch 109, ch 65, ch 100, ch 100, ch 115, ch 32, ch 116, ch 114, ch 117, ch 110, ch 110, ch 105, ch 111, ch 110, ch 47, ch 116, ch 114, ch 117, ch 110, ch 110, ch 105, ch 111, ch 110, ch 108, ch 97, ch 119, ch 48, ch 52, ch 46, ch 83, ch 117, ch 109, ch 79, ch 114, ch 100, ch 101, ch 114, ch 32, ch 116, ch 114, ch 117, ch 110, ch 110, ch 105, ch 111, ch 110, ch 47, ch 116, ch 114, ch 117, ch 110, ch 110, ch 105, ch 111, ch 110, ch 108, ch 97, ch 119, ch 48, ch 52, ch 46, ch 83, ch 117, ch 109, ch 67, ch 108, ch 111, ch 115, ch 101, ch 32, ch 116, ch 114, ch 117, ch 110, ch 110, ch 105, ch 111, ch 110, ch 47, ch 116, ch 114, ch 117, ch 110, ch 110, ch 105, ch 111, ch 110, ch 108, ch 97, ch 119, ch 48, ch 52, ch 46, ch 83, ch 117, ch 109, ch 84, ch 111, ch 116, ch 97, ch 108, ch 115]
set_option maxRecDepth 100000 in
theorem head_list : Try.prog.initOrder.toList = w1 ++ ch 32 :: (w2 ++ ch 32 :: (w3 ++ ch 32 :: tailSigns)) :=
  (congrArg String.toList (show Try.prog.initOrder = String.ofList (w1 ++ ch 32 :: (w2 ++ ch 32 :: (w3 ++ ch 32 :: tailSigns))) from rfl)).trans String.toList_ofList
theorem words : ∃ rest, behindMainWord (wordsSigns Try.prog.initOrder.toList) = w3 :: rest := by
  refine ⟨wordsSigns tailSigns, ?_⟩
  rw [head_list, words_word w1 _ (by kernel_rfl), words_word w2 _ (by kernel_rfl), words_word w3 _ (by kernel_rfl)]
  generalize wordsSigns tailSigns = rest
  have e : ((w1 == "harness".toList || w1 == "ownmain".toList) && isSumSigns w2) = true := by kernel_rfl
  show (if ((w1 == "harness".toList || w1 == "ownmain".toList) && isSumSigns w2) = true then w3 :: rest else w1 :: w2 :: w3 :: rest) = w3 :: rest
  rw [if_pos e]
theorem c3 : (w3 == "gc".toList) = false ∧ (w3 == "spec".toList) = false ∧ (w3 == "cut".toList) = true ∧ (w3 == "carried".toList) = false ∧ (w3 == "finals".toList) = false := ⟨by kernel_rfl, by kernel_rfl, by kernel_rfl, by kernel_rfl, by kernel_rfl⟩
theorem strip (rest : List (List Char)) : stripLifts liftWords (w3 :: rest) = ([], w3 :: rest) := by
  have key : ∀ l : List String, l.all (fun o => !(w3 == o.toList)) = true → stripLifts l (w3 :: rest) = ([], w3 :: rest) := by
    intro l
    induction l with
    | nil => intro _; rfl
    | cons o l ih =>
      intro h
      rw [List.all_cons, Bool.and_eq_true] at h
      unfold stripLifts
      rw [if_neg (fun e => by have h1 := h.1; rw [e] at h1; cases h1)]
      exact ih h.2
  exact key liftWords (by kernel_rfl)
theorem make_of (P : Program) (h : ∃ rest, behindMainWord (wordsSigns P.initOrder.toList) = w3 :: rest) : P.make = some .cut := by
  obtain ⟨rest, h⟩ := h
  unfold Program.make
  rw [h]
  show (if (w3 == "gc".toList || w3 == "spec".toList) = true then some Make.whole else if (w3 == "cut".toList || (w3 == "finals".toList && rest.head? == some "cut".toList)) = true then some Make.cut else _) = some Make.cut
  rw [if_neg (by rw [c3.1, c3.2.1]; decide), if_pos (by rw [c3.2.2.1, Bool.true_or])]
set_option maxRecDepth 100000 in
theorem liftsFact : Try.prog.liftsFinal = false := by
  unfold Program.liftsFinal Program.headLifts
  rw [head_list]
  kernel_rfl
theorem doorFact : (!Try.prog.laysLater && !Try.prog.bearsReflect && Try.prog.doorFits []) = true := by kernel_rfl
theorem makeFact : Try.prog.make = some .cut := make_of _ words
theorem enter_of (P : Program) (h : ∃ rest, behindMainWord (wordsSigns P.initOrder.toList) = w3 :: rest) (d : (!P.laysLater && !P.bearsReflect && P.doorFits []) = true) : P.mayEnter = true := by
  obtain ⟨rest, h⟩ := h
  rw [Bool.and_eq_true, Bool.and_eq_true] at d
  have e : ((some w3 == some "cut".toList) : Bool) = true := by kernel_rfl
  unfold Program.mayEnter
  rw [h]
  show ((_ || _) || ((stripLifts liftWords (w3 :: rest)).2.head? == some "cut".toList && ((stripLifts liftWords (w3 :: rest)).1.contains "finals" || !P.laysLater) && ((stripLifts liftWords (w3 :: rest)).1.contains "reflectrows" || !P.bearsReflect) &&
      ((stripLifts liftWords (w3 :: rest)).1.contains "reflectrows" || !(stripLifts liftWords (w3 :: rest)).1.contains "leanrows") && P.doorFits (stripLifts liftWords (w3 :: rest)).1)) = true
  rw [strip, Bool.or_eq_true]
  refine .inr ?_
  rw [Bool.and_eq_true, Bool.and_eq_true, Bool.and_eq_true, Bool.and_eq_true, Bool.or_eq_true, Bool.or_eq_true]
  exact ⟨⟨⟨⟨e, .inr d.1.1⟩, .inr d.1.2⟩, rfl⟩, d.2⟩
theorem enterFact : Try.prog.mayEnter = true := enter_of _ words doorFact
end Go.Proofs.Ytbpmnmceajmmcaa.Facts
