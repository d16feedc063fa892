/- What the Go functions that the statement QuotientDivs reaches compute, and the mathematics on it, in the order in which one leans on the other; for every input. -/
import Derived.Test.YtbpmnmceajmmcaaVQuotientDivs0
import Derived.Test.YtbpmnmceajmmcaaMQuotientDivs12
import Derived.Test.YtbpmnmceajmmcaaMQuotientDivs11
import Derived.Test.YtbpmnmceajmmcaaMQuotientDivs0
import Derived.Test.YtbpmnmceajmmcaaMQuotientDivs4
import Derived.Test.YtbpmnmceajmmcaaMQuotientDivs8
import Derived.Test.YtbpmnmceajmmcaaMQuotientDivs3
import Derived.Test.YtbpmnmceajmmcaaMQuotientDivs9
import Derived.Test.YtbpmnmceajmmcaaMQuotientDivs10
import Derived.Test.YtbpmnmceajmmcaaMQuotientDivs7
import Derived.Test.YtbpmnmceajmmcaaMQuotientDivs1
import Derived.Test.YtbpmnmceajmmcaaMQuotientDivs6
import Derived.Test.YtbpmnmceajmmcaaRows
import Derived.ProofKit
import Derived.JoinedOf
import Derived.KernelRfl
section
set_option linter.unusedVariables false
set_option linter.unusedSimpArgs false
namespace Go.Proofs.Ytbpmnmceajmmcaa.Th
open Go.RowKit Go.Proofs.YtbpmnmceajmmcaaW.PrintWords Go.Proofs.YtbpmnmceajmmcaaW.PrintLast Go.Proofs.YtbpmnmceajmmcaaW.PrintMore Go.Proofs.Ytbpmnmceajmmcaa.PA Bit Dig Flo
theorem r2Fw (w : Int) (hw : w = 32 ∨ w = 64) : r2_F.f w = some (((fmt w).f : Nat) : Int) := by rcases hw with rfl | rfl <;> decide +kernel
theorem r3Low (w : Int) (hw : w = 32 ∨ w = 64) : r3_Low.f w = some (fmt w).low := by rcases hw with rfl | rfl <;> decide +kernel
theorem r2Topw (w : Int) (hw : w = 32 ∨ w = 64) : Ev (fun k => r2_Top.f k w) (((fmt w).top : Nat) : Int) := by rcases hw with rfl | rfl; exact r2Top32; exact r2Top64
theorem r2Tfw (w : Int) (hw : w = 32 ∨ w = 64) : Ev (fun k => r2_Two.f k (((fmt w).f : Nat) : Int)) ((2 ^ (fmt w).f : Nat) : Int) := two_f _ (by have := (fmt_f w); omega)
theorem r2Infw (w : Int) (hw : w = 32 ∨ w = 64) (s : Bool) : Ev (fun k => r2_Inf.f k w s) ((mkN w (fmt w).inf s : Nat) : Int) := by rcases hw with rfl | rfl; exact r2Inf32 s; exact r2Inf64 s
theorem r2Nanw (w : Int) (hw : w = 32 ∨ w = 64) : Ev (fun k => r2_Nan.f k w) ((nanN w : Nat) : Int) := by rcases hw with rfl | rfl; exact r2Nan32; exact r2Nan64
theorem r2Makew (w : Int) (hw : w = 32 ∨ w = 64) (s : Bool) (e fr : Nat) (he : e ≤ (fmt w).top) (hf : fr < 2 ^ (fmt w).f) : Ev (fun k => r2_Make.f k w s e fr) ((mkN w (e * 2 ^ (fmt w).f + fr) s : Nat) : Int) := by
  rcases hw with rfl | rfl
  · exact r2Make32 s e fr he hf
  · exact r2Make64 s e fr he hf
theorem quotS (a b : Nat) (hb : 0 < b) (ha1 : bl a < 10000000) (hb1 : bl b < 10000000) : Ev (fun k => r3_Quotient.f k (dg a) (dg b)) (dg (rne a b)) := by
  unfold r3_Quotient.f
  have hm : bl (a % b) ≤ bl a := bl_mono (Nat.mod_le _ _)
  have hq : bl (a / b) ≤ bl a := bl_mono (Nat.div_le_self _ _)
  have hs := bl_shl (a % b) 1
  refine Ev.bind (div_dg a b hb (by omega) (by omega)) (Ev.bind (shl_bl (a % b) 1 (by decide) (by omega)) ?_)
  rw [show a % b * 2 ^ 1 = 2 * (a % b) by omega] at *
  refine Ev.bind (cmp_bl _ b (by omega) (by omega)) ?_
  have yes : Ev (fun k => r3_Quotient.j0 k true (dg (a / b))) (dg (a / b + 1)) :=
    Ev.step (fun _ => r3_Quotient.j0.eq_2 ..) (Ev.pos rfl (Ev.bind (of_dg 1 (by decide)) (Ev.bind (add_bl (a / b) 1 (by omega) (by decide)) (Ev.out rfl))))
  have no : Ev (fun k => r3_Quotient.j0 k false (dg (a / b))) (dg (a / b)) :=
    Ev.step (fun _ => r3_Quotient.j0.eq_2 ..) (Ev.neg (by decide) (Ev.out rfl))
  unfold cmpN rne
  by_cases h1 : b < 2 * (a % b)
  · rw [if_neg (show ¬ 2 * (a % b) < b by omega), if_pos h1, if_pos (.inl h1)]
    exact Ev.pos (by decide) yes
  · by_cases h2 : 2 * (a % b) = b
    · rw [if_neg (show ¬ 2 * (a % b) < b by omega), if_neg h1]
      refine Ev.neg (by decide) (Ev.pos rfl (Ev.bs (uint_dg _) ?_))
      have e : (Int.tmod ((a / b % 18446744073709551616 : Nat) : Int) 2 == 1) = decide (a / b % 2 = 1) := by
        rw [Int.tmod_eq_emod_of_nonneg (by omega), Bool.eq_iff_iff]; simp; omega
      rw [e]
      by_cases h3 : a / b % 2 = 1
      · rw [decide_eq_true h3, if_pos (.inr ⟨h2, h3⟩)]; exact yes
      · rw [decide_eq_false h3, if_neg (by omega)]; exact no
    · rw [if_pos (show 2 * (a % b) < b by omega), if_neg (by omega)]
      exact Ev.neg (by decide) (Ev.neg (by decide) no)
theorem underS (a b : Nat) (s : Int) (ha1 : bl a < 1000000) (hb1 : bl b < 1000000) (hs : -1000000 < s ∧ s < 1000000) : Ev (fun k => r3_under.f k (dg a) (dg b) s) (decide ((a : Rat) * tw s < (b : Rat))) := by
  unfold r3_under.f
  have hc : ∀ m n : Nat, decide (cmpN m n < 0) = decide (m < n) := fun m n => by
    unfold cmpN
    by_cases h : m < n
    · rw [if_pos h, decide_eq_true h]; rfl
    · rw [if_neg h, decide_eq_false h]; split <;> rfl
  by_cases h : s ≥ 0
  · obtain ⟨n, rfl⟩ := Int.eq_ofNat_of_zero_le h
    have h2 := bl_shl a n
    refine Ev.pos h (Ev.bind (shl_bl a n (by omega) (by omega)) (Ev.bind (cmp_bl _ b (by omega) (by omega)) (Ev.out ?_)))
    rw [hc]
    refine decide_eq_decide.2 ?_
    rw [tw_nat, ← nat_lt]; push_cast; rfl
  · obtain ⟨n, hn⟩ := Int.eq_ofNat_of_zero_le (show 0 ≤ -s by omega)
    have h2 := bl_shl b n
    obtain rfl : s = -(n : Int) := by omega
    refine Ev.neg h ?_
    rw [w64_id (by omega) (by omega), Int.neg_neg]
    refine Ev.bind (shl_bl b n (by omega) (by omega)) (Ev.bind (cmp_bl a _ (by omega) (by omega)) (Ev.out ?_))
    rw [hc]
    refine decide_eq_decide.2 ?_
    have T := tw_pos (n : Int)
    have e1 : tw (-(n : Int)) * tw n = 1 := by rw [← tw_add, Int.add_left_neg, tw_zero]
    have e2 : ((b * 2 ^ n : Nat) : Rat) = (b : Rat) * tw n := by rw [tw_nat]; push_cast; rfl
    rw [← nat_lt, e2]
    constructor
    · intro h3
      refine lt_of_mul (t := tw n) ?_ T
      rw [Rat.mul_assoc, e1, Rat.mul_one]; exact h3
    · intro h3
      have := mul_lt h3 T
      rwa [Rat.mul_assoc, e1, Rat.mul_one] at this
theorem grainS (a b : Nat) (s : Int) (hb : 0 < b) (ha1 : bl a < 1000000) (hb1 : bl b < 1000000) (hs : -1000000 < s ∧ s < 1000000) : ∃ A B : Nat, 0 < B ∧ (∀ x : Rat, x * (b : Rat) = (a : Rat) * tw s → x * (B : Rat) = (A : Rat)) ∧ Ev (fun k => r3_grain.f k (dg a) (dg b) s) (dg (rne A B)) := by
  unfold r3_grain.f
  by_cases h : s ≥ 0
  · obtain ⟨n, rfl⟩ := Int.eq_ofNat_of_zero_le h
    have h2 := bl_shl a n
    refine ⟨a * 2 ^ n, b, hb, fun x hx => ?_, Ev.pos h (Ev.bind (shl_bl a n (by omega) (by omega)) (Ev.bind (quotS _ b hb (by omega) (by omega)) (Ev.out rfl)))⟩
    rw [hx, tw_nat]; push_cast; rfl
  · obtain ⟨n, hn⟩ := Int.eq_ofNat_of_zero_le (show 0 ≤ -s by omega)
    have h2 := bl_shl b n
    obtain rfl : s = -(n : Int) := by omega
    refine ⟨a, b * 2 ^ n, Nat.mul_pos hb (Nat.pow_pos (by decide)), fun x hx => ?_, ?_⟩
    · have e1 : tw (-(n : Int)) * tw n = 1 := by rw [← tw_add, Int.add_left_neg, tw_zero]
      have e2 : ((b * 2 ^ n : Nat) : Rat) = (b : Rat) * tw n := by rw [tw_nat]; push_cast; rfl
      rw [e2, ← Rat.mul_assoc, hx, Rat.mul_assoc, e1, Rat.mul_one]
    · refine Ev.neg h ?_
      rw [w64_id (by omega) (by omega), Int.neg_neg]
      exact Ev.bind (shl_bl b n (by omega) (by omega)) (Ev.bind (quotS a _ (Nat.mul_pos hb (Nat.pow_pos (by decide))) (by omega) (by omega)) (Ev.out rfl))
theorem finS (w : Int) (hw : w = 32 ∨ w = 64) (s : Bool) (q n : Nat) (hn : n < 2 ^ (fmt w).f * 2) (hl : 0 < q → 2 ^ (fmt w).f ≤ n) (hq : q < 1000000) :
    Ev (fun k => r3_Near.j2 k w s (((fmt w).f : Nat) : Int) ((q : Int) + (fmt w).low) (dg n)) ((mkN w (if (fmt w).top < q + 2 then (fmt w).inf else if n < 2 ^ (fmt w).f then n else (q + 1) * 2 ^ (fmt w).f + (n - 2 ^ (fmt w).f)) s : Nat) : Int) := by
  have hb := fmt_bd w
  have hp : 2 ^ (fmt w).f ≤ 4503599627370496 := by
    rw [show (4503599627370496 : Nat) = 2 ^ 52 by decide]; exact Nat.pow_le_pow_right (by decide) (fmt_f w)
  have ht := (fmt w).ht
  refine Ev.step (fun _ => r3_Near.j2.eq_2 ..) (Ev.bs (r3Low w hw) (Ev.bind (r2Topw w hw) ?_))
  rw [w64_id (n := (fmt w).low + ((fmt w).top : Int)) (by omega) (by omega), w64_id (by omega) (by omega)]
  by_cases c1 : (fmt w).top < q + 2
  · rw [if_pos c1]
    exact Ev.pos (by omega) (Ev.bind (r2Infw w hw s) (Ev.out rfl))
  · rw [if_neg c1]
    refine Ev.neg (by omega) (Ev.bs (uint_dg n) (Ev.bind (r2Tfw w hw) ?_))
    rw [Nat.mod_eq_of_lt (by omega)]
    by_cases c2 : n < 2 ^ (fmt w).f
    · rw [if_pos c2]
      have := r2Makew w hw s 0 n (Nat.zero_le _) c2
      rw [Nat.zero_mul, Nat.zero_add] at this
      exact Ev.pos (by exact_mod_cast c2) (Ev.bind this (Ev.out rfl))
    · rw [if_neg c2]
      have := r2Makew w hw s (q + 1) (n - 2 ^ (fmt w).f) (by omega) (by omega)
      refine Ev.neg (by intro k; exact c2 (by exact_mod_cast k)) (Ev.bs (r3Low w hw) (Ev.bind (r2Tfw w hw) ?_))
      rw [show (q : Int) + (fmt w).low - (fmt w).low = q by omega, w64_id (n := (q : Int)) (by omega) (by omega), w64_id (by omega) (by omega), u64_id (by omega) (by omega), show (n : Int) - ((2 ^ (fmt w).f : Nat) : Int) = ((n - 2 ^ (fmt w).f : Nat) : Int) by omega]
      exact Ev.bind this (Ev.out rfl)
theorem nearS (w : Int) (hw : w = 32 ∨ w = 64) (s : Bool) (a b : Nat) (kk : Int) (ha : 0 < a) (hb : 0 < b) (ha1 : bl a < 100000) (hb1 : bl b < 100000) (hk : -10000 < kk ∧ kk < 10000) (x : Rat) (hx : x * (b : Rat) = (a : Rat) * tw kk) :
    Ev (fun k => r3_Near.f k w s (dg a) (dg b) kk) ((mkN w ((fmt w).rnd x) s : Nat) : Int) := by
  have bd := fmt_bd w
  have hff := fmt_f w
  have h3 : ∀ n : Nat, 0 < n → 2 ^ bl n ≤ 2 * n := fun n h => by
    have h1 := two_bl_le h
    have h0 := bl_pos.2 h
    have : 2 ^ bl n = 2 ^ (bl n - 1) * 2 := by rw [← Nat.pow_succ]; congr 1; omega
    omega
  have mx_ : ∀ a b : Int, mx a b = max a b := fun a b => by unfold mx; split <;> omega
  unfold r3_Near.f
  refine Ev.bs (r2Fw w hw) (Ev.bind (len_dg a (by omega)) (Ev.bind (len_dg b (by omega)) (Ev.bs (r3Low w hw) (Ev.bs (r3Low w hw) ?_))))
  rw [w64_id (n := ((bl a : Nat) : Int) - ((bl b : Nat) : Int)) (by omega) (by omega), w64_id (n := ((bl a : Nat) : Int) - ((bl b : Nat) : Int) + kk) (by omega) (by omega), w64_id (by omega) (by omega), mx_]
  obtain ⟨q0, hq0⟩ : ∃ q0, max ((bl a : Int) - bl b + kk - (fmt w).f) (fmt w).low = q0 := ⟨_, rfl⟩
  rw [hq0]
  have hqb : (fmt w).low ≤ q0 ∧ q0 < 200000 := by omega
  have hB' : (0 : Rat) < (b : Rat) := by exact_mod_cast hb
  -- the test
  have hunder : Ev (fun k => r3_under.f k (dg a) (dg b) (kk - q0 - (fmt w).f)) (decide (x < tw (q0 + (fmt w).f))) := by
    have := underS a b (kk - q0 - (fmt w).f) (by omega) (by omega) (by omega)
    have e : decide ((a : Rat) * tw (kk - q0 - (fmt w).f) < (b : Rat)) = decide (x < tw (q0 + (fmt w).f)) := by
      refine decide_eq_decide.2 ?_
      have T := tw_pos (q0 + (fmt w).f)
      have e1 : tw kk = tw (kk - q0 - (fmt w).f) * tw (q0 + (fmt w).f) := by rw [← tw_add]; congr 1; omega
      constructor
      · intro h
        have := mul_lt h T
        rw [Rat.mul_assoc, ← e1, ← hx] at this
        exact lt_of_mul (t := (b : Rat)) (by grind) hB'
      · intro h
        have := mul_lt h hB'
        rw [hx, e1, ← Rat.mul_assoc] at this
        exact lt_of_mul (t := tw (q0 + (fmt w).f)) (by grind) T
    rw [e] at this
    exact this
  obtain ⟨q1, hq1⟩ : ∃ q1, (if (fmt w).low < q0 ∧ x < tw (q0 + (fmt w).f) then q0 - 1 else q0) = q1 := ⟨_, rfl⟩
  obtain ⟨d1, d2, d3⟩ := Fmt.Rnd.doc (fmt w) (h3 a ha) (lt_two_bl a) hb (h3 b hb) (lt_two_bl b) hx hq0.symm hq1.symm
  obtain ⟨q, hq⟩ := Int.eq_ofNat_of_zero_le (show 0 ≤ q1 - (fmt w).low by omega)
  have hqq : q1 = (q : Int) + (fmt w).low := by omega
  have hqn : q < 100000000 := by
    have : q1 ≤ q0 := by rw [← hq1]; split <;> omega
    omega
  obtain ⟨A, B, hBp, hAB, hg⟩ := grainS a b (kk - q1) hb (by omega) (by omega) (by omega)
  have hxe : x * (B : Rat) = (A : Rat) * tw (q + (fmt w).low) := by
    have T := tw_pos (-q1)
    have e1 : tw (-q1) * tw q1 = 1 := by rw [← tw_add, Int.add_left_neg, tw_zero]
    have e2 : tw (kk - q1) = tw kk * tw (-q1) := by rw [← tw_add]; congr 1
    have := hAB (x * tw (-q1)) (by rw [e2, ← Rat.mul_assoc, ← hx]; grind)
    rw [← this, ← hqq]
    grind
  have hx2 : x < tw (q + (fmt w).low + (fmt w).f + 1) := by rw [← hqq]; exact d2
  have hl2 : 0 < q → tw (q + (fmt w).low + (fmt w).f) ≤ x := fun h => by rw [← hqq]; exact d3 (by omega)
  obtain ⟨n1, n2⟩ := (fmt w).make_bd hx2 hl2 (fun h => (fmt w).near_lo hBp hxe h) ((fmt w).near_hi hBp hxe)
  have R := Fmt.Rnd.near (fmt w) hBp hxe hx2 hl2
  rw [(fmt w).rnd_of R, ← (fmt w).fin_eq n1 n2]
  have p2 : 2 ^ ((fmt w).f + 1) = 2 ^ (fmt w).f * 2 := Nat.pow_succ ..
  have pp := (fmt w).pow_pos
  generalize hN : rne A B = n at *
  have ln : bl n ≤ (fmt w).f + 2 := bl_le.2 (by rw [Nat.pow_succ]; omega)
  have hqs : q < 1000000 := by
    have : q1 ≤ q0 := by rw [← hq1]; split <;> omega
    omega
  have tail : Ev (fun k => r3_Near.j1 k w s kk (((fmt w).f : Nat) : Int) q1 (dg a) (dg b)) ((mkN w ((fmt w).fin q n) s : Nat) : Int) := by
    refine Ev.step (fun _ => r3_Near.j1.eq_2 ..) ?_
    rw [w64_id (n := kk - q1) (by omega) (by omega), w64_id (n := (((fmt w).f : Nat) : Int) + 1) (by omega) (by omega)]
    refine Ev.bind hg (Ev.bind (len_dg n (by omega)) ?_)
    by_cases c : n = 2 ^ ((fmt w).f + 1)
    · have hbn : bl n = (fmt w).f + 2 := by rw [c, bl_two]
      have hh := half_dg n 1 (by omega) (by decide)
      have e5 : n / 2 ^ 1 = 2 ^ (fmt w).f := by rw [c, Nat.pow_succ, Nat.pow_one]; omega
      rw [e5] at hh
      refine Ev.pos (by omega) (Ev.bind hh ?_)
      rw [w64_id (by omega) (by omega)]
      have := finS w hw s (q + 1) (2 ^ (fmt w).f) (by omega) (fun _ => Nat.le_refl _) (by omega)
      rw [show (((q + 1 : Nat) : Int) + (fmt w).low) = q1 + 1 by omega] at this
      have e6 : (fmt w).fin q n = (if (fmt w).top < q + 1 + 2 then (fmt w).inf else if 2 ^ (fmt w).f < 2 ^ (fmt w).f then 2 ^ (fmt w).f else (q + 1 + 1) * 2 ^ (fmt w).f + (2 ^ (fmt w).f - 2 ^ (fmt w).f)) := by
        unfold Fmt.fin
        rw [if_pos c, if_neg (Nat.lt_irrefl _), Nat.sub_self]
        rfl
      rw [e6]; exact this
    · have hbn : bl n ≤ (fmt w).f + 1 := bl_le.2 (by omega)
      refine Ev.neg (by omega) ?_
      have := finS w hw s q n (by omega) n2 hqs
      rw [← hqq] at this
      have e6 : (fmt w).fin q n = (if (fmt w).top < q + 2 then (fmt w).inf else if n < 2 ^ (fmt w).f then n else (q + 1) * 2 ^ (fmt w).f + (n - 2 ^ (fmt w).f)) := by
        unfold Fmt.fin
        rw [if_neg c]
      rw [e6]; exact this
  by_cases c : (fmt w).low < q0
  · refine Ev.pos c ?_
    rw [w64_id (n := kk - q0) (by omega) (by omega), w64_id (n := kk - q0 - ((fmt w).f : Int)) (by omega) (by omega)]
    refine Ev.bind hunder (Ev.step (fun _ => r3_Near.j0.eq_2 ..) ?_)
    by_cases c2 : x < tw (q0 + (fmt w).f)
    · rw [decide_eq_true c2]
      rw [if_pos ⟨c, c2⟩] at hq1
      refine Ev.pos rfl ?_
      rw [w64_id (by omega) (by omega), hq1]; exact tail
    · rw [decide_eq_false c2]
      rw [if_neg (fun h => c2 h.2)] at hq1
      refine Ev.neg (by decide) ?_
      rw [hq1]; exact tail
  · rw [if_neg (fun h => c h.1)] at hq1
    refine Ev.neg c (Ev.step (fun _ => r3_Near.j0.eq_2 ..) (Ev.neg (by decide) ?_))
    rw [hq1]; exact tail
theorem zero_mul' (w : Int) (hw : w = 32 ∨ w = 64) (s : Bool) : Ev (fun k => r2_Make.f k w s 0 0) ((mkN w 0 s : Nat) : Int) := by
  have := r2Makew w hw s 0 0 (Nat.zero_le _) ((fmt w).pow_pos)
  rwa [Nat.zero_mul] at this
end Go.Proofs.Ytbpmnmceajmmcaa.Th
end
section
set_option linter.unusedVariables false
set_option linter.unusedSimpArgs false
namespace Go.Proofs.Ytbpmnmceajmmcaa.Th
open Go.RowKit Go.Proofs.YtbpmnmceajmmcaaW.PrintWords Go.Proofs.YtbpmnmceajmmcaaW.PrintLast Go.Proofs.YtbpmnmceajmmcaaW.PrintMore Go.Proofs.Ytbpmnmceajmmcaa.PA Bit Flo
theorem packE (w : Int) (hw : w = 32 ∨ w = 64) (s : Bool) (h l : Nat) (hh : h < 18446744073709551616) (hl : l < 18446744073709551616) (e : Int) (m : Bool) : round_Pack.f w s h l e m = some ((mkN w (pkm (fmt w) (wn h l) e m) s : Nat) : Int) := by
  unfold round_Pack.f
  rw [if_pos (by omega), if_pos hw, Int.toNat_natCast, Int.toNat_natCast]
theorem packV (w : Int) (hw : w = 32 ∨ w = 64) (s : Bool) (V : Nat) (hV : V < 340282366920938463463374607431768211456) (e : Int) (m : Bool) : round_Pack.f w s ((V / 18446744073709551616 : Nat) : Int) ((V % 18446744073709551616 : Nat) : Int) e m = some ((mkN w (pkm (fmt w) V e m) s : Nat) : Int) := by
  rw [packE w hw s _ _ (hi64 hV) (lo64 V), wn_div]
theorem pack_no {w : Int} (hw : ¬ (w = 32 ∨ w = 64)) (s : Bool) (h l : Nat) (hh : h < 18446744073709551616) (hl : l < 18446744073709551616) (e : Int) (m : Bool) : round_Pack.f w s h l e m = some 0 := by
  unfold round_Pack.f
  rw [if_pos (by omega), if_neg hw]
theorem pack1 (w : Int) (hw : w = 32 ∨ w = 64) (s : Bool) (n : Nat) (hn : n < 18446744073709551616) (e : Int) : round_Pack.f w s 0 n e false = some ((mkN w ((fmt w).rnd ((n : Rat) * tw e)) s : Nat) : Int) := by
  have := packE w hw s 0 n (by decide) hn e false
  rw [show wn 0 n = n by unfold wn; omega, pk_ex w n e (by omega)] at this
  exact this
theorem whole_no {w : Int} (hw : ¬ (w = 32 ∨ w = 64)) (s : Bool) (n : Nat) (hn : n < 18446744073709551616) : round_Whole.f w s n = some 0 := by
  unfold round_Whole.f
  have h : ∀ t, round_Pack.f w t 0 (n : Int) 0 false = some 0 := fun t => pack_no hw t 0 n (by decide) hn 0 false
  rw [ofW n]
  cases s
  · rw [if_neg (by decide), Option.bind_some]
    show (round_Pack.f w false 0 (n : Int) 0 false).bind _ = _
    rw [h false, Option.bind_some]
  · rw [if_pos rfl, Option.bind_some]
    show (round_Pack.f w (decide ((n : Int) > 0)) 0 (n : Int) 0 false).bind _ = _
    rw [h, Option.bind_some]
theorem wholeE (w : Int) (hw : w = 32 ∨ w = 64) (s : Bool) (n : Nat) (hn : n < 18446744073709551616) : round_Whole.f w s n = some ((mkN w ((fmt w).rnd (n : Rat)) (s && decide (0 < n)) : Nat) : Int) := by
  unfold round_Whole.f
  have h := fun t => pack1 w hw t n hn 0
  rw [tw_zero, Rat.mul_one] at h
  rw [ofW n]
  cases s
  · rw [if_neg (by decide), Option.bind_some]
    show (round_Pack.f w false 0 (n : Int) 0 false).bind _ = _
    rw [h false, Option.bind_some]
    simp
  · rw [if_pos rfl, Option.bind_some]
    show (round_Pack.f w (decide ((n : Int) > 0)) 0 (n : Int) 0 false).bind _ = _
    rw [h, Option.bind_some]
    simp
theorem shN (w : Int) (hw : w = 32 ∨ w = 64) : shape_Nan.f w = some ((nanN w : Nat) : Int) := by rcases hw with rfl | rfl; exact shNan32; exact shNan64
theorem pv1 (s : Bool) (e : Int) (g : Nat) : pv (s, 1, e, (g : Int)) = if s then -((g : Rat) * tw e) else (g : Rat) * tw e := by
  unfold pv; rw [if_pos rfl]; simp
theorem pos_tw {g : Nat} (h : 0 < g) (e : Int) : 0 < (g : Rat) * tw e := Rat.mul_pos (by exact_mod_cast h) (tw_pos e)
def PtOk (p : Pt) : Prop := (p.2.1 = 0 ∨ p.2.1 = 1 ∨ p.2.1 = 2 ∨ p.2.1 = 3) ∧ (p.2.1 = 1 → 0 < p.2.2.2) ∧ (p.2.1 ≠ 1 → p.2.2.2 = 0 ∧ p.2.2.1 = 0) ∧ 0 ≤ p.2.2.2 ∧ p.2.2.2 < 9007199254740992 ∧ -1100 ≤ p.2.2.1 ∧ p.2.2.1 ≤ 1000
theorem opn_ok (w : Int) (hw : w = 32 ∨ w = 64) (a : Nat) : PtOk (opn w a) := by
  rcases kinds w hw a with ⟨_, h⟩ | ⟨h1, h2, h⟩ | ⟨_, h⟩ | ⟨_, h⟩ <;> rw [h]
  · exact ⟨.inl rfl, fun h => absurd h (by simp), fun _ => ⟨rfl, rfl⟩, by simp, by simp, by simp, by simp⟩
  · have h3 := ex_bd w hw _ h2
    have h4 := sg_64 w hw (magN w a)
    refine ⟨.inr (.inl rfl), fun _ => ?_, fun h => absurd rfl h, by simp, by simp; omega, by simp; omega, by simp; omega⟩
    have : 0 < (fmt w).val (magN w a) := (fmt w).val_pos.2 h1
    unfold Fmt.val at this
    rcases Nat.eq_zero_or_pos ((fmt w).sg (magN w a)) with h5 | h5
    · rw [h5] at this; simp at this
    · simp; omega
  · exact ⟨.inr (.inr (.inl rfl)), fun h => absurd h (by simp), fun _ => ⟨rfl, rfl⟩, by simp, by simp, by simp, by simp⟩
  · exact ⟨.inr (.inr (.inr rfl)), fun h => absurd h (by simp), fun _ => ⟨rfl, rfl⟩, by simp, by simp, by simp, by simp⟩
end Go.Proofs.Ytbpmnmceajmmcaa.Th
end
section
set_option linter.unusedVariables false
set_option linter.unusedSimpArgs false
namespace Go.Proofs.Ytbpmnmceajmmcaa.Th
open Go.RowKit Go.Proofs.YtbpmnmceajmmcaaW.PrintWords Go.Proofs.YtbpmnmceajmmcaaW.PrintLast Go.Proofs.YtbpmnmceajmmcaaW.PrintMore Go.Proofs.Ytbpmnmceajmmcaa.PA Bit Dig Flo
theorem bl53 {g : Nat} (h : g < 9007199254740992) : bl g ≤ 53 := bl_le.2 h
def oneN (w : Int) : Nat := if w = 32 then 1065353216 else 4607182418800017408
theorem val_one (w : Int) (hw : w = 32 ∨ w = 64) : (fmt w).val (oneN w) = 1 ∧ oneN w < (fmt w).inf ∧ 0 < oneN w := by
  rcases hw with rfl | rfl
  · refine ⟨?_, by rw [fmt32, inf32]; decide, by decide⟩
    unfold Fmt.val
    rw [fmt32, show oneN 32 = 127 * 2 ^ f32.f + 0 by decide]
    have := Fmt.sg_mk f32 126 (2 ^ f32.f) (by decide) (fun _ => Nat.le_refl _)
    rw [show 127 * 2 ^ f32.f + 0 = 126 * 2 ^ f32.f + 2 ^ f32.f by decide, this.1, this.2]
    rw [show ((2 ^ f32.f : Nat) : Rat) = tw 23 from (tw_nat 23).symm, ← tw_add]
    exact tw_zero
  · refine ⟨?_, by rw [fmt64, inf64]; decide, by decide⟩
    unfold Fmt.val
    rw [fmt64, show oneN 64 = 1022 * 2 ^ f64.f + 2 ^ f64.f by decide]
    have := Fmt.sg_mk f64 1022 (2 ^ f64.f) (by decide) (fun _ => Nat.le_refl _)
    rw [this.1, this.2]
    rw [show ((2 ^ f64.f : Nat) : Rat) = tw 52 from (tw_nat 52).symm, ← tw_add]
    exact tw_zero
end Go.Proofs.Ytbpmnmceajmmcaa.Th
end
namespace Knu
theorem k1 (u y d : Nat) (hu : u < y) (hd : d < 4294967296) : (u * 4294967296 + d) / y < 4294967296 := by
  rw [Nat.div_lt_iff_lt_mul (by omega), Nat.mul_comm 4294967296]
  have : (u + 1) * 4294967296 ≤ y * 4294967296 := Nat.mul_le_mul_right _ hu
  omega
theorem k2 (u a b d q r : Nat) (ha : 0 < a) (h : q * a + r = u) : (u * 4294967296 + d) / (a * 4294967296 + b) < q ↔ r * 4294967296 + d < q * b := by
  rw [Nat.div_lt_iff_lt_mul (by omega), Nat.mul_add, ← Nat.mul_assoc, ← h]
  generalize q * b = t
  generalize q * a = s
  omega
theorem k3 (u a b d : Nat) (ha : 0 < a) (hd : d < 4294967296) : (u * 4294967296 + d) / (a * 4294967296 + b) ≤ u / a := by
  rw [Nat.le_div_iff_mul_le ha]
  have h := Nat.div_mul_le_self (u * 4294967296 + d) (a * 4294967296 + b)
  rw [Nat.mul_add, ← Nat.mul_assoc] at h
  generalize (u * 4294967296 + d) / (a * 4294967296 + b) * b = t at *
  generalize (u * 4294967296 + d) / (a * 4294967296 + b) * a = s at *
  omega
theorem k4 (u a b q r : Nat) (h : q * a + r = u) (hu : u < a * 4294967296 + b) (hq : 4294967296 ≤ q) : r < b := by
  have : 4294967296 * a ≤ q * a := Nat.mul_le_mul_right _ hq
  omega
theorem k5 (a q r u : Nat) (h : q * a + r = u) (hq : 0 < q) : (q - 1) * a + (r + a) = u := by
  obtain ⟨p, rfl⟩ : ∃ p, q = p + 1 := ⟨q - 1, by omega⟩
  rw [Nat.add_mul] at h
  rw [Nat.add_sub_cancel]; omega
theorem k6 (q b : Nat) (hq : q < 4294967296) (hb : b < 4294967296) : q * b < 18446744073709551616 := by
  have := Nat.mul_le_mul (show q ≤ 4294967295 by omega) (show b ≤ 4294967295 by omega); omega
theorem two_gen (B u y c d : Nat) (hy : 0 < y) : ((u * B + c) * B + d) / y = (u * B + c) / y * B + ((u * B + c) % y * B + d) / y ∧ ((u * B + c) * B + d) % y = ((u * B + c) % y * B + d) % y := by
  have h := Nat.div_add_mod (u * B + c) y
  generalize (u * B + c) / y = q at *
  generalize (u * B + c) % y = r at *
  generalize u * B + c = v at *
  have e : v * B + d = y * (q * B) + (r * B + d) := by
    rw [← h, Nat.add_mul, Nat.mul_assoc]; omega
  rw [e, Nat.mul_add_div hy, Nat.mul_add_mod]
  exact ⟨rfl, rfl⟩
theorem two (u y c d : Nat) (hy : 0 < y) : ((u * 4294967296 + c) * 4294967296 + d) / y = (u * 4294967296 + c) / y * 4294967296 + ((u * 4294967296 + c) % y * 4294967296 + d) / y ∧ ((u * 4294967296 + c) * 4294967296 + d) % y = ((u * 4294967296 + c) % y * 4294967296 + d) % y :=
  two_gen 4294967296 u y c d hy
end Knu
set_option linter.unusedVariables false
set_option linter.unusedSectionVars false
set_option linter.unusedSimpArgs false
namespace Go.Proofs.Ytbpmnmceajmmcaa.Th
open Go.RowKit Go.Proofs.YtbpmnmceajmmcaaW.PrintWords Go.Proofs.YtbpmnmceajmmcaaW.PrintLast Go.Proofs.YtbpmnmceajmmcaaW.PrintMore Go.Proofs.Ytbpmnmceajmmcaa.PA Bit Dig
theorem rem_wrap (u c q y : Nat) (hq : q = (u * 4294967296 + c) / y) (hy : 0 < y) (hy2 : y < 18446744073709551616) :
    IntKind.u64.wrap ((IntKind.u64.wrap ((IntKind.u64.wrap ((u : Int) * 4294967296)) + (c : Int))) - (IntKind.u64.wrap ((q : Int) * (y : Int)))) = (((u * 4294967296 + c) % y : Nat) : Int) := by
  have h := Nat.div_add_mod (u * 4294967296 + c) y
  have h2 := Nat.mod_lt (u * 4294967296 + c) hy
  rw [← hq] at h
  rw [← Int.natCast_mul, Nat.mul_comm q y]
  generalize y * q = t at *
  generalize (u * 4294967296 + c) % y = r at *
  simp only [IntKind.wrap_u64]
  omega
section
variable (y a b u c d s : Nat) (hy : y = a * 4294967296 + b) (ha : 2147483648 ≤ a) (ha2 : a < 4294967296) (hb : b < 4294967296) (hc : c < 4294967296) (hd : d < 4294967296) (R : Int × Int)
include hy ha ha2 hb hc hd
theorem div_l0 (hu : u < y) (Q : Nat) (hQ : (u * 4294967296 + c) / y = Q) (hj : Ev (fun k => bits_Div64.j2 k y s a b u c d ((Q : Nat) : Int)) R) (n : Nat) :
    ∀ q r : Nat, q - Q = n → Q ≤ q → q < 18446744073709551616 → q * a + r = u → r < 4294967296 →
    Ev (fun k => bits_Div64.l0 k y s a b u c d q r) R := by
  have K1 := Knu.k1 u y c hu hc
  rw [hQ] at K1
  induction n with
  | zero =>
    intro q r hn hq hq2 he hr
    obtain rfl : q = Q := by omega
    have K2 := Knu.k2 u a b c _ r (by omega) he
    rw [← hy, hQ] at K2
    have K6 := Knu.k6 _ b K1 hb
    refine Ev.step (fun _ => bits_Div64.l0.eq_2 ..) ?_
    refine Ev.neg (by omega) ?_
    rw [← Int.natCast_mul, u64_id (by omega) (by omega), u64_id (n := 4294967296 * (r : Int)) (by omega) (by omega), u64_id (by omega) (by omega), decide_eq_false (by omega)]
    refine Ev.step (fun _ => bits_Div64.j1.eq_2 ..) ?_
    exact Ev.neg (by decide) hj
  | succ n ih =>
    intro q r hn hq hq2 he hr
    have hq0 : 0 < q := by omega
    have K2 := Knu.k2 u a b c q r (by omega) he
    rw [← hy, hQ] at K2
    have K5 := Knu.k5 a q r u he hq0
    have body : Ev (fun k => bits_Div64.j1 k y s a b u c d q r true) R := by
      refine Ev.step (fun _ => bits_Div64.j1.eq_2 ..) ?_
      refine Ev.pos rfl ?_
      rw [u64_id (n := (r : Int) + a) (by omega) (by omega), u64_id (n := (q : Int) - 1) (by omega) (by omega), show (q : Int) - 1 = ((q - 1 : Nat) : Int) by omega, show (r : Int) + a = ((r + a : Nat) : Int) by omega]
      by_cases h : ((r + a : Nat) : Int) ≥ 4294967296
      · have e : q - 1 = Q := by
          have h1 : q - 1 < 4294967296 := by
            rcases Nat.lt_or_ge (q - 1) 4294967296 with h2 | h2
            · exact h2
            · have := Knu.k4 u a b (q - 1) (r + a) K5 (by omega) h2; omega
          have K2' := Knu.k2 u a b c (q - 1) (r + a) (by omega) K5
          rw [← hy, hQ] at K2'
          have K6 := Knu.k6 (q - 1) b h1 hb
          omega
        rw [e]
        exact Ev.pos h hj
      · exact Ev.neg h (ih (q - 1) (r + a) (by omega) (by omega) (by omega) K5 (by omega))
    refine Ev.step (fun _ => bits_Div64.l0.eq_2 ..) ?_
    by_cases h : (q : Int) ≥ 4294967296
    · exact Ev.pos h body
    · refine Ev.neg h ?_
      have K6 := Knu.k6 q b (by omega) hb
      rw [← Int.natCast_mul, u64_id (by omega) (by omega), u64_id (n := 4294967296 * (r : Int)) (by omega) (by omega), u64_id (by omega) (by omega), decide_eq_true (by omega)]
      exact body
theorem div_l1 (q1 : Nat) (hq1 : q1 < 4294967296) (hu : u < y) (hs : s < 64) (Q M : Nat) (hQ : (u * 4294967296 + d) / y = Q) (hM : (u * 4294967296 + d) % y = M) (n : Nat) :
    ∀ q r : Nat, q - Q = n → Q ≤ q → q < 18446744073709551616 → q * a + r = u → r < 4294967296 →
    Ev (fun k => bits_Div64.l1 k y s a b d q1 r u q) (((q1 * 4294967296 + Q : Nat) : Int), ((M / 2 ^ s : Nat) : Int)) := by
  have K1 := Knu.k1 u y d hu hd
  rw [hQ] at K1
  have Y0 : 0 < y := by omega
  have Y2 : y < 18446744073709551616 := by omega
  have W := rem_wrap u d Q y hQ.symm Y0 Y2
  rw [hM] at W
  have hsh := shrN' M s hs
  induction n with
  | zero =>
    intro q r hn hq hq2 he hr
    obtain rfl : q = Q := by omega
    have K2 := Knu.k2 u a b d _ r (by omega) he
    rw [← hy, hQ] at K2
    have K6 := Knu.k6 _ b K1 hb
    refine Ev.step (fun _ => bits_Div64.l1.eq_2 ..) ?_
    refine Ev.neg (by omega) ?_
    rw [← Int.natCast_mul, u64_id (by omega) (by omega), u64_id (n := 4294967296 * (r : Int)) (by omega) (by omega), u64_id (by omega) (by omega), decide_eq_false (by omega)]
    refine Ev.step (fun _ => bits_Div64.j4.eq_2 ..) ?_
    refine Ev.neg (by decide) (Ev.pos (by omega) (Ev.out ?_))
    rw [W, hsh, u64_id (n := (q1 : Int) * 4294967296) (by omega) (by omega), u64_id (by omega) (by omega)]
    congr 1
  | succ n ih =>
    intro q r hn hq hq2 he hr
    have hq0 : 0 < q := by omega
    have K2 := Knu.k2 u a b d q r (by omega) he
    rw [← hy, hQ] at K2
    have K5 := Knu.k5 a q r u he hq0
    have body : Ev (fun k => bits_Div64.j4 k y s a b d q1 r u q true) (((q1 * 4294967296 + Q : Nat) : Int), ((M / 2 ^ s : Nat) : Int)) := by
      refine Ev.step (fun _ => bits_Div64.j4.eq_2 ..) ?_
      refine Ev.pos rfl ?_
      rw [u64_id (n := (r : Int) + a) (by omega) (by omega), u64_id (n := (q : Int) - 1) (by omega) (by omega), show (q : Int) - 1 = ((q - 1 : Nat) : Int) by omega, show (r : Int) + a = ((r + a : Nat) : Int) by omega]
      by_cases h : ((r + a : Nat) : Int) ≥ 4294967296
      · have e : q - 1 = Q := by
          have h1 : q - 1 < 4294967296 := by
            rcases Nat.lt_or_ge (q - 1) 4294967296 with h2 | h2
            · exact h2
            · have := Knu.k4 u a b (q - 1) (r + a) K5 (by omega) h2; omega
          have K2' := Knu.k2 u a b d (q - 1) (r + a) (by omega) K5
          rw [← hy, hQ] at K2'
          have K6 := Knu.k6 (q - 1) b h1 hb
          omega
        refine Ev.pos h (Ev.pos (by omega) (Ev.out ?_))
        rw [e, W, hsh, u64_id (n := (q1 : Int) * 4294967296) (by omega) (by omega), u64_id (by omega) (by omega)]
        congr 1
      · exact Ev.neg h (ih (q - 1) (r + a) (by omega) (by omega) (by omega) K5 (by omega))
    refine Ev.step (fun _ => bits_Div64.l1.eq_2 ..) ?_
    by_cases h : (q : Int) ≥ 4294967296
    · exact Ev.pos h body
    · refine Ev.neg h ?_
      have K6 := Knu.k6 q b (by omega) hb
      rw [← Int.natCast_mul, u64_id (by omega) (by omega), u64_id (n := 4294967296 * (r : Int)) (by omega) (by omega), u64_id (by omega) (by omega), decide_eq_true (by omega)]
      exact body
end
theorem and_mask32 (x : Nat) (hx : x < 18446744073709551616) : Go.bits .and .u64 (x : Int) 4294967295 = ((x % 4294967296 : Nat) : Int) := by
  rw [show (4294967295 : Int) = ((4294967295 : Nat) : Int) from rfl, u64_and_nat x _ hx (by decide), show (4294967295 : Nat) = 2 ^ 32 - 1 by decide, and_low]
theorem start_q (u a : Nat) (ha : 0 < a) (hu : u < 18446744073709551616) : IntKind.u64.wrap (Int.tdiv (u : Int) (a : Int)) = ((u / a : Nat) : Int) ∧ IntKind.u64.wrap ((u : Int) - IntKind.u64.wrap (((u / a : Nat) : Int) * (a : Int))) = ((u % a : Nat) : Int) := by
  have h := Nat.div_add_mod u a
  have h1 := Nat.div_le_self u a
  have h2 := Nat.mod_lt u ha
  constructor
  · rw [Int.tdiv_eq_ediv_of_nonneg (by omega), ← Int.natCast_ediv]
    generalize u / a = q at *
    rw [u64_id (by omega) (by omega)]
  · rw [← Int.natCast_mul, Nat.mul_comm]
    generalize a * (u / a) = t at *
    generalize u % a = r at *
    rw [u64_id (n := (t : Int)) (by omega) (by omega), u64_id (by omega) (by omega)]; omega
theorem div64 (h l y : Nat) (hh : h < y) (hl : l < 18446744073709551616) (hy2 : y < 18446744073709551616) :
    Ev (fun k => bits_Div64.f k h l y) (((wn h l / y : Nat) : Int), ((wn h l % y : Nat) : Int)) := by
  unfold bits_Div64.f
  refine Ev.neg (by omega) (Ev.neg (by omega) ?_)
  by_cases h0 : h = 0
  · subst h0
    refine Ev.pos rfl (Ev.out ?_)
    have h1 := Nat.div_le_self l y
    rw [Int.tdiv_eq_ediv_of_nonneg (by omega), Int.tmod_eq_emod_of_nonneg (by omega), ← Int.natCast_ediv, ← Int.natCast_emod, show wn 0 l = l by unfold wn; omega]
    generalize l / y = q at *
    rw [u64_id (by omega) (by omega)]
  · refine Ev.neg (by omega) ?_
    have hy0 : 0 < y := by omega
    have hby := bl64 hy2
    have hbp := bl_pos.2 hy0
    obtain ⟨s, hs⟩ : ∃ s, s = 64 - bl y := ⟨_, rfl⟩
    have hs64 : s < 64 := by omega
    have hlz : bits_LeadingZeros64.f y = some ((s : Nat) : Int) := by
      unfold bits_LeadingZeros64.f
      rw [if_pos (by omega), Int.toNat_natCast, bitLen_bl hy2]; congr 1; omega
    refine Ev.bs hlz ?_
    rw [u64_id (n := (s : Int)) (by omega) (by omega), u64_id (n := 64 - (s : Int)) (by omega) (by omega), show (64 : Int) - s = ((64 - s : Nat) : Int) by omega]
    have p0 : 0 < 2 ^ s := Nat.pow_pos (by decide)
    have e64 : 2 ^ s * 2 ^ (64 - s) = 18446744073709551616 := by rw [← Nat.pow_add, show s + (64 - s) = 64 by omega]
    -- the divisor, its highest bit at the top
    have y1 : y * 2 ^ s < 18446744073709551616 := by
      have h1 := Nat.mul_lt_mul_of_pos_right (lt_two_bl y) p0
      rw [← Nat.pow_add, show bl y + s = 64 by omega] at h1
      exact h1
    have y2 : 9223372036854775808 ≤ y * 2 ^ s := by
      have h1 := Nat.mul_le_mul_right (2 ^ s) (two_bl_le hy0)
      rw [← Nat.pow_add, show bl y - 1 + s = 63 by omega] at h1
      exact h1
    have h1 : h * 2 ^ s + 2 ^ s ≤ y * 2 ^ s := by
      have := Nat.mul_le_mul_right (2 ^ s) (show h + 1 ≤ y from hh)
      rw [Nat.add_mul, Nat.one_mul] at this; exact this
    have hlo : l / 2 ^ (64 - s) < 2 ^ s := by
      rw [Nat.div_lt_iff_lt_mul (Nat.pow_pos (by decide)), e64]; exact hl
    have eY : shl .u64 (y : Int) (s : Int) = ((y * 2 ^ s : Nat) : Int) := by rw [shlN y s hs64, Nat.mod_eq_of_lt y1]
    have eH : shl .u64 (h : Int) (s : Int) = ((h * 2 ^ s : Nat) : Int) := by rw [shlN h s hs64, Nat.mod_eq_of_lt (by omega)]
    have eL : shl .u64 (l : Int) (s : Int) = ((l * 2 ^ s % 18446744073709551616 : Nat) : Int) := shlN l s hs64
    have eR : shr .u64 (l : Int) ((64 - s : Nat) : Int) = ((l / 2 ^ (64 - s) : Nat) : Int) := by
      by_cases h2 : s = 0
      · subst h2
        unfold shr
        rw [show min (((64 - 0 : Nat) : Int)).toNat IntKind.u64.bits = 64 by decide, show (2 : Int) ^ 64 = ((2 ^ 64 : Nat) : Int) by decide]
        omega
      · exact shrN' l (64 - s) (by omega)
    have eO := or_add (h * 2 ^ s) (l / 2 ^ (64 - s)) s (by omega) (Nat.dvd_mul_left _ _) hlo (by omega) (by omega)
    rw [eY, eH, eL, eR, eO]
    -- the number, shifted
    have eN : wn h l * 2 ^ s = (h * 2 ^ s + l / 2 ^ (64 - s)) * 18446744073709551616 + l * 2 ^ s % 18446744073709551616 := by
      have h2 := Nat.div_add_mod (l * 2 ^ s) 18446744073709551616
      have h3 : l * 2 ^ s / 18446744073709551616 = l / 2 ^ (64 - s) := by
        rw [← e64, Nat.mul_comm l, Nat.mul_div_mul_left _ _ p0]
      rw [h3] at h2
      unfold wn
      rw [Nat.add_mul, Nat.mul_right_comm]
      omega
    have u1 : h * 2 ^ s + l / 2 ^ (64 - s) < y * 2 ^ s := by omega
    have v1 := Nat.mod_lt (l * 2 ^ s) (show 0 < 18446744073709551616 by decide)
    have eq1 : wn h l / y = wn h l * 2 ^ s / (y * 2 ^ s) := (Nat.mul_div_mul_right _ _ p0).symm
    have eq2 : wn h l % y = wn h l * 2 ^ s % (y * 2 ^ s) / 2 ^ s := by rw [Nat.mul_mod_mul_right, Nat.mul_div_cancel _ p0]
    rw [eq1, eq2, eN]
    clear eq1 eq2 eN eY eH eL eR eO hlz
    generalize h * 2 ^ s + l / 2 ^ (64 - s) = u at *
    generalize l * 2 ^ s % 18446744073709551616 = v at *
    generalize y * 2 ^ s = Y at *
    rw [and_mask32 Y y1, and_mask32 v v1, show ((Y : Nat) : Int) / 4294967296 = ((Y / 4294967296 : Nat) : Int) by omega, show ((v : Nat) : Int) / 4294967296 = ((v / 4294967296 : Nat) : Int) by omega]
    have hv : (u * 18446744073709551616 + v) = (u * 4294967296 + v / 4294967296) * 4294967296 + v % 4294967296 := by omega
    have T := Knu.two u Y (v / 4294967296) (v % 4294967296) (by omega)
    rw [hv, T.1, T.2]
    have hA : Y = Y / 4294967296 * 4294967296 + Y % 4294967296 := by omega
    obtain ⟨a, ea⟩ : ∃ a, Y / 4294967296 = a := ⟨_, rfl⟩
    obtain ⟨b, eb⟩ : ∃ b, Y % 4294967296 = b := ⟨_, rfl⟩
    obtain ⟨c, ec⟩ : ∃ c, v / 4294967296 = c := ⟨_, rfl⟩
    obtain ⟨d, ed⟩ : ∃ d, v % 4294967296 = d := ⟨_, rfl⟩
    rw [ea, eb] at hA
    rw [ea, eb, ec, ed]
    have ha : 2147483648 ≤ a := by omega
    have ha2 : a < 4294967296 := by omega
    have hb : b < 4294967296 := by omega
    have hc : c < 4294967296 := by omega
    have hd : d < 4294967296 := by omega
    clear hv T ea eb ec ed
    refine Ev.pos (by omega) (Ev.pos (by omega) (Ev.neg (by omega) ?_))
    obtain ⟨s1, s2⟩ := start_q u a (by omega) (by omega)
    rw [s1, s2]
    have hr1 := Nat.mod_lt (u * 4294967296 + c) (show 0 < Y by omega)
    have K3 := Knu.k3 u a b c (by omega) hc
    rw [← hA] at K3
    have m1 := Nat.div_add_mod u a
    have m2 := Nat.mod_lt u (show 0 < a by omega)
    have m3 := Nat.div_le_self u a
    rw [Nat.mul_comm] at m1
    refine div_l0 Y a b u c d s hA ha ha2 hb hc hd _ u1 _ rfl ?_ _ (u / a) (u % a) rfl K3 (by omega) m1 (by omega)
    refine Ev.step (fun _ => bits_Div64.j2.eq_2 ..) ?_
    refine Ev.neg (by omega) ?_
    rw [rem_wrap u c _ Y rfl (by omega) y1]
    have q1b := Knu.k1 u Y c u1 hc
    obtain ⟨q1, hq1⟩ : ∃ q1, q1 = (u * 4294967296 + c) / Y := ⟨_, rfl⟩
    obtain ⟨u', hu'⟩ : ∃ u', u' = (u * 4294967296 + c) % Y := ⟨_, rfl⟩
    rw [← hq1] at q1b ⊢
    rw [← hu'] at hr1 ⊢
    clear hq1 hu'
    obtain ⟨t1, t2⟩ := start_q u' a (by omega) (by omega)
    rw [t1, t2]
    have K3' := Knu.k3 u' a b d (by omega) hd
    rw [← hA] at K3'
    have n1 := Nat.div_add_mod u' a
    have n2 := Nat.mod_lt u' (show 0 < a by omega)
    have n3 := Nat.div_le_self u' a
    rw [Nat.mul_comm] at n1
    exact div_l1 Y a b u' c d s hA ha ha2 hb hc hd q1 q1b hr1 hs64 _ _ rfl rfl _ (u' / a) (u' % a) rfl K3' (by omega) n1 (by omega)
theorem wlt (B m b l : Nat) (hm : m < b) (hl : l < B) : m * B + l < B * b := by
  have := Nat.mul_le_mul_right B (show m + 1 ≤ b from hm)
  rw [Nat.add_mul, Nat.one_mul, Nat.mul_comm b] at this
  omega
theorem whi (B h b l : Nat) : h * B + l = b * (h / b * B) + (h % b * B + l) := by
  have := Nat.div_add_mod h b
  have e2 : h * B = (b * (h / b) + h % b) * B := by rw [this]
  rw [e2, Nat.add_mul, Nat.add_assoc, Nat.mul_assoc]
theorem divW (h l b : Nat) (hh : h < 18446744073709551616) (hl : l < 18446744073709551616) (hb : 0 < b) (hb2 : b < 18446744073709551616) :
    Ev (fun k => wide_Div.f k h l b) (((wn h l / b / 18446744073709551616 : Nat) : Int), ((wn h l / b % 18446744073709551616 : Nat) : Int), ((wn h l % b : Nat) : Int), 0) := by
  unfold wide_Div.f
  have hm := Nat.mod_lt h hb
  have h1 := Nat.div_le_self h b
  have e : Int.tmod (h : Int) (b : Int) = ((h % b : Nat) : Int) := by rw [Int.tmod_eq_emod_of_nonneg (by omega), Int.natCast_emod]
  rw [e]
  refine Ev.neg (by omega) (Ev.bind (div64 (h % b) l b hm hl hb2) (Ev.out ?_))
  rw [Int.tdiv_eq_ediv_of_nonneg (by omega), ← Int.natCast_ediv]
  have eh : IntKind.u64.wrap ((h / b : Nat) : Int) = ((h / b : Nat) : Int) := by generalize h / b = q at *; exact u64_id (by omega) (by omega)
  rw [eh]
  have hN : wn h l = b * (h / b * 18446744073709551616) + wn (h % b) l := whi _ h b l
  have hq : wn (h % b) l / b < 18446744073709551616 := by
    rw [Nat.div_lt_iff_lt_mul hb]
    exact wlt _ _ _ _ hm hl
  obtain ⟨X, hX⟩ : ∃ X, X = h / b * 18446744073709551616 := ⟨_, rfl⟩
  rw [← hX] at hN
  rw [hN, Nat.mul_add_div hb X, Nat.mul_add_mod b X, hX]
  clear hN hX
  obtain ⟨q, hqe⟩ : ∃ q, q = wn (h % b) l / b := ⟨_, rfl⟩
  obtain ⟨p, hpe⟩ : ∃ p, p = h / b := ⟨_, rfl⟩
  rw [← hqe] at hq ⊢
  rw [← hpe]
  have e1 : (p * 18446744073709551616 + q) / 18446744073709551616 = p := by omega
  have e2 : (p * 18446744073709551616 + q) % 18446744073709551616 = q := by omega
  rw [e1, e2]
end Go.Proofs.Ytbpmnmceajmmcaa.Th
section
set_option linter.unusedVariables false
set_option linter.unusedSimpArgs false
namespace Go.Proofs.Ytbpmnmceajmmcaa.Th
open Go.RowKit Go.Proofs.YtbpmnmceajmmcaaW.PrintWords Go.Proofs.YtbpmnmceajmmcaaW.PrintLast Go.Proofs.YtbpmnmceajmmcaaW.PrintMore Go.Proofs.Ytbpmnmceajmmcaa.PA Bit Dig Flo
theorem quo_pk (w : Int) {N b : Nat} (hb : 0 < b) (E : Int) (x : Rat) (hx : x * (b : Rat) = (N : Rat) * tw E) (hlt : N / b < 340282366920938463463374607431768211456) (hge : 9007199254740992 ≤ N / b) :
    pkm (fmt w) (N / b) E (decide (N % b ≠ 0)) = (fmt w).rnd x := by
  have T := tw_pos E
  have B0 : (0 : Rat) < (b : Rat) := by exact_mod_cast hb
  have h1 := Nat.div_add_mod N b
  have h2 := Nat.mod_lt N hb
  generalize N / b = q at *
  generalize N % b = r at *
  have e1 : (q : Rat) * tw E * (b : Rat) = ((b * q : Nat) : Rat) * tw E := by push_cast; grind
  have e2 : ((q + 1 : Nat) : Rat) * tw E * (b : Rat) = ((b * q + b : Nat) : Rat) * tw E := by push_cast; grind
  by_cases h0 : r = 0
  · rw [decide_eq_false (by omega), pk_ex w q E hlt]
    have e3 : x * (b : Rat) = (q : Rat) * tw E * (b : Rat) := by
      rw [hx, e1]; congr 2; omega
    have h6 : ¬ ((q : Rat) * tw E) < x := fun h => by have := mul_lt h B0; grind
    have h7 : ¬ x < ((q : Rat) * tw E) := fun h => by have := mul_lt h B0; grind
    congr 1
    grind
  · rw [decide_eq_true (by omega)]
    refine pk_mo w hlt hge ?_ ?_
    · refine lt_of_mul (t := (b : Rat)) ?_ B0
      rw [hx, e1]
      exact mul_lt (nat_lt.2 (by omega)) T
    · refine lt_of_mul (t := (b : Rat)) ?_ B0
      rw [hx, e2]
      exact mul_lt (nat_lt.2 (by omega)) T
theorem quo_x {g g2 n n2 : Nat} (h2 : 0 < g2) (e e2 : Int) : ((g : Rat) * tw e) / ((g2 : Rat) * tw e2) * ((g2 * 2 ^ n2 : Nat) : Rat) = ((g * 2 ^ n * 18446744073709551616 : Nat) : Rat) * tw (e - n - (e2 - n2) - 64) := by
  have T := tw_pos e2
  have G : (0 : Rat) < (g2 : Rat) := by exact_mod_cast h2
  have hne : ((g2 : Rat) * tw e2) ≠ 0 := by have := Rat.mul_pos G T; grind
  have k1 : ((g : Rat) * tw e) / ((g2 : Rat) * tw e2) * ((g2 : Rat) * tw e2) = (g : Rat) * tw e := Rat.div_mul_cancel hne
  generalize ((g : Rat) * tw e) / ((g2 : Rat) * tw e2) = x at *
  have a1 : ((g2 * 2 ^ n2 : Nat) : Rat) = (g2 : Rat) * tw n2 := by rw [tw_nat]; push_cast; rfl
  have a2 : ((g * 2 ^ n * 18446744073709551616 : Nat) : Rat) = (g : Rat) * tw n * tw 64 := by
    rw [show tw 64 = tw ((64 : Nat) : Int) from rfl, tw_nat, tw_nat]; push_cast; rfl
  have a3 : tw (e - n - (e2 - n2) - 64) * tw 64 = tw (e - n - (e2 - n2)) := by rw [← tw_add]; congr 1; omega
  have a4 : tw n * tw (e - n - (e2 - n2)) = tw e * tw (n2 - e2) := by rw [← tw_add, ← tw_add]; congr 1; omega
  have a5 : tw n2 = tw e2 * tw (n2 - e2) := by rw [← tw_add]; congr 1; omega
  rw [a1, a2, a5]
  calc x * ((g2 : Rat) * (tw e2 * tw (n2 - e2))) = (x * ((g2 : Rat) * tw e2)) * tw (n2 - e2) := by grind
    _ = (g : Rat) * (tw e * tw (n2 - e2)) := by rw [k1]; grind
    _ = (g : Rat) * (tw n * (tw (e - n - (e2 - n2) - 64) * tw 64)) := by rw [a3, a4]
    _ = _ := by grind
theorem top64 {g : Nat} (h : 0 < g) (hg : g < 18446744073709551616) : 9223372036854775808 ≤ g * 2 ^ (64 - bl g) ∧ g * 2 ^ (64 - bl g) < 18446744073709551616 ∧ bl g ≤ 64 := by
  have hb := bl64 hg
  have h0 := bl_pos.2 h
  refine ⟨?_, ?_, hb⟩
  · have h1 := Nat.mul_le_mul_right (2 ^ (64 - bl g)) (two_bl_le h)
    rw [← Nat.pow_add, show bl g - 1 + (64 - bl g) = 63 by omega] at h1
    exact h1
  · have h1 := Nat.mul_lt_mul_of_pos_right (lt_two_bl g) (Nat.pow_pos (n := 64 - bl g) (show 0 < 2 by decide))
    rw [← Nat.pow_add, show bl g + (64 - bl g) = 64 by omega] at h1
    exact h1
theorem neg_div' (a b : Rat) : -a / b = -(a / b) := by rw [Rat.div_def, Rat.neg_mul, ← Rat.div_def]
theorem div_neg' {a b : Rat} (h : b ≠ 0) : a / -b = -(a / b) := by
  have h2 : -b ≠ 0 := by grind
  have e1 : a / -b * -b = a := Rat.div_mul_cancel h2
  have e2 : a / b * b = a := Rat.div_mul_cancel h
  have e3 : (a / -b + a / b) * b = 0 := by grind
  rcases Rat.mul_eq_zero.1 e3 with e | e
  · grind
  · exact absurd e h
theorem one_lt (w : Int) : oneN w < 18446744073709551616 := by unfold oneN; split <;> decide
theorem fullE (s : Bool) (kd : Int) {e : Int} {g : Nat} (h : 0 < g) (hg : g < 9007199254740992) (he : -1100 ≤ e ∧ e ≤ 1000) : quotient_above_full.f s kd e g = some (((g * 2 ^ (64 - bl g) : Nat) : Int), e - ((64 - bl g : Nat) : Int)) := by
  have h0 := bl_pos.2 h
  obtain ⟨t1, t2, t3⟩ := top64 h (by omega)
  unfold quotient_above_full.f bits_LeadingZeros64.f
  rw [if_pos (by omega), Option.bind_some, Int.toNat_natCast, bitLen_bl (by omega), show (64 : Int) - ((bl g : Nat) : Int) = ((64 - bl g : Nat) : Int) by omega, if_pos (by omega), shlN g _ (by omega), Nat.mod_eq_of_lt t2, w64_id (by omega) (by omega)]
theorem valueE (w : Int) (hw : w = 32 ∨ w = 64) (s t : Bool) (kd kd2 : Int) {e e2 : Int} {g g2 : Nat} (h : 0 < g) (h2 : 0 < g2) (hg : g < 9007199254740992) (hg2 : g2 < 9007199254740992) (he : -1100 ≤ e ∧ e ≤ 1000) (he2 : -1100 ≤ e2 ∧ e2 ≤ 1000) :
    Ev (fun k => quotient_fraction_value.f k s kd e g t kd2 e2 g2 w) ((mkN w ((fmt w).rnd (((g : Rat) * tw e) / ((g2 : Rat) * tw e2))) (s != t) : Nat) : Int) := by
  obtain ⟨a1, a2, a3⟩ := top64 h (by omega)
  obtain ⟨b1, b2, b3⟩ := top64 h2 (by omega)
  have X := quo_x (g := g) (n := 64 - bl g) (n2 := 64 - bl g2) h2 e e2
  unfold quotient_fraction_value.f
  refine Ev.bs (fullE s kd h hg he) (Ev.bs (fullE t kd2 h2 hg2 he2) ?_)
  generalize hn : 64 - bl g = n at *
  generalize hn2 : 64 - bl g2 = n2 at *
  generalize hA : g * 2 ^ n = A at *
  generalize hB : g2 * 2 ^ n2 = B at *
  have hl := wLeft (V := A) (by omega) 64 (by decide) (by rw [show (2 : Nat) ^ 64 = 18446744073709551616 by decide]; omega)
  rw [(wSmall a2).1, (wSmall a2).2, show (2 : Nat) ^ 64 = 18446744073709551616 by decide] at hl
  generalize hN : A * 18446744073709551616 = N at *
  have hd := divW (N / 18446744073709551616) (N % 18446744073709551616) B (hi64 (by omega)) (lo64 N) (by omega) b2
  rw [wn_div] at hd
  have hq1 : N / B < 340282366920938463463374607431768211456 := Nat.lt_of_le_of_lt (Nat.div_le_self _ _) (by omega)
  have hq2 : 9007199254740992 ≤ N / B := by rw [Nat.le_div_iff_mul_le (by omega)]; omega
  refine Ev.bs (ofW A) (Ev.bs hl (Ev.bind hd ?_))
  have hm : ((((N % B : Nat) : Int)) != 0) = decide (N % B ≠ 0) := by generalize N % B = m; rw [Bool.eq_iff_iff]; simp
  simp only
  rw [hm, w64_id (n := e - (n : Int) - (e2 - (n2 : Int))) (by omega) (by omega), w64_id (n := e - (n : Int) - (e2 - (n2 : Int)) - 64) (by omega) (by omega)]
  refine Ev.bs (packV w hw (s != t) (N / B) hq1 _ _) (Ev.out ?_)
  rw [quo_pk w (by omega) _ _ X hq1 hq2]
theorem div_fx (w : Int) (s t : Bool) (e e2 : Int) {g g2 : Nat} (h : 0 < g) (h2 : 0 < g2) (z : Bool) : fx w (pv (s, 1, e, (g : Int)) / pv (t, 1, e2, (g2 : Int))) z = mkN w ((fmt w).rnd (((g : Rat) * tw e) / ((g2 : Rat) * tw e2))) (s != t) := by
  have p1 := pos_tw h e
  have p2 := pos_tw h2 e2
  rw [pv1, pv1]
  generalize (g : Rat) * tw e = x at *
  generalize (g2 : Rat) * tw e2 = y at *
  have hne : y ≠ 0 := by grind
  have hp : 0 < x / y := by
    refine lt_of_mul (t := y) ?_ p2
    rw [Rat.zero_mul, Rat.div_mul_cancel hne]; exact p1
  have e1 : (if s = true then -x else x) / (if t = true then -y else y) = if (s != t) = true then -(x / y) else x / y := by
    cases s <;> cases t <;> simp [neg_div', div_neg' hne, Rat.neg_neg]
  rw [e1, fx_sg w hp]
set_option maxRecDepth 20000 in
theorem divProg (w : Int) (hw : w = 32 ∨ w = 64) (p q : Pt) (hp : PtOk p) (hq : PtOk q) : Ev (fun k => quotient_parts.f k w p.1 p.2.1 p.2.2.1 p.2.2.2 q.1 q.2.1 q.2.2.1 q.2.2.2) ((divP w p q : Nat) : Int) := by
  obtain ⟨s, kd, e, g⟩ := p
  obtain ⟨t, kd2, e2, g2⟩ := q
  obtain ⟨h1, h2, h0, h3, h4, h5, h6⟩ := hp
  obtain ⟨k1, k2, k0, k3, k4, k5, k6⟩ := hq
  simp only at h1 h2 h0 h3 h4 h5 h6 k1 k2 k0 k3 k4 k5 k6
  obtain ⟨g, rfl⟩ := Int.eq_ofNat_of_zero_le h3
  obtain ⟨g2, rfl⟩ := Int.eq_ofNat_of_zero_le k3
  simp only
  generalize hR : divP w (s, kd, e, (g : Int)) (t, kd2, e2, (g2 : Int)) = R
  unfold quotient_parts.f
  rcases h1 with rfl | rfl | rfl | rfl <;> rcases k1 with rfl | rfl | rfl | rfl
  all_goals
    simp [divP] at hR
    subst hR
    repeat (first
      | (with_reducible refine Ev.pos (by decide) ?_)
      | (with_reducible refine Ev.neg (by decide) ?_)
      | (with_reducible refine Ev.step (fun _ => quotient_parts.j0.eq_2 ..) ?_)
      | (with_reducible refine Ev.step (fun _ => quotient_parts.j1.eq_2 ..) ?_)
      | (with_reducible refine Ev.step (fun _ => quotient_parts.j2.eq_2 ..) ?_))
  all_goals first
    | (rw [div_fx w s t e e2 (by have := h2 rfl; omega) (by have := k2 rfl; omega)]
       exact Ev.bind (valueE w hw s t 1 1 (by have := h2 rfl; omega) (by have := k2 rfl; omega) (by omega) (by omega) ⟨h5, h6⟩ ⟨k5, k6⟩) (Ev.out rfl))
    | (exact Ev.bs (shN w hw) (Ev.out rfl))
    | (exact Ev.bs (shI w hw _) (Ev.out rfl))
    | (exact Ev.bs (shZ w hw _) (Ev.out rfl))
theorem divE (w : Int) (hw : w = 32 ∨ w = 64) (a b : Nat) (ha : a < 18446744073709551616) (hb : b < 18446744073709551616) : Ev (fun k => quotient_Div.f k w a b) ((divP w (opn w a) (opn w b) : Nat) : Int) := by
  have main : Ev (fun k => quotient_Div.j0 k w a b false) ((divP w (opn w a) (opn w b) : Nat) : Int) := by
    refine Ev.step (fun _ => quotient_Div.j0.eq_2 ..) (Ev.neg (by decide) (Ev.bind (openS w hw a ha) (Ev.bind (openS w hw b hb) ?_)))
    exact Ev.bind (divProg w hw _ _ (opn_ok w hw a) (opn_ok w hw b)) (Ev.out rfl)
  unfold quotient_Div.f
  rcases hw with rfl | rfl
  · exact Ev.pos rfl main
  · exact Ev.neg (by decide) main
theorem div_no {w : Int} (hw : ¬ (w = 32 ∨ w = 64)) (a b : Int) : Ev (fun k => quotient_Div.f k w a b) 0 := by
  unfold quotient_Div.f
  refine Ev.neg (by omega) (Ev.step (fun _ => quotient_Div.j0.eq_2 ..) (Ev.pos ?_ (Ev.out rfl)))
  rw [bne_iff_ne]; omega
theorem invE (w : Int) (hw : w = 32 ∨ w = 64) (a : Nat) (ha : a < 18446744073709551616) : Ev (fun k => quotient_Inverse.f k w a) ((divP w (opn w (oneN w)) (opn w a) : Nat) : Int) := by
  have h := val_one w hw
  have h1 : round_Whole.f w false 1 = some ((oneN w : Nat) : Int) := by
    rw [show (1 : Int) = ((1 : Nat) : Int) from rfl, wholeE w hw false 1 (by decide)]
    rw [show ((1 : Nat) : Rat) = (fmt w).val (oneN w) by rw [h.1]; rfl, (fmt w).rnd_val (by omega)]
    simp [mkN]
  unfold quotient_Inverse.f
  exact Ev.bs h1 (Ev.bind (divE w hw (oneN w) a (by unfold oneN; split <;> decide) ha) (Ev.out rfl))
theorem inv_no {w : Int} (hw : ¬ (w = 32 ∨ w = 64)) (a : Int) : Ev (fun k => quotient_Inverse.f k w a) 0 := by
  unfold quotient_Inverse.f
  exact Ev.bs (show round_Whole.f w false 1 = some 0 by have := whole_no hw false 1 (by decide); exact this) (Ev.bind (div_no hw 0 a) (Ev.out rfl))
set_option maxRecDepth 20000 in
theorem divRef (w : Int) (hw : w = 32 ∨ w = 64) (a b : Nat) (ha : a < 18446744073709551616) (hb : b < 18446744073709551616) : Ev (fun k => r6_Div.f k w a b) ((divP w (opn w a) (opn w b) : Nat) : Int) := by
  unfold r6_Div.f
  refine Ev.bind (r2Open w hw a ha) (Ev.bind (r2Open w hw b hb) ?_)
  have hp := opn_ok w hw a
  have hq := opn_ok w hw b
  generalize opn w a = p at *
  generalize opn w b = q at *
  obtain ⟨s, kd, e, g⟩ := p
  obtain ⟨t, kd2, e2, g2⟩ := q
  obtain ⟨h1, h2, h0, h3, h4, h5, h6⟩ := hp
  obtain ⟨k1, k2, k0, k3, k4, k5, k6⟩ := hq
  simp only at h1 h2 h0 h3 h4 h5 h6 k1 k2 k0 k3 k4 k5 k6
  obtain ⟨g, rfl⟩ := Int.eq_ofNat_of_zero_le h3
  obtain ⟨g2, rfl⟩ := Int.eq_ofNat_of_zero_le k3
  simp only
  generalize hR : divP w (s, kd, e, (g : Int)) (t, kd2, e2, (g2 : Int)) = R
  have tail : 0 < g → 0 < g2 → Ev (fun k => (r1_Of.f k (g : Int)).bind fun t680 => ((r1_Of.f k (g2 : Int)).bind fun t683 => ((r3_Near.f k w (s != t) t680 t683 (wrap64 (e - e2))).bind fun t686 => (some t686)))) ((mkN w ((fmt w).rnd (((g : Rat) * tw e) / ((g2 : Rat) * tw e2))) (s != t) : Nat) : Int) := by
    intro p1 p2
    have b1 := bl53 (show g < 9007199254740992 by omega)
    have b2 := bl53 (show g2 < 9007199254740992 by omega)
    have hx : ((g : Rat) * tw e) / ((g2 : Rat) * tw e2) * (g2 : Rat) = (g : Rat) * tw (e - e2) := by
      have := quo_x (g := g) (n := 0) (n2 := 0) p2 e e2
      rw [show g2 * 2 ^ 0 = g2 by omega, show g * 2 ^ 0 * 18446744073709551616 = g * 18446744073709551616 by omega] at this
      rw [this]
      rw [show tw (e - e2) = tw 64 * tw (e - ((0 : Nat) : Int) - (e2 - ((0 : Nat) : Int)) - 64) by rw [← tw_add]; congr 1; omega, show tw 64 = ((2 ^ 64 : Nat) : Rat) from tw_nat 64]
      push_cast; grind
    rw [w64_id (n := e - e2) (by omega) (by omega)]
    exact Ev.bind (of_dg g (by omega)) (Ev.bind (of_dg g2 (by omega)) (Ev.bind (nearS w hw (s != t) g g2 (e - e2) p1 p2 (by omega) (by omega) (by omega) _ hx) (Ev.out rfl)))
  rcases h1 with rfl | rfl | rfl | rfl <;> rcases k1 with rfl | rfl | rfl | rfl
  all_goals
    simp [divP] at hR
    subst hR
    repeat (first
      | (with_reducible refine Ev.pos (by decide) ?_)
      | (with_reducible refine Ev.neg (by decide) ?_)
      | (with_reducible refine Ev.step (fun _ => r6_Div.j0.eq_2 ..) ?_)
      | (with_reducible refine Ev.step (fun _ => r6_Div.j1.eq_2 ..) ?_)
      | (with_reducible refine Ev.step (fun _ => r6_Div.j2.eq_2 ..) ?_))
  all_goals first
    | (rw [div_fx w s t e e2 (by have := h2 rfl; omega) (by have := k2 rfl; omega)]
       exact tail (by have := h2 rfl; omega) (by have := k2 rfl; omega))
    | (exact Ev.bind (r2Nanw w hw) (Ev.out rfl))
    | (exact Ev.bind (r2Infw w hw _) (Ev.out rfl))
    | (exact Ev.bind (zero_mul' w hw _) (Ev.out rfl))
theorem refOne' (w : Int) (hw : w = 32 ∨ w = 64) : Ev (fun k => r5_One.f k w) ((oneN w : Nat) : Int) := by
  rcases hw with rfl | rfl
  · exact Ev.of (fun k => r5_One.mono _ k) (k := 80) (by decide +kernel)
  · exact Ev.of (fun k => r5_One.mono _ k) (k := 80) (by decide +kernel)
theorem awake06 : Ev (fun k => L06_awake.f k) true := Ev.of (fun k => L06_awake.mono k) (k := 80) (by decide +kernel)
theorem QuotientDivsP : L06_QuotientDivs.Pure := by
  intro w a b hw0 ha0 hb0
  obtain ⟨ha1, ha2⟩ := wf_u64 ha0
  obtain ⟨a, rfl⟩ := Int.eq_ofNat_of_zero_le ha1
  have ha : a < 18446744073709551616 := by omega
  obtain ⟨hb1, hb2⟩ := wf_u64 hb0
  obtain ⟨b, rfl⟩ := Int.eq_ofNat_of_zero_le hb1
  have hb : b < 18446744073709551616 := by omega
  refine Ev.rounds ?_
  unfold L06_QuotientDivs.f
  refine Ev.bind awake06 (Ev.pos rfl ?_)
  by_cases hw : w = 32 ∨ w = 64
  · refine Ev.bind (divE w hw a b ha hb) (Ev.bind (invE w hw a ha) (Ev.bs (known_f w) ?_))
    rw [decide_eq_true hw]
    exact Ev.pos rfl (Ev.bind (divRef w hw a b ha hb) (Ev.pos rfl (Ev.bind (refOne' w hw) (Ev.bind (divRef w hw (oneN w) a (one_lt w) ha) (Ev.out (by simp))))))
  · refine Ev.bind (div_no hw a b) (Ev.bind (inv_no hw a) (Ev.bs (known_f w) ?_))
    rw [decide_eq_false hw]
    exact Ev.neg (by decide) (Ev.pos rfl (Ev.out rfl))
end Go.Proofs.Ytbpmnmceajmmcaa.Th
end
namespace Go.Proofs.Ytbpmnmceajmmcaa.Pure
theorem QuotientDivs : Go.Proofs.Ytbpmnmceajmmcaa.PA.L06_QuotientDivs.Pure := Go.Proofs.Ytbpmnmceajmmcaa.Th.QuotientDivsP
end Go.Proofs.Ytbpmnmceajmmcaa.Pure
namespace Go.Proofs.Ytbpmnmceajmmcaa.Facts
abbrev ch (n : Nat) : Char := Char.ofNat n
theorem words_word (w : List Char) (r : List Char) (h : w.all (fun c => c != ch 32) = true) : wordsSigns (w ++ ch 32 :: r) = w :: wordsSigns r := by
  induction w with
  | nil => rfl
  | cons c w ih =>
    rw [List.all_cons, Bool.and_eq_true] at h
    have hc : c ≠ ch 32 := bne_iff_ne.1 h.1
    rw [List.cons_append]
    rw [wordsSigns.eq_3 c _ (fun e => hc e), ih h.2]
def w1 : List Char := [ch 104, ch 97, ch 114, ch 110, ch 101, ch 115, ch 115]
def w2 : List Char := [ch 97, ch 57, ch 99, ch 102, ch 100, ch 53, ch 99, ch 57, ch 100, ch 54, ch 48, ch 56, ch 102, ch 100, ch 52, ch 54, ch 54, ch 52, ch 54, ch 53, ch 57, ch 56, ch 53, ch 100, ch 57, ch 55, ch 54, ch 57, ch 102, ch 102, ch 100, ch 56, ch 53, ch 100, ch 49, ch 56, ch 54, ch 56, ch 53, ch 55, ch 54, ch 97, ch 49, ch 53, ch 100, ch 100, ch 56, ch 49, ch 54, ch 55, ch 99, ch 101, ch 56, ch 52, ch 54, ch 98, ch 102, ch 55, ch 57, ch 48, ch 52, ch 55, ch 56, ch 49]
def w3 : List Char := [ch 99, ch 117, ch 116]
set_option maxRecDepth 100000 in
def tailSigns : List Char := [ch 97, ch 116, ch 32, ch 116, ch 114, ch 117, ch 110, ch 110, ch 105, ch 111, ch 110, ch 47, ch 116, ch 114, ch 117, ch 110, ch 110, ch 105, ch 111, ch 110, ch 108, ch 97, ch 119, ch 48, ch 53, ch 46, ch 80, ch 114, ch 111, ch 100, ch 117, ch 99, ch 116, ch 84, ch 119, ch 105, ch 99, ch 101, ch 32, ch 116, ch 114, ch 117, ch 110, ch 110, ch 105, ch 111, ch 110, ch 47, ch 116, ch 114, ch 117, ch 110, ch 110, ch 105, ch 111, ch 110, ch 108, ch 97, ch 119, ch 48, ch 53, ch 46, ch 80, ch 114, ch 111, ch 100, ch 117, ch 99, ch 116, ch 83, ch 99, ch 97, ch 108, ch 101, ch 115, ch 32, ch 116, ch 114, ch 117, ch 110, ch 110, ch 105, ch 111, ch 110, ch 47, ch 116, ch 114, ch 117, ch 110, ch 110, ch 105, ch 111, ch 110, ch 108, ch 97, ch 119, ch 48, ch 54, ch 46, ch 81, ch 117, ch 111, ch 116, ch 105, ch 101, ch 110, ch 116, ch 68, ch 105, ch 118, ch 115, ch 32, ch 116, ch 114, ch 117, ch 110, ch 110, ch 105, ch 111, ch 110, ch 47, ch 116, ch 114, ch 117, ch 110, ch 110, ch 105, ch 111, ch 110, ch 108, ch 97, ch 119, ch 48, ch 54, ch 46, ch 81, ch 117, ch 111, ch 116, ch 105, ch 101, ch 110, ch 116, ch 75, ch 101, ch 101, ch 112, ch 115, ch 32, ch 116, ch 114, ch 117, ch 110, ch 110, ch 105, ch 111, ch 110, ch 47, ch 116, ch 114, ch 117, ch 110, ch 110, ch 105, ch 111, ch 110, ch 108, ch 97, ch 119, ch 48, ch 54, ch 46, ch 81, ch 117, ch 111, ch 116, ch 105, ch 101, ch 110, ch 116, ch 83, ch 99, ch 97, ch 108, ch 101, ch 32, ch 116, ch 114, ch 117, ch 110, ch 110, ch 105, ch 111, ch 110, ch 47, ch 116, ch 114, ch 117, ch 110, ch 110, ch 105, ch 111, ch 110, ch 108, ch 97, ch 119, ch 48, ch 51, ch 46, ch 82, ch 111, ch 117, ch 110, ch 100, ch 80, ch 97, ch 99, ch 107, ch 115, ch 32, ch 116, ch 114, ch 117, ch 110, ch 110, ch 105, ch 111, ch 110, ch 47, ch 116, ch 114, ch 117, ch 110, ch 110, ch 105, ch 111, ch 110, ch 108, ch 97, ch 119, ch 48, ch 51, ch 46, ch 82, ch 111, ch 117, ch 110, ch 100, ch 82, ch 105, ch 115, ch 101, ch 115, ch 32, ch 116, ch 114, ch 117, ch 110, ch 110, ch 105, ch 111, ch 110, ch 47, ch 116, ch 114, ch 117, ch 110, ch 110, ch 105, ch 111, ch 110, ch 108, ch 97, ch 119, ch 48, ch 51, ch 46, ch 82, ch 111, ch 117, ch 110, ch 100, ch 75, ch 101, ch 101, ch 112, ch 115, ch 32, ch 116, ch 114, ch 117, ch 110, ch 110, ch 105, ch 111, ch 110, ch 47, ch 116, ch 114, ch 117, ch 110, ch 110, ch 105, ch 111, ch 110, ch 108, ch 97, ch 119, ch 48, ch 52, ch 46, ch 83, ch 117, ch 109, ch 65, ch 100, ch 100, ch 115, ch 32, ch 116, ch 114, ch 117, ch 110, ch 110, ch 105, ch 111, ch 110, ch 47, ch 116, ch 114, ch 117, ch 110, ch 110, ch 105, ch 111, ch 110, ch 108, ch 97, ch 119, ch 48, ch 52, ch 46, ch 83, ch 117, ch 109, ch 79, ch 114, ch 100, ch 101, ch 114, ch 32, ch 116, ch 114, ch 117, ch 110, ch 110, ch 105, ch 111, ch 110, ch 47, ch 116, ch 114, ch 117, ch 110, ch 110, ch 105, ch 111, ch 110, ch 108, ch 97, ch 119, ch 48, ch 52, ch 46, ch 83, ch 117, ch 109, ch 67, ch 108, ch 111, ch 115, ch 101, ch 32, ch 116, ch 114, ch 117, ch 110, ch 110, ch 105, ch 111, ch 110, ch 47, ch 116, ch 114, ch 117, ch 110, ch 110, ch 105, ch 111, ch 110, ch 108, ch 97, ch 119, ch 48, ch 52, ch 46, ch 83, ch 117, ch 109, ch 84, ch 111, ch 116, ch 97, ch 108, ch 115]
set_option maxRecDepth 100000 in
theorem head_list : Try.prog.initOrder.toList = w1 ++ ch 32 :: (w2 ++ ch 32 :: (w3 ++ ch 32 :: tailSigns)) :=
  (congrArg String.toList (show Try.prog.initOrder = String.ofList (w1 ++ ch 32 :: (w2 ++ ch 32 :: (w3 ++ ch 32 :: tailSigns))) from rfl)).trans String.toList_ofList
theorem words : ∃ rest, behindMainWord (wordsSigns Try.prog.initOrder.toList) = w3 :: rest := by
  refine ⟨wordsSigns tailSigns, ?_⟩
  rw [head_list, words_word w1 _ (by kernel_rfl), words_word w2 _ (by kernel_rfl), words_word w3 _ (by kernel_rfl)]
  generalize wordsSigns tailSigns = rest
  have e : ((w1 == "harness".toList || w1 == "ownmain".toList) && isSumSigns w2) = true := by kernel_rfl
  show (if ((w1 == "harness".toList || w1 == "ownmain".toList) && isSumSigns w2) = true then w3 :: rest else w1 :: w2 :: w3 :: rest) = w3 :: rest
  rw [if_pos e]
theorem c3 : (w3 == "gc".toList) = false ∧ (w3 == "spec".toList) = false ∧ (w3 == "cut".toList) = true ∧ (w3 == "carried".toList) = false ∧ (w3 == "finals".toList) = false := ⟨by kernel_rfl, by kernel_rfl, by kernel_rfl, by kernel_rfl, by kernel_rfl⟩
theorem strip (rest : List (List Char)) : stripLifts liftWords (w3 :: rest) = ([], w3 :: rest) := by
  have key : ∀ l : List String, l.all (fun o => !(w3 == o.toList)) = true → stripLifts l (w3 :: rest) = ([], w3 :: rest) := by
    intro l
    induction l with
    | nil => intro _; rfl
    | cons o l ih =>
      intro h
      rw [List.all_cons, Bool.and_eq_true] at h
      unfold stripLifts
      rw [if_neg (fun e => by have h1 := h.1; rw [e] at h1; cases h1)]
      exact ih h.2
  exact key liftWords (by kernel_rfl)
theorem make_of (P : Program) (h : ∃ rest, behindMainWord (wordsSigns P.initOrder.toList) = w3 :: rest) : P.make = some .cut := by
  obtain ⟨rest, h⟩ := h
  unfold Program.make
  rw [h]
  show (if (w3 == "gc".toList || w3 == "spec".toList) = true then some Make.whole else if (w3 == "cut".toList || (w3 == "finals".toList && rest.head? == some "cut".toList)) = true then some Make.cut else _) = some Make.cut
  rw [if_neg (by rw [c3.1, c3.2.1]; decide), if_pos (by rw [c3.2.2.1, Bool.true_or])]
set_option maxRecDepth 100000 in
theorem liftsFact : Try.prog.liftsFinal = false := by
  unfold Program.liftsFinal Program.headLifts
  rw [head_list]
  kernel_rfl
theorem doorFact : (!Try.prog.laysLater && !Try.prog.bearsReflect && Try.prog.doorFits []) = true := by kernel_rfl
theorem makeFact : Try.prog.make = some .cut := make_of _ words
theorem enter_of (P : Program) (h : ∃ rest, behindMainWord (wordsSigns P.initOrder.toList) = w3 :: rest) (d : (!P.laysLater && !P.bearsReflect && P.doorFits []) = true) : P.mayEnter = true := by
  obtain ⟨rest, h⟩ := h
  rw [Bool.and_eq_true, Bool.and_eq_true] at d
  have e : ((some w3 == some "cut".toList) : Bool) = true := by kernel_rfl
  unfold Program.mayEnter
  rw [h]
  show ((_ || _) || ((stripLifts liftWords (w3 :: rest)).2.head? == some "cut".toList && ((stripLifts liftWords (w3 :: rest)).1.contains "finals" || !P.laysLater) && ((stripLifts liftWords (w3 :: rest)).1.contains "reflectrows" || !P.bearsReflect) &&
      ((stripLifts liftWords (w3 :: rest)).1.contains "reflectrows" || !(stripLifts liftWords (w3 :: rest)).1.contains "leanrows") && P.doorFits (stripLifts liftWords (w3 :: rest)).1)) = true
  rw [strip, Bool.or_eq_true]
  refine .inr ?_
  rw [Bool.and_eq_true, Bool.and_eq_true, Bool.and_eq_true, Bool.and_eq_true, Bool.or_eq_true, Bool.or_eq_true]
  exact ⟨⟨⟨⟨e, .inr d.1.1⟩, .inr d.1.2⟩, rfl⟩, d.2⟩
theorem enterFact : Try.prog.mayEnter = true := enter_of _ words doorFact
end Go.Proofs.Ytbpmnmceajmmcaa.Facts
