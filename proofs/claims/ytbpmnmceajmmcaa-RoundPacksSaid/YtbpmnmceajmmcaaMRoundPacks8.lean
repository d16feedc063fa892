/- What the Go functions that the statement RoundPacks reaches compute, and the mathematics on it, in the order in which one leans on the other; for every input. -/
import Derived.Test.YtbpmnmceajmmcaaVRoundPacks0
import Derived.Test.YtbpmnmceajmmcaaMRoundPacks7
import Derived.Test.YtbpmnmceajmmcaaMRoundPacks0
import Derived.Test.YtbpmnmceajmmcaaMRoundPacks5
import Derived.Test.YtbpmnmceajmmcaaMRoundPacks2
import Derived.Test.YtbpmnmceajmmcaaMRoundPacks6
import Derived.Test.YtbpmnmceajmmcaaMRoundPacks1
import Derived.Test.YtbpmnmceajmmcaaRows
import Derived.ProofKit
import Derived.JoinedOf
import Derived.KernelRfl
import Derived.WalkKit
import Derived.OpenShut
import Derived.ShutString
import Derived.ChangeOld
import Derived.SizedLaws
import Derived.Lib.SmallJoins
section
set_option linter.unusedVariables false
set_option linter.unusedSimpArgs false
namespace Go.Proofs.Ytbpmnmceajmmcaa.Th
open Go.RowKit Go.Proofs.YtbpmnmceajmmcaaW.PrintWords Go.Proofs.YtbpmnmceajmmcaaW.PrintLast Go.Proofs.YtbpmnmceajmmcaaW.PrintMore Go.Proofs.Ytbpmnmceajmmcaa.PA Bit Dig Flo
theorem r2Fw (w : Int) (hw : w = 32 ∨ w = 64) : r2_F.f w = some (((fmt w).f : Nat) : Int) := by rcases hw with rfl | rfl <;> decide +kernel
theorem r3Low (w : Int) (hw : w = 32 ∨ w = 64) : r3_Low.f w = some (fmt w).low := by rcases hw with rfl | rfl <;> decide +kernel
theorem r2Topw (w : Int) (hw : w = 32 ∨ w = 64) : Ev (fun k => r2_Top.f k w) (((fmt w).top : Nat) : Int) := by rcases hw with rfl | rfl; exact r2Top32; exact r2Top64
theorem r2Tfw (w : Int) (hw : w = 32 ∨ w = 64) : Ev (fun k => r2_Two.f k (((fmt w).f : Nat) : Int)) ((2 ^ (fmt w).f : Nat) : Int) := two_f _ (by have := (fmt_f w); omega)
theorem r2Infw (w : Int) (hw : w = 32 ∨ w = 64) (s : Bool) : Ev (fun k => r2_Inf.f k w s) ((mkN w (fmt w).inf s : Nat) : Int) := by rcases hw with rfl | rfl; exact r2Inf32 s; exact r2Inf64 s
theorem r2Makew (w : Int) (hw : w = 32 ∨ w = 64) (s : Bool) (e fr : Nat) (he : e ≤ (fmt w).top) (hf : fr < 2 ^ (fmt w).f) : Ev (fun k => r2_Make.f k w s e fr) ((mkN w (e * 2 ^ (fmt w).f + fr) s : Nat) : Int) := by
  rcases hw with rfl | rfl
  · exact r2Make32 s e fr he hf
  · exact r2Make64 s e fr he hf
theorem len_zero (n : Nat) : ((dg n).length : Int) = 0 ↔ n = 0 := by
  have := @len_pos n
  omega
theorem quotS (a b : Nat) (hb : 0 < b) (ha1 : bl a < 10000000) (hb1 : bl b < 10000000) : Ev (fun k => r3_Quotient.f k (dg a) (dg b)) (dg (rne a b)) := by
  unfold r3_Quotient.f
  have hm : bl (a % b) ≤ bl a := bl_mono (Nat.mod_le _ _)
  have hq : bl (a / b) ≤ bl a := bl_mono (Nat.div_le_self _ _)
  have hs := bl_shl (a % b) 1
  refine Ev.bind (div_dg a b hb (by omega) (by omega)) (Ev.bind (shl_bl (a % b) 1 (by decide) (by omega)) ?_)
  rw [show a % b * 2 ^ 1 = 2 * (a % b) by omega] at *
  refine Ev.bind (cmp_bl _ b (by omega) (by omega)) ?_
  have yes : Ev (fun k => r3_Quotient.j0 k true (dg (a / b))) (dg (a / b + 1)) :=
    Ev.step (fun _ => r3_Quotient.j0.eq_2 ..) (Ev.pos rfl (Ev.bind (of_dg 1 (by decide)) (Ev.bind (add_bl (a / b) 1 (by omega) (by decide)) (Ev.out rfl))))
  have no : Ev (fun k => r3_Quotient.j0 k false (dg (a / b))) (dg (a / b)) :=
    Ev.step (fun _ => r3_Quotient.j0.eq_2 ..) (Ev.neg (by decide) (Ev.out rfl))
  unfold cmpN rne
  by_cases h1 : b < 2 * (a % b)
  · rw [if_neg (show ¬ 2 * (a % b) < b by omega), if_pos h1, if_pos (.inl h1)]
    exact Ev.pos (by decide) yes
  · by_cases h2 : 2 * (a % b) = b
    · rw [if_neg (show ¬ 2 * (a % b) < b by omega), if_neg h1]
      refine Ev.neg (by decide) (Ev.pos rfl (Ev.bs (uint_dg _) ?_))
      have e : (Int.tmod ((a / b % 18446744073709551616 : Nat) : Int) 2 == 1) = decide (a / b % 2 = 1) := by
        rw [Int.tmod_eq_emod_of_nonneg (by omega), Bool.eq_iff_iff]; simp; omega
      rw [e]
      by_cases h3 : a / b % 2 = 1
      · rw [decide_eq_true h3, if_pos (.inr ⟨h2, h3⟩)]; exact yes
      · rw [decide_eq_false h3, if_neg (by omega)]; exact no
    · rw [if_pos (show 2 * (a % b) < b by omega), if_neg (by omega)]
      exact Ev.neg (by decide) (Ev.neg (by decide) no)
theorem underS (a b : Nat) (s : Int) (ha1 : bl a < 1000000) (hb1 : bl b < 1000000) (hs : -1000000 < s ∧ s < 1000000) : Ev (fun k => r3_under.f k (dg a) (dg b) s) (decide ((a : Rat) * tw s < (b : Rat))) := by
  unfold r3_under.f
  have hc : ∀ m n : Nat, decide (cmpN m n < 0) = decide (m < n) := fun m n => by
    unfold cmpN
    by_cases h : m < n
    · rw [if_pos h, decide_eq_true h]; rfl
    · rw [if_neg h, decide_eq_false h]; split <;> rfl
  by_cases h : s ≥ 0
  · obtain ⟨n, rfl⟩ := Int.eq_ofNat_of_zero_le h
    have h2 := bl_shl a n
    refine Ev.pos h (Ev.bind (shl_bl a n (by omega) (by omega)) (Ev.bind (cmp_bl _ b (by omega) (by omega)) (Ev.out ?_)))
    rw [hc]
    refine decide_eq_decide.2 ?_
    rw [tw_nat, ← nat_lt]; push_cast; rfl
  · obtain ⟨n, hn⟩ := Int.eq_ofNat_of_zero_le (show 0 ≤ -s by omega)
    have h2 := bl_shl b n
    obtain rfl : s = -(n : Int) := by omega
    refine Ev.neg h ?_
    rw [w64_id (by omega) (by omega), Int.neg_neg]
    refine Ev.bind (shl_bl b n (by omega) (by omega)) (Ev.bind (cmp_bl a _ (by omega) (by omega)) (Ev.out ?_))
    rw [hc]
    refine decide_eq_decide.2 ?_
    have T := tw_pos (n : Int)
    have e1 : tw (-(n : Int)) * tw n = 1 := by rw [← tw_add, Int.add_left_neg, tw_zero]
    have e2 : ((b * 2 ^ n : Nat) : Rat) = (b : Rat) * tw n := by rw [tw_nat]; push_cast; rfl
    rw [← nat_lt, e2]
    constructor
    · intro h3
      refine lt_of_mul (t := tw n) ?_ T
      rw [Rat.mul_assoc, e1, Rat.mul_one]; exact h3
    · intro h3
      have := mul_lt h3 T
      rwa [Rat.mul_assoc, e1, Rat.mul_one] at this
theorem grainS (a b : Nat) (s : Int) (hb : 0 < b) (ha1 : bl a < 1000000) (hb1 : bl b < 1000000) (hs : -1000000 < s ∧ s < 1000000) : ∃ A B : Nat, 0 < B ∧ (∀ x : Rat, x * (b : Rat) = (a : Rat) * tw s → x * (B : Rat) = (A : Rat)) ∧ Ev (fun k => r3_grain.f k (dg a) (dg b) s) (dg (rne A B)) := by
  unfold r3_grain.f
  by_cases h : s ≥ 0
  · obtain ⟨n, rfl⟩ := Int.eq_ofNat_of_zero_le h
    have h2 := bl_shl a n
    refine ⟨a * 2 ^ n, b, hb, fun x hx => ?_, Ev.pos h (Ev.bind (shl_bl a n (by omega) (by omega)) (Ev.bind (quotS _ b hb (by omega) (by omega)) (Ev.out rfl)))⟩
    rw [hx, tw_nat]; push_cast; rfl
  · obtain ⟨n, hn⟩ := Int.eq_ofNat_of_zero_le (show 0 ≤ -s by omega)
    have h2 := bl_shl b n
    obtain rfl : s = -(n : Int) := by omega
    refine ⟨a, b * 2 ^ n, Nat.mul_pos hb (Nat.pow_pos (by decide)), fun x hx => ?_, ?_⟩
    · have e1 : tw (-(n : Int)) * tw n = 1 := by rw [← tw_add, Int.add_left_neg, tw_zero]
      have e2 : ((b * 2 ^ n : Nat) : Rat) = (b : Rat) * tw n := by rw [tw_nat]; push_cast; rfl
      rw [e2, ← Rat.mul_assoc, hx, Rat.mul_assoc, e1, Rat.mul_one]
    · refine Ev.neg h ?_
      rw [w64_id (by omega) (by omega), Int.neg_neg]
      exact Ev.bind (shl_bl b n (by omega) (by omega)) (Ev.bind (quotS a _ (Nat.mul_pos hb (Nat.pow_pos (by decide))) (by omega) (by omega)) (Ev.out rfl))
theorem finS (w : Int) (hw : w = 32 ∨ w = 64) (s : Bool) (q n : Nat) (hn : n < 2 ^ (fmt w).f * 2) (hl : 0 < q → 2 ^ (fmt w).f ≤ n) (hq : q < 1000000) :
    Ev (fun k => r3_Near.j2 k w s (((fmt w).f : Nat) : Int) ((q : Int) + (fmt w).low) (dg n)) ((mkN w (if (fmt w).top < q + 2 then (fmt w).inf else if n < 2 ^ (fmt w).f then n else (q + 1) * 2 ^ (fmt w).f + (n - 2 ^ (fmt w).f)) s : Nat) : Int) := by
  have hb := fmt_bd w
  have hp : 2 ^ (fmt w).f ≤ 4503599627370496 := by
    rw [show (4503599627370496 : Nat) = 2 ^ 52 by decide]; exact Nat.pow_le_pow_right (by decide) (fmt_f w)
  have ht := (fmt w).ht
  refine Ev.step (fun _ => r3_Near.j2.eq_2 ..) (Ev.bs (r3Low w hw) (Ev.bind (r2Topw w hw) ?_))
  rw [w64_id (n := (fmt w).low + ((fmt w).top : Int)) (by omega) (by omega), w64_id (by omega) (by omega)]
  by_cases c1 : (fmt w).top < q + 2
  · rw [if_pos c1]
    exact Ev.pos (by omega) (Ev.bind (r2Infw w hw s) (Ev.out rfl))
  · rw [if_neg c1]
    refine Ev.neg (by omega) (Ev.bs (uint_dg n) (Ev.bind (r2Tfw w hw) ?_))
    rw [Nat.mod_eq_of_lt (by omega)]
    by_cases c2 : n < 2 ^ (fmt w).f
    · rw [if_pos c2]
      have := r2Makew w hw s 0 n (Nat.zero_le _) c2
      rw [Nat.zero_mul, Nat.zero_add] at this
      exact Ev.pos (by exact_mod_cast c2) (Ev.bind this (Ev.out rfl))
    · rw [if_neg c2]
      have := r2Makew w hw s (q + 1) (n - 2 ^ (fmt w).f) (by omega) (by omega)
      refine Ev.neg (by intro k; exact c2 (by exact_mod_cast k)) (Ev.bs (r3Low w hw) (Ev.bind (r2Tfw w hw) ?_))
      rw [show (q : Int) + (fmt w).low - (fmt w).low = q by omega, w64_id (n := (q : Int)) (by omega) (by omega), w64_id (by omega) (by omega), u64_id (by omega) (by omega), show (n : Int) - ((2 ^ (fmt w).f : Nat) : Int) = ((n - 2 ^ (fmt w).f : Nat) : Int) by omega]
      exact Ev.bind this (Ev.out rfl)
theorem nearS (w : Int) (hw : w = 32 ∨ w = 64) (s : Bool) (a b : Nat) (kk : Int) (ha : 0 < a) (hb : 0 < b) (ha1 : bl a < 100000) (hb1 : bl b < 100000) (hk : -10000 < kk ∧ kk < 10000) (x : Rat) (hx : x * (b : Rat) = (a : Rat) * tw kk) :
    Ev (fun k => r3_Near.f k w s (dg a) (dg b) kk) ((mkN w ((fmt w).rnd x) s : Nat) : Int) := by
  have bd := fmt_bd w
  have hff := fmt_f w
  have h3 : ∀ n : Nat, 0 < n → 2 ^ bl n ≤ 2 * n := fun n h => by
    have h1 := two_bl_le h
    have h0 := bl_pos.2 h
    have : 2 ^ bl n = 2 ^ (bl n - 1) * 2 := by rw [← Nat.pow_succ]; congr 1; omega
    omega
  have mx_ : ∀ a b : Int, mx a b = max a b := fun a b => by unfold mx; split <;> omega
  unfold r3_Near.f
  refine Ev.bs (r2Fw w hw) (Ev.bind (len_dg a (by omega)) (Ev.bind (len_dg b (by omega)) (Ev.bs (r3Low w hw) (Ev.bs (r3Low w hw) ?_))))
  rw [w64_id (n := ((bl a : Nat) : Int) - ((bl b : Nat) : Int)) (by omega) (by omega), w64_id (n := ((bl a : Nat) : Int) - ((bl b : Nat) : Int) + kk) (by omega) (by omega), w64_id (by omega) (by omega), mx_]
  obtain ⟨q0, hq0⟩ : ∃ q0, max ((bl a : Int) - bl b + kk - (fmt w).f) (fmt w).low = q0 := ⟨_, rfl⟩
  rw [hq0]
  have hqb : (fmt w).low ≤ q0 ∧ q0 < 200000 := by omega
  have hB' : (0 : Rat) < (b : Rat) := by exact_mod_cast hb
  -- the test
  have hunder : Ev (fun k => r3_under.f k (dg a) (dg b) (kk - q0 - (fmt w).f)) (decide (x < tw (q0 + (fmt w).f))) := by
    have := underS a b (kk - q0 - (fmt w).f) (by omega) (by omega) (by omega)
    have e : decide ((a : Rat) * tw (kk - q0 - (fmt w).f) < (b : Rat)) = decide (x < tw (q0 + (fmt w).f)) := by
      refine decide_eq_decide.2 ?_
      have T := tw_pos (q0 + (fmt w).f)
      have e1 : tw kk = tw (kk - q0 - (fmt w).f) * tw (q0 + (fmt w).f) := by rw [← tw_add]; congr 1; omega
      constructor
      · intro h
        have := mul_lt h T
        rw [Rat.mul_assoc, ← e1, ← hx] at this
        exact lt_of_mul (t := (b : Rat)) (by grind) hB'
      · intro h
        have := mul_lt h hB'
        rw [hx, e1, ← Rat.mul_assoc] at this
        exact lt_of_mul (t := tw (q0 + (fmt w).f)) (by grind) T
    rw [e] at this
    exact this
  obtain ⟨q1, hq1⟩ : ∃ q1, (if (fmt w).low < q0 ∧ x < tw (q0 + (fmt w).f) then q0 - 1 else q0) = q1 := ⟨_, rfl⟩
  obtain ⟨d1, d2, d3⟩ := Fmt.Rnd.doc (fmt w) (h3 a ha) (lt_two_bl a) hb (h3 b hb) (lt_two_bl b) hx hq0.symm hq1.symm
  obtain ⟨q, hq⟩ := Int.eq_ofNat_of_zero_le (show 0 ≤ q1 - (fmt w).low by omega)
  have hqq : q1 = (q : Int) + (fmt w).low := by omega
  have hqn : q < 100000000 := by
    have : q1 ≤ q0 := by rw [← hq1]; split <;> omega
    omega
  obtain ⟨A, B, hBp, hAB, hg⟩ := grainS a b (kk - q1) hb (by omega) (by omega) (by omega)
  have hxe : x * (B : Rat) = (A : Rat) * tw (q + (fmt w).low) := by
    have T := tw_pos (-q1)
    have e1 : tw (-q1) * tw q1 = 1 := by rw [← tw_add, Int.add_left_neg, tw_zero]
    have e2 : tw (kk - q1) = tw kk * tw (-q1) := by rw [← tw_add]; congr 1
    have := hAB (x * tw (-q1)) (by rw [e2, ← Rat.mul_assoc, ← hx]; grind)
    rw [← this, ← hqq]
    grind
  have hx2 : x < tw (q + (fmt w).low + (fmt w).f + 1) := by rw [← hqq]; exact d2
  have hl2 : 0 < q → tw (q + (fmt w).low + (fmt w).f) ≤ x := fun h => by rw [← hqq]; exact d3 (by omega)
  obtain ⟨n1, n2⟩ := (fmt w).make_bd hx2 hl2 (fun h => (fmt w).near_lo hBp hxe h) ((fmt w).near_hi hBp hxe)
  have R := Fmt.Rnd.near (fmt w) hBp hxe hx2 hl2
  rw [(fmt w).rnd_of R, ← (fmt w).fin_eq n1 n2]
  have p2 : 2 ^ ((fmt w).f + 1) = 2 ^ (fmt w).f * 2 := Nat.pow_succ ..
  have pp := (fmt w).pow_pos
  generalize hN : rne A B = n at *
  have ln : bl n ≤ (fmt w).f + 2 := bl_le.2 (by rw [Nat.pow_succ]; omega)
  have hqs : q < 1000000 := by
    have : q1 ≤ q0 := by rw [← hq1]; split <;> omega
    omega
  have tail : Ev (fun k => r3_Near.j1 k w s kk (((fmt w).f : Nat) : Int) q1 (dg a) (dg b)) ((mkN w ((fmt w).fin q n) s : Nat) : Int) := by
    refine Ev.step (fun _ => r3_Near.j1.eq_2 ..) ?_
    rw [w64_id (n := kk - q1) (by omega) (by omega), w64_id (n := (((fmt w).f : Nat) : Int) + 1) (by omega) (by omega)]
    refine Ev.bind hg (Ev.bind (len_dg n (by omega)) ?_)
    by_cases c : n = 2 ^ ((fmt w).f + 1)
    · have hbn : bl n = (fmt w).f + 2 := by rw [c, bl_two]
      have hh := half_dg n 1 (by omega) (by decide)
      have e5 : n / 2 ^ 1 = 2 ^ (fmt w).f := by rw [c, Nat.pow_succ, Nat.pow_one]; omega
      rw [e5] at hh
      refine Ev.pos (by omega) (Ev.bind hh ?_)
      rw [w64_id (by omega) (by omega)]
      have := finS w hw s (q + 1) (2 ^ (fmt w).f) (by omega) (fun _ => Nat.le_refl _) (by omega)
      rw [show (((q + 1 : Nat) : Int) + (fmt w).low) = q1 + 1 by omega] at this
      have e6 : (fmt w).fin q n = (if (fmt w).top < q + 1 + 2 then (fmt w).inf else if 2 ^ (fmt w).f < 2 ^ (fmt w).f then 2 ^ (fmt w).f else (q + 1 + 1) * 2 ^ (fmt w).f + (2 ^ (fmt w).f - 2 ^ (fmt w).f)) := by
        unfold Fmt.fin
        rw [if_pos c, if_neg (Nat.lt_irrefl _), Nat.sub_self]
        rfl
      rw [e6]; exact this
    · have hbn : bl n ≤ (fmt w).f + 1 := bl_le.2 (by omega)
      refine Ev.neg (by omega) ?_
      have := finS w hw s q n (by omega) n2 hqs
      rw [← hqq] at this
      have e6 : (fmt w).fin q n = (if (fmt w).top < q + 2 then (fmt w).inf else if n < 2 ^ (fmt w).f then n else (q + 1) * 2 ^ (fmt w).f + (n - 2 ^ (fmt w).f)) := by
        unfold Fmt.fin
        rw [if_neg c]
      rw [e6]; exact this
  by_cases c : (fmt w).low < q0
  · refine Ev.pos c ?_
    rw [w64_id (n := kk - q0) (by omega) (by omega), w64_id (n := kk - q0 - ((fmt w).f : Int)) (by omega) (by omega)]
    refine Ev.bind hunder (Ev.step (fun _ => r3_Near.j0.eq_2 ..) ?_)
    by_cases c2 : x < tw (q0 + (fmt w).f)
    · rw [decide_eq_true c2]
      rw [if_pos ⟨c, c2⟩] at hq1
      refine Ev.pos rfl ?_
      rw [w64_id (by omega) (by omega), hq1]; exact tail
    · rw [decide_eq_false c2]
      rw [if_neg (fun h => c2 h.2)] at hq1
      refine Ev.neg (by decide) ?_
      rw [hq1]; exact tail
  · rw [if_neg (fun h => c h.1)] at hq1
    refine Ev.neg c (Ev.step (fun _ => r3_Near.j0.eq_2 ..) (Ev.neg (by decide) ?_))
    rw [hq1]; exact tail
theorem zero_mul' (w : Int) (hw : w = 32 ∨ w = 64) (s : Bool) : Ev (fun k => r2_Make.f k w s 0 0) ((mkN w 0 s : Nat) : Int) := by
  have := r2Makew w hw s 0 0 (Nat.zero_le _) ((fmt w).pow_pos)
  rwa [Nat.zero_mul] at this
theorem exactS (w : Int) (hw : w = 32 ∨ w = 64) (s : Bool) (n : Nat) (e : Int) (hn : bl n < 2900) : Ev (fun k => r3_Exact.f k w s (dg n) e) ((mkN w ((fmt w).rnd ((n : Rat) * tw e)) s : Nat) : Int) := by
  have bd := fmt_bd w
  have hff := fmt_f w
  have ht := (fmt w).ht
  unfold r3_Exact.f
  have z := zero_mul' w hw s
  by_cases h0 : n = 0
  · subst h0
    rw [show ((0 : Nat) : Rat) * tw e = 0 by simp, Fmt.rnd_zero]
    exact Ev.pos ((len_zero 0).2 rfl) (Ev.step (fun _ => r3_Exact.j0.eq_2 ..) (Ev.pos rfl (Ev.bind z (Ev.out rfl))))
  · refine Ev.neg (fun k => h0 ((len_zero n).1 k)) (Ev.step (fun _ => r3_Exact.j0.eq_2 ..) ?_)
    have hlt := lt_two_bl n
    by_cases c1 : e < -4000
    · have : (fmt w).rnd ((n : Rat) * tw e) = 0 := by
        refine (fmt w).rnd_of (Fmt.Rnd.tiny _ ?_)
        have h4 := mul_lt (nat_lt.2 hlt) (tw_pos e)
        rw [← tw_nat, ← tw_add] at h4
        have h5 : tw ((bl n : Nat) + e) ≤ tw ((fmt w).low - 1) := tw_le (by
          have : -1100 ≤ (fmt w).low := by unfold fmt; split <;> decide
          omega)
        grind
      rw [this]
      exact Ev.pos (decide_eq_true c1) (Ev.bind z (Ev.out rfl))
    · refine Ev.neg (fun k => c1 (of_decide_eq_true k)) ?_
      by_cases c2 : e > 4000
      · have : (fmt w).rnd ((n : Rat) * tw e) = (fmt w).inf := by
          refine (fmt w).rnd_inf ?_
          rw [(fmt w).val_inf]
          have h2 : ((1 : Nat) : Rat) ≤ (n : Rat) := nat_le.2 (by omega)
          have h3 := mul_le h2 (tw_pos e)
          have h4 : tw ((fmt w).top - 1 + (fmt w).low + (fmt w).f) ≤ tw e := tw_le (by
            have : ((fmt w).top : Int) - 1 + (fmt w).low + (fmt w).f ≤ 1100 := by unfold fmt; split <;> decide
            omega)
          have h5 : ((1 : Nat) : Rat) * tw e = tw e := by simp
          rw [h5] at h3
          exact Rat.le_trans h4 h3
        rw [this]
        exact Ev.pos c2 (Ev.bind (r2Infw w hw s) (Ev.out rfl))
      · refine Ev.neg c2 (Ev.bind (of_dg 1 (by decide)) (Ev.bind (nearS w hw s n 1 e (by omega) (by decide) (by omega) (by decide) (by omega) _ ?_) (Ev.out rfl)))
        simp
theorem packR (w : Int) (hw : w = 32 ∨ w = 64) (s : Bool) (h l : Nat) (hh : h < 18446744073709551616) (hl : l < 18446744073709551616) (e : Int) (m : Bool) : Ev (fun k => r3_Pack.f k w s h l e m) ((mkN w ((fmt w).rnd (pkx (h * 18446744073709551616 + l) e m)) s : Nat) : Int) := by
  have bd := fmt_bd w
  have hff := fmt_f w
  have ht := (fmt w).ht
  obtain ⟨c, hc⟩ : ∃ c, mx (mn e 10000) (-10000) = c := ⟨_, rfl⟩
  have hcb : -10000 ≤ c ∧ c ≤ 10000 ∧ (-10000 ≤ e → e ≤ 10000 → c = e) ∧ (10000 < e → c = 10000) ∧ (e < -10000 → c = -10000) := by
    unfold mx mn at hc; split at hc <;> split at hc <;> omega
  have key : ∀ n : Nat, bl n < 200 → Ev (fun k => r3_Exact.f k w s (dg n) (c - 1)) ((mkN w ((fmt w).rnd ((n : Rat) * tw (e - 1))) s : Nat) : Int) := by
    intro n hn
    have := exactS w hw s n (c - 1) (by omega)
    have e1 : (fmt w).rnd ((n : Rat) * tw (c - 1)) = (fmt w).rnd ((n : Rat) * tw (e - 1)) := by
      rcases Nat.eq_zero_or_pos n with h0 | h0
      · subst h0; simp
      · by_cases c1 : 10000 < e
        · have h : ∀ x : Int, 9999 ≤ x → (fmt w).rnd ((n : Rat) * tw x) = (fmt w).inf := by
            intro x hx
            refine (fmt w).rnd_inf ?_
            rw [(fmt w).val_inf]
            have h2 : ((1 : Nat) : Rat) ≤ (n : Rat) := nat_le.2 (by omega)
            have h3 := mul_le h2 (tw_pos x)
            have h4 : tw ((fmt w).top - 1 + (fmt w).low + (fmt w).f) ≤ tw x := tw_le (by omega)
            have h5 : ((1 : Nat) : Rat) * tw x = tw x := by simp
            rw [h5] at h3
            exact Rat.le_trans h4 h3
          rw [h _ (by omega), h _ (by omega)]
        · by_cases c2 : e < -10000
          · have h : ∀ x : Int, x < -9000 → (fmt w).rnd ((n : Rat) * tw x) = 0 := by
              intro x hx
              refine (fmt w).rnd_of (Fmt.Rnd.tiny _ ?_)
              have h4 := mul_lt (nat_lt.2 (lt_two_bl n)) (tw_pos x)
              rw [← tw_nat, ← tw_add] at h4
              have h5 : tw ((bl n : Nat) + x) ≤ tw ((fmt w).low - 1) := tw_le (by omega)
              grind
            rw [h _ (by omega), h _ (by omega)]
          · rw [hcb.2.2.1 (by omega) (by omega)]
    rw [e1] at this
    exact this
  unfold r3_Pack.f
  rw [hc]
  obtain ⟨V, hV⟩ : ∃ V, h * 18446744073709551616 + l = V := ⟨_, rfl⟩
  have hVl : V < 340282366920938463463374607431768211456 := by omega
  have bV : bl V ≤ 128 := bl_le.2 (by rw [show (2 : Nat) ^ 128 = 340282366920938463463374607431768211456 by decide]; exact hVl)
  have hp := pair_dg h l hh hl
  rw [hV] at hp ⊢
  have b1 := bl_shl V 1
  refine Ev.bind hp (Ev.bind (shl_bl V 1 (by decide) (by omega)) ?_)
  rw [show V * 2 ^ 1 = 2 * V by omega] at *
  unfold pkx
  cases m
  · refine Ev.neg (by decide) (Ev.bind (key (2 * V) (by omega)) (Ev.out ?_))
    simp
  · have b2 := bl_add (2 * V) 1
    have b3 := bl_one
    refine Ev.pos rfl (Ev.bind (of_dg 1 (by decide)) (Ev.bind (add_bl (2 * V) 1 (by omega) (by decide)) (Ev.bind (key (2 * V + 1) (by omega)) (Ev.out ?_))))
    simp
end Go.Proofs.Ytbpmnmceajmmcaa.Th
end
section
set_option linter.unusedVariables false
set_option linter.unusedSimpArgs false
namespace Go.Proofs.Ytbpmnmceajmmcaa.Th
open Go.RowKit Go.Proofs.YtbpmnmceajmmcaaW.PrintWords Go.Proofs.YtbpmnmceajmmcaaW.PrintLast Go.Proofs.YtbpmnmceajmmcaaW.PrintMore Go.Proofs.Ytbpmnmceajmmcaa.PA Bit Flo
theorem packE (w : Int) (hw : w = 32 ∨ w = 64) (s : Bool) (h l : Nat) (hh : h < 18446744073709551616) (hl : l < 18446744073709551616) (e : Int) (m : Bool) : round_Pack.f w s h l e m = some ((mkN w (pkm (fmt w) (wn h l) e m) s : Nat) : Int) := by
  unfold round_Pack.f
  rw [if_pos (by omega), if_pos hw, Int.toNat_natCast, Int.toNat_natCast]
theorem pack_no {w : Int} (hw : ¬ (w = 32 ∨ w = 64)) (s : Bool) (h l : Nat) (hh : h < 18446744073709551616) (hl : l < 18446744073709551616) (e : Int) (m : Bool) : round_Pack.f w s h l e m = some 0 := by
  unfold round_Pack.f
  rw [if_pos (by omega), if_neg hw]
end Go.Proofs.Ytbpmnmceajmmcaa.Th
end
section
set_option linter.unusedVariables false
set_option linter.unusedSimpArgs false
namespace Go.Proofs.Ytbpmnmceajmmcaa.Th
open Go.RowKit Go.Proofs.YtbpmnmceajmmcaaW.PrintWords Go.Proofs.YtbpmnmceajmmcaaW.PrintLast Go.Proofs.YtbpmnmceajmmcaaW.PrintMore Go.Proofs.Ytbpmnmceajmmcaa.PA Bit Dig Flo
theorem awake03 : L03_awake.f = some true := rfl
theorem RoundPacksE (w : Int) (s : Bool) (h l : Nat) (e : Int) (m : Bool) (hh : h < 18446744073709551616) (hl : l < 18446744073709551616) :
    ∃ r, round_Pack.f w s h l e m = some r ∧ ((w = 32 ∨ w = 64) → Ev (fun k => r3_Pack.f k w s h l e m) r) ∧ (¬ (w = 32 ∨ w = 64) → r = 0) := by
  by_cases hw : w = 32 ∨ w = 64
  · refine ⟨_, packE w hw s h l hh hl e m, fun _ => ?_, fun h => absurd hw h⟩
    have := packR w hw s h l hh hl e m
    have bd := fmt_bd w
    rw [pkm_rnd (fmt w) bd.1 bd.2.1 bd.2.2 _ e m (by omega)] at this
    exact this
  · exact ⟨0, pack_no hw s h l hh hl e m, fun h => absurd h hw, fun _ => rfl⟩
theorem RoundPacksP : L03_RoundPacks.Pure := by
  intro w s h l e m hw0 hh0 hl0 he0
  obtain ⟨hh1, hh2⟩ := wf_u64 hh0
  obtain ⟨h, rfl⟩ := Int.eq_ofNat_of_zero_le hh1
  obtain ⟨hl1, hl2⟩ := wf_u64 hl0
  obtain ⟨l, rfl⟩ := Int.eq_ofNat_of_zero_le hl1
  refine Ev.rounds ?_
  unfold L03_RoundPacks.f
  obtain ⟨r, r1, r2, r3⟩ := RoundPacksE w s h l e m (by omega) (by omega)
  refine Ev.bs awake03 (Ev.pos rfl (Ev.bs r1 (Ev.bs (known_f w) ?_)))
  by_cases hw : w = 32 ∨ w = 64
  · rw [decide_eq_true hw]
    exact Ev.pos rfl (Ev.bind (r2 hw) (Ev.out (by simp)))
  · rw [decide_eq_false hw, r3 hw]
    exact Ev.neg (by decide) (Ev.out rfl)
end Go.Proofs.Ytbpmnmceajmmcaa.Th
end
namespace Go.Proofs.Ytbpmnmceajmmcaa.Pure
theorem RoundPacks : Go.Proofs.Ytbpmnmceajmmcaa.PA.L03_RoundPacks.Pure := Go.Proofs.Ytbpmnmceajmmcaa.Th.RoundPacksP
end Go.Proofs.Ytbpmnmceajmmcaa.Pure
namespace Go.Proofs.Ytbpmnmceajmmcaa.Facts
abbrev ch (n : Nat) : Char := Char.ofNat n
theorem words_word (w : List Char) (r : List Char) (h : w.all (fun c => c != ch 32) = true) : wordsSigns (w ++ ch 32 :: r) = w :: wordsSigns r := by
  induction w with
  | nil => rfl
  | cons c w ih =>
    rw [List.all_cons, Bool.and_eq_true] at h
    have hc : c ≠ ch 32 := bne_iff_ne.1 h.1
    rw [List.cons_append]
    rw [wordsSigns.eq_3 c _ (fun e => hc e), ih h.2]
def w1 : List Char := [ch 104, ch 97, ch 114, ch 110, ch 101, ch 115, ch 115]
def w2 : List Char := [ch 97, ch 57, ch 99, ch 102, ch 100, ch 53, ch 99, ch 57, ch 100, ch 54, ch 48, ch 56, ch 102, ch 100, ch 52, ch 54, ch 54, ch 52, ch 54, ch 53, ch 57, ch 56, ch 53, ch 100, ch 57, ch 55, ch 54, ch 57, ch 102, ch 102, ch 100, ch 56, ch 53, ch 100, ch 49, ch 56, ch 54, ch 56, ch 53, ch 55, ch 54, ch 97, ch 49, ch 53, ch 100, ch 100, ch 56, ch 49, ch 54, ch 55, ch 99, ch 101, ch 56, ch 52, ch 54, ch 98, ch 102, ch 55, ch 57, ch 48, ch 52, ch 55, ch 56, ch 49]
def w3 : List Char := [ch 99, ch 117, ch 116]
set_option maxRecDepth 100000 in
def tailSigns : List Char := [ch 97, ch 116, ch 32, ch 116, ch 114, ch 117, ch 110, ch 110, ch 105, ch 111, ch 110, ch 47, ch 116, ch 114, ch 117, ch 110, ch 110, ch 105, ch 111, ch 110, ch 108, ch 97, ch 119, ch 48, ch 53, ch 46, ch 80, ch 114, ch 111, ch 100, ch 117, ch 99, ch 116, ch 84, ch 119, ch 105, ch 99, ch 101, ch 32, ch 116, ch 114, ch 117, ch 110, ch 110, ch 105, ch 111, ch 110, ch 47, ch 116, ch 114, ch 117, ch 110, ch 110, ch 105, ch 111, ch 110, ch 108, ch 97, ch 119, ch 48, ch 53, ch 46, ch 80, ch 114, ch 111, ch 100, ch 117, ch 99, ch 116, ch 83, ch 99, ch 97, ch 108, ch 101, ch 115, ch 32, ch 116, ch 114, ch 117, ch 110, ch 110, ch 105, ch 111, ch 110, ch 47, ch 116, ch 114, ch 117, ch 110, ch 110, ch 105, ch 111, ch 110, ch 108, ch 97, ch 119, ch 48, ch 54, ch 46, ch 81, ch 117, ch 111, ch 116, ch 105, ch 101, ch 110, ch 116, ch 68, ch 105, ch 118, ch 115, ch 32, ch 116, ch 114, ch 117, ch 110, ch 110, ch 105, ch 111, ch 110, ch 47, ch 116, ch 114, ch 117, ch 110, ch 110, ch 105, ch 111, ch 110, ch 108, ch 97, ch 119, ch 48, ch 54, ch 46, ch 81, ch 117, ch 111, ch 116, ch 105, ch 101, ch 110, ch 116, ch 75, ch 101, ch 101, ch 112, ch 115, ch 32, ch 116, ch 114, ch 117, ch 110, ch 110, ch 105, ch 111, ch 110, ch 47, ch 116, ch 114, ch 117, ch 110, ch 110, ch 105, ch 111, ch 110, ch 108, ch 97, ch 119, ch 48, ch 54, ch 46, ch 81, ch 117, ch 111, ch 116, ch 105, ch 101, ch 110, ch 116, ch 83, ch 99, ch 97, ch 108, ch 101, ch 32, ch 116, ch 114, ch 117, ch 110, ch 110, ch 105, ch 111, ch 110, ch 47, ch 116, ch 114, ch 117, ch 110, ch 110, ch 105, ch 111, ch 110, ch 108, ch 97, ch 119, ch 48, ch 51, ch 46, ch 82, ch 111, ch 117, ch 110, ch 100, ch 80, ch 97, ch 99, ch 107, ch 115, ch 32, ch 116, ch 114, ch 117, ch 110, ch 110, ch 105, ch 111, ch 110, ch 47, ch 116, ch 114, ch 117, ch 110, ch 110, ch 105, ch 111, ch 110, ch 108, ch 97, ch 119, ch 48, ch 51, ch 46, ch 82, ch 111, ch 117, ch 110, ch 100, ch 82, ch 105, ch 115, ch 101, ch 115, ch 32, ch 116, ch 114, ch 117, ch 110, ch 110, ch 105, ch 111, ch 110, ch 47, ch 116, ch 114, ch 117, ch 110, ch 110, ch 105, ch 111, ch 110, ch 108, ch 97, ch 119, ch 48, ch 51, ch 46, ch 82, ch 111, ch 117, ch 110, ch 100, ch 75, ch 101, ch 101, ch 112, ch 115, ch 32, ch 116, ch 114, ch 117, ch 110, ch 110, ch 105, ch 111, ch 110, ch 47, ch 116, ch 114, ch 117, ch 110, ch 110, ch 105, ch 111, ch 110, ch 108, ch 97, ch 119, ch 48, ch 52, ch 46, ch 83, ch 117, ch 109, ch 65, ch 100, ch 100, ch 115, ch 32, ch 116, ch 114, ch 117, ch 110, ch 110, ch 105, ch 111, ch 110, ch 47, ch 116, ch 114, ch 117, ch 110, ch 110, ch 105, ch 111, ch 110, ch 108, ch 97, ch 119, ch 48, ch 52, ch 46, ch 83, ch 117, ch 109, ch 79, ch 114, ch 100, ch 101, ch 114, ch 32, ch 116, ch 114, ch 117, ch 110, ch 110, ch 105, ch 111, ch 110, ch 47, ch 116, ch 114, ch 117, ch 110, ch 110, ch 105, ch 111, ch 110, ch 108, ch 97, ch 119, ch 48, ch 52, ch 46, ch 83, ch 117, ch 109, ch 67, ch 108, ch 111, ch 115, ch 101, ch 32, ch 116, ch 114, ch 117, ch 110, ch 110, ch 105, ch 111, ch 110, ch 47, ch 116, ch 114, ch 117, ch 110, ch 110, ch 105, ch 111, ch 110, ch 108, ch 97, ch 119, ch 48, ch 52, ch 46, ch 83, ch 117, ch 109, ch 84, ch 111, ch 116, ch 97, ch 108, ch 115]
set_option maxRecDepth 100000 in
theorem head_list : Try.prog.initOrder.toList = w1 ++ ch 32 :: (w2 ++ ch 32 :: (w3 ++ ch 32 :: tailSigns)) :=
  (congrArg String.toList (show Try.prog.initOrder = String.ofList (w1 ++ ch 32 :: (w2 ++ ch 32 :: (w3 ++ ch 32 :: tailSigns))) from rfl)).trans String.toList_ofList
theorem words : ∃ rest, behindMainWord (wordsSigns Try.prog.initOrder.toList) = w3 :: rest := by
  refine ⟨wordsSigns tailSigns, ?_⟩
  rw [head_list, words_word w1 _ (by kernel_rfl), words_word w2 _ (by kernel_rfl), words_word w3 _ (by kernel_rfl)]
  generalize wordsSigns tailSigns = rest
  have e : ((w1 == "harness".toList || w1 == "ownmain".toList) && isSumSigns w2) = true := by kernel_rfl
  show (if ((w1 == "harness".toList || w1 == "ownmain".toList) && isSumSigns w2) = true then w3 :: rest else w1 :: w2 :: w3 :: rest) = w3 :: rest
  rw [if_pos e]
theorem c3 : (w3 == "gc".toList) = false ∧ (w3 == "spec".toList) = false ∧ (w3 == "cut".toList) = true ∧ (w3 == "carried".toList) = false ∧ (w3 == "finals".toList) = false := ⟨by kernel_rfl, by kernel_rfl, by kernel_rfl, by kernel_rfl, by kernel_rfl⟩
theorem strip (rest : List (List Char)) : stripLifts liftWords (w3 :: rest) = ([], w3 :: rest) := by
  have key : ∀ l : List String, l.all (fun o => !(w3 == o.toList)) = true → stripLifts l (w3 :: rest) = ([], w3 :: rest) := by
    intro l
    induction l with
    | nil => intro _; rfl
    | cons o l ih =>
      intro h
      rw [List.all_cons, Bool.and_eq_true] at h
      unfold stripLifts
      rw [if_neg (fun e => by have h1 := h.1; rw [e] at h1; cases h1)]
      exact ih h.2
  exact key liftWords (by kernel_rfl)
theorem make_of (P : Program) (h : ∃ rest, behindMainWord (wordsSigns P.initOrder.toList) = w3 :: rest) : P.make = some .cut := by
  obtain ⟨rest, h⟩ := h
  unfold Program.make
  rw [h]
  show (if (w3 == "gc".toList || w3 == "spec".toList) = true then some Make.whole else if (w3 == "cut".toList || (w3 == "finals".toList && rest.head? == some "cut".toList)) = true then some Make.cut else _) = some Make.cut
  rw [if_neg (by rw [c3.1, c3.2.1]; decide), if_pos (by rw [c3.2.2.1, Bool.true_or])]
set_option maxRecDepth 100000 in
theorem liftsFact : Try.prog.liftsFinal = false := by
  unfold Program.liftsFinal Program.headLifts
  rw [head_list]
  kernel_rfl
theorem doorFact : (!Try.prog.laysLater && !Try.prog.bearsReflect && Try.prog.doorFits []) = true := by kernel_rfl
theorem makeFact : Try.prog.make = some .cut := make_of _ words
theorem enter_of (P : Program) (h : ∃ rest, behindMainWord (wordsSigns P.initOrder.toList) = w3 :: rest) (d : (!P.laysLater && !P.bearsReflect && P.doorFits []) = true) : P.mayEnter = true := by
  obtain ⟨rest, h⟩ := h
  rw [Bool.and_eq_true, Bool.and_eq_true] at d
  have e : ((some w3 == some "cut".toList) : Bool) = true := by kernel_rfl
  unfold Program.mayEnter
  rw [h]
  show ((_ || _) || ((stripLifts liftWords (w3 :: rest)).2.head? == some "cut".toList && ((stripLifts liftWords (w3 :: rest)).1.contains "finals" || !P.laysLater) && ((stripLifts liftWords (w3 :: rest)).1.contains "reflectrows" || !P.bearsReflect) &&
      ((stripLifts liftWords (w3 :: rest)).1.contains "reflectrows" || !(stripLifts liftWords (w3 :: rest)).1.contains "leanrows") && P.doorFits (stripLifts liftWords (w3 :: rest)).1)) = true
  rw [strip, Bool.or_eq_true]
  refine .inr ?_
  rw [Bool.and_eq_true, Bool.and_eq_true, Bool.and_eq_true, Bool.and_eq_true, Bool.or_eq_true, Bool.or_eq_true]
  exact ⟨⟨⟨⟨e, .inr d.1.1⟩, .inr d.1.2⟩, rfl⟩, d.2⟩
theorem enterFact : Try.prog.mayEnter = true := enter_of _ words doorFact
end Go.Proofs.Ytbpmnmceajmmcaa.Facts
/- How a value of a struct with a struct in it reads as data, and back: trunnionlaw03.Number. -/
namespace Go.Proofs.Ytbpmnmceajmmcaa.NumS
open Go.ChangeShapes Go.WideShapes Go.ChangeAt Go.RowKit Go.Joins
section
variable {H : Type} {enc : TypeId × Value → H} {P : Program} {w : World} {base : Nat} {spare : Nat → Bool} {held : Bool}
theorem array5 {α : Type} {cs : Array α} (h : cs.size = 5) : ∃ c0 c1 c2 c3 c4, cs = #[c0, c1, c2, c3, c4] := by
  obtain ⟨l⟩ := cs
  match l, h with
  | [c0, c1, c2, c3, c4], _ => exact ⟨c0, c1, c2, c3, c4, rfl⟩
structure Nest (P : Program) (t : TypeId) (f0 f1 f2 f3 g0 g1 : Field) : Prop where
  hs : P.underlying t = some (.struct #[f0, f1, f2, f3])
  hw : P.underlying f1.type = some (.struct #[g0, g1])
  o : f0.offset = 0 ∧ f1.offset = 1 ∧ f2.offset = 3 ∧ f3.offset = 4 ∧ g0.offset = 0 ∧ g1.offset = 1
  hC : P.cellsOf t = 5
  c0 : P.cellsOf f0.type = 1
  c1 : P.cellsOf f1.type = 2
  c2 : P.cellsOf f2.type = 1
  c3 : P.cellsOf f3.type = 1
  d0 : P.cellsOf g0.type = 1
  d1 : P.cellsOf g1.type = 1
theorem opn {r : Reach} {b0 : Nat} {t : TypeId} {f0 f1 f2 f3 g0 g1 : Field} (N : Nest P t f0 f1 f2 f3 g0 g1) {v : Value} {d : DataW H} {p : List MemPlace} (hv : Value.okWide P w r b0 t v) (h : DataW.Trod enc P w base spare held t v d p) :
    ∃ (v0 v1 v2 v3 v4 : Value) (y0 z0 z1 y2 y3 : DataW H × List MemPlace) (n : Nat), v = .agg #[v0, v1, v2, v3, v4] ∧ d = .agg [y0.1, .agg [z0.1, z1.1], y2.1, y3.1] ∧ p = y0.2 ++ ((z0.2 ++ z1.2) ++ (y2.2 ++ y3.2)) ∧
      DataW.trod enc P w base spare held n f0.type [v0] = some y0 ∧ (∃ m, DataW.trod enc P w base spare held m g0.type [v1] = some z0 ∧ DataW.trod enc P w base spare held m g1.type [v2] = some z1) ∧ DataW.trod enc P w base spare held n f2.type [v3] = some y2 ∧ DataW.trod enc P w base spare held n f3.type [v4] = some y3 := by
  obtain ⟨hs, hw, ⟨o0, o1, o2, o3, o4, o5⟩, hC, c0, c1, c2, c3, d0, d1⟩ := N
  obtain ⟨cs, rfl, hsz⟩ := okWide_struct hs hv
  obtain ⟨v0, v1, v2, v3, v4, rfl⟩ := array5 (hsz.trans hC)
  obtain ⟨fuel, hf⟩ := h
  obtain ⟨y0, y1, y2, y3, n, hx, _, h0, h1, h2, h3⟩ := trod_struct4 hs hf
  have k1 : DataW.trod enc P w base spare held n f1.type [v1, v2] = some y1 := by simpa [Value.cells, o1, c1] using h1
  obtain ⟨z0, z1, m, hx1, _, i0, i1⟩ := trod_struct2 hw k1
  simp only [Prod.mk.injEq] at hx
  subst hx1
  exact ⟨v0, v1, v2, v3, v4, y0, z0, z1, y2, y3, n, rfl, hx.1, hx.2, by simpa [Value.cells, o0, c0] using h0, ⟨m, by simpa [o4, d0] using i0, by simpa [o5, d1] using i1⟩, by simpa [Value.cells, o2, c2] using h2, by simpa [Value.cells, o3, c3] using h3⟩
theorem sht {t : TypeId} {f0 f1 f2 f3 g0 g1 : Field} (N : Nest P t f0 f1 f2 f3 g0 g1) {v0 v1 v2 v3 v4 : Value} {y0 z0 z1 y2 y3 : DataW H × List MemPlace} 
    (t0 : DataW.trod enc P w base spare held 2 f0.type [v0] = some y0) (s0 : DataW.trod enc P w base spare held 1 g0.type [v1] = some z0) (s1 : DataW.trod enc P w base spare held 1 g1.type [v2] = some z1) (t2 : DataW.trod enc P w base spare held 2 f2.type [v3] = some y2) (t3 : DataW.trod enc P w base spare held 2 f3.type [v4] = some y3) :
    DataW.Trod enc P w base spare held t (.agg #[v0, v1, v2, v3, v4]) (.agg [y0.1, .agg [z0.1, z1.1], y2.1, y3.1]) (y0.2 ++ ((z0.2 ++ z1.2) ++ (y2.2 ++ y3.2))) := by
  obtain ⟨hs, hw, ⟨o0, o1, o2, o3, o4, o5⟩, hC, c0, c1, c2, c3, d0, d1⟩ := N
  have tt := trod_struct2_mk (enc := enc) (w := w) (base := base) (spare := spare) (held := held) (n := 1) (cs := [v1, v2]) (y0 := z0) (y1 := z1) hw (by simp [c1]) (by simpa [o4, d0] using s0) (by simpa [o5, d1] using s1)
  have ts := trod_struct4_mk (enc := enc) (w := w) (base := base) (spare := spare) (held := held) (n := 2) (cs := [v0, v1, v2, v3, v4]) (y0 := y0) (y1 := (.agg [z0.1, z1.1], z0.2 ++ z1.2)) (y2 := y2) (y3 := y3) hs (by simp [hC])
    (by simpa [o0, c0] using t0) (by simpa [o1, c1] using tt) (by simpa [o2, c2] using t2) (by simpa [o3, c3] using t3)
  exact ⟨_, by simpa [Value.cells] using ts⟩
end
end Go.Proofs.Ytbpmnmceajmmcaa.NumS
