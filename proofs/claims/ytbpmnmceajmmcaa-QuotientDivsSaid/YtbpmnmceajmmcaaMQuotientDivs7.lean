/- What the Go functions that the statement QuotientDivs reaches compute, and the mathematics on it, in the order in which one leans on the other; for every input. -/
import Derived.Test.YtbpmnmceajmmcaaVQuotientDivs0
import Derived.Test.YtbpmnmceajmmcaaMQuotientDivs5
import Derived.Test.YtbpmnmceajmmcaaMQuotientDivs0
import Derived.Test.YtbpmnmceajmmcaaMQuotientDivs6
import Derived.Test.YtbpmnmceajmmcaaMQuotientDivs4
import Derived.Deep.RegionHeld3
import Derived.Shelf.Spec.BitsCarry
import Derived.Deep.DeepCutAuto
import Derived.Test.YtbpmnmceajmmcaaMQuotientDivs2
import Derived.Test.YtbpmnmceajmmcaaMQuotientDivs1
section
set_option linter.unusedVariables false
set_option linter.unusedSimpArgs false
namespace Go.Proofs.Ytbpmnmceajmmcaa.Th
open Go.RowKit Go.Proofs.YtbpmnmceajmmcaaW.PrintWords Go.Proofs.YtbpmnmceajmmcaaW.PrintLast Go.Proofs.YtbpmnmceajmmcaaW.PrintMore Go.Proofs.Ytbpmnmceajmmcaa.PA Bit Dig
def wn (h l : Nat) : Nat := h * 18446744073709551616 + l
theorem wn_hi {h l : Nat} (hl : l < 18446744073709551616) : wn h l / 18446744073709551616 = h := by unfold wn; omega
theorem wn_lo {h l : Nat} (hl : l < 18446744073709551616) : wn h l % 18446744073709551616 = l := by unfold wn; omega
theorem wn_div (V : Nat) : wn (V / 18446744073709551616) (V % 18446744073709551616) = V := by unfold wn; omega
theorem wn_lt {h l : Nat} (hh : h < 18446744073709551616) (hl : l < 18446744073709551616) : wn h l < 340282366920938463463374607431768211456 := by unfold wn; omega
theorem p128 : (340282366920938463463374607431768211456 : Nat) = 2 ^ 128 := by decide
theorem p64 : (18446744073709551616 : Nat) = 2 ^ 64 := by decide
theorem bl_128 {n : Nat} (h : n < 340282366920938463463374607431768211456) : bl n ≤ 128 := bl_le.2 h
theorem bitLen_aux (f : Nat) : ∀ x, x < 2 ^ f → Lib.bitLenAux f x = bl x := by
  induction f with
  | zero => intro x h; obtain rfl : x = 0 := by simpa using h
            rfl
  | succ f ih =>
    intro x h
    unfold Lib.bitLenAux
    by_cases h0 : x = 0
    · rw [if_pos h0, h0, bl_zero]
    · rw [if_neg h0, ih _ (by rw [Nat.pow_succ] at h; omega), bl_half (show 0 < x by omega)]; omega
theorem bitLen_bl {x : Nat} (h : x < 18446744073709551616) : Lib.bitLen x = bl x := bitLen_aux 64 x h
theorem lenW (a b : Nat) (ha : a < 18446744073709551616) (hb : b < 18446744073709551616) : wide_Len.f a b = some ((bl (wn a b) : Nat) : Int) := by
  unfold wide_Len.f bits_Len64.f
  rw [if_pos (show 0 ≤ (a : Int) ∧ (a : Int) ≤ 18446744073709551615 by omega), if_pos (show 0 ≤ (b : Int) ∧ (b : Int) ≤ 18446744073709551615 by omega)]
  by_cases h : (a : Int) > 0
  · rw [if_pos h, Option.bind_some, Int.toNat_natCast, bitLen_bl ha]
    have h1 := bl64 ha
    have h2 := bl_add_low a b 64 (by omega) hb
    rw [w64_id (by omega) (by omega)]
    unfold wn
    rw [p64, h2]; congr 1; omega
  · rw [if_neg h, Option.bind_some, Int.toNat_natCast, bitLen_bl hb]
    have : a = 0 := by omega
    subst this
    unfold wn; rw [Nat.zero_mul, Nat.zero_add]
theorem shlN (c n : Nat) (hn : n < 64) : shl .u64 (c : Int) (n : Int) = ((c * 2 ^ n % 18446744073709551616 : Nat) : Int) := by
  unfold shl
  rw [show min ((n : Int)).toNat IntKind.u64.bits = n by rw [show IntKind.u64.bits = 64 by decide]; omega, IntKind.wrap_u64]
  have hp : (2 : Int) ^ n = ((2 ^ n : Nat) : Int) := by rw [Int.natCast_pow]; rfl
  rw [hp, ← Int.natCast_mul]; omega
theorem shrN' (c n : Nat) (hn : n < 64) : shr .u64 (c : Int) (n : Int) = ((c / 2 ^ n : Nat) : Int) := by
  unfold shr
  rw [show min ((n : Int)).toNat IntKind.u64.bits = n by rw [show IntKind.u64.bits = 64 by decide]; omega]
  have hp : (2 : Int) ^ n = ((2 ^ n : Nat) : Int) := by rw [Int.natCast_pow]; rfl
  rw [hp]; omega
theorem or_add (x y n : Nat) (hn : n ≤ 64) (hx : 2 ^ n ∣ x) (hy : y < 2 ^ n) (h : x < 18446744073709551616) (h2 : y < 18446744073709551616) : Go.bits .or .u64 (x : Int) (y : Int) = ((x + y : Nat) : Int) := by
  rw [u64_or_nat x y h h2]
  congr 1
  obtain ⟨c, rfl⟩ := hx
  rw [Nat.or_comm, Nat.mul_comm, or_pow y c n hy]; omega
theorem left_arith (h l n : Nat) (h0 : 0 < n) (hn : n < 64) (hl : l < 2 ^ 64) :
    wn h l * 2 ^ n % 2 ^ 128 / 2 ^ 64 = h * 2 ^ n % 2 ^ 64 + l / 2 ^ (64 - n) ∧ wn h l * 2 ^ n % 2 ^ 128 % 2 ^ 64 = l * 2 ^ n % 2 ^ 64 ∧ 2 ^ n ∣ h * 2 ^ n % 2 ^ 64 ∧ l / 2 ^ (64 - n) < 2 ^ n := by
  have hd : l / 2 ^ (64 - n) < 2 ^ n := by
    rw [Nat.div_lt_iff_lt_mul (Nat.pow_pos (by decide)), ← Nat.pow_add, show n + (64 - n) = 64 by omega]; exact hl
  have e64 : 2 ^ 64 = 2 ^ n * 2 ^ (64 - n) := by rw [← Nat.pow_add]; congr 1; omega
  have hdv : 2 ^ n ∣ h * 2 ^ n % 2 ^ 64 := by
    rw [e64]; exact (Nat.dvd_mod_iff (Nat.dvd_mul_right _ _)).2 (Nat.dvd_mul_left _ _)
  have hq : l * 2 ^ n = l / 2 ^ (64 - n) * 2 ^ 64 + l * 2 ^ n % 2 ^ 64 := by
    have h1 := Nat.div_add_mod (l * 2 ^ n) (2 ^ 64)
    have h2 : l * 2 ^ n / 2 ^ 64 = l / 2 ^ (64 - n) := by
      rw [e64, Nat.mul_comm l, Nat.mul_div_mul_left _ _ (Nat.pow_pos (by decide))]
    rw [h2, Nat.mul_comm] at h1
    omega
  have hlow := Nat.mod_lt (l * 2 ^ n) (show 0 < 2 ^ 64 by decide)
  have hhi := Nat.mod_lt (h * 2 ^ n) (show 0 < 2 ^ 64 by decide)
  have hh := Nat.div_add_mod (h * 2 ^ n) (2 ^ 64)
  have hv : wn h l * 2 ^ n = 2 ^ 128 * (h * 2 ^ n / 2 ^ 64) + ((h * 2 ^ n % 2 ^ 64 + l / 2 ^ (64 - n)) * 2 ^ 64 + l * 2 ^ n % 2 ^ 64) := by
    unfold wn
    rw [Nat.add_mul, p64, Nat.mul_right_comm, hq]
    generalize h * 2 ^ n = u at *
    generalize l * 2 ^ n % 2 ^ 64 = v at *
    rw [show (2 : Nat) ^ 128 = 340282366920938463463374607431768211456 by decide]
    rw [show (2 : Nat) ^ 64 = 18446744073709551616 by decide] at *
    omega
  have hs : h * 2 ^ n % 2 ^ 64 + l / 2 ^ (64 - n) < 2 ^ 64 := by
    obtain ⟨c, hc⟩ := hdv
    have h3 : c < 2 ^ (64 - n) := by
      rw [hc, e64] at hhi
      exact Nat.lt_of_mul_lt_mul_left hhi
    have h4 : 2 ^ n * (c + 1) ≤ 2 ^ n * 2 ^ (64 - n) := Nat.mul_le_mul_left _ h3
    rw [← e64, Nat.mul_add, Nat.mul_one, ← hc] at h4
    omega
  have hm : wn h l * 2 ^ n % 2 ^ 128 = (h * 2 ^ n % 2 ^ 64 + l / 2 ^ (64 - n)) * 2 ^ 64 + l * 2 ^ n % 2 ^ 64 := by
    rw [hv, Nat.mul_add_mod, Nat.mod_eq_of_lt]
    generalize h * 2 ^ n % 2 ^ 64 + l / 2 ^ (64 - n) = s at *
    generalize l * 2 ^ n % 2 ^ 64 = v at *
    rw [show (2 : Nat) ^ 128 = 340282366920938463463374607431768211456 by decide]
    rw [show (2 : Nat) ^ 64 = 18446744073709551616 by decide] at *
    omega
  refine ⟨?_, ?_, hdv, hd⟩
  · rw [hm, Nat.mul_comm, Nat.mul_add_div (by decide), Nat.div_eq_of_lt hlow, Nat.add_zero]
  · rw [hm, Nat.mul_comm, Nat.mul_add_mod, Nat.mod_mod]
def lfV (a : Nat) (n : Int) : Nat := a * 2 ^ n.toNat % 340282366920938463463374607431768211456
theorem leftW (h l : Nat) (n : Int) (hh : h < 18446744073709551616) (hl : l < 18446744073709551616) (hn : n < 9223372036854775808) :
    wide_Left.f h l n = some (((lfV (wn h l) n / 18446744073709551616 : Nat) : Int), ((lfV (wn h l) n % 18446744073709551616 : Nat) : Int)) := by
  unfold wide_Left.f lfV
  have hw := wn_lt hh hl
  by_cases h0 : n ≤ 0
  · rw [if_pos h0, show n.toNat = 0 by omega, Nat.pow_zero, Nat.mul_one, Nat.mod_eq_of_lt hw, wn_hi hl, wn_lo hl]
  · rw [if_neg h0]
    obtain ⟨m, rfl⟩ := Int.eq_ofNat_of_zero_le (show 0 ≤ n by omega)
    rw [Int.toNat_natCast]
    by_cases h1 : (m : Int) ≥ 128
    · rw [if_pos h1, p128, show m = 128 + (m - 128) by omega, Nat.pow_add, Nat.mul_left_comm, Nat.mul_mod_right]; rfl
    · rw [if_neg h1]
      by_cases h2 : (m : Int) ≥ 64
      · rw [if_pos h2, w64_id (by omega) (by omega), if_pos (by omega), show (m : Int) - 64 = ((m - 64 : Nat) : Int) by omega, shlN _ _ (by omega)]
        have e : wn h l * 2 ^ m % 340282366920938463463374607431768211456 = l * 2 ^ (m - 64) % 18446744073709551616 * 18446744073709551616 := by
          rw [show 2 ^ m = 2 ^ (m - 64) * 18446744073709551616 by rw [p64, ← Nat.pow_add]; congr 1; omega, ← Nat.mul_assoc, show (340282366920938463463374607431768211456 : Nat) = 18446744073709551616 * 18446744073709551616 by decide, Nat.mul_mod_mul_right]
          congr 1
          unfold wn
          rw [Nat.add_mul, Nat.mul_right_comm, Nat.add_comm, Nat.add_mul_mod_self_right]
        rw [e, Nat.mul_div_cancel _ (by decide), Nat.mul_mod_left]; rfl
      · rw [if_neg h2, if_pos (by omega), w64_id (by omega) (by omega), if_pos (by omega), show (64 : Int) - m = ((64 - m : Nat) : Int) by omega, shlN _ _ (by omega), shlN _ _ (by omega), shrN' _ _ (by omega)]
        obtain ⟨k1, k2, k3, k4⟩ := left_arith h l m (by omega) (by omega) hl
        rw [← p64] at k1 k2 k3
        rw [← p128] at k1 k2
        have k5 := Nat.mod_lt (h * 2 ^ m) (show 0 < 18446744073709551616 by decide)
        have k6 := Nat.div_le_self l (2 ^ (64 - m))
        rw [or_add _ _ m (by omega) k3 k4 (by omega) (by omega), k1, k2]
theorem ofW (n : Nat) : wide_Of.f n = some (0, (n : Int)) := rfl
theorem wn_ne (V h l : Nat) (hV : V < 340282366920938463463374607431768211456) (hl : l < 18446744073709551616) :
    (!(((V / 18446744073709551616 : Nat) : Int) == (h : Int)) || !(((V % 18446744073709551616 : Nat) : Int) == (l : Int))) = decide (V ≠ wn h l) := by
  have e : (((V / 18446744073709551616 : Nat) : Int) == (h : Int)) = decide (V / 18446744073709551616 = h) := by
    rw [Bool.eq_iff_iff]; simp; omega
  have e2 : (((V % 18446744073709551616 : Nat) : Int) == (l : Int)) = decide (V % 18446744073709551616 = l) := by
    rw [Bool.eq_iff_iff]; simp; omega
  rw [e, e2]
  have h3 : V = wn h l ↔ V / 18446744073709551616 = h ∧ V % 18446744073709551616 = l := by
    unfold wn; omega
  by_cases h1 : V / 18446744073709551616 = h <;> by_cases h2 : V % 18446744073709551616 = l <;> simp [h1, h2, h3]
theorem or_add' (x y n : Nat) (hn : n ≤ 64) (hx : 2 ^ n ∣ x) (hy : y < 2 ^ n) (h : x < 18446744073709551616) (h2 : y < 18446744073709551616) : Go.bits .or .u64 (y : Int) (x : Int) = ((y + x : Nat) : Int) := by
  rw [u64_or_nat y x h2 h]
  congr 1
  obtain ⟨c, rfl⟩ := hx
  rw [Nat.mul_comm, or_pow y c n hy]
theorem gen_hi (B C h l : Nat) (hC : 0 < C) : (h * (B * C) + l) / C = h * B + l / C := by
  rw [← Nat.mul_assoc, Nat.mul_comm (h * B) C, Nat.mul_add_div hC]
theorem right_arith (h l n : Nat) (h0 : 0 < n) (hn : n < 64) (hh : h < 2 ^ 64) (hl : l < 2 ^ 64) :
    wn h l / 2 ^ n / 2 ^ 64 = h / 2 ^ n ∧ wn h l / 2 ^ n % 2 ^ 64 = l / 2 ^ n + h * 2 ^ (64 - n) % 2 ^ 64 ∧ 2 ^ (64 - n) ∣ h * 2 ^ (64 - n) % 2 ^ 64 ∧ l / 2 ^ n < 2 ^ (64 - n) := by
  have p0 : 0 < 2 ^ n := Nat.pow_pos (by decide)
  have p1 : 0 < 2 ^ (64 - n) := Nat.pow_pos (by decide)
  have e64 : 2 ^ 64 = 2 ^ (64 - n) * 2 ^ n := by rw [← Nat.pow_add]; congr 1; omega
  have hd : l / 2 ^ n < 2 ^ (64 - n) := by rw [Nat.div_lt_iff_lt_mul p0, ← e64]; exact hl
  have hdv : 2 ^ (64 - n) ∣ h * 2 ^ (64 - n) % 2 ^ 64 := by
    rw [e64]; exact (Nat.dvd_mod_iff (Nat.dvd_mul_right _ _)).2 (Nat.dvd_mul_left _ _)
  have hq : wn h l / 2 ^ n = h * 2 ^ (64 - n) + l / 2 ^ n := by
    unfold wn; rw [p64, e64]; exact gen_hi _ _ h l p0
  have hx : h * 2 ^ (64 - n) / 2 ^ 64 = h / 2 ^ n := by
    rw [e64, Nat.mul_comm (2 ^ (64 - n)), Nat.mul_div_mul_right _ _ p1]
  have hm := Nat.div_add_mod (h * 2 ^ (64 - n)) (2 ^ 64)
  have hlt := Nat.mod_lt (h * 2 ^ (64 - n)) (show 0 < 2 ^ 64 by decide)
  have hs : h * 2 ^ (64 - n) % 2 ^ 64 + l / 2 ^ n < 2 ^ 64 := by
    obtain ⟨c, hc⟩ := hdv
    have h3 : c < 2 ^ n := by
      rw [hc, e64] at hlt
      exact Nat.lt_of_mul_lt_mul_left hlt
    have h4 : 2 ^ (64 - n) * (c + 1) ≤ 2 ^ (64 - n) * 2 ^ n := Nat.mul_le_mul_left _ h3
    rw [← e64, Nat.mul_add, Nat.mul_one, ← hc] at h4
    omega
  rw [hx] at hm
  rw [hq]
  generalize h * 2 ^ (64 - n) % 2 ^ 64 = u at *
  generalize l / 2 ^ n = v at *
  rw [← hm, Nat.add_assoc]
  refine ⟨?_, ?_, hdv, hd⟩
  · rw [Nat.mul_add_div (by decide), Nat.div_eq_of_lt hs, Nat.add_zero]
  · rw [Nat.mul_add_mod, Nat.mod_eq_of_lt hs, Nat.add_comm]
theorem lost_iff (a p : Nat) (h : a < 340282366920938463463374607431768211456) : (a / p * p) % 340282366920938463463374607431768211456 ≠ a ↔ a % p ≠ 0 := by
  have h1 := Nat.div_add_mod a p
  rw [Nat.mul_comm] at h1
  have h2 : a / p * p < 340282366920938463463374607431768211456 := by omega
  rw [Nat.mod_eq_of_lt h2]
  omega
def rgV (a : Nat) (n : Int) : Nat := a / 2 ^ n.toNat
theorem rightW (h l : Nat) (n : Int) (hh : h < 18446744073709551616) (hl : l < 18446744073709551616) (hn : n < 9223372036854775808) :
    wide_Right.f h l n = some (((rgV (wn h l) n / 18446744073709551616 : Nat) : Int), ((rgV (wn h l) n % 18446744073709551616 : Nat) : Int), decide (wn h l % 2 ^ n.toNat ≠ 0)) := by
  unfold wide_Right.f rgV
  have hw := wn_lt hh hl
  by_cases h0 : n ≤ 0
  · rw [if_pos h0, show n.toNat = 0 by omega, Nat.pow_zero, Nat.div_one, Nat.mod_one, wn_hi hl, wn_lo hl]; rfl
  · rw [if_neg h0]
    obtain ⟨m, rfl⟩ := Int.eq_ofNat_of_zero_le (show 0 ≤ n by omega)
    rw [Int.toNat_natCast]
    have key : ∀ Q : Nat, Q = wn h l / 2 ^ m → (!(((lfV (wn (Q / 18446744073709551616) (Q % 18446744073709551616)) (m : Int) / 18446744073709551616 : Nat) : Int) == (h : Int)) || !(((lfV (wn (Q / 18446744073709551616) (Q % 18446744073709551616)) (m : Int) % 18446744073709551616 : Nat) : Int) == (l : Int))) = decide (wn h l % 2 ^ m ≠ 0) := by
      intro Q hQ
      rw [wn_div]
      unfold lfV
      rw [Int.toNat_natCast, hQ, wn_ne _ h l (Nat.mod_lt _ (by decide)) hl, decide_eq_decide]
      exact lost_iff _ _ hw
    by_cases h1 : (m : Int) ≥ 128
    · rw [if_pos h1]
      have hb : wn h l < 2 ^ m := Nat.lt_of_lt_of_le hw (by rw [p128]; exact Nat.pow_le_pow_right (by decide) (by omega))
      rw [Nat.div_eq_of_lt hb, Nat.mod_eq_of_lt hb]
      have e := wn_ne 0 h l (by decide) hl
      have e2 : (!((h : Int) == 0) || !((l : Int) == 0)) = decide (wn h l ≠ 0) := by
        rw [Bool.eq_iff_iff]; simp; unfold wn; omega
      rw [e2]; rfl
    · rw [if_neg h1]
      by_cases h2 : (m : Int) ≥ 64
      · rw [if_pos h2, w64_id (by omega) (by omega), show (m : Int) - 64 = ((m - 64 : Nat) : Int) by omega, shrN' _ _ (by omega)]
        have hQ : h / 2 ^ (m - 64) = wn h l / 2 ^ m := by
          rw [show 2 ^ m = 18446744073709551616 * 2 ^ (m - 64) by rw [p64, ← Nat.pow_add]; congr 1; omega, ← Nat.div_div_eq_div_mul, wn_hi hl]
        have hq1 := Nat.div_le_self h (2 ^ (m - 64))
        have k := key _ hQ
        rw [← hQ]
        generalize h / 2 ^ (m - 64) = q at *
        rw [Nat.div_eq_of_lt (show q < 18446744073709551616 by omega), Nat.mod_eq_of_lt (show q < 18446744073709551616 by omega)] at k ⊢
        have lw := leftW 0 q (m : Int) (by decide) (by omega) (by omega)
        rw [show ((0 : Nat) : Int) = 0 from rfl] at lw
        rw [lw, Option.bind_some]
        show some (0, (q : Int), _) = _
        rw [k]; rfl
      · rw [if_neg h2, w64_id (by omega) (by omega), show (64 : Int) - m = ((64 - m : Nat) : Int) by omega, shrN' _ _ (by omega), shrN' _ _ (by omega), shlN _ _ (by omega)]
        obtain ⟨k1, k2, k3, k4⟩ := right_arith h l m (by omega) (by omega) hh hl
        rw [← p64] at k1 k2 k3
        have k5 := Nat.mod_lt (h * 2 ^ (64 - m)) (show 0 < 18446744073709551616 by decide)
        have k6 := Nat.div_le_self l (2 ^ m)
        have k7 := Nat.div_le_self h (2 ^ m)
        rw [or_add' _ _ (64 - m) (by omega) k3 k4 (by omega) (by omega)]
        have k := key _ rfl
        rw [k1, k2] at k
        rw [k1, k2]
        have lw := leftW (h / 2 ^ m) (l / 2 ^ m + h * 2 ^ (64 - m) % 18446744073709551616) (m : Int) (by omega) (by rw [← k2]; exact Nat.mod_lt _ (by decide)) (by omega)
        rw [lw, Option.bind_some, k]
theorem addW (a b c d : Nat) (ha : a < 18446744073709551616) (hb : b < 18446744073709551616) (hc : c < 18446744073709551616) (hd : d < 18446744073709551616) :
    wide_Add.f a b c d = some ((((wn a b + wn c d) % 340282366920938463463374607431768211456 / 18446744073709551616 : Nat) : Int), (((wn a b + wn c d) % 340282366920938463463374607431768211456 % 18446744073709551616 : Nat) : Int)) := by
  unfold wide_Add.f wn
  rw [if_pos (by omega)]
  have e1 : ((a : Int) + (c : Int) + ((b : Int) + (d : Int)) / 18446744073709551616) % 18446744073709551616 = (((a * 18446744073709551616 + b + (c * 18446744073709551616 + d)) % 340282366920938463463374607431768211456 / 18446744073709551616 : Nat) : Int) := by omega
  have e2 : ((b : Int) + (d : Int)) % 18446744073709551616 = (((a * 18446744073709551616 + b + (c * 18446744073709551616 + d)) % 340282366920938463463374607431768211456 % 18446744073709551616 : Nat) : Int) := by omega
  rw [e1, e2]
end Go.Proofs.Ytbpmnmceajmmcaa.Th
end
section
set_option linter.unusedVariables false
set_option linter.unusedSimpArgs false
namespace Go.Proofs.Ytbpmnmceajmmcaa.Th
open Go.RowKit Go.Proofs.YtbpmnmceajmmcaaW.PrintWords Go.Proofs.YtbpmnmceajmmcaaW.PrintLast Go.Proofs.YtbpmnmceajmmcaaW.PrintMore Go.Proofs.Ytbpmnmceajmmcaa.PA Bit Flo
theorem fmt_bd' (w : Int) : (fmt w).f ≤ 52 ∧ (-5000 < (fmt w).low ∧ (fmt w).low < 0) ∧ (fmt w).top < 5000 ∧ 2 ≤ (fmt w).top := by
  unfold fmt; split <;> decide
def wH (V : Nat) : Int := ((V / 18446744073709551616 : Nat) : Int)
def wL (V : Nat) : Int := ((V % 18446744073709551616 : Nat) : Int)
theorem wHL (h l : Nat) (hl : l < 18446744073709551616) : wH (wn h l) = h ∧ wL (wn h l) = l := by unfold wH wL; rw [wn_hi hl, wn_lo hl]; exact ⟨rfl, rfl⟩
theorem hi64 {V : Nat} (h : V < 340282366920938463463374607431768211456) : V / 18446744073709551616 < 18446744073709551616 := by omega
theorem lo64 (V : Nat) : V % 18446744073709551616 < 18446744073709551616 := Nat.mod_lt _ (by decide)
theorem wLen {V : Nat} (h : V < 340282366920938463463374607431768211456) : wide_Len.f (wH V) (wL V) = some ((bl V : Nat) : Int) := by
  have := lenW (V / 18446744073709551616) (V % 18446744073709551616) (hi64 h) (lo64 V)
  rwa [wn_div] at this
theorem wLeft {V : Nat} (h : V < 340282366920938463463374607431768211456) (n : Nat) (hn : n < 1000) (hV : V * 2 ^ n < 340282366920938463463374607431768211456) : wide_Left.f (wH V) (wL V) n = some (wH (V * 2 ^ n), wL (V * 2 ^ n)) := by
  have := leftW (V / 18446744073709551616) (V % 18446744073709551616) n (hi64 h) (lo64 V) (by omega)
  rwa [wn_div, lfV, Int.toNat_natCast, Nat.mod_eq_of_lt hV] at this
theorem wRight {V : Nat} (h : V < 340282366920938463463374607431768211456) (n : Nat) (hn : n < 1099511627776) : wide_Right.f (wH V) (wL V) n = some (wH (V / 2 ^ n), wL (V / 2 ^ n), decide (V % 2 ^ n ≠ 0)) := by
  have := rightW (V / 18446744073709551616) (V % 18446744073709551616) n (hi64 h) (lo64 V) (by omega)
  rwa [wn_div, rgV, Int.toNat_natCast] at this
theorem wAdd1 {V : Nat} (h : V + 1 < 340282366920938463463374607431768211456) : wide_Add.f (wH V) (wL V) 0 1 = some (wH (V + 1), wL (V + 1)) := by
  have := addW (V / 18446744073709551616) (V % 18446744073709551616) 0 1 (hi64 (by omega)) (lo64 V) (by decide) (by decide)
  rw [wn_div, show wn 0 1 = 1 by decide, Nat.mod_eq_of_lt h] at this
  exact this
theorem wAnd1 (V : Nat) : (Go.bits .and .u64 (wL V) 1 == 1) = decide (V % 2 = 1) := by
  unfold wL
  rw [show (1 : Int) = ((1 : Nat) : Int) from rfl, u64_and_nat _ 1 (lo64 V) (by decide)]
  have h1 := and_low (V % 18446744073709551616) 1
  rw [show (2 : Nat) ^ 1 - 1 = 1 by decide, show (2 : Nat) ^ 1 = 2 by decide] at h1
  rw [h1, Bool.eq_iff_iff]; simp; omega
theorem wSmall {V : Nat} (h : V < 18446744073709551616) : wH V = 0 ∧ wL V = V := by unfold wH wL; omega
theorem shZ (w : Int) (hw : w = 32 ∨ w = 64) (s : Bool) : shape_Zero.f w s = some ((mkN w 0 s : Nat) : Int) := by rcases hw with rfl | rfl; exact shZero32 s; exact shZero64 s
theorem shI (w : Int) (hw : w = 32 ∨ w = 64) (s : Bool) : shape_Inf.f w s = some ((mkN w (fmt w).inf s : Nat) : Int) := by rcases hw with rfl | rfl; exact shInf32 s; exact shInf64 s
theorem clo (w : Int) (hw : w = 32 ∨ w = 64) (s : Bool) (m : Nat) (h0 : 0 < m) (hm : m < (fmt w).inf) : ∃ k z, shape_Close.f k w s 1 ((fmt w).ex m) ((fmt w).sg m : Nat) = some (((mkN w m s : Nat) : Int), z) := by
  rcases hw with rfl | rfl
  · obtain ⟨k, hk⟩ := (close32 s m h0 hm).rounds; exact ⟨k, 0, hk⟩
  · obtain ⟨k, hk⟩ := (close64 s m h0 hm).rounds; exact ⟨k, 0, hk⟩
end Go.Proofs.Ytbpmnmceajmmcaa.Th
end
/- round.Pack answers the nearest float, for every number in the range of exponents that it looks at. -/
namespace Go.Proofs.Ytbpmnmceajmmcaa.PA
open Go.RowKit Go.Proofs.YtbpmnmceajmmcaaW.PrintWords Go.Proofs.YtbpmnmceajmmcaaW.PrintLast Go.Proofs.YtbpmnmceajmmcaaW.PrintMore
attribute [local go_sem] max2_int min2_int max_two min_two max_three min_three max_four min_four   -- for this text's walks alone
set_option linter.unusedVariables false
set_option linter.unusedSimpArgs false
open Go.Proofs.Ytbpmnmceajmmcaa.Th Flo
theorem rp_fin (W : Int) (hw : W = 32 ∨ W = 64) (ng : Bool) (t2 t1 hi : Int) (h2 : t2 = ((2 ^ ((fmt W).f + 1) : Nat) : Int)) (h1 : t1 = ((2 ^ (fmt W).f : Nat) : Int)) (hh : hi = (fmt W).low + (fmt W).top - 2) (q R : Nat) (e3 : Int) (he : e3 = q + (fmt W).low)
    (hR : R ≤ 2 ^ ((fmt W).f + 1)) (hl : 0 < q → 2 ^ (fmt W).f ≤ R) :
    (hi < e3 ∧ shape_Inf.f W ng = some ((mkN W ((fmt W).fin q R) ng : Nat) : Int)) ∨ (e3 ≤ hi ∧ ∃ l4 e4, (((R : Int) = t2 ∧ t1 = l4 ∧ e3 + 1 = e4) ∨ ((R : Int) ≠ t2 ∧ (R : Int) = l4 ∧ e3 = e4)) ∧
      ((l4 = 0 ∧ shape_Zero.f W ng = some ((mkN W ((fmt W).fin q R) ng : Nat) : Int)) ∨ (l4 ≠ 0 ∧ hi < e4 ∧ shape_Inf.f W ng = some ((mkN W ((fmt W).fin q R) ng : Nat) : Int)) ∨ (l4 ≠ 0 ∧ e4 ≤ hi ∧ ∃ k z, shape_Close.f k W ng 1 e4 l4 = some (((mkN W ((fmt W).fin q R) ng : Nat) : Int), z)))) := by
  have hz := shZ W hw ng
  have hi_ := shI W hw ng
  have hc := clo W hw ng
  generalize fmt W = F at *
  have hp := F.pow_pos
  have ht := F.ht
  have e1 : 2 ^ (F.f + 1) = 2 ^ F.f * 2 := Nat.pow_succ ..
  by_cases c1 : F.top < q + 2
  · left
    refine ⟨by omega, ?_⟩
    have : F.fin q R = F.inf := by
      unfold Fmt.fin
      split
      · first | rfl | rw [if_pos (by omega)]
      · first | rfl | rw [if_pos c1]
    rw [this]; exact hi_
  · right
    refine ⟨by omega, ?_⟩
    by_cases c2 : R = 2 ^ (F.f + 1)
    · refine ⟨t1, e3 + 1, .inl ⟨by rw [c2, h2], rfl, rfl⟩, ?_⟩
      by_cases c3 : F.top < q + 3
      · refine .inr (.inl ⟨by rw [h1]; omega, by omega, ?_⟩)
        have : F.fin q R = F.inf := by unfold Fmt.fin; rw [if_pos c2, if_pos c3]
        rw [this]; exact hi_
      · refine .inr (.inr ⟨by rw [h1]; omega, by omega, ?_⟩)
        have e5 : F.fin q R = (q + 1) * 2 ^ F.f + 2 ^ F.f := by unfold Fmt.fin; rw [if_pos c2, if_neg c3, Nat.add_mul, Nat.add_mul]; omega
        have hm : F.fin q R < F.inf := by
          rw [e5]
          unfold Fmt.inf
          have := Nat.mul_le_mul_right (2 ^ F.f) (show q + 3 ≤ F.top by omega)
          rw [Nat.add_mul] at this ⊢
          omega
        obtain ⟨h3, h4⟩ := F.sg_mk (q + 1) (2 ^ F.f) (by omega) (fun _ => Nat.le_refl _)
        have := hc (F.fin q R) (by rw [e5]; omega) hm
        rw [e5, h3, h4, ← e5, show (((q + 1 : Nat) : Int) + F.low) = e3 + 1 by omega, ← h1] at this
        exact this
    · refine ⟨(R : Int), e3, .inr ⟨by rw [h2]; intro k; exact c2 (by exact_mod_cast k), rfl, rfl⟩, ?_⟩
      by_cases c3 : R = 0
      · left
        have hq : q = 0 := by rcases Nat.eq_zero_or_pos q with h | h; exact h; have := hl h; omega
        have : F.fin q R = 0 := by unfold Fmt.fin; rw [if_neg c2, if_neg c1, if_pos (by omega)]; exact c3
        exact ⟨by omega, by rw [this]; exact hz⟩
      · refine .inr (.inr ⟨by omega, by omega, ?_⟩)
        have e5 : F.fin q R = q * 2 ^ F.f + R := by
          unfold Fmt.fin
          rw [if_neg c2, if_neg c1]
          split
          · rcases Nat.eq_zero_or_pos q with h | h
            · rw [h]; omega
            · have := hl h; omega
          · rw [Nat.add_mul]; omega
        have hm : F.fin q R < F.inf := by
          rw [e5]
          unfold Fmt.inf
          have := Nat.mul_le_mul_right (2 ^ F.f) (show q + 2 ≤ F.top by omega)
          rw [Nat.add_mul] at this
          omega
        obtain ⟨h3, h4⟩ := F.sg_mk q R (by omega) hl
        have := hc (F.fin q R) (by rw [e5]; omega) hm
        rw [e5, h3, h4, ← e5, ← he] at this
        exact this
theorem rp_main (W f t2 t1 lo hi : Int) (hW : (W = 32 ∧ f = 23 ∧ t2 = 16777216 ∧ t1 = 8388608) ∨ (W = 64 ∧ f = 52 ∧ t2 = 9007199254740992 ∧ t1 = 4503599627370496)) (hlo : lo = (fmt W).low) (hhi : hi = (fmt W).low + (fmt W).top - 2)
    (AIM : ∀ ng h l e m, round_aim.f W ng h l e m = some (h, l, e, m, W, f, lo, hi, ng, true)) (S : Nat) (hS : S < 340282366920938463463374607431768211456) (e : Int) (m ng : Bool) (Z : S ≠ 0 ∨ m = true) (E1 : e ≤ 1048576) (E2 : -1048576 ≤ e) (w : World) :
    Calls Try.prog 36 #[.int .i64 W, .bool ng, .agg #[.int .u64 (wH S), .int .u64 (wL S)], .int .i64 e, .bool m] w fun en w' => en = .returned (.int .u64 ((mkN W (pkm (fmt W) S e m) ng : Nat) : Int)) ∧ Below w.heap.size w w' := by
  have hw : W = 32 ∨ W = 64 := by rcases hW with ⟨h, _⟩ | ⟨h, _⟩; exact .inl h; exact .inr h
  have hf : f = ((fmt W).f : Int) ∧ t2 = ((2 ^ ((fmt W).f + 1) : Nat) : Int) ∧ t1 = ((2 ^ (fmt W).f : Nat) : Int) := by
    rcases hW with ⟨rfl, rfl, rfl, rfl⟩ | ⟨rfl, rfl, rfl, rfl⟩ <;> decide
  have hbd := fmt_bd' W
  obtain ⟨hf, h2, h1⟩ := hf
  -- the number whose last bits go
  obtain ⟨S1, e1, m1, hS1, hpos, hm1, hk, hT⟩ : ∃ (S1 : Nat) (e1 : Int) (m1 : Bool), S1 < 340282366920938463463374607431768211456 ∧ 0 < S1 ∧ (m1 = true → 127 ≤ bl S1) ∧ pkm (fmt W) S e m = pkc (fmt W) S1 e1 (if m1 then 1 else 0) ∧
      ((m = true ∧ (∃ n0, wide_Len.f (wH S) (wL S) = some n0 ∧ n0 < 127) ∧ (∃ x0 x1, wide_Left.f (wH S) (wL S) 1 = some (x0, x1) ∧ wide_Add.f x0 x1 0 1 = some (wH S1, wL S1)) ∧ e - 1 = e1 ∧ m1 = false) ∨ ((m = false ∨ ∃ n0, wide_Len.f (wH S) (wL S) = some n0 ∧ 127 ≤ n0) ∧ wH S1 = wH S ∧ wL S1 = wL S ∧ e1 = e ∧ m1 = m)) := by
    have hk : pkm (fmt W) S e m = if m = true ∧ bl S < 127 then pkc (fmt W) (2 * S + 1) (e - 1) 0 else pkc (fmt W) S e (if m then 1 else 0) := by
      unfold pkm
      rw [if_neg (by rintro ⟨h1, h2⟩; rcases Z with h | h; exact h h1; rw [h2] at h; cases h), if_neg (by omega), if_neg (by omega)]
    by_cases c : m = true ∧ bl S < 127
    · rw [if_pos c] at hk
      have hlt := bl_le.1 (Nat.le_of_lt_succ (show bl S < 126 + 1 from c.2))
      rw [show (2 : Nat) ^ 126 = 85070591730234615865843651857942052864 by decide] at hlt
      have hl := wLeft hS 1 (by decide) (by omega)
      refine ⟨2 * S + 1, e - 1, false, by omega, by omega, fun h => (by cases h), (by rw [hk]; rfl), .inl ⟨c.1, ⟨_, wLen hS, by omega⟩, ⟨_, _, hl, ?_⟩, rfl, rfl⟩⟩
      rw [wAdd1 (by omega)]
      rw [show S * 2 ^ 1 + 1 = 2 * S + 1 by omega]
    · rw [if_neg c] at hk
      refine ⟨S, e, m, hS, ?_, fun h => ?_, hk, .inr ⟨?_, rfl, rfl, rfl, rfl⟩⟩
      · rcases Z with h | h
        · omega
        · have : 127 ≤ bl S := by
            rcases Nat.lt_or_ge (bl S) 127 with h3 | h3
            · exact absurd ⟨h, h3⟩ c
            · exact h3
          exact bl_pos.1 (by omega)
      · rcases Nat.lt_or_ge (bl S) 127 with h3 | h3
        · exact absurd ⟨h, h3⟩ c
        · exact h3
      · cases hm : m
        · exact .inl rfl
        · right
          refine ⟨_, wLen hS, ?_⟩
          rcases Nat.lt_or_ge (bl S) 127 with h3 | h3
          · exact absurd ⟨hm, h3⟩ c
          · omega
  have b128 := bl_128 hS1
  have he1 : -1048578 < e1 ∧ e1 < 1048578 := by rcases hT with ⟨_, _, _, h, _⟩ | ⟨_, _, _, h, _⟩ <;> omega
  rw [hk]
  have mx_ : ∀ a b : Int, mx a b = max a b := fun a b => by unfold mx; split <;> omega
  have mn_ : ∀ a b : Int, mn a b = min a b := fun a b => by unfold mn; split <;> omega
  have p54 : 2 ^ ((fmt W).f + 1) ≤ 9007199254740992 := by
    rw [show (9007199254740992 : Nat) = 2 ^ 53 by decide]; exact Nat.pow_le_pow_right (by decide) (by omega)
  by_cases c : (bl S1 : Int) - (fmt W).f - 1 ≤ 0 ∧ (fmt W).low - e1 ≤ 0
  · obtain rfl : m1 = false := by
      cases m1
      · rfl
      · have := hm1 rfl; omega
    obtain ⟨q, u, hu, hq, e5, _, hR, hl⟩ := pkc_up (fmt W) hpos c
    have e6 : pkc (fmt W) S1 e1 (if false = true then 1 else 0) = (fmt W).fin q (S1 * 2 ^ u) := e5
    rw [e6]
    have FX := rp_fin W hw ng t2 t1 hi h2 h1 hhi q (S1 * 2 ^ u) (e1 - u) (by omega) hR hl
    have hs := wSmall (V := S1 * 2 ^ u) (by omega)
    refine rp_pack W f t2 t1 lo hi hW (by omega) (wH S) (wL S) e (wH S1) (wL S1) e1 (bl S1) (max ((bl S1 : Int) - f - 1) (lo - e1)) (wH S1) (wL S1) e1 (bl S1) u (wH (S1 * 2 ^ u)) (wL (S1 * 2 ^ u)) (e1 - u) _ m false ng w (AIM _ _ _ _ _) ?_ E1 E2 hT (wLen hS1) (by omega) (mx_ _ _) (.inl ⟨by omega, rfl, rfl, rfl, rfl⟩) (wLen hS1) (by omega) ?_ ?_ ?_
    · rcases Z with h | h
      · left
        rw [Bool.and_eq_false_iff]
        by_cases h3 : S / 18446744073709551616 = 0
        · right; unfold wL; rw [beq_eq_false_iff_ne]; omega
        · left; unfold wH; rw [beq_eq_false_iff_ne]; omega
      · exact .inr h
    · rw [mn_, hf, hlo]; exact hu.symm
    · rcases Nat.eq_zero_or_pos u with h | h
      · right; subst h; exact ⟨by omega, by rw [Nat.pow_zero, Nat.mul_one], by rw [Nat.pow_zero, Nat.mul_one], by omega⟩
      · left; exact ⟨by omega, wLeft hS1 u (by omega) (by omega), rfl⟩
    · rw [hs.1, hs.2]
      rcases FX with h | ⟨h, h'⟩
      · exact .inl h
      · exact .inr ⟨h, rfl, h'⟩
  · obtain ⟨q, n, j, hj, hq, hn, e5, _, hR, hl⟩ := pkc_dn (fmt W) (S := S1) (m := if m1 then 1 else 0) (e := e1) (by cases m1 <;> decide) hpos c
    rw [e5]
    have FX := rp_fin W hw ng t2 t1 hi h2 h1 hhi q n (e1 + ((j + 1 : Nat) : Int)) (by omega) hR hl
    have hs := wSmall (V := n) (by omega)
    have hn128 : n < 340282366920938463463374607431768211456 := by omega
    have hj40 : j < 1099511627775 := by omega
    have r1 := wRight hS1 j (by omega)
    have hk1 : S1 / 2 ^ j < 340282366920938463463374607431768211456 := Nat.lt_of_le_of_lt (Nat.div_le_self _ _) hS1
    have r2 := wRight hk1 1 (by decide)
    have rb := rne_bits S1 j (if m1 then 1 else 0) (by cases m1 <;> decide)
    rw [← hn] at rb
    have hn2 := bl_128 hn128
    have hlen : (fmt W).f + 1 ≤ bl n ∨ q = 0 := by
      rcases Nat.eq_zero_or_pos q with h | h
      · exact .inr h
      · left
        have := hl h
        exact lt_bl.2 this
    refine rp_pack W f t2 t1 lo hi hW (by omega) (wH S) (wL S) e (wH S1) (wL S1) e1 (bl S1) ((j + 1 : Nat) : Int) (wH n) (wL n) (e1 + ((j + 1 : Nat) : Int)) (bl n) (min (f + 1 - bl n) (e1 + ((j + 1 : Nat) : Int) - lo)) (wH n) (wL n) (e1 + ((j + 1 : Nat) : Int)) _ m m1 ng w (AIM _ _ _ _ _) ?_ E1 E2 hT (wLen hS1) (by omega) ?_ (.inr ⟨by omega, rfl, wH (S1 / 2 ^ j), wL (S1 / 2 ^ j), wH (S1 / 2 ^ j / 2), wL (S1 / 2 ^ j / 2), decide (S1 % 2 ^ j ≠ 0), _, decide (S1 / 2 ^ j % 2 = 1 ∧ (S1 % 2 ^ j ≠ 0 ∨ (if m1 then 1 else 0) = 1 ∨ S1 / 2 ^ j / 2 % 2 = 1)), ?_, r2, ?_, ?_, ?_⟩) (wLen hn128) (by omega) (mn_ _ _) (.inr ⟨by omega, rfl, rfl, rfl⟩) ?_
    · rcases Z with h | h
      · left
        rw [Bool.and_eq_false_iff]
        by_cases h3 : S / 18446744073709551616 = 0
        · right; unfold wL; rw [beq_eq_false_iff_ne]; omega
        · left; unfold wH; rw [beq_eq_false_iff_ne]; omega
      · exact .inr h
    · rw [mx_, hf, hlo]; rw [← hj]; rfl
    · rw [show (((j + 1 : Nat) : Int) - 1) = (j : Int) by omega]; exact r1
    · rw [wAnd1, wAnd1, Bool.eq_iff_iff]
      cases m1 <;> simp
    · intro h
      rw [decide_eq_true_eq] at h
      rw [if_pos h] at rb
      rw [rb]
      exact wAdd1 (by omega)
    · intro h
      rw [decide_eq_false_iff_not] at h
      rw [if_neg h] at rb
      rw [rb]; exact ⟨rfl, rfl⟩
    · rw [hs.1, hs.2]
      rcases FX with h | ⟨h, h'⟩
      · exact .inl h
      · exact .inr ⟨h, rfl, h'⟩
end Go.Proofs.Ytbpmnmceajmmcaa.PA
/- round.Pack's short ways: no width; nought; an exponent that is too great or too small. -/
namespace Go.Proofs.Ytbpmnmceajmmcaa.PA
open Go.RowKit Go.Proofs.YtbpmnmceajmmcaaW.PrintWords Go.Proofs.YtbpmnmceajmmcaaW.PrintLast Go.Proofs.YtbpmnmceajmmcaaW.PrintMore
attribute [local go_sem] max2_int min2_int max_two min_two max_three min_three max_four min_four   -- for this text's walks alone
set_option linter.unusedVariables false
set_option linter.unusedSimpArgs false
attribute [local go_sem high] eqA42
open Go.Proofs.Ytbpmnmceajmmcaa.Th Flo
set_option maxHeartbeats 8000000 in
set_option maxRecDepth 100000 in
theorem rp_none (W : Int) (h l e : Int) (m ng : Bool) (w : World) (AIM : round_aim.f W ng h l e m = some (0, 0, 0, false, 0, 0, 0, 0, false, false)) :
    Calls Try.prog 36 #[.int .i64 W, .bool ng, .agg #[.int .u64 h, .int .u64 l], .int .i64 e, .bool m] w fun en w' => en = .returned (.int .u64 0) ∧ Below w.heap.size w w' := by
  have hu41 := Try.underlying42
  have hu95 := Try.underlying81
  have hu97 := Try.underlying83
  have A_ := Aside0.mk AIM
  clear AIM
  go_enter Try.func36, Try.ntmps36
  go_wp2_with (first | (go_at_call 73; (with_reducible refine (round_aim.calls W ng h l e m 0 0 0 false 0 0 0 0 false false _ A_.out).mono ?_); rintro en w1 ⟨rfl, hb⟩))
  go_ret
  exact ⟨rfl, below_alloc (below_step (below_alloc (Below.refl _ w) _) hb) _⟩
set_option maxHeartbeats 8000000 in
set_option maxRecDepth 100000 in
theorem rp_short (W f lo hi : Int) (h l e r : Int) (m ng : Bool) (w : World) (AIM : round_aim.f W ng h l e m = some (h, l, e, m, W, f, lo, hi, ng, true))
    (C : (h = 0 ∧ l = 0 ∧ m = false ∧ shape_Zero.f W ng = some r) ∨ (((h == 0) && (l == 0) && !m) = false ∧ ((1048576 < e ∧ shape_Inf.f W ng = some r) ∨ (e < -1048576 ∧ shape_Zero.f W ng = some r)))) :
    Calls Try.prog 36 #[.int .i64 W, .bool ng, .agg #[.int .u64 h, .int .u64 l], .int .i64 e, .bool m] w fun en w' => en = .returned (.int .u64 r) ∧ Below w.heap.size w w' := by
  have hu41 := Try.underlying42
  have hu95 := Try.underlying81
  have hu97 := Try.underlying83
  have A_ := Aside0.mk AIM
  clear AIM
  obtain ⟨bh, hh⟩ : ∃ y, (h == 0) = y := ⟨_, rfl⟩
  obtain ⟨bl_, hl⟩ : ∃ y, (l == 0) = y := ⟨_, rfl⟩
  rw [hh, hl] at C
  rcases C with ⟨rfl, rfl, rfl, B_⟩ | ⟨Z, C⟩
  · have B := Aside0.mk B_
    clear B_ hh hl
    go_enter Try.func36, Try.ntmps36
    go_wp2_with (first
      | (go_at_call 73; (with_reducible refine (round_aim.calls W ng 0 0 e false 0 0 e false W f lo hi ng true _ A_.out).mono ?_); rintro en w1 ⟨rfl, hb⟩; have sa := ((Nr.bcell hb).1 w.heap.size 0 (by simp)).trans (show _ = some (Value.int .u64 0) by simp [go_sem]); have sb := ((Nr.bcell hb).1 w.heap.size 1 (by simp)).trans (show _ = some (Value.int .u64 0) by simp [go_sem]); have hz := Nat.lt_of_lt_of_le (show w.heap.size < (w.alloc (.cells #[.int .u64 0, .int .u64 0] 42 (0, 0))).heap.size by simp) hb.size; have H1 := Aside0.mk (below_step (below_alloc (Below.refl _ w) _) hb); clear hb)
      | (go_at_call 30; (with_reducible refine (shape_Zero.calls W ng r _ B.out).mono ?_); rintro en w2 ⟨rfl, hb⟩))
    go_ret
    exact ⟨rfl, below_step (below_alloc H1.out _) hb⟩
  · have key : Aside0 ((decide (1048576 < e) = true ∧ shape_Inf.f W ng = some r) ∨ (decide (1048576 < e) = false ∧ decide (e < -1048576) = true ∧ shape_Zero.f W ng = some r)) := ⟨by
      rcases C with ⟨h1, h2⟩ | ⟨h1, h2⟩
      · exact .inl ⟨decide_eq_true h1, h2⟩
      · exact .inr ⟨decide_eq_false (by omega), decide_eq_true h1, h2⟩⟩
    clear C
    cases bh <;> cases bl_ <;> cases m <;> first
      | (exfalso; simp at Z; done)
      | (clear Z
         rcases key.out with ⟨d, B_⟩ | ⟨d, d2, B_⟩
         all_goals
          have B := Aside0.mk B_
          clear B_ key
          go_enter Try.func36, Try.ntmps36
          go_wp2_with (first
            | (go_at_call 73; (with_reducible refine (round_aim.calls W ng h l e _ h l e _ W f lo hi ng true _ A_.out).mono ?_); rintro en w1 ⟨rfl, hb⟩; have sa := ((Nr.bcell hb).1 w.heap.size 0 (by simp)).trans (show _ = some (Value.int .u64 h) by simp [go_sem]); have sb := ((Nr.bcell hb).1 w.heap.size 1 (by simp)).trans (show _ = some (Value.int .u64 l) by simp [go_sem]); have hz := Nat.lt_of_lt_of_le (show w.heap.size < (w.alloc (.cells #[.int .u64 h, .int .u64 l] 42 (0, 0))).heap.size by simp) hb.size; have H1 := Aside0.mk (below_step (below_alloc (Below.refl _ w) _) hb); clear hb)
            | (go_at_call 30; (with_reducible refine (shape_Zero.calls W ng r _ B.out).mono ?_); rintro en w2 ⟨rfl, hb⟩)
            | (go_at_call 42; (with_reducible refine (shape_Inf.calls W ng r _ B.out).mono ?_); rintro en w2 ⟨rfl, hb⟩))
          go_ret
          exact ⟨rfl, below_step (below_alloc H1.out _) hb⟩)
end Go.Proofs.Ytbpmnmceajmmcaa.PA
namespace Go.Proofs.Ytbpmnmceajmmcaa.PA
open Go.RowKit Go.Proofs.YtbpmnmceajmmcaaW.PrintWords Go.Proofs.YtbpmnmceajmmcaaW.PrintLast Go.Proofs.YtbpmnmceajmmcaaW.PrintMore
attribute [local go_sem] max2_int min2_int max_two min_two max_three min_three max_four min_four   -- for this text's walks alone
set_option linter.unusedVariables false
set_option linter.unusedSimpArgs false
set_option maxHeartbeats 8000000
set_option maxRecDepth 100000
-- IMPORT Derived.Test.YtbpmnmceajmmcaaHRpF
def round_Pack.f (a0 : Int) (a1 : Bool) (a2_0 : Int) (a2_1 : Int) (a3 : Int) (a4 : Bool) : Option (Int) :=
 if (0 ≤ a2_0 ∧ a2_0 < 18446744073709551616) ∧ (0 ≤ a2_1 ∧ a2_1 < 18446744073709551616) then
  some (if a0 = 32 ∨ a0 = 64 then ((Th.mkN a0 (Th.pkm (Th.fmt a0) (Th.wn a2_0.toNat a2_1.toNat) a3 a4) a1 : Nat) : Int) else 0) else none
theorem round_Pack.calls (a0 : Int) (a1 : Bool) (a2_0 : Int) (a2_1 : Int) (a3 : Int) (a4 : Bool) (r : Int) (w : World) (h : round_Pack.f a0 a1 a2_0 a2_1 a3 a4 = some r) :
  Calls Try.prog 36 #[.int .i64 a0, .bool a1, .agg #[.int .u64 a2_0, .int .u64 a2_1], .int .i64 a3, .bool a4] w fun e w' => e = .returned (.int .u64 r) ∧ Below w.heap.size w w' := by
 unfold round_Pack.f at h
 split at h
 rotate_left
 ·cases h
 rename_i hr
 obtain ⟨⟨p1, p2⟩, p3, p4⟩ := hr
 obtain rfl := Option.some.inj h
 obtain ⟨H, rfl⟩ := Int.eq_ofNat_of_zero_le p1
 obtain ⟨L, rfl⟩ := Int.eq_ofNat_of_zero_le p3
 rw [Int.toNat_natCast, Int.toNat_natCast]
 have hL : L < 18446744073709551616 := by omega
 have hS := Th.wn_lt (show H < 18446744073709551616 by omega) hL
 obtain ⟨e1, e2⟩ := Th.wHL H L hL
 have hz : Th.wn H L = 0 ↔ H = 0 ∧ L = 0 := by unfold Th.wn; omega
 by_cases hw : a0 = 32 ∨ a0 = 64
 ·rw [if_pos hw]
  have key : ∀ (f lo hi t2 t1 : Int), ((a0 = 32 ∧ f = 23 ∧ t2 = 16777216 ∧ t1 = 8388608) ∨ (a0 = 64 ∧ f = 52 ∧ t2 = 9007199254740992 ∧ t1 = 4503599627370496)) → lo = (Th.fmt a0).low → hi = (Th.fmt a0).low + (Th.fmt a0).top - 2 →
    (∀ ng h l e m, round_aim.f a0 ng h l e m = some (h, l, e, m, a0, f, lo, hi, ng, true)) → Calls Try.prog 36 #[.int .i64 a0, .bool a1, .agg #[.int .u64 (H : Int), .int .u64 (L : Int)], .int .i64 a3, .bool a4] w fun e w' => e = .returned (.int .u64 ((Th.mkN a0 (Th.pkm (Th.fmt a0) (Th.wn H L) a3 a4) a1 : Nat) : Int)) ∧ Below w.heap.size w w' := by
   intro f lo hi t2 t1 hW h1 h2 AIM
   by_cases c1 : Th.wn H L = 0 ∧ a4 = false
   ·refine rp_short a0 f lo hi H L a3 _ a4 a1 w (AIM _ _ _ _ _) (.inl ⟨by have := hz.1 c1.1; omega, by have := hz.1 c1.1; omega, c1.2, ?_⟩)
    unfold Th.pkm
    rw [if_pos c1]
    exact Th.shZ a0 hw a1
   ·have hb : (((H : Int) == 0) && ((L : Int) == 0) && !a4) = false := by
     cases a4
     ·have : ¬ (H = 0 ∧ L = 0) := fun h => c1 ⟨hz.2 h, rfl⟩
      rw [Bool.not_false, Bool.and_true, Bool.and_eq_false_iff, beq_eq_false_iff_ne, beq_eq_false_iff_ne]
      omega
     ·simp
    by_cases c2 : 1048576 < a3
    ·refine rp_short a0 f lo hi H L a3 _ a4 a1 w (AIM _ _ _ _ _) (.inr ⟨hb, .inl ⟨c2, ?_⟩⟩)
     unfold Th.pkm
     rw [if_neg c1, if_pos c2]
     exact Th.shI a0 hw a1
    ·by_cases c3 : a3 < -1048576
     ·refine rp_short a0 f lo hi H L a3 _ a4 a1 w (AIM _ _ _ _ _) (.inr ⟨hb, .inr ⟨c3, ?_⟩⟩)
      unfold Th.pkm
      rw [if_neg c1, if_neg c2, if_pos c3]
      exact Th.shZ a0 hw a1
     ·have := rp_main a0 f t2 t1 lo hi hW h1 h2 AIM (Th.wn H L) hS a3 a4 a1 (by
       cases a4
       ·exact .inl fun h => c1 ⟨h, rfl⟩
       ·exact .inr rfl) (by omega) (by omega) w
      rw [e1, e2] at this
      exact this
  rcases hw with rfl | rfl
  ·exact key 23 (-149) 104 16777216 8388608 (.inl ⟨rfl, rfl, rfl, rfl⟩) (by decide) (by decide) (fun ng h l e m => by
    unfold round_aim.f; rw [show shape_Fields.f 32 = some (8, 23) by decide, Option.bind_some, if_neg (by decide), if_pos (by decide +kernel), if_pos (by decide)]
    rw [show wrap64 ((wrap64 (2 - (shl .i64 1 (wrap64 ((8 : Int) - 1))))) - 23) = -149 by decide +kernel, show wrap64 ((wrap64 ((-149 : Int) + (shl .i64 1 8))) - 3) = 104 by decide +kernel])
  ·exact key 52 (-1074) 971 9007199254740992 4503599627370496 (.inr ⟨rfl, rfl, rfl, rfl⟩) (by decide) (by decide) (fun ng h l e m => by
    unfold round_aim.f; rw [show shape_Fields.f 64 = some (11, 52) by decide, Option.bind_some, if_neg (by decide), if_pos (by decide +kernel), if_pos (by decide)]
    rw [show wrap64 ((wrap64 (2 - (shl .i64 1 (wrap64 ((11 : Int) - 1))))) - 52) = -1074 by decide +kernel, show wrap64 ((wrap64 ((-1074 : Int) + (shl .i64 1 11))) - 3) = 971 by decide +kernel])
 ·rw [if_neg hw]
  refine rp_none a0 H L a3 a4 a1 w ?_
  unfold round_aim.f shape_Fields.f shape_of.f
  rw [if_neg (by omega), if_neg (by omega)]
  rfl
mutual
def bits_Div64.j2 : Nat → Int → Int → Int → Int → Int → Int → Int → Int → Option (Int × Int)
 | 0, _, _, _, _, _, _, _, _ => none
 | k + 1, x2, x8, x9, x10, x11, x13, x14, x15 => if x9 = 0 then (none) else (bits_Div64.l1 k x2 x8 x9 x10 x14 x15 (IntKind.u64.wrap ((IntKind.u64.wrap ((IntKind.u64.wrap ((IntKind.u64.wrap (x11 * 4294967296)) + x13)) - (IntKind.u64.wrap (x15 * x2)))) - (IntKind.u64.wrap ((IntKind.u64.wrap (Int.tdiv (IntKind.u64.wrap ((IntKind.u64.wrap ((IntKind.u64.wrap (x11 * 4294967296)) + x13)) - (IntKind.u64.wrap (x15 * x2)))) x9)) * x9)))) (IntKind.u64.wrap ((IntKind.u64.wrap ((IntKind.u64.wrap (x11 * 4294967296)) + x13)) - (IntKind.u64.wrap (x15 * x2)))) (IntKind.u64.wrap (Int.tdiv (IntKind.u64.wrap ((IntKind.u64.wrap ((IntKind.u64.wrap (x11 * 4294967296)) + x13)) - (IntKind.u64.wrap (x15 * x2)))) x9)))
def bits_Div64.l1 : Nat → Int → Int → Int → Int → Int → Int → Int → Int → Int → Option (Int × Int)
 | 0, _, _, _, _, _, _, _, _, _ => none
 | k + 1, x2, x8, x9, x10, x14, x15, x16, x17, x18 => if x18 ≥ 4294967296 then (bits_Div64.j4 k x2 x8 x9 x10 x14 x15 x16 x17 x18 true) else (bits_Div64.j4 k x2 x8 x9 x10 x14 x15 x16 x17 x18 (decide ((IntKind.u64.wrap (x18 * x10)) > (IntKind.u64.wrap ((IntKind.u64.wrap (4294967296 * x16)) + x14)))))
def bits_Div64.j4 : Nat → Int → Int → Int → Int → Int → Int → Int → Int → Int → Bool → Option (Int × Int)
 | 0, _, _, _, _, _, _, _, _, _, _ => none
 | k + 1, x2, x8, x9, x10, x14, x15, x16, x17, x18, x113 => if x113 = true then (if (IntKind.u64.wrap (x16 + x9)) ≥ 4294967296 then (if 0 ≤ x8 then (some (IntKind.u64.wrap ((IntKind.u64.wrap (x15 * 4294967296)) + (IntKind.u64.wrap (x18 - 1))), shr .u64 (IntKind.u64.wrap ((IntKind.u64.wrap ((IntKind.u64.wrap (x17 * 4294967296)) + x14)) - (IntKind.u64.wrap ((IntKind.u64.wrap (x18 - 1)) * x2)))) x8)) else (none)) else (bits_Div64.l1 k x2 x8 x9 x10 x14 x15 (IntKind.u64.wrap (x16 + x9)) x17 (IntKind.u64.wrap (x18 - 1)))) else (if 0 ≤ x8 then (some (IntKind.u64.wrap ((IntKind.u64.wrap (x15 * 4294967296)) + x18), shr .u64 (IntKind.u64.wrap ((IntKind.u64.wrap ((IntKind.u64.wrap (x17 * 4294967296)) + x14)) - (IntKind.u64.wrap (x18 * x2)))) x8)) else (none))
def bits_Div64.l0 : Nat → Int → Int → Int → Int → Int → Int → Int → Int → Int → Option (Int × Int)
 | 0, _, _, _, _, _, _, _, _, _ => none
 | k + 1, x2, x8, x9, x10, x11, x13, x14, x15, x16 => if x15 ≥ 4294967296 then (bits_Div64.j1 k x2 x8 x9 x10 x11 x13 x14 x15 x16 true) else (bits_Div64.j1 k x2 x8 x9 x10 x11 x13 x14 x15 x16 (decide ((IntKind.u64.wrap (x15 * x10)) > (IntKind.u64.wrap ((IntKind.u64.wrap (4294967296 * x16)) + x13)))))
def bits_Div64.j1 : Nat → Int → Int → Int → Int → Int → Int → Int → Int → Int → Bool → Option (Int × Int)
 | 0, _, _, _, _, _, _, _, _, _, _ => none
 | k + 1, x2, x8, x9, x10, x11, x13, x14, x15, x16, x78 => if x78 = true then (if (IntKind.u64.wrap (x16 + x9)) ≥ 4294967296 then (bits_Div64.j2 k x2 x8 x9 x10 x11 x13 x14 (IntKind.u64.wrap (x15 - 1))) else (bits_Div64.l0 k x2 x8 x9 x10 x11 x13 x14 (IntKind.u64.wrap (x15 - 1)) (IntKind.u64.wrap (x16 + x9)))) else (bits_Div64.j2 k x2 x8 x9 x10 x11 x13 x14 x15)
end
def bits_Div64.f (k : Nat) (a0 : Int) (a1 : Int) (a2 : Int) : Option (Int × Int) := if a2 = 0 then (none) else (if a2 ≤ a0 then (none) else (if a0 = 0 then (some (IntKind.u64.wrap (Int.tdiv a1 a2), Int.tmod a1 a2)) else ((bits_LeadingZeros64.f a2).bind fun t628 => (if 0 ≤ (IntKind.u64.wrap (t628)) then (if 0 ≤ (IntKind.u64.wrap (64 - (IntKind.u64.wrap (t628)))) then (if ((shl .u64 a2 (IntKind.u64.wrap (t628))) / 4294967296) = 0 then (none) else (bits_Div64.l0 k (shl .u64 a2 (IntKind.u64.wrap (t628))) (IntKind.u64.wrap (t628)) ((shl .u64 a2 (IntKind.u64.wrap (t628))) / 4294967296) (Go.bits .and .u64 (shl .u64 a2 (IntKind.u64.wrap (t628))) 4294967295) (Go.bits .or .u64 (shl .u64 a0 (IntKind.u64.wrap (t628))) (shr .u64 a1 (IntKind.u64.wrap (64 - (IntKind.u64.wrap (t628)))))) ((shl .u64 a1 (IntKind.u64.wrap (t628))) / 4294967296) (Go.bits .and .u64 (shl .u64 a1 (IntKind.u64.wrap (t628))) 4294967295) (IntKind.u64.wrap (Int.tdiv (Go.bits .or .u64 (shl .u64 a0 (IntKind.u64.wrap (t628))) (shr .u64 a1 (IntKind.u64.wrap (64 - (IntKind.u64.wrap (t628)))))) ((shl .u64 a2 (IntKind.u64.wrap (t628))) / 4294967296))) (IntKind.u64.wrap ((Go.bits .or .u64 (shl .u64 a0 (IntKind.u64.wrap (t628))) (shr .u64 a1 (IntKind.u64.wrap (64 - (IntKind.u64.wrap (t628)))))) - (IntKind.u64.wrap ((IntKind.u64.wrap (Int.tdiv (Go.bits .or .u64 (shl .u64 a0 (IntKind.u64.wrap (t628))) (shr .u64 a1 (IntKind.u64.wrap (64 - (IntKind.u64.wrap (t628)))))) ((shl .u64 a2 (IntKind.u64.wrap (t628))) / 4294967296))) * ((shl .u64 a2 (IntKind.u64.wrap (t628))) / 4294967296))))))) else (none)) else (none)))))
theorem bits_Div64.mono_l : ∀ k, (∀ y0 y1 y2 y3 y4 y5 y6 y7, LeO (bits_Div64.j2 k y0 y1 y2 y3 y4 y5 y6 y7) (bits_Div64.j2 (k + 1) y0 y1 y2 y3 y4 y5 y6 y7)) ∧ (∀ y0 y1 y2 y3 y4 y5 y6 y7 y8, LeO (bits_Div64.l1 k y0 y1 y2 y3 y4 y5 y6 y7 y8) (bits_Div64.l1 (k + 1) y0 y1 y2 y3 y4 y5 y6 y7 y8)) ∧ (∀ y0 y1 y2 y3 y4 y5 y6 y7 y8 y9, LeO (bits_Div64.j4 k y0 y1 y2 y3 y4 y5 y6 y7 y8 y9) (bits_Div64.j4 (k + 1) y0 y1 y2 y3 y4 y5 y6 y7 y8 y9)) ∧ (∀ y0 y1 y2 y3 y4 y5 y6 y7 y8, LeO (bits_Div64.l0 k y0 y1 y2 y3 y4 y5 y6 y7 y8) (bits_Div64.l0 (k + 1) y0 y1 y2 y3 y4 y5 y6 y7 y8)) ∧ (∀ y0 y1 y2 y3 y4 y5 y6 y7 y8 y9, LeO (bits_Div64.j1 k y0 y1 y2 y3 y4 y5 y6 y7 y8 y9) (bits_Div64.j1 (k + 1) y0 y1 y2 y3 y4 y5 y6 y7 y8 y9))
 | 0 => ⟨fun _ _ _ _ _ _ _ _ r h => by simp [bits_Div64.j2] at h, fun _ _ _ _ _ _ _ _ _ r h => by simp [bits_Div64.l1] at h, fun _ _ _ _ _ _ _ _ _ _ r h => by simp [bits_Div64.j4] at h, fun _ _ _ _ _ _ _ _ _ r h => by simp [bits_Div64.l0] at h, fun _ _ _ _ _ _ _ _ _ _ r h => by simp [bits_Div64.j1] at h⟩
 | k + 1 => by
  obtain ⟨ih0, ih1, ih2, ih3, ih4⟩ := bits_Div64.mono_l k
  refine ⟨?_, ?_, ?_, ?_, ?_⟩
  ·intro y0 y1 y2 y3 y4 y5 y6 y7
   unfold bits_Div64.j2
   repeat' first
   | (with_reducible exact ih0 _ _ _ _ _ _ _ _)
   | (with_reducible exact ih1 _ _ _ _ _ _ _ _ _)
   | (with_reducible exact ih2 _ _ _ _ _ _ _ _ _ _)
   | (with_reducible exact ih3 _ _ _ _ _ _ _ _ _)
   | (with_reducible exact ih4 _ _ _ _ _ _ _ _ _ _)
   | (with_reducible exact LeO.refl _)
   | (with_reducible exact LeO.none _)
   | (with_reducible refine LeO.ite ?_ ?_)
   | (with_reducible refine LeO.bind ?_ (fun _ => ?_))
   | exact ih0 _ _ _ _ _ _ _ _
   | exact ih1 _ _ _ _ _ _ _ _ _
   | exact ih2 _ _ _ _ _ _ _ _ _ _
   | exact ih3 _ _ _ _ _ _ _ _ _
   | exact ih4 _ _ _ _ _ _ _ _ _ _
   | exact LeO.none _
   | refine LeO.ite ?_ ?_
   | refine LeO.bind ?_ (fun _ => ?_)
  ·intro y0 y1 y2 y3 y4 y5 y6 y7 y8
   unfold bits_Div64.l1
   repeat' first
   | (with_reducible exact ih0 _ _ _ _ _ _ _ _)
   | (with_reducible exact ih1 _ _ _ _ _ _ _ _ _)
   | (with_reducible exact ih2 _ _ _ _ _ _ _ _ _ _)
   | (with_reducible exact ih3 _ _ _ _ _ _ _ _ _)
   | (with_reducible exact ih4 _ _ _ _ _ _ _ _ _ _)
   | (with_reducible exact LeO.refl _)
   | (with_reducible exact LeO.none _)
   | (with_reducible refine LeO.ite ?_ ?_)
   | (with_reducible refine LeO.bind ?_ (fun _ => ?_))
   | exact ih0 _ _ _ _ _ _ _ _
   | exact ih1 _ _ _ _ _ _ _ _ _
   | exact ih2 _ _ _ _ _ _ _ _ _ _
   | exact ih3 _ _ _ _ _ _ _ _ _
   | exact ih4 _ _ _ _ _ _ _ _ _ _
   | exact LeO.none _
   | refine LeO.ite ?_ ?_
   | refine LeO.bind ?_ (fun _ => ?_)
  ·intro y0 y1 y2 y3 y4 y5 y6 y7 y8 y9
   unfold bits_Div64.j4
   repeat' first
   | (with_reducible exact ih0 _ _ _ _ _ _ _ _)
   | (with_reducible exact ih1 _ _ _ _ _ _ _ _ _)
   | (with_reducible exact ih2 _ _ _ _ _ _ _ _ _ _)
   | (with_reducible exact ih3 _ _ _ _ _ _ _ _ _)
   | (with_reducible exact ih4 _ _ _ _ _ _ _ _ _ _)
   | (with_reducible exact LeO.refl _)
   | (with_reducible exact LeO.none _)
   | (with_reducible refine LeO.ite ?_ ?_)
   | (with_reducible refine LeO.bind ?_ (fun _ => ?_))
   | exact ih0 _ _ _ _ _ _ _ _
   | exact ih1 _ _ _ _ _ _ _ _ _
   | exact ih2 _ _ _ _ _ _ _ _ _ _
   | exact ih3 _ _ _ _ _ _ _ _ _
   | exact ih4 _ _ _ _ _ _ _ _ _ _
   | exact LeO.none _
   | refine LeO.ite ?_ ?_
   | refine LeO.bind ?_ (fun _ => ?_)
  ·intro y0 y1 y2 y3 y4 y5 y6 y7 y8
   unfold bits_Div64.l0
   repeat' first
   | (with_reducible exact ih0 _ _ _ _ _ _ _ _)
   | (with_reducible exact ih1 _ _ _ _ _ _ _ _ _)
   | (with_reducible exact ih2 _ _ _ _ _ _ _ _ _ _)
   | (with_reducible exact ih3 _ _ _ _ _ _ _ _ _)
   | (with_reducible exact ih4 _ _ _ _ _ _ _ _ _ _)
   | (with_reducible exact LeO.refl _)
   | (with_reducible exact LeO.none _)
   | (with_reducible refine LeO.ite ?_ ?_)
   | (with_reducible refine LeO.bind ?_ (fun _ => ?_))
   | exact ih0 _ _ _ _ _ _ _ _
   | exact ih1 _ _ _ _ _ _ _ _ _
   | exact ih2 _ _ _ _ _ _ _ _ _ _
   | exact ih3 _ _ _ _ _ _ _ _ _
   | exact ih4 _ _ _ _ _ _ _ _ _ _
   | exact LeO.none _
   | refine LeO.ite ?_ ?_
   | refine LeO.bind ?_ (fun _ => ?_)
  ·intro y0 y1 y2 y3 y4 y5 y6 y7 y8 y9
   unfold bits_Div64.j1
   repeat' first
   | (with_reducible exact ih0 _ _ _ _ _ _ _ _)
   | (with_reducible exact ih1 _ _ _ _ _ _ _ _ _)
   | (with_reducible exact ih2 _ _ _ _ _ _ _ _ _ _)
   | (with_reducible exact ih3 _ _ _ _ _ _ _ _ _)
   | (with_reducible exact ih4 _ _ _ _ _ _ _ _ _ _)
   | (with_reducible exact LeO.refl _)
   | (with_reducible exact LeO.none _)
   | (with_reducible refine LeO.ite ?_ ?_)
   | (with_reducible refine LeO.bind ?_ (fun _ => ?_))
   | exact ih0 _ _ _ _ _ _ _ _
   | exact ih1 _ _ _ _ _ _ _ _ _
   | exact ih2 _ _ _ _ _ _ _ _ _ _
   | exact ih3 _ _ _ _ _ _ _ _ _
   | exact ih4 _ _ _ _ _ _ _ _ _ _
   | exact LeO.none _
   | refine LeO.ite ?_ ?_
   | refine LeO.bind ?_ (fun _ => ?_)
theorem bits_Div64.mono : ∀ a0 a1 a2 k, LeO (bits_Div64.f k a0 a1 a2) (bits_Div64.f (k + 1) a0 a1 a2) := by
 intro a0 a1 a2 k
 obtain ⟨ih0, ih1, ih2, ih3, ih4⟩ := bits_Div64.mono_l k
 unfold bits_Div64.f
 repeat' first
   | (with_reducible exact ih0 _ _ _ _ _ _ _ _)
   | (with_reducible exact ih1 _ _ _ _ _ _ _ _ _)
   | (with_reducible exact ih2 _ _ _ _ _ _ _ _ _ _)
   | (with_reducible exact ih3 _ _ _ _ _ _ _ _ _)
   | (with_reducible exact ih4 _ _ _ _ _ _ _ _ _ _)
   | (with_reducible exact LeO.refl _)
   | (with_reducible exact LeO.none _)
   | (with_reducible refine LeO.ite ?_ ?_)
   | (with_reducible refine LeO.bind ?_ (fun _ => ?_))
   | exact ih0 _ _ _ _ _ _ _ _
   | exact ih1 _ _ _ _ _ _ _ _ _
   | exact ih2 _ _ _ _ _ _ _ _ _ _
   | exact ih3 _ _ _ _ _ _ _ _ _
   | exact ih4 _ _ _ _ _ _ _ _ _ _
   | exact LeO.none _
   | refine LeO.ite ?_ ?_
   | refine LeO.bind ?_ (fun _ => ?_)
theorem bits_Div64.calls (k : Nat) (a0 : Int) (a1 : Int) (a2 : Int) (r1 : Int) (r2 : Int) (w : World) (h : bits_Div64.f k a0 a1 a2 = some (r1, r2)) :
  Calls Try.prog 122 #[.int .u64 a0, .int .u64 a1, .int .u64 a2] w fun e w' => e = .returned (.tuple #[.int .u64 r1, .int .u64 r2]) ∧ Drawn0 w w' := by
 have H : (if a2 = 0 then (none) else (if a2 ≤ a0 then (none) else (if a0 = 0 then (some (IntKind.u64.wrap (Int.tdiv a1 a2), Int.tmod a1 a2)) else ((bits_LeadingZeros64.f a2).bind fun t628 => (if 0 ≤ (IntKind.u64.wrap (t628)) then (if 0 ≤ (IntKind.u64.wrap (64 - (IntKind.u64.wrap (t628)))) then (if ((shl .u64 a2 (IntKind.u64.wrap (t628))) / 4294967296) = 0 then (none) else (bits_Div64.l0 k (shl .u64 a2 (IntKind.u64.wrap (t628))) (IntKind.u64.wrap (t628)) ((shl .u64 a2 (IntKind.u64.wrap (t628))) / 4294967296) (Go.bits .and .u64 (shl .u64 a2 (IntKind.u64.wrap (t628))) 4294967295) (Go.bits .or .u64 (shl .u64 a0 (IntKind.u64.wrap (t628))) (shr .u64 a1 (IntKind.u64.wrap (64 - (IntKind.u64.wrap (t628)))))) ((shl .u64 a1 (IntKind.u64.wrap (t628))) / 4294967296) (Go.bits .and .u64 (shl .u64 a1 (IntKind.u64.wrap (t628))) 4294967295) (IntKind.u64.wrap (Int.tdiv (Go.bits .or .u64 (shl .u64 a0 (IntKind.u64.wrap (t628))) (shr .u64 a1 (IntKind.u64.wrap (64 - (IntKind.u64.wrap (t628)))))) ((shl .u64 a2 (IntKind.u64.wrap (t628))) / 4294967296))) (IntKind.u64.wrap ((Go.bits .or .u64 (shl .u64 a0 (IntKind.u64.wrap (t628))) (shr .u64 a1 (IntKind.u64.wrap (64 - (IntKind.u64.wrap (t628)))))) - (IntKind.u64.wrap ((IntKind.u64.wrap (Int.tdiv (Go.bits .or .u64 (shl .u64 a0 (IntKind.u64.wrap (t628))) (shr .u64 a1 (IntKind.u64.wrap (64 - (IntKind.u64.wrap (t628)))))) ((shl .u64 a2 (IntKind.u64.wrap (t628))) / 4294967296))) * ((shl .u64 a2 (IntKind.u64.wrap (t628))) / 4294967296))))))) else (none)) else (none)))))) = some (r1, r2) := h
 clear h
 by_cases c4 : a2 = 0
 ·rw [if_pos c4] at H
  exact absurd H (by simp)
 ·rw [if_neg c4] at H
  have c4b0 : (a2 == 0) = false := beq_eq_false_iff_ne.mpr c4
  have c4b1 : (a2 != 0) = true := bne_iff_ne.mpr c4
  by_cases c5 : a2 ≤ a0
  ·rw [if_pos c5] at H
   exact absurd H (by simp)
  ·rw [if_neg c5] at H
   have c5b0 : decide (a2 ≤ a0) = false := decide_eq_false c5
   clear c5
   by_cases c6 : a0 = 0
   ·rw [if_pos c6] at H
    have c6b0 : (a0 == 0) = true := beq_iff_eq.mpr c6
    have c6b1 : (a0 != 0) = false := bne_eq_false_iff_eq.mpr c6
    clear c6
    simp only [Option.some.injEq, Prod.mk.injEq] at H
    obtain ⟨rfl, rfl⟩ := H
    go_enter Try.func122, Try.ntmps122
    go_wp2
    repeat (go_quiet (fail); try go_wp2)
    go_ret2
    exact ⟨sm_, by repeat (first | exact Drawn0.refl _ | apply Drawn0.step)⟩
   ·rw [if_neg c6] at H
    have c6b0 : (a0 == 0) = false := beq_eq_false_iff_ne.mpr c6
    have c6b1 : (a0 != 0) = true := bne_iff_ne.mpr c6
    replace H := ob_ H
    obtain ⟨t628, A70, H⟩ := H
    replace H : (if 0 ≤ (IntKind.u64.wrap (t628)) then (if 0 ≤ (IntKind.u64.wrap (64 - (IntKind.u64.wrap (t628)))) then (if ((shl .u64 a2 (IntKind.u64.wrap (t628))) / 4294967296) = 0 then (none) else (bits_Div64.l0 k (shl .u64 a2 (IntKind.u64.wrap (t628))) (IntKind.u64.wrap (t628)) ((shl .u64 a2 (IntKind.u64.wrap (t628))) / 4294967296) (Go.bits .and .u64 (shl .u64 a2 (IntKind.u64.wrap (t628))) 4294967295) (Go.bits .or .u64 (shl .u64 a0 (IntKind.u64.wrap (t628))) (shr .u64 a1 (IntKind.u64.wrap (64 - (IntKind.u64.wrap (t628)))))) ((shl .u64 a1 (IntKind.u64.wrap (t628))) / 4294967296) (Go.bits .and .u64 (shl .u64 a1 (IntKind.u64.wrap (t628))) 4294967295) (IntKind.u64.wrap (Int.tdiv (Go.bits .or .u64 (shl .u64 a0 (IntKind.u64.wrap (t628))) (shr .u64 a1 (IntKind.u64.wrap (64 - (IntKind.u64.wrap (t628)))))) ((shl .u64 a2 (IntKind.u64.wrap (t628))) / 4294967296))) (IntKind.u64.wrap ((Go.bits .or .u64 (shl .u64 a0 (IntKind.u64.wrap (t628))) (shr .u64 a1 (IntKind.u64.wrap (64 - (IntKind.u64.wrap (t628)))))) - (IntKind.u64.wrap ((IntKind.u64.wrap (Int.tdiv (Go.bits .or .u64 (shl .u64 a0 (IntKind.u64.wrap (t628))) (shr .u64 a1 (IntKind.u64.wrap (64 - (IntKind.u64.wrap (t628)))))) ((shl .u64 a2 (IntKind.u64.wrap (t628))) / 4294967296))) * ((shl .u64 a2 (IntKind.u64.wrap (t628))) / 4294967296))))))) else (none)) else (none)) = some (r1, r2) := H
    have A7 := A_ A70;clear A70
    obtain ⟨ji8, hji8⟩ : ∃ j_ : Int, (IntKind.u64.wrap (t628)) = j_ := ⟨_, rfl⟩
    replace H : (if 0 ≤ (ji8) then (if 0 ≤ (IntKind.u64.wrap (64 - (ji8))) then (if ((shl .u64 a2 (ji8)) / 4294967296) = 0 then (none) else (bits_Div64.l0 k (shl .u64 a2 (ji8)) ji8 ((shl .u64 a2 (ji8)) / 4294967296) (Go.bits .and .u64 (shl .u64 a2 (ji8)) 4294967295) (Go.bits .or .u64 (shl .u64 a0 (ji8)) (shr .u64 a1 (IntKind.u64.wrap (64 - (ji8))))) ((shl .u64 a1 (ji8)) / 4294967296) (Go.bits .and .u64 (shl .u64 a1 (ji8)) 4294967295) (IntKind.u64.wrap (Int.tdiv (Go.bits .or .u64 (shl .u64 a0 (ji8)) (shr .u64 a1 (IntKind.u64.wrap (64 - (ji8))))) ((shl .u64 a2 (ji8)) / 4294967296))) (IntKind.u64.wrap ((Go.bits .or .u64 (shl .u64 a0 (ji8)) (shr .u64 a1 (IntKind.u64.wrap (64 - (ji8))))) - (IntKind.u64.wrap ((IntKind.u64.wrap (Int.tdiv (Go.bits .or .u64 (shl .u64 a0 (ji8)) (shr .u64 a1 (IntKind.u64.wrap (64 - (ji8))))) ((shl .u64 a2 (ji8)) / 4294967296))) * ((shl .u64 a2 (ji8)) / 4294967296))))))) else (none)) else (none)) = some (r1, r2) := by first | (rw [hji8] at H; exact H) | (simp only [hji8] at H ⊢; exact H)
    (try rw [hji8] at A7)
    by_cases c9 : 0 ≤ (ji8)
    ·rw [if_pos c9] at H
     have c9b0 := eq_true c9
     have c9b1 : decide (0 ≤ (ji8)) = true := decide_eq_true c9
     clear c9
     obtain ⟨ji10, hji10⟩ : ∃ j_ : Int, (shl .u64 a2 (ji8)) = j_ := ⟨_, rfl⟩
     replace H : (if 0 ≤ (IntKind.u64.wrap (64 - (ji8))) then (if ((ji10) / 4294967296) = 0 then (none) else (bits_Div64.l0 k ji10 ji8 ((ji10) / 4294967296) (Go.bits .and .u64 (ji10) 4294967295) (Go.bits .or .u64 (shl .u64 a0 (ji8)) (shr .u64 a1 (IntKind.u64.wrap (64 - (ji8))))) ((shl .u64 a1 (ji8)) / 4294967296) (Go.bits .and .u64 (shl .u64 a1 (ji8)) 4294967295) (IntKind.u64.wrap (Int.tdiv (Go.bits .or .u64 (shl .u64 a0 (ji8)) (shr .u64 a1 (IntKind.u64.wrap (64 - (ji8))))) ((ji10) / 4294967296))) (IntKind.u64.wrap ((Go.bits .or .u64 (shl .u64 a0 (ji8)) (shr .u64 a1 (IntKind.u64.wrap (64 - (ji8))))) - (IntKind.u64.wrap ((IntKind.u64.wrap (Int.tdiv (Go.bits .or .u64 (shl .u64 a0 (ji8)) (shr .u64 a1 (IntKind.u64.wrap (64 - (ji8))))) ((ji10) / 4294967296))) * ((ji10) / 4294967296))))))) else (none)) = some (r1, r2) := by first | (rw [hji10] at H; exact H) | (simp only [hji10] at H ⊢; exact H)
     (try rw [hji10] at A7)
     have hji10_ : (IntKind.u64.wrap (a2 * 2 ^ min (ji8).toNat 64)) = ji10 := hji10
     have hji10z : (ji8) ≤ 64 → (IntKind.u64.wrap (a2 * 2 ^ (ji8).toNat)) = ji10 := shl_small hji10
     have c11b0 := eq_true (of_decide_eq_true (by first | (with_reducible assumption) | assumption) : 0 ≤ (ji8))
     obtain ⟨ji12, hji12⟩ : ∃ j_ : Int, (shl .u64 a0 (ji8)) = j_ := ⟨_, rfl⟩
     replace H : (if 0 ≤ (IntKind.u64.wrap (64 - (ji8))) then (if ((ji10) / 4294967296) = 0 then (none) else (bits_Div64.l0 k ji10 ji8 ((ji10) / 4294967296) (Go.bits .and .u64 (ji10) 4294967295) (Go.bits .or .u64 (ji12) (shr .u64 a1 (IntKind.u64.wrap (64 - (ji8))))) ((shl .u64 a1 (ji8)) / 4294967296) (Go.bits .and .u64 (shl .u64 a1 (ji8)) 4294967295) (IntKind.u64.wrap (Int.tdiv (Go.bits .or .u64 (ji12) (shr .u64 a1 (IntKind.u64.wrap (64 - (ji8))))) ((ji10) / 4294967296))) (IntKind.u64.wrap ((Go.bits .or .u64 (ji12) (shr .u64 a1 (IntKind.u64.wrap (64 - (ji8))))) - (IntKind.u64.wrap ((IntKind.u64.wrap (Int.tdiv (Go.bits .or .u64 (ji12) (shr .u64 a1 (IntKind.u64.wrap (64 - (ji8))))) ((ji10) / 4294967296))) * ((ji10) / 4294967296))))))) else (none)) = some (r1, r2) := by first | (rw [hji12] at H; exact H) | (simp only [hji12] at H ⊢; exact H)
     (try rw [hji12] at A7)
     have hji12_ : (IntKind.u64.wrap (a0 * 2 ^ min (ji8).toNat 64)) = ji12 := hji12
     have hji12z : (ji8) ≤ 64 → (IntKind.u64.wrap (a0 * 2 ^ (ji8).toNat)) = ji12 := shl_small hji12
     obtain ⟨ji13, hji13⟩ : ∃ j_ : Int, (IntKind.u64.wrap (64 - (ji8))) = j_ := ⟨_, rfl⟩
     replace H : (if 0 ≤ (ji13) then (if ((ji10) / 4294967296) = 0 then (none) else (bits_Div64.l0 k ji10 ji8 ((ji10) / 4294967296) (Go.bits .and .u64 (ji10) 4294967295) (Go.bits .or .u64 (ji12) (shr .u64 a1 (ji13))) ((shl .u64 a1 (ji8)) / 4294967296) (Go.bits .and .u64 (shl .u64 a1 (ji8)) 4294967295) (IntKind.u64.wrap (Int.tdiv (Go.bits .or .u64 (ji12) (shr .u64 a1 (ji13))) ((ji10) / 4294967296))) (IntKind.u64.wrap ((Go.bits .or .u64 (ji12) (shr .u64 a1 (ji13))) - (IntKind.u64.wrap ((IntKind.u64.wrap (Int.tdiv (Go.bits .or .u64 (ji12) (shr .u64 a1 (ji13))) ((ji10) / 4294967296))) * ((ji10) / 4294967296))))))) else (none)) = some (r1, r2) := by first | (rw [hji13] at H; exact H) | (simp only [hji13] at H ⊢; exact H)
     (try rw [hji13] at A7)
     by_cases c14 : 0 ≤ (ji13)
     ·rw [if_pos c14] at H
      have c14b0 := eq_true c14
      have c14b1 : decide (0 ≤ (ji13)) = true := decide_eq_true c14
      clear c14
      obtain ⟨ji15, hji15⟩ : ∃ j_ : Int, (shr .u64 a1 (ji13)) = j_ := ⟨_, rfl⟩
      replace H : (if ((ji10) / 4294967296) = 0 then (none) else (bits_Div64.l0 k ji10 ji8 ((ji10) / 4294967296) (Go.bits .and .u64 (ji10) 4294967295) (Go.bits .or .u64 (ji12) (ji15)) ((shl .u64 a1 (ji8)) / 4294967296) (Go.bits .and .u64 (shl .u64 a1 (ji8)) 4294967295) (IntKind.u64.wrap (Int.tdiv (Go.bits .or .u64 (ji12) (ji15)) ((ji10) / 4294967296))) (IntKind.u64.wrap ((Go.bits .or .u64 (ji12) (ji15)) - (IntKind.u64.wrap ((IntKind.u64.wrap (Int.tdiv (Go.bits .or .u64 (ji12) (ji15)) ((ji10) / 4294967296))) * ((ji10) / 4294967296))))))) = some (r1, r2) := by first | (rw [hji15] at H; exact H) | (simp only [hji15] at H ⊢; exact H)
      (try rw [hji15] at A7)
      have hji15_ : (a1 / 2 ^ min (ji13).toNat 64) = ji15 := hji15
      have hji15z : (ji13) ≤ 64 → (a1 / 2 ^ (ji13).toNat) = ji15 := shr_small hji15
      have c16b0 := eq_true (of_decide_eq_true (by first | (with_reducible assumption) | assumption) : 0 ≤ (ji8))
      obtain ⟨ji17, hji17⟩ : ∃ j_ : Int, (shl .u64 a1 (ji8)) = j_ := ⟨_, rfl⟩
      replace H : (if ((ji10) / 4294967296) = 0 then (none) else (bits_Div64.l0 k ji10 ji8 ((ji10) / 4294967296) (Go.bits .and .u64 (ji10) 4294967295) (Go.bits .or .u64 (ji12) (ji15)) ((ji17) / 4294967296) (Go.bits .and .u64 (ji17) 4294967295) (IntKind.u64.wrap (Int.tdiv (Go.bits .or .u64 (ji12) (ji15)) ((ji10) / 4294967296))) (IntKind.u64.wrap ((Go.bits .or .u64 (ji12) (ji15)) - (IntKind.u64.wrap ((IntKind.u64.wrap (Int.tdiv (Go.bits .or .u64 (ji12) (ji15)) ((ji10) / 4294967296))) * ((ji10) / 4294967296))))))) = some (r1, r2) := by first | (rw [hji17] at H; exact H) | (simp only [hji17] at H ⊢; exact H)
      (try rw [hji17] at A7)
      have hji17_ : (IntKind.u64.wrap (a1 * 2 ^ min (ji8).toNat 64)) = ji17 := hji17
      have hji17z : (ji8) ≤ 64 → (IntKind.u64.wrap (a1 * 2 ^ (ji8).toNat)) = ji17 := shl_small hji17
      by_cases c18 : ((ji10) / 4294967296) = 0
      ·rw [if_pos c18] at H
       exact absurd H (by simp)
      ·rw [if_neg c18] at H
       have c18b0 : (((ji10) / 4294967296) == 0) = false := beq_eq_false_iff_ne.mpr c18
       have c18b1 : (((ji10) / 4294967296) != 0) = true := bne_iff_ne.mpr c18
       have HC19 := A_ H;clear H
       go_enter Try.func122, Try.ntmps122
       go_upto_block 0 with (first | (go_at_call 121; (with_reducible refine (bits_LeadingZeros64.calls a2 t628 _ A7.out).mono ?_); rintro e w' ⟨rfl, ⟨nd, rfl⟩⟩; (try first | exact ⟨rfl, _, World.drewN_drewN _ _ _⟩ | exact ⟨rfl, _, Eq.trans (World.drewN_drewN _ _ _) (congrArg (World.drewN _) (Nat.add_assoc _ _ _))⟩)))
       repeat (go_quiet (first | (go_at_call 121; (with_reducible refine (bits_LeadingZeros64.calls a2 t628 _ A7.out).mono ?_); rintro e w' ⟨rfl, ⟨nd, rfl⟩⟩; (try first | exact ⟨rfl, _, World.drewN_drewN _ _ _⟩ | exact ⟨rfl, _, Eq.trans (World.drewN_drewN _ _ _) (congrArg (World.drewN _) (Nat.add_assoc _ _ _))⟩))); go_upto_block 0 with (first | (go_at_call 121; (with_reducible refine (bits_LeadingZeros64.calls a2 t628 _ A7.out).mono ?_); rintro e w' ⟨rfl, ⟨nd, rfl⟩⟩; (try first | exact ⟨rfl, _, World.drewN_drewN _ _ _⟩ | exact ⟨rfl, _, Eq.trans (World.drewN_drewN _ _ _) (congrArg (World.drewN _) (Nat.add_assoc _ _ _))⟩))))
       (try simp only [Act.put, lI_, l0_, lS_])
       go_cut [15] (fun v15 wc => ∃ (kq : Nat) (x15_18 : Int), v15 = .int .u64 x15_18 ∧ Aside0 (bits_Div64.j2 kq ji10 ji8 ((ji10) / 4294967296) (Go.bits .and .u64 (ji10) 4294967295) (Go.bits .or .u64 (ji12) (ji15)) ((ji17) / 4294967296) (Go.bits .and .u64 (ji17) 4294967295) x15_18 = some (r1, r2)) ∧ Aside0 (kq ≤ k) ∧ Drawn0 w wc)
       case first =>
        have H := HC19.out
        clear HC19
        have H' := A_ H
        clear H
        go_wp2
        repeat (go_quiet (fail); try go_wp2)
        go_loopg [15, 16] k (fun kq v15 v16 w' => ∃ (x15_1 : Int) (x16_1 : Int), v15 = .int .u64 x15_1 ∧ v16 = .int .u64 x16_1 ∧ Aside0 (bits_Div64.l0 kq ji10 ji8 ((ji10) / 4294967296) (Go.bits .and .u64 (ji10) 4294967295) (Go.bits .or .u64 (ji12) (ji15)) ((ji17) / 4294967296) (Go.bits .and .u64 (ji17) 4294967295) x15_1 x16_1 = some (r1, r2)) ∧ Aside0 (kq ≤ k) ∧ Drawn0 w w')
        case atStart => exact ⟨(IntKind.u64.wrap (Int.tdiv (Go.bits .or .u64 (ji12) (ji15)) ((ji10) / 4294967296))), (IntKind.u64.wrap ((Go.bits .or .u64 (ji12) (ji15)) - (IntKind.u64.wrap ((IntKind.u64.wrap (Int.tdiv (Go.bits .or .u64 (ji12) (ji15)) ((ji10) / 4294967296))) * ((ji10) / 4294967296))))), (by first | rfl | (simp; done) | (simp only [← hji10, ← hji12, ← hji15] <;> (first | rfl | simp)) | (simp [*]; done)), (by first | rfl | (simp; done) | (simp only [← hji10, ← hji12, ← hji15] <;> (first | rfl | simp)) | (simp [*]; done)), H', ⟨Nat.le_refl _⟩, by repeat (first | exact Drawn0.refl _ | apply Drawn0.step)⟩
        case round =>
         clear H'
         try clear c1
         try clear p2
         try clear c4
         try clear c4b0
         try clear c4b1
         try clear c5
         try clear c5b0
         try clear c6
         try clear c6b0
         try clear c6b1
         try clear c9
         try clear c9b0
         try clear c9b1
         try clear c11
         try clear c11b0
         try clear c12
         try clear c14
         try clear c14b0
         try clear c14b1
         try clear c16
         try clear c16b0
         try clear c18
         try clear c18b0
         try clear c18b1
         obtain ⟨x15_1, x16_1, rfl, rfl, HA, HK1, ⟨m1, rfl⟩⟩ := hrel
         cases gk with
         | zero => exact absurd HA.out (by simp [bits_Div64.l0])
         | succ k1 =>
          have H := HA.out
          clear HA
          simp only [bits_Div64.l0] at H
          have HC20 := A_ H;clear H
          go_upto_region 17 with (fail)
          repeat (go_quiet (fail); go_upto_region 17 with (fail))
          go_cut [78] (fun v78 wc => ∃ (kq : Nat) (x78_19 : Bool), v78 = .bool x78_19 ∧ Aside0 (bits_Div64.j1 kq ji10 ji8 ((ji10) / 4294967296) (Go.bits .and .u64 (ji10) 4294967295) (Go.bits .or .u64 (ji12) (ji15)) ((ji17) / 4294967296) (Go.bits .and .u64 (ji17) 4294967295) x15_1 x16_1 x78_19 = some (r1, r2)) ∧ Aside0 (kq ≤ k1) ∧ Drawn0 w wc)
          case first =>
           have H := HC20.out
           clear HC20
           by_cases c21 : x15_1 ≥ 4294967296
           ·rw [if_pos c21] at H
            have c21b0 : decide (4294967296 ≤ x15_1) = true := decide_eq_true c21
            clear c21
            (first | rw [c21b0] | (simp only [i64_w, i32_w]; rw [c21b0]) | skip)
            have H' := A_ H
            clear H
            go_wp2
            repeat (go_quiet (fail); try go_wp2)
            go_meet
            case rel => exact ⟨_, (true), sm_, H', ⟨by have := HK1.out; first | omega | exact Nat.le_refl _⟩, by repeat (first | exact Drawn0.refl _ | apply Drawn0.step)⟩
           ·rw [if_neg c21] at H
            have c21b0 : decide (4294967296 ≤ x15_1) = false := decide_eq_false c21
            clear c21
            (first | rw [c21b0] | (simp only [i64_w, i32_w]; rw [c21b0]) | skip)
            have H' := A_ H
            clear H
            go_wp2
            repeat (go_quiet (fail); try go_wp2)
            go_meet
            case rel => exact ⟨_, (decide ((IntKind.u64.wrap (x15_1 * (Go.bits .and .u64 (ji10) 4294967295))) > (IntKind.u64.wrap ((IntKind.u64.wrap (4294967296 * x16_1)) + ((ji17) / 4294967296))))), (by first | rfl | (simp; done) | (simp only [← hji10, ← hji17] <;> (first | rfl | simp)) | (simp [*]; done)), H', ⟨by have := HK1.out; first | omega | exact Nat.le_refl _⟩, by repeat (first | exact Drawn0.refl _ | apply Drawn0.step)⟩
          case rest =>
           clear HC20
           try clear c1
           try clear c2
           try clear p2
           try clear c4
           try clear c4b0
           try clear c4b1
           try clear c5
           try clear c5b0
           try clear c6
           try clear c6b0
           try clear c6b1
           try clear c9
           try clear c9b0
           try clear c9b1
           try clear c11
           try clear c11b0
           try clear c12
           try clear c14
           try clear c14b0
           try clear c14b1
           try clear c16
           try clear c16b0
           try clear c18
           try clear c18b0
           try clear c18b1
           try clear c21
           try clear c21b0
           try clear p2
           obtain ⟨kq, x78_19, rfl, HA, HJ19, ⟨mc19, rfl⟩⟩ := hcut
           cases kq with
           | zero => exact absurd HA.out (by simp [bits_Div64.j1])
           | succ kj19 =>
            have H := HA.out
            clear HA
            simp only [bits_Div64.j1] at H
            by_cases c22 : x78_19 = true
            ·subst c22
             have H1 : (if (IntKind.u64.wrap (x16_1 + ((ji10) / 4294967296))) ≥ 4294967296 then (bits_Div64.j2 kj19 ji10 ji8 ((ji10) / 4294967296) (Go.bits .and .u64 (ji10) 4294967295) (Go.bits .or .u64 (ji12) (ji15)) ((ji17) / 4294967296) (Go.bits .and .u64 (ji17) 4294967295) (IntKind.u64.wrap (x15_1 - 1))) else (bits_Div64.l0 kj19 ji10 ji8 ((ji10) / 4294967296) (Go.bits .and .u64 (ji10) 4294967295) (Go.bits .or .u64 (ji12) (ji15)) ((ji17) / 4294967296) (Go.bits .and .u64 (ji17) 4294967295) (IntKind.u64.wrap (x15_1 - 1)) (IntKind.u64.wrap (x16_1 + ((ji10) / 4294967296))))) = some (r1, r2) := by rw [if_pos rfl] at H; exact H
             clear H;have H := H1;clear H1
             by_cases c23 : (IntKind.u64.wrap (x16_1 + ((ji10) / 4294967296))) ≥ 4294967296
             ·rw [if_pos c23] at H
              have c23b0 : decide (4294967296 ≤ (IntKind.u64.wrap (x16_1 + ((ji10) / 4294967296)))) = true := decide_eq_true c23
              clear c23
              have H' := A_ H
              clear H
              go_wp2
              repeat (go_quiet (fail); try go_wp2)
              go_meet
              case rel => exact ⟨_, (IntKind.u64.wrap (x15_1 - 1)), sm_, H', ⟨by have := HK1.out; have := HJ19.out; first | omega | exact Nat.le_refl _⟩, by repeat (first | exact Drawn0.refl _ | apply Drawn0.step)⟩
             ·rw [if_neg c23] at H
              have c23b0 : decide (4294967296 ≤ (IntKind.u64.wrap (x16_1 + ((ji10) / 4294967296)))) = false := decide_eq_false c23
              clear c23
              have H' := A_ H
              clear H
              go_wp2
              repeat (go_quiet (fail); try go_wp2)
              go_roundg kj19
              case measure => have := HK1.out; have := HJ19.out; omega
              case rel => exact ⟨(IntKind.u64.wrap (x15_1 - 1)), (IntKind.u64.wrap (x16_1 + ((ji10) / 4294967296))), sm_, (by first | rfl | (simp; done) | (simp only [← hji10] <;> (first | rfl | simp)) | (simp [*]; done)), H', ⟨by have := HK1.out; have := HJ19.out; omega⟩, by repeat (first | exact Drawn0.refl _ | apply Drawn0.step)⟩
            ·replace c22 := Bool.eq_false_iff.mpr c22
             subst c22
             have H1 : (bits_Div64.j2 kj19 ji10 ji8 ((ji10) / 4294967296) (Go.bits .and .u64 (ji10) 4294967295) (Go.bits .or .u64 (ji12) (ji15)) ((ji17) / 4294967296) (Go.bits .and .u64 (ji17) 4294967295) x15_1) = some (r1, r2) := by rw [if_neg (show ¬ (false = true) by decide)] at H; exact H
             clear H;have H := H1;clear H1
             have H' := A_ H
             clear H
             go_wp2
             repeat (go_quiet (fail); try go_wp2)
             go_meet
             case rel => exact ⟨_, (x15_1), sm_, H', ⟨by have := HK1.out; have := HJ19.out; first | omega | exact Nat.le_refl _⟩, by repeat (first | exact Drawn0.refl _ | apply Drawn0.step)⟩
       case rest =>
        clear HC19
        try clear c1
        try clear c2
        try clear p2
        try clear c4
        try clear c4b0
        try clear c4b1
        try clear c5
        try clear c5b0
        try clear c6
        try clear c6b0
        try clear c6b1
        try clear c9
        try clear c9b0
        try clear c9b1
        try clear c11
        try clear c11b0
        try clear c12
        try clear c14
        try clear c14b0
        try clear c14b1
        try clear c16
        try clear c16b0
        try clear c18
        try clear c18b0
        try clear c18b1
        try clear c19
        try clear c21
        try clear c21b0
        try clear c22
        try clear c23
        try clear c23b0
        try clear p2
        obtain ⟨kq, x15_18, rfl, HA, HJ18, ⟨mc18, rfl⟩⟩ := hcut
        cases kq with
        | zero => exact absurd HA.out (by simp [bits_Div64.j2])
        | succ kj18 =>
         have H := HA.out
         clear HA
         simp only [bits_Div64.j2] at H
         by_cases c24 : ((ji10) / 4294967296) = 0
         ·rw [if_pos c24] at H
          exact absurd H (by simp)
         ·rw [if_neg c24] at H
          have c24b0 : (((ji10) / 4294967296) == 0) = false := beq_eq_false_iff_ne.mpr c24
          have c24b1 : (((ji10) / 4294967296) != 0) = true := bne_iff_ne.mpr c24
          have H' := A_ H
          clear H
          go_wp2
          repeat (go_quiet (fail); try go_wp2)
          go_loopg [16, 18] kj18 (fun kq v16 v18 w' => ∃ (x16_2 : Int) (x18_2 : Int), v16 = .int .u64 x16_2 ∧ v18 = .int .u64 x18_2 ∧ Aside0 (bits_Div64.l1 kq ji10 ji8 ((ji10) / 4294967296) (Go.bits .and .u64 (ji10) 4294967295) (Go.bits .and .u64 (ji17) 4294967295) x15_18 x16_2 (IntKind.u64.wrap ((IntKind.u64.wrap ((IntKind.u64.wrap ((Go.bits .or .u64 (ji12) (ji15)) * 4294967296)) + ((ji17) / 4294967296))) - (IntKind.u64.wrap (x15_18 * ji10)))) x18_2 = some (r1, r2)) ∧ Aside0 (kq ≤ kj18) ∧ Drawn0 w w')
          case atStart => exact ⟨(IntKind.u64.wrap ((IntKind.u64.wrap ((IntKind.u64.wrap ((IntKind.u64.wrap ((Go.bits .or .u64 (ji12) (ji15)) * 4294967296)) + ((ji17) / 4294967296))) - (IntKind.u64.wrap (x15_18 * ji10)))) - (IntKind.u64.wrap ((IntKind.u64.wrap (Int.tdiv (IntKind.u64.wrap ((IntKind.u64.wrap ((IntKind.u64.wrap ((Go.bits .or .u64 (ji12) (ji15)) * 4294967296)) + ((ji17) / 4294967296))) - (IntKind.u64.wrap (x15_18 * ji10)))) ((ji10) / 4294967296))) * ((ji10) / 4294967296))))), (IntKind.u64.wrap (Int.tdiv (IntKind.u64.wrap ((IntKind.u64.wrap ((IntKind.u64.wrap ((Go.bits .or .u64 (ji12) (ji15)) * 4294967296)) + ((ji17) / 4294967296))) - (IntKind.u64.wrap (x15_18 * ji10)))) ((ji10) / 4294967296))), (by first | rfl | (simp; done) | (simp only [← hji10, ← hji12, ← hji15, ← hji17] <;> (first | rfl | simp)) | (simp [*]; done)), (by first | rfl | (simp; done) | (simp only [← hji10, ← hji12, ← hji15, ← hji17] <;> (first | rfl | simp)) | (simp [*]; done)), H', ⟨Nat.le_refl _⟩, by repeat (first | exact Drawn0.refl _ | apply Drawn0.step)⟩
          case round =>
           clear H'
           try clear c1
           try clear c2
           try clear p2
           try clear c4
           try clear c4b0
           try clear c4b1
           try clear c5
           try clear c5b0
           try clear c6
           try clear c6b0
           try clear c6b1
           try clear c9
           try clear c9b0
           try clear c9b1
           try clear c11
           try clear c11b0
           try clear c12
           try clear c14
           try clear c14b0
           try clear c14b1
           try clear c16
           try clear c16b0
           try clear c18
           try clear c18b0
           try clear c18b1
           try clear c19
           try clear c21
           try clear c21b0
           try clear c22
           try clear c23
           try clear c23b0
           try clear c24
           try clear c24b0
           try clear c24b1
           try clear p2
           obtain ⟨x16_2, x18_2, rfl, rfl, HA, HK2, ⟨m2, rfl⟩⟩ := hrel
           cases gk with
           | zero => exact absurd HA.out (by simp [bits_Div64.l1])
           | succ k2 =>
            have H := HA.out
            clear HA
            simp only [bits_Div64.l1] at H
            have HC25 := A_ H;clear H
            go_upto_region 24 with (fail)
            repeat (go_quiet (fail); go_upto_region 24 with (fail))
            go_cut [113] (fun v113 wc => ∃ (kq : Nat) (x113_24 : Bool), v113 = .bool x113_24 ∧ Aside0 (bits_Div64.j4 kq ji10 ji8 ((ji10) / 4294967296) (Go.bits .and .u64 (ji10) 4294967295) (Go.bits .and .u64 (ji17) 4294967295) x15_18 x16_2 (IntKind.u64.wrap ((IntKind.u64.wrap ((IntKind.u64.wrap ((Go.bits .or .u64 (ji12) (ji15)) * 4294967296)) + ((ji17) / 4294967296))) - (IntKind.u64.wrap (x15_18 * ji10)))) x18_2 x113_24 = some (r1, r2)) ∧ Aside0 (kq ≤ k2) ∧ Drawn0 w wc)
            case first =>
             have H := HC25.out
             clear HC25
             by_cases c26 : x18_2 ≥ 4294967296
             ·rw [if_pos c26] at H
              have c26b0 : decide (4294967296 ≤ x18_2) = true := decide_eq_true c26
              clear c26
              (first | rw [c26b0] | (simp only [i64_w, i32_w]; rw [c26b0]) | skip)
              have H' := A_ H
              clear H
              go_wp2
              repeat (go_quiet (fail); try go_wp2)
              go_meet
              case rel => exact ⟨_, (true), sm_, H', ⟨by have := HJ18.out; have := HK2.out; first | omega | exact Nat.le_refl _⟩, by repeat (first | exact Drawn0.refl _ | apply Drawn0.step)⟩
             ·rw [if_neg c26] at H
              have c26b0 : decide (4294967296 ≤ x18_2) = false := decide_eq_false c26
              clear c26
              (first | rw [c26b0] | (simp only [i64_w, i32_w]; rw [c26b0]) | skip)
              have H' := A_ H
              clear H
              go_wp2
              repeat (go_quiet (fail); try go_wp2)
              go_meet
              case rel => exact ⟨_, (decide ((IntKind.u64.wrap (x18_2 * (Go.bits .and .u64 (ji10) 4294967295))) > (IntKind.u64.wrap ((IntKind.u64.wrap (4294967296 * x16_2)) + (Go.bits .and .u64 (ji17) 4294967295))))), (by first | rfl | (simp; done) | (simp only [← hji10, ← hji17] <;> (first | rfl | simp)) | (simp [*]; done)), H', ⟨by have := HJ18.out; have := HK2.out; first | omega | exact Nat.le_refl _⟩, by repeat (first | exact Drawn0.refl _ | apply Drawn0.step)⟩
            case rest =>
             clear HC25
             try clear c1
             try clear c2
             try clear p2
             try clear c4
             try clear c4b0
             try clear c4b1
             try clear c5
             try clear c5b0
             try clear c6
             try clear c6b0
             try clear c6b1
             try clear c9
             try clear c9b0
             try clear c9b1
             try clear c11
             try clear c11b0
             try clear c12
             try clear c14
             try clear c14b0
             try clear c14b1
             try clear c16
             try clear c16b0
             try clear c18
             try clear c18b0
             try clear c18b1
             try clear c19
             try clear c21
             try clear c21b0
             try clear c22
             try clear c23
             try clear c23b0
             try clear c24
             try clear c24b0
             try clear c24b1
             try clear c26
             try clear c26b0
             try clear p2
             obtain ⟨kq, x113_24, rfl, HA, HJ24, ⟨mc24, rfl⟩⟩ := hcut
             cases kq with
             | zero => exact absurd HA.out (by simp [bits_Div64.j4])
             | succ kj24 =>
              have H := HA.out
              clear HA
              simp only [bits_Div64.j4] at H
              by_cases c27 : x113_24 = true
              ·subst c27
               have H1 : (if (IntKind.u64.wrap (x16_2 + ((ji10) / 4294967296))) ≥ 4294967296 then (if 0 ≤ ji8 then (some (IntKind.u64.wrap ((IntKind.u64.wrap (x15_18 * 4294967296)) + (IntKind.u64.wrap (x18_2 - 1))), shr .u64 (IntKind.u64.wrap ((IntKind.u64.wrap ((IntKind.u64.wrap ((IntKind.u64.wrap ((IntKind.u64.wrap ((IntKind.u64.wrap ((Go.bits .or .u64 (ji12) (ji15)) * 4294967296)) + ((ji17) / 4294967296))) - (IntKind.u64.wrap (x15_18 * ji10)))) * 4294967296)) + (Go.bits .and .u64 (ji17) 4294967295))) - (IntKind.u64.wrap ((IntKind.u64.wrap (x18_2 - 1)) * ji10)))) ji8)) else (none)) else (bits_Div64.l1 kj24 ji10 ji8 ((ji10) / 4294967296) (Go.bits .and .u64 (ji10) 4294967295) (Go.bits .and .u64 (ji17) 4294967295) x15_18 (IntKind.u64.wrap (x16_2 + ((ji10) / 4294967296))) (IntKind.u64.wrap ((IntKind.u64.wrap ((IntKind.u64.wrap ((Go.bits .or .u64 (ji12) (ji15)) * 4294967296)) + ((ji17) / 4294967296))) - (IntKind.u64.wrap (x15_18 * ji10)))) (IntKind.u64.wrap (x18_2 - 1)))) = some (r1, r2) := by rw [if_pos rfl] at H; exact H
               clear H;have H := H1;clear H1
               by_cases c28 : (IntKind.u64.wrap (x16_2 + ((ji10) / 4294967296))) ≥ 4294967296
               ·rw [if_pos c28] at H
                have c28b0 : decide (4294967296 ≤ (IntKind.u64.wrap (x16_2 + ((ji10) / 4294967296)))) = true := decide_eq_true c28
                clear c28
                by_cases c29 : 0 ≤ ji8
                ·rw [if_pos c29] at H
                 have c29b0 := eq_true c29
                 have c29b1 : decide (0 ≤ ji8) = true := decide_eq_true c29
                 clear c29
                 obtain ⟨ji30, hji30⟩ : ∃ j_ : Int, (shr .u64 (IntKind.u64.wrap ((IntKind.u64.wrap ((IntKind.u64.wrap ((IntKind.u64.wrap ((IntKind.u64.wrap ((IntKind.u64.wrap ((Go.bits .or .u64 (ji12) (ji15)) * 4294967296)) + ((ji17) / 4294967296))) - (IntKind.u64.wrap (x15_18 * ji10)))) * 4294967296)) + (Go.bits .and .u64 (ji17) 4294967295))) - (IntKind.u64.wrap ((IntKind.u64.wrap (x18_2 - 1)) * ji10)))) ji8) = j_ := ⟨_, rfl⟩
                 replace H : (some (IntKind.u64.wrap ((IntKind.u64.wrap (x15_18 * 4294967296)) + (IntKind.u64.wrap (x18_2 - 1))), ji30)) = some (r1, r2) := by first | (rw [hji30] at H; exact H) | (simp only [hji30] at H ⊢; exact H)
                 have hji30_ : ((IntKind.u64.wrap ((IntKind.u64.wrap ((IntKind.u64.wrap ((IntKind.u64.wrap ((IntKind.u64.wrap ((IntKind.u64.wrap ((Go.bits .or .u64 (ji12) (ji15)) * 4294967296)) + ((ji17) / 4294967296))) - (IntKind.u64.wrap (x15_18 * ji10)))) * 4294967296)) + (Go.bits .and .u64 (ji17) 4294967295))) - (IntKind.u64.wrap ((IntKind.u64.wrap (x18_2 - 1)) * ji10)))) / 2 ^ min ji8.toNat 64) = ji30 := hji30
                 have hji30z : ji8 ≤ 64 → ((IntKind.u64.wrap ((IntKind.u64.wrap ((IntKind.u64.wrap ((IntKind.u64.wrap ((IntKind.u64.wrap ((IntKind.u64.wrap ((Go.bits .or .u64 (ji12) (ji15)) * 4294967296)) + ((ji17) / 4294967296))) - (IntKind.u64.wrap (x15_18 * ji10)))) * 4294967296)) + (Go.bits .and .u64 (ji17) 4294967295))) - (IntKind.u64.wrap ((IntKind.u64.wrap (x18_2 - 1)) * ji10)))) / 2 ^ ji8.toNat) = ji30 := shr_small hji30
                 simp only [Option.some.injEq, Prod.mk.injEq] at H
                 obtain ⟨rfl, rfl⟩ := H
                 go_wp2
                 repeat (go_quiet (fail); try go_wp2)
                 go_ret2
                 exact ⟨by first | rfl | (simp; done) | (simp only [← hji8, ← hji10, ← hji12, ← hji13, ← hji15, ← hji17, ← hji30] <;> (first | rfl | simp)) | (simp [*]; done), by repeat (first | exact Drawn0.refl _ | apply Drawn0.step)⟩
                ·rw [if_neg c29] at H
                 exact absurd H (by simp)
               ·rw [if_neg c28] at H
                have c28b0 : decide (4294967296 ≤ (IntKind.u64.wrap (x16_2 + ((ji10) / 4294967296)))) = false := decide_eq_false c28
                clear c28
                have H' := A_ H
                clear H
                go_wp2
                repeat (go_quiet (fail); try go_wp2)
                go_roundg kj24
                case measure => have := HJ18.out; have := HK2.out; have := HJ24.out; omega
                case rel => exact ⟨(IntKind.u64.wrap (x16_2 + ((ji10) / 4294967296))), (IntKind.u64.wrap (x18_2 - 1)), (by first | rfl | (simp; done) | (simp only [← hji10] <;> (first | rfl | simp)) | (simp [*]; done)), sm_, H', ⟨by have := HJ18.out; have := HK2.out; have := HJ24.out; omega⟩, by repeat (first | exact Drawn0.refl _ | apply Drawn0.step)⟩
              ·replace c27 := Bool.eq_false_iff.mpr c27
               subst c27
               have H1 : (if 0 ≤ ji8 then (some (IntKind.u64.wrap ((IntKind.u64.wrap (x15_18 * 4294967296)) + x18_2), shr .u64 (IntKind.u64.wrap ((IntKind.u64.wrap ((IntKind.u64.wrap ((IntKind.u64.wrap ((IntKind.u64.wrap ((IntKind.u64.wrap ((Go.bits .or .u64 (ji12) (ji15)) * 4294967296)) + ((ji17) / 4294967296))) - (IntKind.u64.wrap (x15_18 * ji10)))) * 4294967296)) + (Go.bits .and .u64 (ji17) 4294967295))) - (IntKind.u64.wrap (x18_2 * ji10)))) ji8)) else (none)) = some (r1, r2) := by rw [if_neg (show ¬ (false = true) by decide)] at H; exact H
               clear H;have H := H1;clear H1
               by_cases c31 : 0 ≤ ji8
               ·rw [if_pos c31] at H
                have c31b0 := eq_true c31
                have c31b1 : decide (0 ≤ ji8) = true := decide_eq_true c31
                clear c31
                obtain ⟨ji32, hji32⟩ : ∃ j_ : Int, (shr .u64 (IntKind.u64.wrap ((IntKind.u64.wrap ((IntKind.u64.wrap ((IntKind.u64.wrap ((IntKind.u64.wrap ((IntKind.u64.wrap ((Go.bits .or .u64 (ji12) (ji15)) * 4294967296)) + ((ji17) / 4294967296))) - (IntKind.u64.wrap (x15_18 * ji10)))) * 4294967296)) + (Go.bits .and .u64 (ji17) 4294967295))) - (IntKind.u64.wrap (x18_2 * ji10)))) ji8) = j_ := ⟨_, rfl⟩
                replace H : (some (IntKind.u64.wrap ((IntKind.u64.wrap (x15_18 * 4294967296)) + x18_2), ji32)) = some (r1, r2) := by first | (rw [hji32] at H; exact H) | (simp only [hji32] at H ⊢; exact H)
                have hji32_ : ((IntKind.u64.wrap ((IntKind.u64.wrap ((IntKind.u64.wrap ((IntKind.u64.wrap ((IntKind.u64.wrap ((IntKind.u64.wrap ((Go.bits .or .u64 (ji12) (ji15)) * 4294967296)) + ((ji17) / 4294967296))) - (IntKind.u64.wrap (x15_18 * ji10)))) * 4294967296)) + (Go.bits .and .u64 (ji17) 4294967295))) - (IntKind.u64.wrap (x18_2 * ji10)))) / 2 ^ min ji8.toNat 64) = ji32 := hji32
                have hji32z : ji8 ≤ 64 → ((IntKind.u64.wrap ((IntKind.u64.wrap ((IntKind.u64.wrap ((IntKind.u64.wrap ((IntKind.u64.wrap ((IntKind.u64.wrap ((Go.bits .or .u64 (ji12) (ji15)) * 4294967296)) + ((ji17) / 4294967296))) - (IntKind.u64.wrap (x15_18 * ji10)))) * 4294967296)) + (Go.bits .and .u64 (ji17) 4294967295))) - (IntKind.u64.wrap (x18_2 * ji10)))) / 2 ^ ji8.toNat) = ji32 := shr_small hji32
                simp only [Option.some.injEq, Prod.mk.injEq] at H
                obtain ⟨rfl, rfl⟩ := H
                go_wp2
                repeat (go_quiet (fail); try go_wp2)
                go_ret2
                exact ⟨by first | rfl | (simp; done) | (simp only [← hji8, ← hji10, ← hji12, ← hji13, ← hji15, ← hji17, ← hji32] <;> (first | rfl | simp)) | (simp [*]; done), by repeat (first | exact Drawn0.refl _ | apply Drawn0.step)⟩
               ·rw [if_neg c31] at H
                exact absurd H (by simp)
     ·rw [if_neg c14] at H
      exact absurd H (by simp)
    ·rw [if_neg c9] at H
     exact absurd H (by simp)
def wide_Div.f (k : Nat) (a0_0 : Int) (a0_1 : Int) (a1 : Int) : Option (Int × Int × Int × Int) := if a1 = 0 then (some (0, 0, 0, 4)) else ((bits_Div64.f k (Int.tmod a0_0 a1) a0_1 a1).bind fun bt631 => (some (IntKind.u64.wrap (Int.tdiv a0_0 a1), bt631.1, bt631.2, 0)))
theorem wide_Div.mono : ∀ a0 a1 a2 k, LeO (wide_Div.f k a0 a1 a2) (wide_Div.f (k + 1) a0 a1 a2) := by
 intro a0 a1 a2 k
 unfold wide_Div.f
 repeat' first
   | (with_reducible exact bits_Div64.mono _ _ _ _)
   | (with_reducible exact LeO.refl _)
   | (with_reducible exact LeO.none _)
   | (with_reducible refine LeO.ite ?_ ?_)
   | (with_reducible refine LeO.bind ?_ (fun _ => ?_))
   | exact bits_Div64.mono _ _ _ _
   | exact LeO.none _
   | refine LeO.ite ?_ ?_
   | refine LeO.bind ?_ (fun _ => ?_)
def wide_Div.T4 : Bool × List (List Nat × List Nat) := (true, [([], []), ([0], [0]), ([], []), ([1, 2], [1, 2]), ([], []), ([4], [4]), ([], []), ([3, 5, 6], [3, 5, 6]), ([7], [7]), ([8], [8]), ([8], [8]), ([0, 1, 2, 3, 4, 5, 6, 7, 8, 9], []), ([11, 9, 7, 0, 1, 2, 3, 4, 5, 6, 7, 8, 9], [9, 11]), ([10, 12, 0, 1, 2, 3, 4, 5, 6, 7, 8, 9, 10, 11, 12], [10])])
def wide_Div.B4 : List Nat := [0, 1, 0, 7, 0, 16, 0, 127, 255, 511, 511, 1023, 3071, 8191]
theorem wide_Div.tab4 : rtab .any (opsOf Try.f112 4) = wide_Div.T4 := by kernel_rfl
theorem wide_Div.bits4 : waitsOk wide_Div.T4.2 wide_Div.B4 = true := by kernel_rfl
theorem wide_Div.calls (k : Nat) (a0_0 : Int) (a0_1 : Int) (a1 : Int) (r1 : Int) (r2 : Int) (r3 : Int) (r4 : Int) (w : World) (h : wide_Div.f k a0_0 a0_1 a1 = some (r1, r2, r3, r4)) :
  Calls Try.prog 112 #[.agg #[.int .u64 a0_0, .int .u64 a0_1], .int .u64 a1] w fun e w' => e = .returned (.tuple #[.agg #[.int .u64 r1, .int .u64 r2], .int .u64 r3, .int .i64 r4]) ∧ Below w.heap.size w w' := by
 have hu42 := Try.underlying42
 have HB := A_ (Below.refl w.heap.size w)
 have H : (if a1 = 0 then (some (0, 0, 0, 4)) else ((bits_Div64.f k (Int.tmod a0_0 a1) a0_1 a1).bind fun bt631 => (some (IntKind.u64.wrap (Int.tdiv a0_0 a1), bt631.1, bt631.2, 0)))) = some (r1, r2, r3, r4) := h
 clear h
 by_cases c3 : a1 = 0
 ·rw [if_pos c3] at H
  have c3b0 : (a1 == 0) = true := beq_iff_eq.mpr c3
  have c3b1 : (a1 != 0) = false := bne_eq_false_iff_eq.mpr c3
  clear c3
  simp only [Option.some.injEq, Prod.mk.injEq] at H
  obtain ⟨rfl, rfl, rfl, rfl⟩ := H
  go_enter Try.func112, Try.ntmps112
  go_wp2_with (first | ((with_reducible refine gate_dst (N := 2) rfl ?_); refine be_ 2 #[.int .u64 a0_0, .int .u64 a0_1] 42 ?_; intro gb629 hg w4 hbox hb; have n0_ := A_ (below_step (hb_ HB.out) hb); have n1_ := A_ (hbox); have n2_ := A_ (sz_ hg (hb_ HB.out)); have n3_ := A_ (sz_ hg (hb_ HB.out)); clear HB; have HB := n0_; have BK629 := n1_; have GW629 := n2_; have GE629 := n3_; clear n0_ n1_ n2_ n3_; clear hb hbox hg) | ((with_reducible refine gate_dst (N := 4) rfl ?_); refine be_ 4 #[.int .u64 0, .int .u64 0] 42 ?_; intro gb630 hg w5 hbox hb; have n0_ := A_ (bb_ BK629.out hb); have n1_ := A_ (below_step (hb1_ HB.out GE629.out) hb); have n2_ := A_ (hbox); have n3_ := A_ (sz_ hg (hb1_ HB.out GE629.out)); have n4_ := A_ (sz_ hg (hb1_ HB.out GE629.out)); have n5_ := A_ (nl_ hg BK629.out); have n6_ := A_ (ng_ hg BK629.out); clear BK629; clear HB; have BK629 := n0_; have HB := n1_; have BK630 := n2_; have GW630 := n3_; have GE630 := n4_; have NB629_630 := n5_; have NB630_629 := n6_; clear n0_ n1_ n2_ n3_ n4_ n5_ n6_; clear hb hbox hg; have hnb6 := NB630_629.out; have hnc6 := NB629_630.out; have hcz7_0 : w5.cell? ⟨gb630, 0, none⟩ = some (.int .u64 0) := bc_ BK630.out 0; have hcz7_1 : w5.cell? ⟨gb630, 1, none⟩ = some (.int .u64 0) := bc_ BK630.out 1; have hfz7_0 := blk_frozen BK630.out 0; have hfz7_1 := blk_frozen BK630.out 1))
  refine bodyPost_ret (results_ctt rfl _ _ gb630 42 #[.int .u64 0, .int .u64 0] (0, 0) _ rfl (by (with_reducible repeat (first | refine blk_drewN ?_ _ | refine blk_drew ?_ | refine blk_alloc ?_ _)); refine blk_put (cs := #[.int .u64 0, .int .u64 0]) ?_ 1 _ rfl; (with_reducible repeat (first | refine blk_drewN ?_ _ | refine blk_drew ?_ | refine blk_alloc ?_ _)); refine blk_put (cs := #[.int .u64 0, .int .u64 0]) ?_ 0 _ rfl; (with_reducible repeat (first | refine blk_drewN ?_ _ | refine blk_drew ?_ | refine blk_alloc ?_ _)); exact BK630.out) Try.underlying42 rfl (by kernel_rfl)) rfl ?_
  exact ⟨er_, hb2_ HB.out GE629.out GE630.out⟩
 ·rw [if_neg c3] at H
  have c3b0 : (a1 == 0) = false := beq_eq_false_iff_ne.mpr c3
  have c3b1 : (a1 != 0) = true := bne_iff_ne.mpr c3
  replace H := ob_ H
  obtain ⟨⟨t631, t632⟩, A80, H⟩ := H
  replace H : (some (IntKind.u64.wrap (Int.tdiv a0_0 a1), t631, t632, 0)) = some (r1, r2, r3, r4) := H
  have A8 := A_ A80;clear A80
  simp only [Option.some.injEq, Prod.mk.injEq] at H
  obtain ⟨rfl, rfl, rfl, rfl⟩ := H
  go_enter Try.func112, Try.ntmps112
  try go_wp2_with (first | ((with_reducible refine gate_dst (N := 2) rfl ?_); refine be_ 2 #[.int .u64 a0_0, .int .u64 a0_1] 42 ?_; intro gb629 hg w9 hbox hb; have n0_ := A_ (below_step (hb_ HB.out) hb); have n1_ := A_ (hbox); have n2_ := A_ (sz_ hg (hb_ HB.out)); have n3_ := A_ (sz_ hg (hb_ HB.out)); clear HB; have HB := n0_; have BK629 := n1_; have GW629 := n2_; have GE629 := n3_; clear n0_ n1_ n2_ n3_; clear hb hbox hg) | ((with_reducible refine gate_dst (N := 4) rfl ?_); refine be_ 4 #[.int .u64 0, .int .u64 0] 42 ?_; intro gb630 hg w10 hbox hb; have n0_ := A_ (bb_ BK629.out hb); have n1_ := A_ (below_step (hb1_ HB.out GE629.out) hb); have n2_ := A_ (hbox); have n3_ := A_ (sz_ hg (hb1_ HB.out GE629.out)); have n4_ := A_ (sz_ hg (hb1_ HB.out GE629.out)); have n5_ := A_ (nl_ hg BK629.out); have n6_ := A_ (ng_ hg BK629.out); clear BK629; clear HB; have BK629 := n0_; have HB := n1_; have BK630 := n2_; have GW630 := n3_; have GE630 := n4_; have NB629_630 := n5_; have NB630_629 := n6_; clear n0_ n1_ n2_ n3_ n4_ n5_ n6_; clear hb hbox hg; have hnb11 := NB629_630.out; have hnc11 := NB630_629.out; have hcz12_0 : w10.cell? ⟨gb629, 0, none⟩ = some (.int .u64 a0_0) := bc_ BK629.out 0; have hcz12_1 : w10.cell? ⟨gb629, 1, none⟩ = some (.int .u64 a0_1) := bc_ BK629.out 1; have hfz12_0 := blk_frozen BK629.out 0; have hfz12_1 := blk_frozen BK629.out 1; have hcz13_0 : w10.cell? ⟨gb630, 0, none⟩ = some (.int .u64 0) := bc_ BK630.out 0; have hcz13_1 : w10.cell? ⟨gb630, 1, none⟩ = some (.int .u64 0) := bc_ BK630.out 1; have hfz13_0 := blk_frozen BK630.out 0; have hfz13_1 := blk_frozen BK630.out 1))
  have n0_ : Aside0 ((w10.setCell ⟨gb630, 0, none⟩ (.int .u64 (IntKind.u64.wrap (Int.tdiv a0_0 a1)))).heap[gb629]? = some (.cells #[.int .u64 a0_0, .int .u64 a0_1] 42 (0, 0))) := ⟨bf1_ BK629.out NB629_630.out⟩
  have n1_ : Aside0 ((w10.setCell ⟨gb630, 0, none⟩ (.int .u64 (IntKind.u64.wrap (Int.tdiv a0_0 a1)))).heap[gb630]? = some (.cells #[.int .u64 (IntKind.u64.wrap (Int.tdiv a0_0 a1)), .int .u64 0] 42 (0, 0))) := ⟨by (with_reducible repeat (first | refine blk_drewN ?_ _ | refine blk_drew ?_ | refine blk_alloc ?_ _)); refine blk_put (cs := #[.int .u64 0, .int .u64 0]) ?_ 0 _ rfl; (with_reducible repeat (first | refine blk_drewN ?_ _ | refine blk_drew ?_ | refine blk_alloc ?_ _)); exact BK630.out⟩
  have n2_ : Aside0 (Below w.heap.size w (w10.setCell ⟨gb630, 0, none⟩ (.int .u64 (IntKind.u64.wrap (Int.tdiv a0_0 a1))))) := ⟨hb2_ HB.out GE629.out GE630.out⟩
  (try clear BK629);(try clear BK630);(try clear HB)
  generalize (w10.setCell ⟨gb630, 0, none⟩ (.int .u64 (IntKind.u64.wrap (Int.tdiv a0_0 a1)))) = w14 at n0_ n1_ n2_ ⊢
  have BK629 := n0_;have BK630 := n1_;have HB := n2_;clear n0_ n1_ n2_
  have n0_ := A_ (blk_drew BK629.out)
  have n1_ := A_ (blk_drew BK630.out)
  have n2_ := A_ (below_drew1 HB.out)
  clear BK629;clear BK630;clear HB;have BK629 := n0_;have BK630 := n1_;have HB := n2_;clear n0_ n1_ n2_
  refine start_ (n := 14) (S := fun w' => w'.cell? ⟨gb629, 0, none⟩ = some (.int .u64 a0_0) ∧ w'.cell? ⟨gb629, 1, none⟩ = some (.int .u64 a0_1)) (ds := []) #[false, false, false, false, false, false, false, false, false, false, false, false, false, false] (by kernel_rfl) rfl rfl ⟨bc_ BK629.out 0, bc_ BK629.out 1⟩ (fun hHeld => ?_); refine with_tabW wide_Div.tab4 wide_Div.bits4 (fun HT_ HW_ => ?_)
  generalize w14.drew = w15 at BK629 BK630 HB hHeld ⊢
  refine pu_ 0 (some 16) #[true, false, false, false, false, false, false, false, false, false, false, false, false, false] rfl rfl (any_of HT_.out (by kernel_rfl)) ?_
  refine pu_ 2 (some 18) #[true, false, true, false, false, false, false, false, false, false, false, false, false, false] rfl rfl (any_of HT_.out (by kernel_rfl)) ?_
  refine pu_ 4 (some 20) #[true, false, true, false, true, false, false, false, false, false, false, false, false, false] rfl rfl (any_of HT_.out (by kernel_rfl)) ?_
  refine pu_ 6 (some 22) #[true, false, true, false, true, false, true, false, false, false, false, false, false, false] rfl rfl (any_of HT_.out (by kernel_rfl)) ?_
  refine tk2_ 1 (some 17) #[true, true, true, false, true, false, true, false, false, false, false, false, false, false] rfl rfl (take_ofW HT_.out HW_.out (by kernel_rfl)) hHeld ?_
  refine pu_ 3 (some 19) #[true, true, true, true, true, false, true, false, false, false, false, false, false, false] rfl rfl (any_of HT_.out (by kernel_rfl)) ?_
  refine tk2_ 5 (some 21) #[true, true, true, true, true, true, true, false, false, false, false, false, false, false] rfl rfl (take_ofW HT_.out HW_.out (by kernel_rfl)) hHeld ?_
  refine one_ (i := 7) (N := some 23) #[true, true, true, true, true, true, true, true, false, false, false, false, false, false] rfl rfl (one_of HT_.out (by kernel_rfl)) (by decide) (fun K hK => ?_)
  refine goes_ Try.func122 (by kernel_rfl) rfl #[.int .u64 (Int.tmod a0_0 a1), .int .u64 a0_1, .int .u64 a1] (by rfl) rfl rfl mp_ ?_
  with_reducible refine (bits_Div64.calls k (Int.tmod a0_0 a1) a0_1 a1 t631 t632 _ A8.out).mono ?_
  rintro e w' ⟨rfl, ⟨nd, rfl⟩⟩
  refine ⟨_, rfl, ?_⟩
  refine hK.out _ _ ⟨bc_ BK629.out 0, bc_ BK629.out 1⟩ (fun hHeld => ?_)
  clear hK K
  refine norm_ (a' := ?_) ?_ ?_
  rotate_left
  ·show Act.put _ (some 23) _ = _
   simp only [Act.put, lI_, l0_, lS_, i64_w, i32_w]
   rfl
  refine pu_ 8 (some 15) #[true, true, true, true, true, true, true, true, true, false, false, false, false, false] rfl rfl (any_of HT_.out (by kernel_rfl)) ?_
  refine pu_ 9 (some 24) #[true, true, true, true, true, true, true, true, true, true, false, false, false, false] rfl rfl (any_of HT_.out (by kernel_rfl)) ?_
  refine pu_ 10 (some 25) #[true, true, true, true, true, true, true, true, true, true, true, false, false, false] rfl rfl (any_of HT_.out (by kernel_rfl)) ?_
  refine pu_ 11 (some 26) #[true, true, true, true, true, true, true, true, true, true, true, true, false, false] rfl rfl (any_of HT_.out (by kernel_rfl)) ?_
  refine one_ (i := 12) (N := none) #[true, true, true, true, true, true, true, true, true, true, true, true, true, false] rfl rfl (one_of HT_.out (by kernel_rfl)) (by decide) (fun K hK => ?_)
  have hs16 : w15.cell? ⟨gb630, 1, none⟩ = some (.int .u64 0) := bc_ BK630.out 1
  have hfs16 := blk_frozen BK630.out 1
  have hns16_0 := NB629_630.out
  have hms16_0 := NB630_629.out
  refine skip_ (w1 := ?_) (by rfl) rfl ?_ ?_
  rotate_left
  ·go_simp
   rfl
  refine hK.out _ _ ⟨((cell_far (p := ⟨gb630, _, none⟩) NB629_630.out _).trans (hHeld.1)), ((cell_far (p := ⟨gb630, _, none⟩) NB629_630.out _).trans (hHeld.2))⟩ (fun hHeld => ?_)
  clear hK K
  refine pu_ 13 (some 5) #[true, true, true, true, true, true, true, true, true, true, true, true, true, true] rfl rfl (any_of HT_.out (by kernel_rfl)) ?_
  refine done_ (done_of HT_.out (by kernel_rfl)) ?_
  have hcz17_0 : w15.cell? ⟨gb630, 0, none⟩ = some (.int .u64 (IntKind.u64.wrap (Int.tdiv a0_0 a1))) := bc_ BK630.out 0
  have hcz17_1 : w15.cell? ⟨gb630, 1, none⟩ = some (.int .u64 0) := bc_ BK630.out 1
  have hfz17_0 := blk_frozen BK630.out 0
  have hfz17_1 := blk_frozen BK630.out 1
  try go_wp2
  refine bodyPost_ret (results_ctt rfl _ _ gb630 42 #[.int .u64 (IntKind.u64.wrap (Int.tdiv a0_0 a1)), .int .u64 t631] (0, 0) _ rfl (by (with_reducible repeat (first | refine blk_drewN ?_ _ | refine blk_drew ?_ | refine blk_alloc ?_ _)); refine blk_put (cs := #[.int .u64 (IntKind.u64.wrap (Int.tdiv a0_0 a1)), .int .u64 t631]) ?_ 1 _ rfl; (with_reducible repeat (first | refine blk_drewN ?_ _ | refine blk_drew ?_ | refine blk_alloc ?_ _)); refine blk_put (cs := #[.int .u64 (IntKind.u64.wrap (Int.tdiv a0_0 a1)), .int .u64 t631]) ?_ 0 _ rfl; (with_reducible repeat (first | refine blk_drewN ?_ _ | refine blk_drew ?_ | refine blk_alloc ?_ _)); refine blk_put (cs := #[.int .u64 (IntKind.u64.wrap (Int.tdiv a0_0 a1)), .int .u64 0]) ?_ 1 _ rfl; (with_reducible repeat (first | refine blk_drewN ?_ _ | refine blk_drew ?_ | refine blk_alloc ?_ _)); exact BK630.out) Try.underlying42 rfl (by kernel_rfl)) rfl ?_
  exact ⟨er_, hb2_ HB.out GE629.out GE630.out⟩
end Go.Proofs.Ytbpmnmceajmmcaa.PA
