/- What the Go functions that the statement RoundPacks reaches compute, and the mathematics on it, in the order in which one leans on the other; for every input. -/
import Derived.Test.YtbpmnmceajmmcaaVRoundPacks0
import Derived.Test.YtbpmnmceajmmcaaMRoundPacks4
import Derived.Test.YtbpmnmceajmmcaaMRoundPacks0
import Derived.Deep.RegionHeld3
import Derived.Shelf.Spec.BitsCarry
import Derived.Deep.DeepCutAuto
import Derived.Test.YtbpmnmceajmmcaaMRoundPacks2
import Derived.Test.YtbpmnmceajmmcaaMRoundPacks1
import Derived.Test.YtbpmnmceajmmcaaMRoundPacks3
section
set_option linter.unusedVariables false
set_option linter.unusedSimpArgs false
namespace Go.Proofs.Ytbpmnmceajmmcaa.Th
open Go.RowKit Go.Proofs.YtbpmnmceajmmcaaW.PrintWords Go.Proofs.YtbpmnmceajmmcaaW.PrintLast Go.Proofs.YtbpmnmceajmmcaaW.PrintMore Go.Proofs.Ytbpmnmceajmmcaa.PA Bit Dig
theorem or_add' (x y n : Nat) (hn : n ≤ 64) (hx : 2 ^ n ∣ x) (hy : y < 2 ^ n) (h : x < 18446744073709551616) (h2 : y < 18446744073709551616) : Go.bits .or .u64 (y : Int) (x : Int) = ((y + x : Nat) : Int) := by
  rw [u64_or_nat y x h2 h]
  congr 1
  obtain ⟨c, rfl⟩ := hx
  rw [Nat.mul_comm, or_pow y c n hy]
theorem gen_hi (B C h l : Nat) (hC : 0 < C) : (h * (B * C) + l) / C = h * B + l / C := by
  rw [← Nat.mul_assoc, Nat.mul_comm (h * B) C, Nat.mul_add_div hC]
theorem right_arith (h l n : Nat) (h0 : 0 < n) (hn : n < 64) (hh : h < 2 ^ 64) (hl : l < 2 ^ 64) :
    wn h l / 2 ^ n / 2 ^ 64 = h / 2 ^ n ∧ wn h l / 2 ^ n % 2 ^ 64 = l / 2 ^ n + h * 2 ^ (64 - n) % 2 ^ 64 ∧ 2 ^ (64 - n) ∣ h * 2 ^ (64 - n) % 2 ^ 64 ∧ l / 2 ^ n < 2 ^ (64 - n) := by
  have p0 : 0 < 2 ^ n := Nat.pow_pos (by decide)
  have p1 : 0 < 2 ^ (64 - n) := Nat.pow_pos (by decide)
  have e64 : 2 ^ 64 = 2 ^ (64 - n) * 2 ^ n := by rw [← Nat.pow_add]; congr 1; omega
  have hd : l / 2 ^ n < 2 ^ (64 - n) := by rw [Nat.div_lt_iff_lt_mul p0, ← e64]; exact hl
  have hdv : 2 ^ (64 - n) ∣ h * 2 ^ (64 - n) % 2 ^ 64 := by
    rw [e64]; exact (Nat.dvd_mod_iff (Nat.dvd_mul_right _ _)).2 (Nat.dvd_mul_left _ _)
  have hq : wn h l / 2 ^ n = h * 2 ^ (64 - n) + l / 2 ^ n := by
    unfold wn; rw [p64, e64]; exact gen_hi _ _ h l p0
  have hx : h * 2 ^ (64 - n) / 2 ^ 64 = h / 2 ^ n := by
    rw [e64, Nat.mul_comm (2 ^ (64 - n)), Nat.mul_div_mul_right _ _ p1]
  have hm := Nat.div_add_mod (h * 2 ^ (64 - n)) (2 ^ 64)
  have hlt := Nat.mod_lt (h * 2 ^ (64 - n)) (show 0 < 2 ^ 64 by decide)
  have hs : h * 2 ^ (64 - n) % 2 ^ 64 + l / 2 ^ n < 2 ^ 64 := by
    obtain ⟨c, hc⟩ := hdv
    have h3 : c < 2 ^ n := by
      rw [hc, e64] at hlt
      exact Nat.lt_of_mul_lt_mul_left hlt
    have h4 : 2 ^ (64 - n) * (c + 1) ≤ 2 ^ (64 - n) * 2 ^ n := Nat.mul_le_mul_left _ h3
    rw [← e64, Nat.mul_add, Nat.mul_one, ← hc] at h4
    omega
  rw [hx] at hm
  rw [hq]
  generalize h * 2 ^ (64 - n) % 2 ^ 64 = u at *
  generalize l / 2 ^ n = v at *
  rw [← hm, Nat.add_assoc]
  refine ⟨?_, ?_, hdv, hd⟩
  · rw [Nat.mul_add_div (by decide), Nat.div_eq_of_lt hs, Nat.add_zero]
  · rw [Nat.mul_add_mod, Nat.mod_eq_of_lt hs, Nat.add_comm]
theorem lost_iff (a p : Nat) (h : a < 340282366920938463463374607431768211456) : (a / p * p) % 340282366920938463463374607431768211456 ≠ a ↔ a % p ≠ 0 := by
  have h1 := Nat.div_add_mod a p
  rw [Nat.mul_comm] at h1
  have h2 : a / p * p < 340282366920938463463374607431768211456 := by omega
  rw [Nat.mod_eq_of_lt h2]
  omega
def rgV (a : Nat) (n : Int) : Nat := a / 2 ^ n.toNat
theorem rightW (h l : Nat) (n : Int) (hh : h < 18446744073709551616) (hl : l < 18446744073709551616) (hn : n < 9223372036854775808) :
    wide_Right.f h l n = some (((rgV (wn h l) n / 18446744073709551616 : Nat) : Int), ((rgV (wn h l) n % 18446744073709551616 : Nat) : Int), decide (wn h l % 2 ^ n.toNat ≠ 0)) := by
  unfold wide_Right.f rgV
  have hw := wn_lt hh hl
  by_cases h0 : n ≤ 0
  · rw [if_pos h0, show n.toNat = 0 by omega, Nat.pow_zero, Nat.div_one, Nat.mod_one, wn_hi hl, wn_lo hl]; rfl
  · rw [if_neg h0]
    obtain ⟨m, rfl⟩ := Int.eq_ofNat_of_zero_le (show 0 ≤ n by omega)
    rw [Int.toNat_natCast]
    have key : ∀ Q : Nat, Q = wn h l / 2 ^ m → (!(((lfV (wn (Q / 18446744073709551616) (Q % 18446744073709551616)) (m : Int) / 18446744073709551616 : Nat) : Int) == (h : Int)) || !(((lfV (wn (Q / 18446744073709551616) (Q % 18446744073709551616)) (m : Int) % 18446744073709551616 : Nat) : Int) == (l : Int))) = decide (wn h l % 2 ^ m ≠ 0) := by
      intro Q hQ
      rw [wn_div]
      unfold lfV
      rw [Int.toNat_natCast, hQ, wn_ne _ h l (Nat.mod_lt _ (by decide)) hl, decide_eq_decide]
      exact lost_iff _ _ hw
    by_cases h1 : (m : Int) ≥ 128
    · rw [if_pos h1]
      have hb : wn h l < 2 ^ m := Nat.lt_of_lt_of_le hw (by rw [p128]; exact Nat.pow_le_pow_right (by decide) (by omega))
      rw [Nat.div_eq_of_lt hb, Nat.mod_eq_of_lt hb]
      have e := wn_ne 0 h l (by decide) hl
      have e2 : (!((h : Int) == 0) || !((l : Int) == 0)) = decide (wn h l ≠ 0) := by
        rw [Bool.eq_iff_iff]; simp; unfold wn; omega
      rw [e2]; rfl
    · rw [if_neg h1]
      by_cases h2 : (m : Int) ≥ 64
      · rw [if_pos h2, w64_id (by omega) (by omega), show (m : Int) - 64 = ((m - 64 : Nat) : Int) by omega, shrN' _ _ (by omega)]
        have hQ : h / 2 ^ (m - 64) = wn h l / 2 ^ m := by
          rw [show 2 ^ m = 18446744073709551616 * 2 ^ (m - 64) by rw [p64, ← Nat.pow_add]; congr 1; omega, ← Nat.div_div_eq_div_mul, wn_hi hl]
        have hq1 := Nat.div_le_self h (2 ^ (m - 64))
        have k := key _ hQ
        rw [← hQ]
        generalize h / 2 ^ (m - 64) = q at *
        rw [Nat.div_eq_of_lt (show q < 18446744073709551616 by omega), Nat.mod_eq_of_lt (show q < 18446744073709551616 by omega)] at k ⊢
        have lw := leftW 0 q (m : Int) (by decide) (by omega) (by omega)
        rw [show ((0 : Nat) : Int) = 0 from rfl] at lw
        rw [lw, Option.bind_some]
        show some (0, (q : Int), _) = _
        rw [k]; rfl
      · rw [if_neg h2, w64_id (by omega) (by omega), show (64 : Int) - m = ((64 - m : Nat) : Int) by omega, shrN' _ _ (by omega), shrN' _ _ (by omega), shlN _ _ (by omega)]
        obtain ⟨k1, k2, k3, k4⟩ := right_arith h l m (by omega) (by omega) hh hl
        rw [← p64] at k1 k2 k3
        have k5 := Nat.mod_lt (h * 2 ^ (64 - m)) (show 0 < 18446744073709551616 by decide)
        have k6 := Nat.div_le_self l (2 ^ m)
        have k7 := Nat.div_le_self h (2 ^ m)
        rw [or_add' _ _ (64 - m) (by omega) k3 k4 (by omega) (by omega)]
        have k := key _ rfl
        rw [k1, k2] at k
        rw [k1, k2]
        have lw := leftW (h / 2 ^ m) (l / 2 ^ m + h * 2 ^ (64 - m) % 18446744073709551616) (m : Int) (by omega) (by rw [← k2]; exact Nat.mod_lt _ (by decide)) (by omega)
        rw [lw, Option.bind_some, k]
theorem addW (a b c d : Nat) (ha : a < 18446744073709551616) (hb : b < 18446744073709551616) (hc : c < 18446744073709551616) (hd : d < 18446744073709551616) :
    wide_Add.f a b c d = some ((((wn a b + wn c d) % 340282366920938463463374607431768211456 / 18446744073709551616 : Nat) : Int), (((wn a b + wn c d) % 340282366920938463463374607431768211456 % 18446744073709551616 : Nat) : Int)) := by
  unfold wide_Add.f wn
  rw [if_pos (by omega)]
  have e1 : ((a : Int) + (c : Int) + ((b : Int) + (d : Int)) / 18446744073709551616) % 18446744073709551616 = (((a * 18446744073709551616 + b + (c * 18446744073709551616 + d)) % 340282366920938463463374607431768211456 / 18446744073709551616 : Nat) : Int) := by omega
  have e2 : ((b : Int) + (d : Int)) % 18446744073709551616 = (((a * 18446744073709551616 + b + (c * 18446744073709551616 + d)) % 340282366920938463463374607431768211456 % 18446744073709551616 : Nat) : Int) := by omega
  rw [e1, e2]
end Go.Proofs.Ytbpmnmceajmmcaa.Th
end
section
set_option linter.unusedVariables false
set_option linter.unusedSimpArgs false
namespace Go.Proofs.Ytbpmnmceajmmcaa.Th
open Go.RowKit Go.Proofs.YtbpmnmceajmmcaaW.PrintWords Go.Proofs.YtbpmnmceajmmcaaW.PrintLast Go.Proofs.YtbpmnmceajmmcaaW.PrintMore Go.Proofs.Ytbpmnmceajmmcaa.PA Bit Flo
theorem fmt_bd' (w : Int) : (fmt w).f ≤ 52 ∧ (-5000 < (fmt w).low ∧ (fmt w).low < 0) ∧ (fmt w).top < 5000 ∧ 2 ≤ (fmt w).top := by
  unfold fmt; split <;> decide
def wH (V : Nat) : Int := ((V / 18446744073709551616 : Nat) : Int)
def wL (V : Nat) : Int := ((V % 18446744073709551616 : Nat) : Int)
theorem wHL (h l : Nat) (hl : l < 18446744073709551616) : wH (wn h l) = h ∧ wL (wn h l) = l := by unfold wH wL; rw [wn_hi hl, wn_lo hl]; exact ⟨rfl, rfl⟩
theorem hi64 {V : Nat} (h : V < 340282366920938463463374607431768211456) : V / 18446744073709551616 < 18446744073709551616 := by omega
theorem lo64 (V : Nat) : V % 18446744073709551616 < 18446744073709551616 := Nat.mod_lt _ (by decide)
theorem wLen {V : Nat} (h : V < 340282366920938463463374607431768211456) : wide_Len.f (wH V) (wL V) = some ((bl V : Nat) : Int) := by
  have := lenW (V / 18446744073709551616) (V % 18446744073709551616) (hi64 h) (lo64 V)
  rwa [wn_div] at this
theorem wLeft {V : Nat} (h : V < 340282366920938463463374607431768211456) (n : Nat) (hn : n < 1000) (hV : V * 2 ^ n < 340282366920938463463374607431768211456) : wide_Left.f (wH V) (wL V) n = some (wH (V * 2 ^ n), wL (V * 2 ^ n)) := by
  have := leftW (V / 18446744073709551616) (V % 18446744073709551616) n (hi64 h) (lo64 V) (by omega)
  rwa [wn_div, lfV, Int.toNat_natCast, Nat.mod_eq_of_lt hV] at this
theorem wRight {V : Nat} (h : V < 340282366920938463463374607431768211456) (n : Nat) (hn : n < 1099511627776) : wide_Right.f (wH V) (wL V) n = some (wH (V / 2 ^ n), wL (V / 2 ^ n), decide (V % 2 ^ n ≠ 0)) := by
  have := rightW (V / 18446744073709551616) (V % 18446744073709551616) n (hi64 h) (lo64 V) (by omega)
  rwa [wn_div, rgV, Int.toNat_natCast] at this
theorem wAdd1 {V : Nat} (h : V + 1 < 340282366920938463463374607431768211456) : wide_Add.f (wH V) (wL V) 0 1 = some (wH (V + 1), wL (V + 1)) := by
  have := addW (V / 18446744073709551616) (V % 18446744073709551616) 0 1 (hi64 (by omega)) (lo64 V) (by decide) (by decide)
  rw [wn_div, show wn 0 1 = 1 by decide, Nat.mod_eq_of_lt h] at this
  exact this
theorem wAnd1 (V : Nat) : (Go.bits .and .u64 (wL V) 1 == 1) = decide (V % 2 = 1) := by
  unfold wL
  rw [show (1 : Int) = ((1 : Nat) : Int) from rfl, u64_and_nat _ 1 (lo64 V) (by decide)]
  have h1 := and_low (V % 18446744073709551616) 1
  rw [show (2 : Nat) ^ 1 - 1 = 1 by decide, show (2 : Nat) ^ 1 = 2 by decide] at h1
  rw [h1, Bool.eq_iff_iff]; simp; omega
theorem wSmall {V : Nat} (h : V < 18446744073709551616) : wH V = 0 ∧ wL V = V := by unfold wH wL; omega
theorem shZ (w : Int) (hw : w = 32 ∨ w = 64) (s : Bool) : shape_Zero.f w s = some ((mkN w 0 s : Nat) : Int) := by rcases hw with rfl | rfl; exact shZero32 s; exact shZero64 s
theorem shI (w : Int) (hw : w = 32 ∨ w = 64) (s : Bool) : shape_Inf.f w s = some ((mkN w (fmt w).inf s : Nat) : Int) := by rcases hw with rfl | rfl; exact shInf32 s; exact shInf64 s
theorem clo (w : Int) (hw : w = 32 ∨ w = 64) (s : Bool) (m : Nat) (h0 : 0 < m) (hm : m < (fmt w).inf) : ∃ k z, shape_Close.f k w s 1 ((fmt w).ex m) ((fmt w).sg m : Nat) = some (((mkN w m s : Nat) : Int), z) := by
  rcases hw with rfl | rfl
  · obtain ⟨k, hk⟩ := (close32 s m h0 hm).rounds; exact ⟨k, 0, hk⟩
  · obtain ⟨k, hk⟩ := (close64 s m h0 hm).rounds; exact ⟨k, 0, hk⟩
end Go.Proofs.Ytbpmnmceajmmcaa.Th
end
/- round.Pack answers the nearest float, for every number in the range of exponents that it looks at. -/
namespace Go.Proofs.Ytbpmnmceajmmcaa.PA
open Go.RowKit Go.Proofs.YtbpmnmceajmmcaaW.PrintWords Go.Proofs.YtbpmnmceajmmcaaW.PrintLast Go.Proofs.YtbpmnmceajmmcaaW.PrintMore
attribute [local go_sem] max2_int min2_int max_two min_two max_three min_three max_four min_four   -- for this text's walks alone
set_option linter.unusedVariables false
set_option linter.unusedSimpArgs false
open Go.Proofs.Ytbpmnmceajmmcaa.Th Flo
theorem rp_fin (W : Int) (hw : W = 32 ∨ W = 64) (ng : Bool) (t2 t1 hi : Int) (h2 : t2 = ((2 ^ ((fmt W).f + 1) : Nat) : Int)) (h1 : t1 = ((2 ^ (fmt W).f : Nat) : Int)) (hh : hi = (fmt W).low + (fmt W).top - 2) (q R : Nat) (e3 : Int) (he : e3 = q + (fmt W).low)
    (hR : R ≤ 2 ^ ((fmt W).f + 1)) (hl : 0 < q → 2 ^ (fmt W).f ≤ R) :
    (hi < e3 ∧ shape_Inf.f W ng = some ((mkN W ((fmt W).fin q R) ng : Nat) : Int)) ∨ (e3 ≤ hi ∧ ∃ l4 e4, (((R : Int) = t2 ∧ t1 = l4 ∧ e3 + 1 = e4) ∨ ((R : Int) ≠ t2 ∧ (R : Int) = l4 ∧ e3 = e4)) ∧
      ((l4 = 0 ∧ shape_Zero.f W ng = some ((mkN W ((fmt W).fin q R) ng : Nat) : Int)) ∨ (l4 ≠ 0 ∧ hi < e4 ∧ shape_Inf.f W ng = some ((mkN W ((fmt W).fin q R) ng : Nat) : Int)) ∨ (l4 ≠ 0 ∧ e4 ≤ hi ∧ ∃ k z, shape_Close.f k W ng 1 e4 l4 = some (((mkN W ((fmt W).fin q R) ng : Nat) : Int), z)))) := by
  have hz := shZ W hw ng
  have hi_ := shI W hw ng
  have hc := clo W hw ng
  generalize fmt W = F at *
  have hp := F.pow_pos
  have ht := F.ht
  have e1 : 2 ^ (F.f + 1) = 2 ^ F.f * 2 := Nat.pow_succ ..
  by_cases c1 : F.top < q + 2
  · left
    refine ⟨by omega, ?_⟩
    have : F.fin q R = F.inf := by
      unfold Fmt.fin
      split
      · first | rfl | rw [if_pos (by omega)]
      · first | rfl | rw [if_pos c1]
    rw [this]; exact hi_
  · right
    refine ⟨by omega, ?_⟩
    by_cases c2 : R = 2 ^ (F.f + 1)
    · refine ⟨t1, e3 + 1, .inl ⟨by rw [c2, h2], rfl, rfl⟩, ?_⟩
      by_cases c3 : F.top < q + 3
      · refine .inr (.inl ⟨by rw [h1]; omega, by omega, ?_⟩)
        have : F.fin q R = F.inf := by unfold Fmt.fin; rw [if_pos c2, if_pos c3]
        rw [this]; exact hi_
      · refine .inr (.inr ⟨by rw [h1]; omega, by omega, ?_⟩)
        have e5 : F.fin q R = (q + 1) * 2 ^ F.f + 2 ^ F.f := by unfold Fmt.fin; rw [if_pos c2, if_neg c3, Nat.add_mul, Nat.add_mul]; omega
        have hm : F.fin q R < F.inf := by
          rw [e5]
          unfold Fmt.inf
          have := Nat.mul_le_mul_right (2 ^ F.f) (show q + 3 ≤ F.top by omega)
          rw [Nat.add_mul] at this ⊢
          omega
        obtain ⟨h3, h4⟩ := F.sg_mk (q + 1) (2 ^ F.f) (by omega) (fun _ => Nat.le_refl _)
        have := hc (F.fin q R) (by rw [e5]; omega) hm
        rw [e5, h3, h4, ← e5, show (((q + 1 : Nat) : Int) + F.low) = e3 + 1 by omega, ← h1] at this
        exact this
    · refine ⟨(R : Int), e3, .inr ⟨by rw [h2]; intro k; exact c2 (by exact_mod_cast k), rfl, rfl⟩, ?_⟩
      by_cases c3 : R = 0
      · left
        have hq : q = 0 := by rcases Nat.eq_zero_or_pos q with h | h; exact h; have := hl h; omega
        have : F.fin q R = 0 := by unfold Fmt.fin; rw [if_neg c2, if_neg c1, if_pos (by omega)]; exact c3
        exact ⟨by omega, by rw [this]; exact hz⟩
      · refine .inr (.inr ⟨by omega, by omega, ?_⟩)
        have e5 : F.fin q R = q * 2 ^ F.f + R := by
          unfold Fmt.fin
          rw [if_neg c2, if_neg c1]
          split
          · rcases Nat.eq_zero_or_pos q with h | h
            · rw [h]; omega
            · have := hl h; omega
          · rw [Nat.add_mul]; omega
        have hm : F.fin q R < F.inf := by
          rw [e5]
          unfold Fmt.inf
          have := Nat.mul_le_mul_right (2 ^ F.f) (show q + 2 ≤ F.top by omega)
          rw [Nat.add_mul] at this
          omega
        obtain ⟨h3, h4⟩ := F.sg_mk q R (by omega) hl
        have := hc (F.fin q R) (by rw [e5]; omega) hm
        rw [e5, h3, h4, ← e5, ← he] at this
        exact this
theorem rp_main (W f t2 t1 lo hi : Int) (hW : (W = 32 ∧ f = 23 ∧ t2 = 16777216 ∧ t1 = 8388608) ∨ (W = 64 ∧ f = 52 ∧ t2 = 9007199254740992 ∧ t1 = 4503599627370496)) (hlo : lo = (fmt W).low) (hhi : hi = (fmt W).low + (fmt W).top - 2)
    (AIM : ∀ ng h l e m, round_aim.f W ng h l e m = some (h, l, e, m, W, f, lo, hi, ng, true)) (S : Nat) (hS : S < 340282366920938463463374607431768211456) (e : Int) (m ng : Bool) (Z : S ≠ 0 ∨ m = true) (E1 : e ≤ 1048576) (E2 : -1048576 ≤ e) (w : World) :
    Calls Try.prog 36 #[.int .i64 W, .bool ng, .agg #[.int .u64 (wH S), .int .u64 (wL S)], .int .i64 e, .bool m] w fun en w' => en = .returned (.int .u64 ((mkN W (pkm (fmt W) S e m) ng : Nat) : Int)) ∧ Below w.heap.size w w' := by
  have hw : W = 32 ∨ W = 64 := by rcases hW with ⟨h, _⟩ | ⟨h, _⟩; exact .inl h; exact .inr h
  have hf : f = ((fmt W).f : Int) ∧ t2 = ((2 ^ ((fmt W).f + 1) : Nat) : Int) ∧ t1 = ((2 ^ (fmt W).f : Nat) : Int) := by
    rcases hW with ⟨rfl, rfl, rfl, rfl⟩ | ⟨rfl, rfl, rfl, rfl⟩ <;> decide
  have hbd := fmt_bd' W
  obtain ⟨hf, h2, h1⟩ := hf
  -- the number whose last bits go
  obtain ⟨S1, e1, m1, hS1, hpos, hm1, hk, hT⟩ : ∃ (S1 : Nat) (e1 : Int) (m1 : Bool), S1 < 340282366920938463463374607431768211456 ∧ 0 < S1 ∧ (m1 = true → 127 ≤ bl S1) ∧ pkm (fmt W) S e m = pkc (fmt W) S1 e1 (if m1 then 1 else 0) ∧
      ((m = true ∧ (∃ n0, wide_Len.f (wH S) (wL S) = some n0 ∧ n0 < 127) ∧ (∃ x0 x1, wide_Left.f (wH S) (wL S) 1 = some (x0, x1) ∧ wide_Add.f x0 x1 0 1 = some (wH S1, wL S1)) ∧ e - 1 = e1 ∧ m1 = false) ∨ ((m = false ∨ ∃ n0, wide_Len.f (wH S) (wL S) = some n0 ∧ 127 ≤ n0) ∧ wH S1 = wH S ∧ wL S1 = wL S ∧ e1 = e ∧ m1 = m)) := by
    have hk : pkm (fmt W) S e m = if m = true ∧ bl S < 127 then pkc (fmt W) (2 * S + 1) (e - 1) 0 else pkc (fmt W) S e (if m then 1 else 0) := by
      unfold pkm
      rw [if_neg (by rintro ⟨h1, h2⟩; rcases Z with h | h; exact h h1; rw [h2] at h; cases h), if_neg (by omega), if_neg (by omega)]
    by_cases c : m = true ∧ bl S < 127
    · rw [if_pos c] at hk
      have hlt := bl_le.1 (Nat.le_of_lt_succ (show bl S < 126 + 1 from c.2))
      rw [show (2 : Nat) ^ 126 = 85070591730234615865843651857942052864 by decide] at hlt
      have hl := wLeft hS 1 (by decide) (by omega)
      refine ⟨2 * S + 1, e - 1, false, by omega, by omega, fun h => (by cases h), (by rw [hk]; rfl), .inl ⟨c.1, ⟨_, wLen hS, by omega⟩, ⟨_, _, hl, ?_⟩, rfl, rfl⟩⟩
      rw [wAdd1 (by omega)]
      rw [show S * 2 ^ 1 + 1 = 2 * S + 1 by omega]
    · rw [if_neg c] at hk
      refine ⟨S, e, m, hS, ?_, fun h => ?_, hk, .inr ⟨?_, rfl, rfl, rfl, rfl⟩⟩
      · rcases Z with h | h
        · omega
        · have : 127 ≤ bl S := by
            rcases Nat.lt_or_ge (bl S) 127 with h3 | h3
            · exact absurd ⟨h, h3⟩ c
            · exact h3
          exact bl_pos.1 (by omega)
      · rcases Nat.lt_or_ge (bl S) 127 with h3 | h3
        · exact absurd ⟨h, h3⟩ c
        · exact h3
      · cases hm : m
        · exact .inl rfl
        · right
          refine ⟨_, wLen hS, ?_⟩
          rcases Nat.lt_or_ge (bl S) 127 with h3 | h3
          · exact absurd ⟨hm, h3⟩ c
          · omega
  have b128 := bl_128 hS1
  have he1 : -1048578 < e1 ∧ e1 < 1048578 := by rcases hT with ⟨_, _, _, h, _⟩ | ⟨_, _, _, h, _⟩ <;> omega
  rw [hk]
  have mx_ : ∀ a b : Int, mx a b = max a b := fun a b => by unfold mx; split <;> omega
  have mn_ : ∀ a b : Int, mn a b = min a b := fun a b => by unfold mn; split <;> omega
  have p54 : 2 ^ ((fmt W).f + 1) ≤ 9007199254740992 := by
    rw [show (9007199254740992 : Nat) = 2 ^ 53 by decide]; exact Nat.pow_le_pow_right (by decide) (by omega)
  by_cases c : (bl S1 : Int) - (fmt W).f - 1 ≤ 0 ∧ (fmt W).low - e1 ≤ 0
  · obtain rfl : m1 = false := by
      cases m1
      · rfl
      · have := hm1 rfl; omega
    obtain ⟨q, u, hu, hq, e5, _, hR, hl⟩ := pkc_up (fmt W) hpos c
    have e6 : pkc (fmt W) S1 e1 (if false = true then 1 else 0) = (fmt W).fin q (S1 * 2 ^ u) := e5
    rw [e6]
    have FX := rp_fin W hw ng t2 t1 hi h2 h1 hhi q (S1 * 2 ^ u) (e1 - u) (by omega) hR hl
    have hs := wSmall (V := S1 * 2 ^ u) (by omega)
    refine rp_pack W f t2 t1 lo hi hW (by omega) (wH S) (wL S) e (wH S1) (wL S1) e1 (bl S1) (max ((bl S1 : Int) - f - 1) (lo - e1)) (wH S1) (wL S1) e1 (bl S1) u (wH (S1 * 2 ^ u)) (wL (S1 * 2 ^ u)) (e1 - u) _ m false ng w (AIM _ _ _ _ _) ?_ E1 E2 hT (wLen hS1) (by omega) (mx_ _ _) (.inl ⟨by omega, rfl, rfl, rfl, rfl⟩) (wLen hS1) (by omega) ?_ ?_ ?_
    · rcases Z with h | h
      · left
        rw [Bool.and_eq_false_iff]
        by_cases h3 : S / 18446744073709551616 = 0
        · right; unfold wL; rw [beq_eq_false_iff_ne]; omega
        · left; unfold wH; rw [beq_eq_false_iff_ne]; omega
      · exact .inr h
    · rw [mn_, hf, hlo]; exact hu.symm
    · rcases Nat.eq_zero_or_pos u with h | h
      · right; subst h; exact ⟨by omega, by rw [Nat.pow_zero, Nat.mul_one], by rw [Nat.pow_zero, Nat.mul_one], by omega⟩
      · left; exact ⟨by omega, wLeft hS1 u (by omega) (by omega), rfl⟩
    · rw [hs.1, hs.2]
      rcases FX with h | ⟨h, h'⟩
      · exact .inl h
      · exact .inr ⟨h, rfl, h'⟩
  · obtain ⟨q, n, j, hj, hq, hn, e5, _, hR, hl⟩ := pkc_dn (fmt W) (S := S1) (m := if m1 then 1 else 0) (e := e1) (by cases m1 <;> decide) hpos c
    rw [e5]
    have FX := rp_fin W hw ng t2 t1 hi h2 h1 hhi q n (e1 + ((j + 1 : Nat) : Int)) (by omega) hR hl
    have hs := wSmall (V := n) (by omega)
    have hn128 : n < 340282366920938463463374607431768211456 := by omega
    have hj40 : j < 1099511627775 := by omega
    have r1 := wRight hS1 j (by omega)
    have hk1 : S1 / 2 ^ j < 340282366920938463463374607431768211456 := Nat.lt_of_le_of_lt (Nat.div_le_self _ _) hS1
    have r2 := wRight hk1 1 (by decide)
    have rb := rne_bits S1 j (if m1 then 1 else 0) (by cases m1 <;> decide)
    rw [← hn] at rb
    have hn2 := bl_128 hn128
    have hlen : (fmt W).f + 1 ≤ bl n ∨ q = 0 := by
      rcases Nat.eq_zero_or_pos q with h | h
      · exact .inr h
      · left
        have := hl h
        exact lt_bl.2 this
    refine rp_pack W f t2 t1 lo hi hW (by omega) (wH S) (wL S) e (wH S1) (wL S1) e1 (bl S1) ((j + 1 : Nat) : Int) (wH n) (wL n) (e1 + ((j + 1 : Nat) : Int)) (bl n) (min (f + 1 - bl n) (e1 + ((j + 1 : Nat) : Int) - lo)) (wH n) (wL n) (e1 + ((j + 1 : Nat) : Int)) _ m m1 ng w (AIM _ _ _ _ _) ?_ E1 E2 hT (wLen hS1) (by omega) ?_ (.inr ⟨by omega, rfl, wH (S1 / 2 ^ j), wL (S1 / 2 ^ j), wH (S1 / 2 ^ j / 2), wL (S1 / 2 ^ j / 2), decide (S1 % 2 ^ j ≠ 0), _, decide (S1 / 2 ^ j % 2 = 1 ∧ (S1 % 2 ^ j ≠ 0 ∨ (if m1 then 1 else 0) = 1 ∨ S1 / 2 ^ j / 2 % 2 = 1)), ?_, r2, ?_, ?_, ?_⟩) (wLen hn128) (by omega) (mn_ _ _) (.inr ⟨by omega, rfl, rfl, rfl⟩) ?_
    · rcases Z with h | h
      · left
        rw [Bool.and_eq_false_iff]
        by_cases h3 : S / 18446744073709551616 = 0
        · right; unfold wL; rw [beq_eq_false_iff_ne]; omega
        · left; unfold wH; rw [beq_eq_false_iff_ne]; omega
      · exact .inr h
    · rw [mx_, hf, hlo]; rw [← hj]; rfl
    · rw [show (((j + 1 : Nat) : Int) - 1) = (j : Int) by omega]; exact r1
    · rw [wAnd1, wAnd1, Bool.eq_iff_iff]
      cases m1 <;> simp
    · intro h
      rw [decide_eq_true_eq] at h
      rw [if_pos h] at rb
      rw [rb]
      exact wAdd1 (by omega)
    · intro h
      rw [decide_eq_false_iff_not] at h
      rw [if_neg h] at rb
      rw [rb]; exact ⟨rfl, rfl⟩
    · rw [hs.1, hs.2]
      rcases FX with h | ⟨h, h'⟩
      · exact .inl h
      · exact .inr ⟨h, rfl, h'⟩
end Go.Proofs.Ytbpmnmceajmmcaa.PA
/- round.Pack's short ways: no width; nought; an exponent that is too great or too small. -/
namespace Go.Proofs.Ytbpmnmceajmmcaa.PA
open Go.RowKit Go.Proofs.YtbpmnmceajmmcaaW.PrintWords Go.Proofs.YtbpmnmceajmmcaaW.PrintLast Go.Proofs.YtbpmnmceajmmcaaW.PrintMore
attribute [local go_sem] max2_int min2_int max_two min_two max_three min_three max_four min_four   -- for this text's walks alone
set_option linter.unusedVariables false
set_option linter.unusedSimpArgs false
attribute [local go_sem high] eqA42
open Go.Proofs.Ytbpmnmceajmmcaa.Th Flo
set_option maxHeartbeats 8000000 in
set_option maxRecDepth 100000 in
theorem rp_none (W : Int) (h l e : Int) (m ng : Bool) (w : World) (AIM : round_aim.f W ng h l e m = some (0, 0, 0, false, 0, 0, 0, 0, false, false)) :
    Calls Try.prog 36 #[.int .i64 W, .bool ng, .agg #[.int .u64 h, .int .u64 l], .int .i64 e, .bool m] w fun en w' => en = .returned (.int .u64 0) ∧ Below w.heap.size w w' := by
  have hu41 := Try.underlying42
  have hu95 := Try.underlying81
  have hu97 := Try.underlying83
  have A_ := Aside0.mk AIM
  clear AIM
  go_enter Try.func36, Try.ntmps36
  go_wp2_with (first | (go_at_call 73; (with_reducible refine (round_aim.calls W ng h l e m 0 0 0 false 0 0 0 0 false false _ A_.out).mono ?_); rintro en w1 ⟨rfl, hb⟩))
  go_ret
  exact ⟨rfl, below_alloc (below_step (below_alloc (Below.refl _ w) _) hb) _⟩
set_option maxHeartbeats 8000000 in
set_option maxRecDepth 100000 in
theorem rp_short (W f lo hi : Int) (h l e r : Int) (m ng : Bool) (w : World) (AIM : round_aim.f W ng h l e m = some (h, l, e, m, W, f, lo, hi, ng, true))
    (C : (h = 0 ∧ l = 0 ∧ m = false ∧ shape_Zero.f W ng = some r) ∨ (((h == 0) && (l == 0) && !m) = false ∧ ((1048576 < e ∧ shape_Inf.f W ng = some r) ∨ (e < -1048576 ∧ shape_Zero.f W ng = some r)))) :
    Calls Try.prog 36 #[.int .i64 W, .bool ng, .agg #[.int .u64 h, .int .u64 l], .int .i64 e, .bool m] w fun en w' => en = .returned (.int .u64 r) ∧ Below w.heap.size w w' := by
  have hu41 := Try.underlying42
  have hu95 := Try.underlying81
  have hu97 := Try.underlying83
  have A_ := Aside0.mk AIM
  clear AIM
  obtain ⟨bh, hh⟩ : ∃ y, (h == 0) = y := ⟨_, rfl⟩
  obtain ⟨bl_, hl⟩ : ∃ y, (l == 0) = y := ⟨_, rfl⟩
  rw [hh, hl] at C
  rcases C with ⟨rfl, rfl, rfl, B_⟩ | ⟨Z, C⟩
  · have B := Aside0.mk B_
    clear B_ hh hl
    go_enter Try.func36, Try.ntmps36
    go_wp2_with (first
      | (go_at_call 73; (with_reducible refine (round_aim.calls W ng 0 0 e false 0 0 e false W f lo hi ng true _ A_.out).mono ?_); rintro en w1 ⟨rfl, hb⟩; have sa := ((Nr.bcell hb).1 w.heap.size 0 (by simp)).trans (show _ = some (Value.int .u64 0) by simp [go_sem]); have sb := ((Nr.bcell hb).1 w.heap.size 1 (by simp)).trans (show _ = some (Value.int .u64 0) by simp [go_sem]); have hz := Nat.lt_of_lt_of_le (show w.heap.size < (w.alloc (.cells #[.int .u64 0, .int .u64 0] 42 (0, 0))).heap.size by simp) hb.size; have H1 := Aside0.mk (below_step (below_alloc (Below.refl _ w) _) hb); clear hb)
      | (go_at_call 30; (with_reducible refine (shape_Zero.calls W ng r _ B.out).mono ?_); rintro en w2 ⟨rfl, hb⟩))
    go_ret
    exact ⟨rfl, below_step (below_alloc H1.out _) hb⟩
  · have key : Aside0 ((decide (1048576 < e) = true ∧ shape_Inf.f W ng = some r) ∨ (decide (1048576 < e) = false ∧ decide (e < -1048576) = true ∧ shape_Zero.f W ng = some r)) := ⟨by
      rcases C with ⟨h1, h2⟩ | ⟨h1, h2⟩
      · exact .inl ⟨decide_eq_true h1, h2⟩
      · exact .inr ⟨decide_eq_false (by omega), decide_eq_true h1, h2⟩⟩
    clear C
    cases bh <;> cases bl_ <;> cases m <;> first
      | (exfalso; simp at Z; done)
      | (clear Z
         rcases key.out with ⟨d, B_⟩ | ⟨d, d2, B_⟩
         all_goals
          have B := Aside0.mk B_
          clear B_ key
          go_enter Try.func36, Try.ntmps36
          go_wp2_with (first
            | (go_at_call 73; (with_reducible refine (round_aim.calls W ng h l e _ h l e _ W f lo hi ng true _ A_.out).mono ?_); rintro en w1 ⟨rfl, hb⟩; have sa := ((Nr.bcell hb).1 w.heap.size 0 (by simp)).trans (show _ = some (Value.int .u64 h) by simp [go_sem]); have sb := ((Nr.bcell hb).1 w.heap.size 1 (by simp)).trans (show _ = some (Value.int .u64 l) by simp [go_sem]); have hz := Nat.lt_of_lt_of_le (show w.heap.size < (w.alloc (.cells #[.int .u64 h, .int .u64 l] 42 (0, 0))).heap.size by simp) hb.size; have H1 := Aside0.mk (below_step (below_alloc (Below.refl _ w) _) hb); clear hb)
            | (go_at_call 30; (with_reducible refine (shape_Zero.calls W ng r _ B.out).mono ?_); rintro en w2 ⟨rfl, hb⟩)
            | (go_at_call 42; (with_reducible refine (shape_Inf.calls W ng r _ B.out).mono ?_); rintro en w2 ⟨rfl, hb⟩))
          go_ret
          exact ⟨rfl, below_step (below_alloc H1.out _) hb⟩)
end Go.Proofs.Ytbpmnmceajmmcaa.PA
namespace Go.Proofs.Ytbpmnmceajmmcaa.PA
open Go.RowKit Go.Proofs.YtbpmnmceajmmcaaW.PrintWords Go.Proofs.YtbpmnmceajmmcaaW.PrintLast Go.Proofs.YtbpmnmceajmmcaaW.PrintMore
attribute [local go_sem] max2_int min2_int max_two min_two max_three min_three max_four min_four   -- for this text's walks alone
set_option linter.unusedVariables false
set_option linter.unusedSimpArgs false
set_option maxHeartbeats 8000000
set_option maxRecDepth 100000
-- IMPORT Derived.Test.YtbpmnmceajmmcaaHRpF
def round_Pack.f (a0 : Int) (a1 : Bool) (a2_0 : Int) (a2_1 : Int) (a3 : Int) (a4 : Bool) : Option (Int) :=
 if (0 ≤ a2_0 ∧ a2_0 < 18446744073709551616) ∧ (0 ≤ a2_1 ∧ a2_1 < 18446744073709551616) then
  some (if a0 = 32 ∨ a0 = 64 then ((Th.mkN a0 (Th.pkm (Th.fmt a0) (Th.wn a2_0.toNat a2_1.toNat) a3 a4) a1 : Nat) : Int) else 0) else none
theorem round_Pack.calls (a0 : Int) (a1 : Bool) (a2_0 : Int) (a2_1 : Int) (a3 : Int) (a4 : Bool) (r : Int) (w : World) (h : round_Pack.f a0 a1 a2_0 a2_1 a3 a4 = some r) :
  Calls Try.prog 36 #[.int .i64 a0, .bool a1, .agg #[.int .u64 a2_0, .int .u64 a2_1], .int .i64 a3, .bool a4] w fun e w' => e = .returned (.int .u64 r) ∧ Below w.heap.size w w' := by
 unfold round_Pack.f at h
 split at h
 rotate_left
 ·cases h
 rename_i hr
 obtain ⟨⟨p1, p2⟩, p3, p4⟩ := hr
 obtain rfl := Option.some.inj h
 obtain ⟨H, rfl⟩ := Int.eq_ofNat_of_zero_le p1
 obtain ⟨L, rfl⟩ := Int.eq_ofNat_of_zero_le p3
 rw [Int.toNat_natCast, Int.toNat_natCast]
 have hL : L < 18446744073709551616 := by omega
 have hS := Th.wn_lt (show H < 18446744073709551616 by omega) hL
 obtain ⟨e1, e2⟩ := Th.wHL H L hL
 have hz : Th.wn H L = 0 ↔ H = 0 ∧ L = 0 := by unfold Th.wn; omega
 by_cases hw : a0 = 32 ∨ a0 = 64
 ·rw [if_pos hw]
  have key : ∀ (f lo hi t2 t1 : Int), ((a0 = 32 ∧ f = 23 ∧ t2 = 16777216 ∧ t1 = 8388608) ∨ (a0 = 64 ∧ f = 52 ∧ t2 = 9007199254740992 ∧ t1 = 4503599627370496)) → lo = (Th.fmt a0).low → hi = (Th.fmt a0).low + (Th.fmt a0).top - 2 →
    (∀ ng h l e m, round_aim.f a0 ng h l e m = some (h, l, e, m, a0, f, lo, hi, ng, true)) → Calls Try.prog 36 #[.int .i64 a0, .bool a1, .agg #[.int .u64 (H : Int), .int .u64 (L : Int)], .int .i64 a3, .bool a4] w fun e w' => e = .returned (.int .u64 ((Th.mkN a0 (Th.pkm (Th.fmt a0) (Th.wn H L) a3 a4) a1 : Nat) : Int)) ∧ Below w.heap.size w w' := by
   intro f lo hi t2 t1 hW h1 h2 AIM
   by_cases c1 : Th.wn H L = 0 ∧ a4 = false
   ·refine rp_short a0 f lo hi H L a3 _ a4 a1 w (AIM _ _ _ _ _) (.inl ⟨by have := hz.1 c1.1; omega, by have := hz.1 c1.1; omega, c1.2, ?_⟩)
    unfold Th.pkm
    rw [if_pos c1]
    exact Th.shZ a0 hw a1
   ·have hb : (((H : Int) == 0) && ((L : Int) == 0) && !a4) = false := by
     cases a4
     ·have : ¬ (H = 0 ∧ L = 0) := fun h => c1 ⟨hz.2 h, rfl⟩
      rw [Bool.not_false, Bool.and_true, Bool.and_eq_false_iff, beq_eq_false_iff_ne, beq_eq_false_iff_ne]
      omega
     ·simp
    by_cases c2 : 1048576 < a3
    ·refine rp_short a0 f lo hi H L a3 _ a4 a1 w (AIM _ _ _ _ _) (.inr ⟨hb, .inl ⟨c2, ?_⟩⟩)
     unfold Th.pkm
     rw [if_neg c1, if_pos c2]
     exact Th.shI a0 hw a1
    ·by_cases c3 : a3 < -1048576
     ·refine rp_short a0 f lo hi H L a3 _ a4 a1 w (AIM _ _ _ _ _) (.inr ⟨hb, .inr ⟨c3, ?_⟩⟩)
      unfold Th.pkm
      rw [if_neg c1, if_neg c2, if_pos c3]
      exact Th.shZ a0 hw a1
     ·have := rp_main a0 f t2 t1 lo hi hW h1 h2 AIM (Th.wn H L) hS a3 a4 a1 (by
       cases a4
       ·exact .inl fun h => c1 ⟨h, rfl⟩
       ·exact .inr rfl) (by omega) (by omega) w
      rw [e1, e2] at this
      exact this
  rcases hw with rfl | rfl
  ·exact key 23 (-149) 104 16777216 8388608 (.inl ⟨rfl, rfl, rfl, rfl⟩) (by decide) (by decide) (fun ng h l e m => by
    unfold round_aim.f; rw [show shape_Fields.f 32 = some (8, 23) by decide, Option.bind_some, if_neg (by decide), if_pos (by decide +kernel), if_pos (by decide)]
    rw [show wrap64 ((wrap64 (2 - (shl .i64 1 (wrap64 ((8 : Int) - 1))))) - 23) = -149 by decide +kernel, show wrap64 ((wrap64 ((-149 : Int) + (shl .i64 1 8))) - 3) = 104 by decide +kernel])
  ·exact key 52 (-1074) 971 9007199254740992 4503599627370496 (.inr ⟨rfl, rfl, rfl, rfl⟩) (by decide) (by decide) (fun ng h l e m => by
    unfold round_aim.f; rw [show shape_Fields.f 64 = some (11, 52) by decide, Option.bind_some, if_neg (by decide), if_pos (by decide +kernel), if_pos (by decide)]
    rw [show wrap64 ((wrap64 (2 - (shl .i64 1 (wrap64 ((11 : Int) - 1))))) - 52) = -1074 by decide +kernel, show wrap64 ((wrap64 ((-1074 : Int) + (shl .i64 1 11))) - 3) = 971 by decide +kernel])
 ·rw [if_neg hw]
  refine rp_none a0 H L a3 a4 a1 w ?_
  unfold round_aim.f shape_Fields.f shape_of.f
  rw [if_neg (by omega), if_neg (by omega)]
  rfl
def round_Whole.f (a0 : Int) (a1 : Bool) (a2 : Int) : Option (Int) := if a1 = true then ((wide_Of.f a2).bind fun bt221 => ((round_Pack.f a0 (decide (a2 > 0)) bt221.1 bt221.2 0 false).bind fun t223 => (some t223))) else ((wide_Of.f a2).bind fun bt224 => ((round_Pack.f a0 false bt224.1 bt224.2 0 false).bind fun t226 => (some t226)))
theorem round_Whole.calls (a0 : Int) (a1 : Bool) (a2 : Int) (r : Int) (w : World) (h : round_Whole.f a0 a1 a2 = some r) :
  Calls Try.prog 65 #[.int .i64 a0, .bool a1, .int .u64 a2] w fun e w' => e = .returned (.int .u64 r) ∧ Below w.heap.size w w' := by
 have HB := A_ (Below.refl w.heap.size w)
 have H : (if a1 = true then ((wide_Of.f a2).bind fun bt221 => ((round_Pack.f a0 (decide (a2 > 0)) bt221.1 bt221.2 0 false).bind fun t223 => (some t223))) else ((wide_Of.f a2).bind fun bt224 => ((round_Pack.f a0 false bt224.1 bt224.2 0 false).bind fun t226 => (some t226)))) = some r := h
 clear h
 by_cases c4 : a1 = true
 ·subst c4
  have H1 : ((wide_Of.f a2).bind fun bt221 => ((round_Pack.f a0 (decide (a2 > 0)) bt221.1 bt221.2 0 false).bind fun t223 => (some t223))) = some r := by rw [if_pos rfl] at H; exact H
  clear H;have H := H1;clear H1
  replace H := ob_ H
  obtain ⟨⟨t221, t222⟩, A50, H⟩ := H
  replace H : ((round_Pack.f a0 (decide (a2 > 0)) t221 t222 0 false).bind fun t223 => (some t223)) = some r := H
  have A5 := A_ A50;clear A50
  replace H := ob_ H
  obtain ⟨t223, A60, H⟩ := H
  replace H : (some t223) = some r := H
  have A6 := A_ A60;clear A60
  obtain rfl := Option.some.inj H
  go_enter Try.func65, Try.ntmps65
  go_wp2_with (first | ((with_reducible refine gate_callee (f := 39) rfl ?_); refine gl_ (some 14) Try.func39 #[.int .u64 a2] ?_; (with_reducible refine (wide_Of.calls a2 t221 t222 _ A5.out).mono ?_); rintro e w7 ⟨rfl, hb⟩; refine ⟨_, rfl, ?_⟩; replace HB := A_ (below_step (hb_ HB.out) hb); (try clear hb); (try clear hb2); (try clear hk); (try clear hi)) | ((with_reducible refine gate_callee (f := 36) rfl ?_); refine gl_ (some 15) Try.func36 #[.int .i64 a0, .bool (decide (a2 > 0)), .agg #[.int .u64 t221, .int .u64 t222], .int .i64 0, .bool false] ?_; (with_reducible refine (round_Pack.calls a0 (decide (a2 > 0)) t221 t222 0 false t223 _ A6.out).mono ?_); rintro e w8 ⟨rfl, hb⟩; refine ⟨_, rfl, ?_⟩; replace HB := A_ (below_step (hb_ HB.out) hb); (try clear hb); (try clear hb2); (try clear hk); (try clear hi)))
  go_ret
  exact ⟨er_, hb_ HB.out⟩
 ·replace c4 := Bool.eq_false_iff.mpr c4
  subst c4
  have H1 : ((wide_Of.f a2).bind fun bt224 => ((round_Pack.f a0 false bt224.1 bt224.2 0 false).bind fun t226 => (some t226))) = some r := by rw [if_neg (show ¬ (false = true) by decide)] at H; exact H
  clear H;have H := H1;clear H1
  replace H := ob_ H
  obtain ⟨⟨t224, t225⟩, A90, H⟩ := H
  replace H : ((round_Pack.f a0 false t224 t225 0 false).bind fun t226 => (some t226)) = some r := H
  have A9 := A_ A90;clear A90
  replace H := ob_ H
  obtain ⟨t226, A100, H⟩ := H
  replace H : (some t226) = some r := H
  have A10 := A_ A100;clear A100
  obtain rfl := Option.some.inj H
  go_enter Try.func65, Try.ntmps65
  go_wp2_with (first | ((with_reducible refine gate_callee (f := 39) rfl ?_); refine gl_ (some 14) Try.func39 #[.int .u64 a2] ?_; (with_reducible refine (wide_Of.calls a2 t224 t225 _ A9.out).mono ?_); rintro e w11 ⟨rfl, hb⟩; refine ⟨_, rfl, ?_⟩; replace HB := A_ (below_step (hb_ HB.out) hb); (try clear hb); (try clear hb2); (try clear hk); (try clear hi)) | ((with_reducible refine gate_callee (f := 36) rfl ?_); refine gl_ (some 15) Try.func36 #[.int .i64 a0, .bool false, .agg #[.int .u64 t224, .int .u64 t225], .int .i64 0, .bool false] ?_; (with_reducible refine (round_Pack.calls a0 false t224 t225 0 false t226 _ A10.out).mono ?_); rintro e w12 ⟨rfl, hb⟩; refine ⟨_, rfl, ?_⟩; replace HB := A_ (below_step (hb_ HB.out) hb); (try clear hb); (try clear hb2); (try clear hk); (try clear hi)))
  go_ret
  exact ⟨er_, hb_ HB.out⟩
def L03_awake.f : Option (Bool) := some true
theorem L03_awake.v1 : round_Whole.f 32 false 16777217 = some 1266679808 := by decide +kernel
theorem L03_awake.v2 : round_Pack.f 64 false 0 1 (-1075) false = some 0 := by decide +kernel
theorem L03_awake.v3 : round_Pack.f 64 false 0 1 (-1075) true = some 1 := by decide +kernel
theorem L03_awake.calls (r : Bool) (w : World) (h : L03_awake.f = some r) :
  Calls Try.prog 35 #[] w fun e w' => e = .returned (.bool r) ∧ Below w.heap.size w w' := by
 obtain rfl := Option.some.inj h
 have HB := A_ (Below.refl w.heap.size w)
 go_enter Try.func35, Try.ntmps35
 go_wp2_with (first
  | (go_at_call 65; (with_reducible refine (round_Whole.calls 32 false 16777217 1266679808 _ L03_awake.v1).mono ?_); rintro e w1 ⟨rfl, hb⟩; replace HB := A_ (below_step HB.out hb); clear hb)
  | (go_at_call 39; (with_reducible refine (wide_Of.calls 1 0 1 _ rfl).mono ?_); rintro e w2 ⟨rfl, hb⟩; replace HB := A_ (below_step HB.out hb); clear hb)
  | (go_at_call 36; (with_reducible refine (round_Pack.calls 64 false 0 1 (-1075) false 0 _ L03_awake.v2).mono ?_); rintro e w3 ⟨rfl, hb⟩; replace HB := A_ (below_step HB.out hb); clear hb)
  | (go_at_call 36; (with_reducible refine (round_Pack.calls 64 false 0 1 (-1075) true 1 _ L03_awake.v3).mono ?_); rintro e w4 ⟨rfl, hb⟩; replace HB := A_ (below_step HB.out hb); clear hb))
 go_ret
 exact ⟨rfl, HB.out⟩
def r2_E.f (a0 : Int) : Option (Int) := if a0 = 32 then (some 8) else (some 11)
theorem r2_E.calls (a0 : Int) (r : Int) (w : World) (h : r2_E.f a0 = some r) :
  Calls Try.prog 89 #[.int .i64 a0] w fun e w' => e = .returned (.int .i64 r) ∧ Drawn0 w w' := by
 have H : (if a0 = 32 then (some 8) else (some 11)) = some r := h
 clear h
 by_cases c2 : a0 = 32
 ·rw [if_pos c2] at H
  have c2b0 : (a0 == 32) = true := beq_iff_eq.mpr c2
  have c2b1 : (a0 != 32) = false := bne_eq_false_iff_eq.mpr c2
  clear c2
  obtain rfl := Option.some.inj H
  go_enter Try.func89, Try.ntmps89
  go_wp2
  go_ret
  exact ⟨sm_, by repeat (first | exact Drawn0.refl _ | apply Drawn0.step)⟩
 ·rw [if_neg c2] at H
  have c2b0 : (a0 == 32) = false := beq_eq_false_iff_ne.mpr c2
  have c2b1 : (a0 != 32) = true := bne_iff_ne.mpr c2
  obtain rfl := Option.some.inj H
  go_enter Try.func89, Try.ntmps89
  go_wp2
  go_ret
  exact ⟨sm_, by repeat (first | exact Drawn0.refl _ | apply Drawn0.step)⟩
def r2_F.f (a0 : Int) : Option (Int) := (r2_E.f a0).bind fun t234 => (some (wrap64 ((wrap64 (a0 - 1)) - t234)))
theorem r2_F.calls (a0 : Int) (r : Int) (w : World) (h : r2_F.f a0 = some r) :
  Calls Try.prog 52 #[.int .i64 a0] w fun e w' => e = .returned (.int .i64 r) ∧ Drawn0 w w' := by
 have H : ((r2_E.f a0).bind fun t234 => (some (wrap64 ((wrap64 (a0 - 1)) - t234)))) = some r := h
 clear h
 replace H := ob_ H
 obtain ⟨t234, A20, H⟩ := H
 replace H : (some (wrap64 ((wrap64 (a0 - 1)) - t234))) = some r := H
 have A2 := A_ A20;clear A20
 obtain rfl := Option.some.inj H
 go_enter Try.func52, Try.ntmps52
 go_wp2_with (first | ((with_reducible refine gate_callee (f := 89) rfl ?_); refine gl_ (some 6) Try.func89 #[.int .i64 a0] ?_; (with_reducible refine (r2_E.calls a0 t234 _ A2.out).mono ?_); rintro e w' ⟨rfl, ⟨nd, rfl⟩⟩; refine ⟨_, rfl, ?_⟩))
 go_ret
 exact ⟨sm_, by repeat (first | exact Drawn0.refl _ | apply Drawn0.step)⟩
def r2_Make.f (k : Nat) (a0 : Int) (a1 : Bool) (a2 : Int) (a3 : Int) : Option (Int) := (r2_F.f a0).bind fun t235 => ((r2_Two.f k t235).bind fun t236 => (if a1 = true then ((r2_Two.f k (wrap64 (a0 - 1))).bind fun t237 => (some (IntKind.u64.wrap ((IntKind.u64.wrap ((IntKind.u64.wrap ((IntKind.u64.wrap (a2)) * t236)) + a3)) + t237)))) else (some (IntKind.u64.wrap ((IntKind.u64.wrap ((IntKind.u64.wrap (a2)) * t236)) + a3)))))
theorem r2_Make.mono : ∀ a0 a1 a2 a3 k, LeO (r2_Make.f k a0 a1 a2 a3) (r2_Make.f (k + 1) a0 a1 a2 a3) := by
 intro a0 a1 a2 a3 k
 unfold r2_Make.f
 repeat' first
   | (with_reducible exact r2_Two.mono _ _)
   | (with_reducible exact LeO.refl _)
   | (with_reducible exact LeO.none _)
   | (with_reducible refine LeO.ite ?_ ?_)
   | (with_reducible refine LeO.bind ?_ (fun _ => ?_))
   | exact r2_Two.mono _ _
   | exact LeO.none _
   | refine LeO.ite ?_ ?_
   | refine LeO.bind ?_ (fun _ => ?_)
theorem r2_Make.calls (k : Nat) (a0 : Int) (a1 : Bool) (a2 : Int) (a3 : Int) (r : Int) (w : World) (h : r2_Make.f k a0 a1 a2 a3 = some r) :
  Calls Try.prog 17 #[.int .i64 a0, .bool a1, .int .i64 a2, .int .u64 a3] w fun e w' => e = .returned (.int .u64 r) ∧ Drawn0 w w' := by
 have H : ((r2_F.f a0).bind fun t235 => ((r2_Two.f k t235).bind fun t236 => (if a1 = true then ((r2_Two.f k (wrap64 (a0 - 1))).bind fun t237 => (some (IntKind.u64.wrap ((IntKind.u64.wrap ((IntKind.u64.wrap ((IntKind.u64.wrap (a2)) * t236)) + a3)) + t237)))) else (some (IntKind.u64.wrap ((IntKind.u64.wrap ((IntKind.u64.wrap (a2)) * t236)) + a3)))))) = some r := h
 clear h
 replace H := ob_ H
 obtain ⟨t235, A50, H⟩ := H
 replace H : ((r2_Two.f k t235).bind fun t236 => (if a1 = true then ((r2_Two.f k (wrap64 (a0 - 1))).bind fun t237 => (some (IntKind.u64.wrap ((IntKind.u64.wrap ((IntKind.u64.wrap ((IntKind.u64.wrap (a2)) * t236)) + a3)) + t237)))) else (some (IntKind.u64.wrap ((IntKind.u64.wrap ((IntKind.u64.wrap (a2)) * t236)) + a3))))) = some r := H
 have A5 := A_ A50;clear A50
 replace H := ob_ H
 obtain ⟨t236, A60, H⟩ := H
 replace H : (if a1 = true then ((r2_Two.f k (wrap64 (a0 - 1))).bind fun t237 => (some (IntKind.u64.wrap ((IntKind.u64.wrap ((IntKind.u64.wrap ((IntKind.u64.wrap (a2)) * t236)) + a3)) + t237)))) else (some (IntKind.u64.wrap ((IntKind.u64.wrap ((IntKind.u64.wrap (a2)) * t236)) + a3)))) = some r := H
 have A6 := A_ A60;clear A60
 by_cases c7 : a1 = true
 ·subst c7
  have H1 : ((r2_Two.f k (wrap64 (a0 - 1))).bind fun t237 => (some (IntKind.u64.wrap ((IntKind.u64.wrap ((IntKind.u64.wrap ((IntKind.u64.wrap (a2)) * t236)) + a3)) + t237)))) = some r := by rw [if_pos rfl] at H; exact H
  clear H;have H := H1;clear H1
  replace H := ob_ H
  obtain ⟨t237, A80, H⟩ := H
  replace H : (some (IntKind.u64.wrap ((IntKind.u64.wrap ((IntKind.u64.wrap ((IntKind.u64.wrap (a2)) * t236)) + a3)) + t237))) = some r := H
  have A8 := A_ A80;clear A80
  obtain rfl := Option.some.inj H
  go_enter Try.func17, Try.ntmps17
  go_wp2_with (first | ((with_reducible refine gate_callee (f := 52) rfl ?_); refine gl_ (some 13) Try.func52 #[.int .i64 a0] ?_; (with_reducible refine (r2_F.calls a0 t235 _ A5.out).mono ?_); rintro e w' ⟨rfl, ⟨nd, rfl⟩⟩; refine ⟨_, rfl, ?_⟩) | ((with_reducible refine gate_callee (f := 51) rfl ?_); refine gl_ (some 14) Try.func51 #[.int .i64 t235] ?_; (with_reducible refine (r2_Two.calls k t235 t236 _ A6.out).mono ?_); rintro e w' ⟨rfl, ⟨nd, rfl⟩⟩; refine ⟨_, rfl, ?_⟩) | ((with_reducible refine gate_callee (f := 51) rfl ?_); refine gl_ (some 22) Try.func51 #[.int .i64 (wrap64 (a0 - 1))] ?_; (with_reducible refine (r2_Two.calls k (wrap64 (a0 - 1)) t237 _ A8.out).mono ?_); rintro e w' ⟨rfl, ⟨nd, rfl⟩⟩; refine ⟨_, rfl, ?_⟩))
  go_ret
  exact ⟨sm_, by repeat (first | exact Drawn0.refl _ | apply Drawn0.step)⟩
 ·replace c7 := Bool.eq_false_iff.mpr c7
  subst c7
  have H1 : (some (IntKind.u64.wrap ((IntKind.u64.wrap ((IntKind.u64.wrap (a2)) * t236)) + a3))) = some r := by rw [if_neg (show ¬ (false = true) by decide)] at H; exact H
  clear H;have H := H1;clear H1
  obtain rfl := Option.some.inj H
  go_enter Try.func17, Try.ntmps17
  go_wp2_with (first | ((with_reducible refine gate_callee (f := 52) rfl ?_); refine gl_ (some 13) Try.func52 #[.int .i64 a0] ?_; (with_reducible refine (r2_F.calls a0 t235 _ A5.out).mono ?_); rintro e w' ⟨rfl, ⟨nd, rfl⟩⟩; refine ⟨_, rfl, ?_⟩) | ((with_reducible refine gate_callee (f := 51) rfl ?_); refine gl_ (some 14) Try.func51 #[.int .i64 t235] ?_; (with_reducible refine (r2_Two.calls k t235 t236 _ A6.out).mono ?_); rintro e w' ⟨rfl, ⟨nd, rfl⟩⟩; refine ⟨_, rfl, ?_⟩))
  go_ret
  exact ⟨sm_, by repeat (first | exact Drawn0.refl _ | apply Drawn0.step)⟩
def r2_Top.f (k : Nat) (a0 : Int) : Option (Int) := (r2_E.f a0).bind fun t331 => ((r2_Two.f k t331).bind fun t332 => (some (wrap64 ((wrap64 (t332)) - 1))))
theorem r2_Top.mono : ∀ a0 k, LeO (r2_Top.f k a0) (r2_Top.f (k + 1) a0) := by
 intro a0 k
 unfold r2_Top.f
 repeat' first
   | (with_reducible exact r2_Two.mono _ _)
   | (with_reducible exact LeO.refl _)
   | (with_reducible exact LeO.none _)
   | (with_reducible refine LeO.ite ?_ ?_)
   | (with_reducible refine LeO.bind ?_ (fun _ => ?_))
   | exact r2_Two.mono _ _
   | exact LeO.none _
   | refine LeO.ite ?_ ?_
   | refine LeO.bind ?_ (fun _ => ?_)
theorem r2_Top.calls (k : Nat) (a0 : Int) (r : Int) (w : World) (h : r2_Top.f k a0 = some r) :
  Calls Try.prog 88 #[.int .i64 a0] w fun e w' => e = .returned (.int .i64 r) ∧ Drawn0 w w' := by
 have H : ((r2_E.f a0).bind fun t331 => ((r2_Two.f k t331).bind fun t332 => (some (wrap64 ((wrap64 (t332)) - 1))))) = some r := h
 clear h
 replace H := ob_ H
 obtain ⟨t331, A20, H⟩ := H
 replace H : ((r2_Two.f k t331).bind fun t332 => (some (wrap64 ((wrap64 (t332)) - 1)))) = some r := H
 have A2 := A_ A20;clear A20
 replace H := ob_ H
 obtain ⟨t332, A30, H⟩ := H
 replace H : (some (wrap64 ((wrap64 (t332)) - 1))) = some r := H
 have A3 := A_ A30;clear A30
 obtain rfl := Option.some.inj H
 go_enter Try.func88, Try.ntmps88
 go_wp2_with (first | ((with_reducible refine gate_callee (f := 89) rfl ?_); refine gl_ (some 4) Try.func89 #[.int .i64 a0] ?_; (with_reducible refine (r2_E.calls a0 t331 _ A2.out).mono ?_); rintro e w' ⟨rfl, ⟨nd, rfl⟩⟩; refine ⟨_, rfl, ?_⟩) | ((with_reducible refine gate_callee (f := 51) rfl ?_); refine gl_ (some 5) Try.func51 #[.int .i64 t331] ?_; (with_reducible refine (r2_Two.calls k t331 t332 _ A3.out).mono ?_); rintro e w' ⟨rfl, ⟨nd, rfl⟩⟩; refine ⟨_, rfl, ?_⟩))
 go_ret
 exact ⟨sm_, by repeat (first | exact Drawn0.refl _ | apply Drawn0.step)⟩
def r2_Inf.f (k : Nat) (a0 : Int) (a1 : Bool) : Option (Int) := (r2_Top.f k a0).bind fun t348 => ((r2_Make.f k a0 a1 t348 0).bind fun t349 => (some t349))
theorem r2_Inf.mono : ∀ a0 a1 k, LeO (r2_Inf.f k a0 a1) (r2_Inf.f (k + 1) a0 a1) := by
 intro a0 a1 k
 unfold r2_Inf.f
 repeat' first
   | (with_reducible exact r2_Make.mono _ _ _ _ _)
   | (with_reducible exact r2_Top.mono _ _)
   | (with_reducible exact LeO.refl _)
   | (with_reducible exact LeO.none _)
   | (with_reducible refine LeO.ite ?_ ?_)
   | (with_reducible refine LeO.bind ?_ (fun _ => ?_))
   | exact r2_Make.mono _ _ _ _ _
   | exact r2_Top.mono _ _
   | exact LeO.none _
   | refine LeO.ite ?_ ?_
   | refine LeO.bind ?_ (fun _ => ?_)
theorem r2_Inf.calls (k : Nat) (a0 : Int) (a1 : Bool) (r : Int) (w : World) (h : r2_Inf.f k a0 a1 = some r) :
  Calls Try.prog 59 #[.int .i64 a0, .bool a1] w fun e w' => e = .returned (.int .u64 r) ∧ Drawn0 w w' := by
 have H : ((r2_Top.f k a0).bind fun t348 => ((r2_Make.f k a0 a1 t348 0).bind fun t349 => (some t349))) = some r := h
 clear h
 replace H := ob_ H
 obtain ⟨t348, A30, H⟩ := H
 replace H : ((r2_Make.f k a0 a1 t348 0).bind fun t349 => (some t349)) = some r := H
 have A3 := A_ A30;clear A30
 replace H := ob_ H
 obtain ⟨t349, A40, H⟩ := H
 replace H : (some t349) = some r := H
 have A4 := A_ A40;clear A40
 obtain rfl := Option.some.inj H
 go_enter Try.func59, Try.ntmps59
 go_wp2_with (first | ((with_reducible refine gate_callee (f := 88) rfl ?_); refine gl_ (some 8) Try.func88 #[.int .i64 a0] ?_; (with_reducible refine (r2_Top.calls k a0 t348 _ A3.out).mono ?_); rintro e w' ⟨rfl, ⟨nd, rfl⟩⟩; refine ⟨_, rfl, ?_⟩) | ((with_reducible refine gate_callee (f := 17) rfl ?_); refine gl_ (some 9) Try.func17 #[.int .i64 a0, .bool a1, .int .i64 t348, .int .u64 0] ?_; (with_reducible refine (r2_Make.calls k a0 a1 t348 0 t349 _ A4.out).mono ?_); rintro e w' ⟨rfl, ⟨nd, rfl⟩⟩; refine ⟨_, rfl, ?_⟩))
 go_ret
 exact ⟨sm_, by repeat (first | exact Drawn0.refl _ | apply Drawn0.step)⟩
def r1_Div.l0 : Nat → Int → List Int → List Int → List Int → Option (List Int × List Int)
 | 0, _, _, _, _ => none
 | k + 1, x8, x426000, x429000, x430000 => if x8 ≥ 0 then ((r1_Shl.f k x426000 x8).bind fun t432 => ((r1_Cmp.f k x430000 t432).bind fun t436 => (if t436 ≥ 0 then ((r1_Sub.f k x430000 t432).bind fun t437 => ((r1_Of.f k 1).bind fun t440 => ((r1_Shl.f k t440 x8).bind fun t443 => ((r1_Add.f k x429000 t443).bind fun t446 => (r1_Div.l0 k (wrap64 (x8 - 1)) x426000 t446 t437))))) else (r1_Div.l0 k (wrap64 (x8 - 1)) x426000 x429000 x430000)))) else (some (x429000, x430000))
def r1_Div.f (k : Nat) (l0_0 : List Int) (l1_0 : List Int) : Option (List Int × List Int) := (r1_Len.f k l0_0).bind fun t430 => ((r1_Len.f k l1_0).bind fun t431 => (r1_Div.l0 k (wrap64 (t430 - t431)) l1_0 ([] : List Int) l0_0))
theorem r1_Div.mono_l : ∀ k, (∀ y0 y1 y2 y3, LeO (r1_Div.l0 k y0 y1 y2 y3) (r1_Div.l0 (k + 1) y0 y1 y2 y3))
 | 0 => fun _ _ _ _ r h => by simp [r1_Div.l0] at h
 | k + 1 => by
  have ih0 := r1_Div.mono_l k
  ·intro y0 y1 y2 y3
   unfold r1_Div.l0
   repeat' first
   | (with_reducible exact ih0 _ _ _ _)
   | (with_reducible exact r1_Add.mono _ _ _)
   | (with_reducible exact r1_Cmp.mono _ _ _)
   | (with_reducible exact r1_Len.mono _ _)
   | (with_reducible exact r1_Of.mono _ _)
   | (with_reducible exact r1_Shl.mono _ _ _)
   | (with_reducible exact r1_Sub.mono _ _ _)
   | (with_reducible exact LeO.refl _)
   | (with_reducible exact LeO.none _)
   | (with_reducible refine LeO.ite ?_ ?_)
   | (with_reducible refine LeO.bind ?_ (fun _ => ?_))
   | exact ih0 _ _ _ _
   | exact r1_Add.mono _ _ _
   | exact r1_Cmp.mono _ _ _
   | exact r1_Len.mono _ _
   | exact r1_Of.mono _ _
   | exact r1_Shl.mono _ _ _
   | exact r1_Sub.mono _ _ _
   | exact LeO.none _
   | refine LeO.ite ?_ ?_
   | refine LeO.bind ?_ (fun _ => ?_)
theorem r1_Div.mono : ∀ a0 a1 k, LeO (r1_Div.f k a0 a1) (r1_Div.f (k + 1) a0 a1) := by
 intro a0 a1 k
 have ih0 := r1_Div.mono_l k
 unfold r1_Div.f
 repeat' first
   | (with_reducible exact ih0 _ _ _ _)
   | (with_reducible exact r1_Add.mono _ _ _)
   | (with_reducible exact r1_Cmp.mono _ _ _)
   | (with_reducible exact r1_Len.mono _ _)
   | (with_reducible exact r1_Of.mono _ _)
   | (with_reducible exact r1_Shl.mono _ _ _)
   | (with_reducible exact r1_Sub.mono _ _ _)
   | (with_reducible exact LeO.refl _)
   | (with_reducible exact LeO.none _)
   | (with_reducible refine LeO.ite ?_ ?_)
   | (with_reducible refine LeO.bind ?_ (fun _ => ?_))
   | exact ih0 _ _ _ _
   | exact r1_Add.mono _ _ _
   | exact r1_Cmp.mono _ _ _
   | exact r1_Len.mono _ _
   | exact r1_Of.mono _ _
   | exact r1_Shl.mono _ _ _
   | exact r1_Sub.mono _ _ _
   | exact LeO.none _
   | refine LeO.ite ?_ ?_
   | refine LeO.bind ?_ (fun _ => ?_)
-- IMPORT Derived.Deep.RegionHeld3
-- IMPORT Derived.Test.YtbpmnmceajmmcaaNr
theorem Nr.len (k : Nat) (v : Value) (l : List Int) (r : Int) (w : World) (n : Nr.Nr w v l) (h : r1_Len.f k l = some r) : Calls Try.prog 96 #[.agg #[v]] w fun e w' => e = .returned (.int .i64 r) ∧ Below w.heap.size w w' := by
 obtain ⟨A, c, rfl, hc, hC⟩ := n
 exact r1_Len.calls k A c l r w hC hc h
theorem Nr.cmp (k : Nat) (v v1 : Value) (l l1 : List Int) (r : Int) (w : World) (n : Nr.Nr w v l) (n1 : Nr.Nr w v1 l1) (h : r1_Cmp.f k l l1 = some r) : Calls Try.prog 113 #[.agg #[v], .agg #[v1]] w fun e w' => e = .returned (.int .i64 r) ∧ Below w.heap.size w w' := by
 obtain ⟨A, c, rfl, hc, hC⟩ := n
 obtain ⟨A1, c1, rfl, hc1, hC1⟩ := n1
 exact r1_Cmp.calls k A c l A1 c1 l1 r w hC hc hC1 hc1 h
theorem Nr.outR {f : Nat} {xs : Array Value} {w : World} {r : List Int} (h : Calls Try.prog f xs w fun e w' => ∃ v0_ : Value, e = .returned (.agg #[v0_]) ∧ Kd.R (Kd.int .u64) 22 w' w.heap.size (fun _ => True) v0_ r ∧ Below w.heap.size w w') : Calls Try.prog f xs w fun e w' => ∃ A c, e = .returned (.agg #[.slice A r.length c]) ∧ Nr.Ow 22 w.heap.size w' (.slice A r.length c) r ∧ Below w.heap.size w w' := by
 refine h.mono ?_
 rintro e w' ⟨v0, rfl, hR, hb⟩
 obtain ⟨A, c, rfl, _⟩ := Nr.Nr.of_R hR
 exact ⟨A, c, rfl, Nr.Ow.of_R hR (Nat.le_refl _), hb⟩
theorem Nr.shl (k : Nat) (v : Value) (l : List Int) (a : Int) (r : List Int) (w : World) (n : Nr.Nr w v l) (h : r1_Shl.f k l a = some r) : Calls Try.prog 78 #[.agg #[v], .int .i64 a] w fun e w' => ∃ A c, e = .returned (.agg #[.slice A r.length c]) ∧ Nr.Ow 22 w.heap.size w' (.slice A r.length c) r ∧ Below w.heap.size w w' := by
 obtain ⟨A, c, rfl, hc, hC⟩ := n
 exact Nr.outR (r1_Shl.calls k A c l a r w hC hc h)
theorem Nr.sub (k : Nat) (v v1 : Value) (l l1 : List Int) (r : List Int) (w : World) (n : Nr.Nr w v l) (n1 : Nr.Nr w v1 l1) (h : r1_Sub.f k l l1 = some r) : Calls Try.prog 118 #[.agg #[v], .agg #[v1]] w fun e w' => ∃ A c, e = .returned (.agg #[.slice A r.length c]) ∧ Nr.Ow 22 w.heap.size w' (.slice A r.length c) r ∧ Below w.heap.size w w' := by
 obtain ⟨A, c, rfl, hc, hC⟩ := n
 obtain ⟨A1, c1, rfl, hc1, hC1⟩ := n1
 exact Nr.outR (r1_Sub.calls k A c l A1 c1 l1 r w hC hc hC1 hc1 h)
theorem Nr.add (k : Nat) (v v1 : Value) (l l1 : List Int) (r : List Int) (w : World) (n : Nr.Nr w v l) (n1 : Nr.Nr w v1 l1) (h : r1_Add.f k l l1 = some r) : Calls Try.prog 80 #[.agg #[v], .agg #[v1]] w fun e w' => ∃ A c, e = .returned (.agg #[.slice A r.length c]) ∧ Nr.Ow 22 w.heap.size w' (.slice A r.length c) r ∧ Below w.heap.size w w' := by
 obtain ⟨A, c, rfl, hc, hC⟩ := n
 obtain ⟨A1, c1, rfl, hc1, hC1⟩ := n1
 exact Nr.outR (r1_Add.calls k A c l A1 c1 l1 r w hC hc hC1 hc1 h)
theorem Nr.of (k : Nat) (a : Int) (r : List Int) (w : World) (h : r1_Of.f k a = some r) : Calls Try.prog 62 #[.int .u64 a] w fun e w' => ∃ A c, e = .returned (.agg #[.slice A r.length c]) ∧ Nr.Ow 22 w.heap.size w' (.slice A r.length c) r ∧ Below w.heap.size w w' :=
 Nr.outR (r1_Of.calls k a r w h)
theorem Nr.lower {e b b' : Nat} {w : World} {v : Value} {l : List Int} (h : Nr.Ow e b w v l) (hb : b' ≤ b) : Nr.Ow e b' w v l := Nr.Ow.of_R h.out hb
theorem Nr.fresh {P : Nat → Prop} {e e' base : Nat} {w0 w1 : World} {vq vr : Value} {lq lr : List Int} (hq : Nr.Ow e base w0 vq lq) (hr : Nr.Ow e' w0.heap.size w1 vr lr) (hb : base ≤ w0.heap.size) : Nr.At (fun k => (P k ∨ base ≤ k) ∧ some k ≠ vq.ownBlock) vr :=
 (Nr.At.of_R hr.out).mono fun k hk => ⟨Or.inr (Nat.le_trans hb hk.1), fun e => Nat.lt_irrefl _ (Nat.lt_of_lt_of_le (Kd.R_lt hq.out k e.symm) hk.1)⟩
theorem Nr.atlt {w : World} {v : Value} {l : List Int} (h : Nr.Nr w v l) : Nr.At (fun k => k < w.heap.size) v := by
 obtain ⟨A, c, hv, hl, h1, h2, h3⟩ := h
 intro ad n c' e hn
 rw [hv] at e
 injection e with e1 e2 e3
 subst e2
 obtain ⟨ad', e4, h4⟩ := h3 hn
 rw [e1] at e4
 injection e4 with e4
 subst e4
 obtain ⟨x, hx⟩ : ∃ x, l[0]? = some x := ⟨l[0]'hn, List.getElem?_eq_getElem hn⟩
 obtain ⟨cs, k1, k2, k3⟩ := h4 0 x hx
 have k2' : cs = [Value.int .u64 x] := k2
 have := World.block_lt_of_cell? w _ (k3 0 (.int .u64 x) (by rw [k2']; rfl))
 rwa [add_block] at this
theorem Nr.other {P : Nat → Prop} {e' : Nat} {w0 w1 : World} {vq vq' vr : Value} {lq' lr : List Int} (ha : Nr.At (fun k => P k ∧ some k ≠ vq.ownBlock) vr) (hn : Nr.Nr w0 vr lr) (hq : Nr.Ow e' w0.heap.size w1 vq' lq') : Nr.At (fun k => P k ∧ some k ≠ vq'.ownBlock) vr := fun ad n c e hn' =>
 ⟨(ha ad n c e hn').1, fun e2 => Nat.lt_irrefl _ (Nat.lt_of_lt_of_le (Nr.atlt hn ad n c e hn') (Kd.R_base hq.out _ e2.symm))⟩
theorem Nr.undrew {w w1 : World} (h : Below w.drew.heap.size w.drew w1) : Below w.heap.size w w1 := below_step (below_drew1 (Below.refl _ _)) h
theorem Nr.unalloc {w w1 : World} {o : Obj} (h : Below (w.alloc o).heap.size (w.alloc o) w1) : Below w.heap.size w w1 := below_step (below_alloc (Below.refl _ _) o) h
theorem Nr.newlt {w w1 : World} {o : Obj} (h : Below (w.alloc o).heap.size (w.alloc o) w1) : w.heap.size < w1.heap.size := by
 have := h.size
 simp at this
 omega
theorem Nr.newcell {w w1 : World} {v : Value} {ty : Nat} (h : Below (w.alloc (.cells #[v] ty)).heap.size (w.alloc (.cells #[v] ty)) w1) : w1.cell? ⟨w.heap.size, 0, none⟩ = some v := by
 rw [(Nr.bcell h).1 _ _ (by simp)]
 exact (World.cell?_alloc_new _ _ _ _).trans rfl
theorem r1_Div.calls (k : Nat) (P0_0_ : Nat → Prop) (A0_0 : Option Addr) (c0_0 : Nat) (l0_0 : List Int) (A1_0 : Option Addr) (c1_0 : Nat) (l1_0 : List Int) (r1 : List Int) (r2 : List Int) (w : World) (hs0_0 : Kd.V (Kd.int .u64) 22 w w.heap.size (fun k_ => P0_0_ k_) (.slice A0_0 l0_0.length c0_0) l0_0) (hr1_0 : Kd.C (Kd.int .u64) w A1_0 l1_0.length l1_0) (hc1_0 : l1_0.length ≤ c1_0) (h : r1_Div.f k l0_0 l1_0 = some (r1, r2)) :
  Calls Try.prog 115 #[.agg #[.slice A0_0 l0_0.length c0_0], .agg #[.slice A1_0 l1_0.length c1_0]] w fun e w' => ∃ v0_ v1_ : Value, e = .returned (.tuple #[.agg #[v0_], .agg #[v1_]]) ∧ Kd.R (Kd.int .u64) 22 w' w.heap.size (fun k_ => (w.heap.size ≤ k_)) v0_ r1 ∧ Kd.V (Kd.int .u64) 22 w' w.heap.size (fun k_ => (P0_0_ k_ ∨ w.heap.size ≤ k_) ∧ some k_ ≠ (v0_ : Value).ownBlock) v1_ r2 ∧ Below w.heap.size w w' := by
 obtain ⟨t0, A0, H⟩ := ob_ h
 obtain ⟨t1, A1, H⟩ := ob_ H
 have L0 := A_ A0;have L1 := A_ A1;have HL := A_ H;clear h A0 A1 H
 have NA := Nr.Nr.of_V hs0_0
 have AA := A_ (Nr.At.of_V hs0_0)
 have NB := Nr.Nr.of_C hc1_0 hr1_0
 clear hs0_0 hr1_0
 go_enter Try.func115, Try.ntmps115
 go_wp2
 go_region_held3 (fun w' => w'.cell? ⟨w.heap.size, 0, none⟩ = some (.slice A0_0 l0_0.length c0_0) ∧ w'.cell? ⟨w.heap.size + 1, 0, none⟩ = some (.slice A1_0 l1_0.length c1_0) ∧ w'.cell? ⟨w.heap.size + 2, 0, none⟩ = some (.slice none 0 0) ∧ w'.cell? ⟨w.heap.size + 3, 0, none⟩ = some (.slice none 0 0) ∧ w'.cell? ⟨w.heap.size + 4, 0, none⟩ = some (.slice none 0 0) ∧ w'.cell? ⟨w.heap.size + 5, 0, none⟩ = some (.slice A0_0 l0_0.length c0_0) ∧ w'.frozen? ⟨w.heap.size + 2, 0, none⟩ = false ∧ w'.frozen? ⟨w.heap.size + 3, 0, none⟩ = false ∧ w'.frozen? ⟨w.heap.size + 4, 0, none⟩ = false ∧ w'.frozen? ⟨w.heap.size + 5, 0, none⟩ = false ∧ w.heap.size + 5 < w'.heap.size ∧ Nr.Nr w' (.slice A0_0 l0_0.length c0_0) l0_0 ∧ Nr.Nr w' (.slice A1_0 l1_0.length c1_0) l1_0 ∧ Nr.Ow 22 w.heap.size w' (.slice none 0 0) [] ∧ Below w.heap.size w w')
  (((try go_split_ands); (try dsimp only); (repeat' apply And.intro) <;> first | assumption | (rw [hc _ _ (by omega)]; assumption) | (rw [hf _ _ (by omega)]; assumption) | (rw [Nr.al (by omega)]; assumption) | (rw [Nr.alf (by omega)]; assumption) | (apply Nr.lt_al; assumption) | (have := hb.size; omega) | (refine Nr.Nr.below ?_ hb; assumption) | (apply Nr.Nr.drew; (repeat apply Nr.Nr.alloc); assumption) | (apply Nr.Nr.alloc; assumption) | (apply Nr.Nr.drew; assumption) | (exact Nr.Ow.nil _ _ _) | (refine Nr.Ow.below ?_ hb; assumption) | (apply Nr.Ow.alloc; assumption) | (apply Nr.Ow.drew; assumption) | (refine below_step ?_ hb; assumption) | (simp [go_sem, World.cell?_alloc_past]; done) | (repeat (first | assumption | exact Below.refl _ _ | apply below_drew1 | apply below_alloc | (refine below_set ?_ (by omega))))))
  ((first | (go_at_call 96; (try go_split_ands); refine (Nr.len k _ l0_0 t0 _ ?_ L0.out).mono ?_; (assumption); rintro e w1 ⟨rfl, hb⟩; obtain ⟨hc, hf⟩ := Nr.bcell hb) | (go_at_call 96; (try go_split_ands); refine (Nr.len k _ l1_0 t1 _ ?_ L1.out).mono ?_; (assumption); rintro e w2 ⟨rfl, hb⟩; obtain ⟨hc, hf⟩ := Nr.bcell hb)))
 rename_i hH
 obtain ⟨q0, q1, q2, q3, q4, q5, f2, f3, f4, f5, hz, nr, nb, ow, bl⟩ := hH
 (repeat clear hc hf)
 (repeat clear hb)
 go_wp2
 iterate 30 (rename_i left_; clear left_)
 rename_i hK
 clear H
 have at0 : Nr.At (fun k_ => (P0_0_ k_ ∨ w.heap.size ≤ k_) ∧ some k_ ≠ (Value.slice none 0 0).ownBlock) (.slice A0_0 l0_0.length c0_0) := AA.out.mono fun k hk => ⟨Or.inl hk, fun e => by cases e⟩
 go_loopg [8] k (fun kq v8 w' => ∃ (x : Int) (Aq : Option Addr) (cq : Nat) (lq : List Int) (Ar : Option Addr) (cr : Nat) (lr : List Int), v8 = .int .i64 x ∧ Aside0 (r1_Div.l0 kq x l1_0 lq lr = some (r1, r2)) ∧ Aside0 (w'.cell? ⟨w.heap.size + 1, 0, none⟩ = some (.slice A1_0 l1_0.length c1_0) ∧ w'.cell? ⟨w.heap.size + 2, 0, none⟩ = some (.slice none 0 0) ∧ w'.cell? ⟨w.heap.size + 3, 0, none⟩ = some (.slice none 0 0) ∧ w'.cell? ⟨w.heap.size + 4, 0, none⟩ = some (.slice Aq lq.length cq) ∧ w'.cell? ⟨w.heap.size + 5, 0, none⟩ = some (.slice Ar lr.length cr) ∧ w'.frozen? ⟨w.heap.size + 2, 0, none⟩ = false ∧ w'.frozen? ⟨w.heap.size + 3, 0, none⟩ = false ∧ w'.frozen? ⟨w.heap.size + 4, 0, none⟩ = false ∧ w'.frozen? ⟨w.heap.size + 5, 0, none⟩ = false ∧ w.heap.size + 5 < w'.heap.size ∧ Nr.Nr w' (.slice A1_0 l1_0.length c1_0) l1_0 ∧ Nr.Nr w' (.slice Ar lr.length cr) lr ∧ Nr.Ow 22 (w.heap.size + 6) w' (.slice Aq lq.length cq) lq ∧ Nr.At (fun k_ => (P0_0_ k_ ∨ w.heap.size ≤ k_) ∧ some k_ ≠ (Value.slice Aq lq.length cq).ownBlock) (.slice Ar lr.length cr) ∧ Below w.heap.size w w'))
 case atStart => exact ⟨_, none, 0, [], A0_0, c0_0, l0_0, by rw [i64_w], HL, q1, q2, q3, q4, q5, f2, f3, f4, f5, hz, nb, nr, Nr.Ow.nil _ _ _, at0, bl⟩
 case round =>
  (repeat clear q0 q1 q2 q3 q4 q5 f2 f3 f4 f5 hz nr ow bl at0 nb)
  obtain ⟨x, Aq, cq, lq, Ar, cr, lr, rfl, E, F⟩ := hrel
  obtain ⟨q1, q2, q3, q4, q5, f2, f3, f4, f5, hz, nb, nr, ow, at0, bl⟩ := F.out
  clear F HL
  obtain _ | kr := gk
  ·cases E.out
  have E := E.out
  unfold r1_Div.l0 at E
  by_cases hx : x ≥ 0
  ·rw [if_pos hx] at E
   have c0 : decide (0 ≤ x) = true := decide_eq_true hx
   obtain ⟨t, T0, E⟩ := ob_ E
   obtain ⟨u, T1, E⟩ := ob_ E
   replace T0 := A_ T0;replace T1 := A_ T1;replace hx := A_ hx
   by_cases hu : u ≥ 0
   ·rw [if_pos hu] at E
    obtain ⟨s, S0, E⟩ := ob_ E
    obtain ⟨o1, S1, E⟩ := ob_ E
    obtain ⟨o2, S2, E⟩ := ob_ E
    obtain ⟨q', S3, E⟩ := ob_ E
    replace S0 := A_ S0;replace S1 := A_ S1;replace S2 := A_ S2;replace S3 := A_ S3;have EE := A_ E;clear E
    have cu : decide (0 ≤ u) = true := decide_eq_true hu
    clear hu
    go_wp2_with (first | (go_at_call 78; refine (Nr.shl kr _ l1_0 x t _ nb T0.out).mono ?_; rintro e w1 ⟨At, ct, rfl, ot, hb⟩; (try replace hb := Nr.undrew hb); obtain ⟨hc, hf⟩ := Nr.bcell hb; have hs := hb.size; replace q1 := (hc _ _ (by omega)).trans q1; replace q2 := (hc _ _ (by omega)).trans q2; replace q3 := (hc _ _ (by omega)).trans q3; replace q4 := (hc _ _ (by omega)).trans q4; replace q5 := (hc _ _ (by omega)).trans q5; replace f2 := (hf _ _ (by omega)).trans f2; replace f3 := (hf _ _ (by omega)).trans f3; replace f4 := (hf _ _ (by omega)).trans f4; replace f5 := (hf _ _ (by omega)).trans f5; replace nb := Nr.Nr.below nb hb; replace nr := Nr.Nr.below nr hb; replace ow := Nr.Ow.below ow hb; replace bl := below_step bl hb; replace hz := Nat.lt_of_lt_of_le hz hs; clear hc hf hs hb) | (go_at_call 113; refine (Nr.cmp kr _ _ lr t u _ (Nr.Nr.alloc nr _) (Nr.Nr.alloc ot.nr _) T1.out).mono ?_; rintro e w2 ⟨rfl, hb⟩; have tq := Nr.newcell hb; have ht := Nr.newlt hb; replace hb := Nr.unalloc hb; (try replace hb := Nr.undrew hb); obtain ⟨hc, hf⟩ := Nr.bcell hb; have hs := hb.size; replace q1 := (hc _ _ (by omega)).trans q1; replace q2 := (hc _ _ (by omega)).trans q2; replace q3 := (hc _ _ (by omega)).trans q3; replace q4 := (hc _ _ (by omega)).trans q4; replace q5 := (hc _ _ (by omega)).trans q5; replace f2 := (hf _ _ (by omega)).trans f2; replace f3 := (hf _ _ (by omega)).trans f3; replace f4 := (hf _ _ (by omega)).trans f4; replace f5 := (hf _ _ (by omega)).trans f5; replace nb := Nr.Nr.below nb hb; replace nr := Nr.Nr.below nr hb; replace ow := Nr.Ow.below ow hb; replace ot := Nr.Ow.below ot hb; replace bl := below_step bl hb; replace hz := Nat.lt_of_lt_of_le hz hs; clear hc hf hs hb) | (go_at_call 118; refine (Nr.sub kr _ _ lr t s _ nr ot.nr S0.out).mono ?_; rintro e w3 ⟨As, cs, rfl, os, hb⟩; have at1 := Nr.fresh (P := P0_0_) (Nr.lower ow (b' := w.heap.size) (by omega)) os (by omega); replace os := Nr.lower os (b' := w.heap.size + 6) (by omega); (try replace hb := Nr.undrew hb); obtain ⟨hc, hf⟩ := Nr.bcell hb; have hs := hb.size; replace q1 := (hc _ _ (by omega)).trans q1; replace q2 := (hc _ _ (by omega)).trans q2; replace q3 := (hc _ _ (by omega)).trans q3; replace q4 := (hc _ _ (by omega)).trans q4; replace q5 := (hc _ _ (by omega)).trans q5; replace f2 := (hf _ _ (by omega)).trans f2; replace f3 := (hf _ _ (by omega)).trans f3; replace f4 := (hf _ _ (by omega)).trans f4; replace f5 := (hf _ _ (by omega)).trans f5; replace nb := Nr.Nr.below nb hb; replace nr := Nr.Nr.below nr hb; replace ow := Nr.Ow.below ow hb; replace ot := Nr.Ow.below ot hb; replace bl := below_step bl hb; replace hz := Nat.lt_of_lt_of_le hz hs; clear hc hf hs hb))
    generalize hW : World.setCell _ _ _ = w4
    have hz4 : w4.heap.size = w3.heap.size := by rw [← hW]; simp
    have hc : ∀ b, b ≠ w.heap.size + 5 → w4.cell? ⟨b, 0, none⟩ = w3.cell? ⟨b, 0, none⟩ := fun b hb => by rw [← hW]; exact World.cell?_setCell_far _ _ _ _ (fun e => hb e.symm)
    have hf : ∀ b, w4.frozen? ⟨b, 0, none⟩ = w3.frozen? ⟨b, 0, none⟩ := fun b => by rw [← hW]; exact World.frozen?_setCell _ _ _ _
    have hi : Nr.IsRow (w3.cell? ⟨w.heap.size + 5, 0, none⟩) := by rw [q5]; exact Nr.IsRow.slice _ _ _
    replace q5 : w4.cell? ⟨w.heap.size + 5, 0, none⟩ = some (.slice As s.length cs) := by rw [← hW]; exact World.cell?_setCell_same _ _ _ q5
    replace q1 := (hc _ (by omega)).trans q1
    replace q2 := (hc _ (by omega)).trans q2
    replace q3 := (hc _ (by omega)).trans q3
    replace q4 := (hc _ (by omega)).trans q4
    replace f2 := (hf _).trans f2
    replace f3 := (hf _).trans f3
    replace f4 := (hf _).trans f4
    replace f5 := (hf _).trans f5
    replace nb : Nr.Nr w4 (.slice A1_0 l1_0.length c1_0) l1_0 := by rw [← hW]; exact Nr.Nr.set nb _ hi
    replace ow : Nr.Ow 22 (w.heap.size + 6) w4 (.slice Aq lq.length cq) lq := by rw [← hW]; exact Nr.Ow.set ow _ (fun e => by have h6 : _ ≤ w.heap.size + 5 := Kd.R_base ow.out _ e; omega)
    replace os : Nr.Ow 22 (w.heap.size + 6) w4 (.slice As s.length cs) s := by rw [← hW]; exact Nr.Ow.set os _ (fun e => by have h6 : _ ≤ w.heap.size + 5 := Kd.R_base os.out _ e; omega)
    replace bl : Below w.heap.size w w4 := by rw [← hW]; exact below_set bl (by omega)
    replace hz : w.heap.size + 5 < w4.heap.size := by omega
    clear hW hc hf hi hz4
    replace nr := os.nr
    clear os
    go_region_with (first | (go_at_call 62; refine (Nr.of kr 1 o1 _ S1.out).mono ?_; rintro e w5 ⟨Ao, co, rfl, oo, hb⟩; (try replace hb := Nr.undrew hb); obtain ⟨hc, hf⟩ := Nr.bcell hb; have hs := hb.size; replace q1 := (hc _ _ (by omega)).trans q1; replace q2 := (hc _ _ (by omega)).trans q2; replace q3 := (hc _ _ (by omega)).trans q3; replace q4 := (hc _ _ (by omega)).trans q4; replace q5 := (hc _ _ (by omega)).trans q5; replace f2 := (hf _ _ (by omega)).trans f2; replace f3 := (hf _ _ (by omega)).trans f3; replace f4 := (hf _ _ (by omega)).trans f4; replace f5 := (hf _ _ (by omega)).trans f5; replace nb := Nr.Nr.below nb hb; replace nr := Nr.Nr.below nr hb; replace ow := Nr.Ow.below ow hb; replace bl := below_step bl hb; replace hz := Nat.lt_of_lt_of_le hz hs; clear hc hf hs hb) | (go_at_call 78; refine (Nr.shl kr _ o1 x o2 _ oo.nr S2.out).mono ?_; rintro e w6 ⟨Ap, cp, rfl, op, hb⟩; (try replace hb := Nr.undrew hb); obtain ⟨hc, hf⟩ := Nr.bcell hb; have hs := hb.size; replace q1 := (hc _ _ (by omega)).trans q1; replace q2 := (hc _ _ (by omega)).trans q2; replace q3 := (hc _ _ (by omega)).trans q3; replace q4 := (hc _ _ (by omega)).trans q4; replace q5 := (hc _ _ (by omega)).trans q5; replace f2 := (hf _ _ (by omega)).trans f2; replace f3 := (hf _ _ (by omega)).trans f3; replace f4 := (hf _ _ (by omega)).trans f4; replace f5 := (hf _ _ (by omega)).trans f5; replace nb := Nr.Nr.below nb hb; replace nr := Nr.Nr.below nr hb; replace ow := Nr.Ow.below ow hb; replace oo := Nr.Ow.below oo hb; replace bl := below_step bl hb; replace hz := Nat.lt_of_lt_of_le hz hs; clear hc hf hs hb) | (go_at_call 80; refine (Nr.add kr _ _ lq o2 q' _ ow.nr op.nr S3.out).mono ?_; rintro e w7 ⟨Az, cz, rfl, oz, hb⟩; have at2 := Nr.other at1 nr oz; have oz := Nr.lower oz (b' := w.heap.size + 6) (by omega); (try replace hb := Nr.undrew hb); obtain ⟨hc, hf⟩ := Nr.bcell hb; have hs := hb.size; replace q1 := (hc _ _ (by omega)).trans q1; replace q2 := (hc _ _ (by omega)).trans q2; replace q3 := (hc _ _ (by omega)).trans q3; replace q4 := (hc _ _ (by omega)).trans q4; replace q5 := (hc _ _ (by omega)).trans q5; replace f2 := (hf _ _ (by omega)).trans f2; replace f3 := (hf _ _ (by omega)).trans f3; replace f4 := (hf _ _ (by omega)).trans f4; replace f5 := (hf _ _ (by omega)).trans f5; replace nb := Nr.Nr.below nb hb; replace nr := Nr.Nr.below nr hb; replace ow := Nr.Ow.below ow hb; replace bl := below_step bl hb; replace hz := Nat.lt_of_lt_of_le hz hs; clear hc hf hs hb))
    all_goals (
     generalize hW : World.setCell _ _ _ = w8
     have hz4 : w8.heap.size = w7.heap.size := by rw [← hW]; simp
     have hc : ∀ b, b ≠ w.heap.size + 4 → w8.cell? ⟨b, 0, none⟩ = w7.cell? ⟨b, 0, none⟩ := fun b hb => by rw [← hW]; exact World.cell?_setCell_far _ _ _ _ (fun e => hb e.symm)
     have hf : ∀ b, w8.frozen? ⟨b, 0, none⟩ = w7.frozen? ⟨b, 0, none⟩ := fun b => by rw [← hW]; exact World.frozen?_setCell _ _ _ _
     have hi : Nr.IsRow (w7.cell? ⟨w.heap.size + 4, 0, none⟩) := by rw [q4]; exact Nr.IsRow.slice _ _ _
     replace q4 : w8.cell? ⟨w.heap.size + 4, 0, none⟩ = some (.slice Az q'.length cz) := by rw [← hW]; exact World.cell?_setCell_same _ _ _ q4
     replace q1 := (hc _ (by omega)).trans q1
     replace q2 := (hc _ (by omega)).trans q2
     replace q3 := (hc _ (by omega)).trans q3
     replace q5 := (hc _ (by omega)).trans q5
     replace f2 := (hf _).trans f2
     replace f3 := (hf _).trans f3
     replace f4 := (hf _).trans f4
     replace f5 := (hf _).trans f5
     replace nb : Nr.Nr w8 (.slice A1_0 l1_0.length c1_0) l1_0 := by rw [← hW]; exact Nr.Nr.set nb _ hi
     replace nr : Nr.Nr w8 (.slice As s.length cs) s := by rw [← hW]; exact Nr.Nr.set nr _ hi
     replace oz : Nr.Ow 22 (w.heap.size + 6) w8 (.slice Az q'.length cz) q' := by rw [← hW]; exact Nr.Ow.set oz _ (fun e => by have h6 : _ ≤ w.heap.size + 4 := Kd.R_base oz.out _ e; omega)
     replace bl : Below w.heap.size w w8 := by rw [← hW]; exact below_set bl (by omega)
     replace hz : w.heap.size + 5 < w8.heap.size := by omega
     clear hW hc hf hi hz4
     go_wp2
     go_roundg kr
     case measure => omega
     case rel => exact ⟨_, Az, cz, q', As, cs, s, rfl, EE, ⟨q1, q2, q3, q4, q5, f2, f3, f4, f5, hz, nb, nr, oz, at2, bl⟩⟩)
   ·rw [if_neg hu] at E
    have EE := A_ E;clear E
    have cu : decide (0 ≤ u) = false := decide_eq_false hu
    clear hu
    go_wp2_with (first | (go_at_call 78; refine (Nr.shl kr _ l1_0 x t _ nb T0.out).mono ?_; rintro e w1 ⟨At, ct, rfl, ot, hb⟩; (try replace hb := Nr.undrew hb); obtain ⟨hc, hf⟩ := Nr.bcell hb; have hs := hb.size; replace q1 := (hc _ _ (by omega)).trans q1; replace q2 := (hc _ _ (by omega)).trans q2; replace q3 := (hc _ _ (by omega)).trans q3; replace q4 := (hc _ _ (by omega)).trans q4; replace q5 := (hc _ _ (by omega)).trans q5; replace f2 := (hf _ _ (by omega)).trans f2; replace f3 := (hf _ _ (by omega)).trans f3; replace f4 := (hf _ _ (by omega)).trans f4; replace f5 := (hf _ _ (by omega)).trans f5; replace nb := Nr.Nr.below nb hb; replace nr := Nr.Nr.below nr hb; replace ow := Nr.Ow.below ow hb; replace bl := below_step bl hb; replace hz := Nat.lt_of_lt_of_le hz hs; clear hc hf hs hb) | (go_at_call 113; refine (Nr.cmp kr _ _ lr t u _ (Nr.Nr.alloc nr _) (Nr.Nr.alloc ot.nr _) T1.out).mono ?_; rintro e w2 ⟨rfl, hb⟩; have tq := Nr.newcell hb; have ht := Nr.newlt hb; replace hb := Nr.unalloc hb; (try replace hb := Nr.undrew hb); obtain ⟨hc, hf⟩ := Nr.bcell hb; have hs := hb.size; replace q1 := (hc _ _ (by omega)).trans q1; replace q2 := (hc _ _ (by omega)).trans q2; replace q3 := (hc _ _ (by omega)).trans q3; replace q4 := (hc _ _ (by omega)).trans q4; replace q5 := (hc _ _ (by omega)).trans q5; replace f2 := (hf _ _ (by omega)).trans f2; replace f3 := (hf _ _ (by omega)).trans f3; replace f4 := (hf _ _ (by omega)).trans f4; replace f5 := (hf _ _ (by omega)).trans f5; replace nb := Nr.Nr.below nb hb; replace nr := Nr.Nr.below nr hb; replace ow := Nr.Ow.below ow hb; replace ot := Nr.Ow.below ot hb; replace bl := below_step bl hb; replace hz := Nat.lt_of_lt_of_le hz hs; clear hc hf hs hb))
    go_roundg kr
    case measure => omega
    case rel => exact ⟨_, Aq, cq, lq, Ar, cr, lr, rfl, EE, ⟨q1, q2, q3, q4, q5, f2, f3, f4, f5, hz, nb, nr, ow, at0, bl⟩⟩
  ·rw [if_neg hx] at E
   have c0 : decide (0 ≤ x) = false := decide_eq_false hx
   injection E with E
   injection E with E1 E2
   subst E1
   subst E2
   clear hx E
   go_wp2
   go_region
   go_wp2
   have i2 : Nr.IsRow (wr.cell? ⟨w.heap.size + 2, 0, none⟩) := by rw [q2]; exact Nr.IsRow.slice _ _ _
   have e2 := World.cell?_setCell_same _ _ (.slice Aq lq.length cq) q2
   have e3 : (wr.setCell ⟨w.heap.size + 2, 0, none⟩ (.slice Aq lq.length cq)).cell? ⟨w.heap.size + 3, 0, none⟩ = some (.slice none 0 0) := (World.cell?_setCell_far _ _ _ _ (by simp)).trans q3
   have i3 : Nr.IsRow ((wr.setCell ⟨w.heap.size + 2, 0, none⟩ (.slice Aq lq.length cq)).cell? ⟨w.heap.size + 3, 0, none⟩) := by rw [e3]; exact Nr.IsRow.slice _ _ _
   have e4 := World.cell?_setCell_same _ _ (.slice Ar lr.length cr) e3
   have e5 : ((wr.setCell ⟨w.heap.size + 2, 0, none⟩ (.slice Aq lq.length cq)).setCell ⟨w.heap.size + 3, 0, none⟩ (.slice Ar lr.length cr)).cell? ⟨w.heap.size + 2, 0, none⟩ = some (.slice Aq lq.length cq) := (World.cell?_setCell_far _ _ _ _ (by simp)).trans e2
   have ow' := Nr.Ow.drew (Nr.Ow.set (Nr.Ow.set ow (p := ⟨w.heap.size + 2, 0, none⟩) (.slice Aq lq.length cq) (fun e => by have h6 : _ ≤ w.heap.size + 2 := Kd.R_base ow.out _ e; omega)) (p := ⟨w.heap.size + 3, 0, none⟩) (.slice Ar lr.length cr) (fun e => by have h6 : _ ≤ w.heap.size + 3 := Kd.R_base ow.out _ e; omega))
   have nr' := Nr.Nr.drew (Nr.Nr.set (Nr.Nr.set nr (.slice Aq lq.length cq) i2) (.slice Ar lr.length cr) i3)
   exact bodyPost_ret (v := .tuple #[.agg #[.slice Aq lq.length cq], .agg #[.slice Ar lr.length cr]]) (by simp [results, Try.results115, go_sem, e4, e5]) rfl ⟨_, _, rfl, (Nr.lower ow' (by omega)).out, Nr.Nr.toV nr' at0, below_drew1 (below_set (below_set bl (by omega)) (by omega))⟩
def r1_Half.f (k : Nat) (l0_0 : List Int) (a1 : Int) : Option (List Int × Bool) := (r1_Of.f k 1).bind fun t488 => ((r1_Shl.f k t488 a1).bind fun t491 => ((r1_Div.f k l0_0 t491).bind fun bt494 => (some (bt494.1, decide ((bt494.2.length : Int) > 0)))))
theorem r1_Half.mono : ∀ a0 a1 k, LeO (r1_Half.f k a0 a1) (r1_Half.f (k + 1) a0 a1) := by
 intro a0 a1 k
 unfold r1_Half.f
 repeat' first
   | (with_reducible exact r1_Div.mono _ _ _)
   | (with_reducible exact r1_Of.mono _ _)
   | (with_reducible exact r1_Shl.mono _ _ _)
   | (with_reducible exact LeO.refl _)
   | (with_reducible exact LeO.none _)
   | (with_reducible refine LeO.ite ?_ ?_)
   | (with_reducible refine LeO.bind ?_ (fun _ => ?_))
   | exact r1_Div.mono _ _ _
   | exact r1_Of.mono _ _
   | exact r1_Shl.mono _ _ _
   | exact LeO.none _
   | refine LeO.ite ?_ ?_
   | refine LeO.bind ?_ (fun _ => ?_)
-- IMPORT Derived.Deep.RegionHeld3
-- IMPORT Derived.Test.YtbpmnmceajmmcaaNr
theorem Nr.div (k : Nat) (v v1 : Value) (l l1 : List Int) (q r : List Int) (w : World) (n : Nr.Nr w v l) (n1 : Nr.Nr w v1 l1) (h : r1_Div.f k l l1 = some (q, r)) : Calls Try.prog 115 #[.agg #[v], .agg #[v1]] w fun e w' => ∃ A c A1 c1, e = .returned (.tuple #[.agg #[.slice A q.length c], .agg #[.slice A1 r.length c1]]) ∧ Nr.Ow 22 w.heap.size w' (.slice A q.length c) q ∧ Nr.Nr w' (.slice A1 r.length c1) r ∧ Below w.heap.size w w' := by
 have hv := Nr.Nr.toV (e := 22) (base := w.heap.size) (ok := fun _ => True) n (fun _ _ _ _ _ => trivial)
 obtain ⟨A, c, rfl, hc, hC⟩ := n
 obtain ⟨A1, c1, rfl, hc1, hC1⟩ := n1
 refine (r1_Div.calls k (fun _ => True) A c l A1 c1 l1 q r w hv hC1 hc1 h).mono ?_
 rintro e w' ⟨v0, v1, rfl, hR, hV, hb⟩
 obtain ⟨B, d, rfl, _⟩ := Nr.Nr.of_R hR
 obtain ⟨B1, d1, e1, hd1, hC2⟩ := Nr.Nr.of_V hV
 subst e1
 exact ⟨B, d, B1, d1, rfl, Nr.Ow.of_R hR (Nat.le_refl _), ⟨B1, d1, rfl, hd1, hC2⟩, hb⟩
theorem Nr.asz (w : World) (o : Obj) : (w.alloc o).heap.size = w.heap.size + 1 := by simp
theorem Nr.new1 {w w1 : World} {v : Value} {ty : Nat} (h : Below (w.alloc (.cells #[v] ty)).heap.size (w.alloc (.cells #[v] ty)) w1) : w1.cell? ⟨w.heap.size, 0, none⟩ = some v ∧ w1.frozen? ⟨w.heap.size, 0, none⟩ = false ∧ w.heap.size < w1.heap.size := by
 refine ⟨Nr.newcell h, ?_, Nr.newlt h⟩
 rw [(Nr.bcell h).2 _ _ (by simp)]
 simp [go_sem]
theorem Nr.new2 {w w1 : World} {v v' : Value} {ty ty' : Nat} (h : Below ((w.alloc (.cells #[v] ty)).alloc (.cells #[v'] ty')).heap.size ((w.alloc (.cells #[v] ty)).alloc (.cells #[v'] ty')) w1) :
  (w1.cell? ⟨w.heap.size, 0, none⟩ = some v ∧ w1.frozen? ⟨w.heap.size, 0, none⟩ = false ∧ w.heap.size < w1.heap.size) ∧ w1.cell? ⟨w.heap.size + 1, 0, none⟩ = some v' ∧ w1.frozen? ⟨w.heap.size + 1, 0, none⟩ = false ∧ w.heap.size + 1 < w1.heap.size := by
 have h2 := Nr.new1 h
 rw [Nr.asz] at h2
 refine ⟨Nr.new1 (Nr.unalloc h), h2⟩
theorem Nr.exSH {W w' : World} {b : Nat} {v : Value} (q : W.cell? ⟨b, 0, none⟩ = some v) (z : b < W.heap.size) (hB : Below W.heap.size W w') :
  w'.cell? ⟨b, 0, none⟩ = some v ∧ W.heap.size ≤ w'.heap.size ∧ Below W.heap.size W w' :=
 ⟨((Nr.bcell hB).1 _ _ z).trans q, hB.size, hB⟩
theorem Nr.carry {X w1 w2 : World} {g : Nat} {v : Value} (hb : Below X.heap.size X w2) (hX : Below w1.heap.size w1 X) (h : w1.cell? ⟨g, 0, none⟩ = some v ∧ w1.frozen? ⟨g, 0, none⟩ = false ∧ g < w1.heap.size) :
  w2.cell? ⟨g, 0, none⟩ = some v ∧ w2.frozen? ⟨g, 0, none⟩ = false ∧ g < w2.heap.size := by
 have h2 := below_step hX hb
 exact ⟨((Nr.bcell h2).1 _ _ h.2.2).trans h.1, ((Nr.bcell h2).2 _ _ h.2.2).trans h.2.1, Nat.lt_of_lt_of_le h.2.2 h2.size⟩
theorem r1_Half.calls (k : Nat) (A0_0 : Option Addr) (c0_0 : Nat) (l0_0 : List Int) (a1 : Int) (r1 : List Int) (r2 : Bool) (w : World) (hr0_0 : Kd.C (Kd.int .u64) w A0_0 l0_0.length l0_0) (hc0_0 : l0_0.length ≤ c0_0) (h : r1_Half.f k l0_0 a1 = some (r1, r2)) :
  Calls Try.prog 100 #[.agg #[.slice A0_0 l0_0.length c0_0], .int .i64 a1] w fun e w' => ∃ v0_ : Value, e = .returned (.tuple #[.agg #[v0_], .bool r2]) ∧ Kd.R (Kd.int .u64) 22 w' w.heap.size (fun _ => True) v0_ r1 ∧ Below w.heap.size w w' := by
 obtain ⟨t0, B0, H⟩ := ob_ h
 obtain ⟨t1, B1, H⟩ := ob_ H
 obtain ⟨⟨q, rest⟩, B2, H⟩ := ob_ H
 have T0 := A_ B0;have T1 := A_ B1;have T2 := A_ B2
 simp only [Option.some.injEq, Prod.mk.injEq] at H
 obtain ⟨rfl, hr⟩ := H
 have na := Nr.Nr.of_C hc0_0 hr0_0
 have hr' := A_ hr
 clear h B0 B1 B2 hr0_0 hr hc0_0
 go_enter Try.func100, Try.ntmps100
 go_upto_region 1 with fail
 have x0 : ((w.alloc (.cells #[.slice A0_0 l0_0.length c0_0] 63 (0, 0))).alloc (.cells #[.slice none 0 0] 63 (0, 0))).cell? ⟨w.heap.size, 0, none⟩ = some (.slice A0_0 l0_0.length c0_0) := by simp [go_sem, World.cell?_alloc_past]
 have x1 : ((w.alloc (.cells #[.slice A0_0 l0_0.length c0_0] 63 (0, 0))).alloc (.cells #[.slice none 0 0] 63 (0, 0))).cell? ⟨w.heap.size + 1, 0, none⟩ = some (.slice none 0 0) := by simp [go_sem, World.cell?_alloc_past]
 have x2 : ((w.alloc (.cells #[.slice A0_0 l0_0.length c0_0] 63 (0, 0))).alloc (.cells #[.slice none 0 0] 63 (0, 0))).frozen? ⟨w.heap.size + 1, 0, none⟩ = false := by simp [go_sem, World.cell?_alloc_past]
 have x3 : w.heap.size + 1 < ((w.alloc (.cells #[.slice A0_0 l0_0.length c0_0] 63 (0, 0))).alloc (.cells #[.slice none 0 0] 63 (0, 0))).heap.size := by simp [go_sem]
 replace na := Nr.Nr.alloc (Nr.Nr.alloc na (.cells #[.slice A0_0 l0_0.length c0_0] 63 (0, 0))) (.cells #[.slice none 0 0] 63 (0, 0))
 have bl : Below w.heap.size w ((w.alloc (.cells #[.slice A0_0 l0_0.length c0_0] 63 (0, 0))).alloc (.cells #[.slice none 0 0] 63 (0, 0))) := below_alloc (below_alloc (Below.refl _ _) _) _
 generalize hW : (w.alloc (.cells #[.slice A0_0 l0_0.length c0_0] 63 (0, 0))).alloc (.cells #[.slice none 0 0] 63 (0, 0)) = W at x0 x1 x2 x3 na bl ⊢
 clear hW
 have x4 : w.heap.size < W.heap.size := by omega
 go_cut [6, 7] (fun s6 s7 wx => ∃ (g h : Nat) (Aq Ar : Option Addr) (cq cr : Nat), s6 = .pointer (some ⟨g, 0, none⟩) ∧ s7 = .pointer (some ⟨h, 0, none⟩) ∧ W.heap.size ≤ g ∧ W.heap.size ≤ h ∧ wx.cell? ⟨g, 0, none⟩ = some (.slice Aq q.length cq) ∧ wx.cell? ⟨h, 0, none⟩ = some (.slice Ar rest.length cr) ∧ Nr.Ow 22 W.heap.size wx (.slice Aq q.length cq) q ∧ Below W.heap.size W wx)
 case first =>
  go_region_held3 (fun w' => w'.cell? ⟨w.heap.size, 0, none⟩ = some (.slice A0_0 l0_0.length c0_0) ∧ W.heap.size ≤ w'.heap.size ∧ Below W.heap.size W w')
   (((try go_split_ands); (try dsimp only); refine Nr.exSH x0 x4 ?_; (repeat (first | assumption | exact BW3.out | exact BW2.out | exact BW1.out | exact Below.refl _ _ | apply below_drew1 | apply below_alloc | (refine below_set ?_ (by first | omega | (simp [go_sem]; omega))))); done))
   (first
    | (go_at_call 62; refine (Nr.of k 1 t0 _ T0.out).mono ?_; rintro e w1 ⟨At, ct, rfl, ot, hb⟩; (try go_split_ands); have BW1 := A_ (show Below W.heap.size W w1 from below_step (by first | assumption | exact Below.refl _ _) hb); have z1 := BW1.out.size; (try replace hb := Nr.undrew hb); (first | (have N2 := Nr.new2 hb; have ta := A_ N2.1; have tb := A_ N2.2; clear N2) | have ta := A_ (Nr.new1 hb) | skip); (try have y1 := ta.out.2.2); have n0 := A_ ot.nr)
    | (go_at_call 78; refine (Nr.shl k _ t0 a1 t1 _ (by repeat (first | exact n0.out | apply Nr.Nr.alloc | apply Nr.Nr.drew)) T1.out).mono ?_; rintro e w2 ⟨As, cs, rfl, os, hb⟩; (try go_split_ands); have BW2 := A_ (show Below W.heap.size W w2 from below_step (by first | assumption | exact BW1.out) hb); have z2 := BW2.out.size; (try replace ta := A_ (Nr.carry (w1 := w1) hb (by repeat (first | exact Below.refl _ _ | apply below_drew1 | apply below_alloc)) ta.out)); (try replace tb := A_ (Nr.carry (w1 := w1) hb (by repeat (first | exact Below.refl _ _ | apply below_drew1 | apply below_alloc)) tb.out)); (first | (have N2 := Nr.new2 hb; have ua := A_ N2.1; have ub := A_ N2.2; clear N2) | have ua := A_ (Nr.new1 hb) | skip); (try have y2 := ta.out.2.2); (try have y3 := ua.out.2.2); (try have y4 := ub.out.2.2); (try have y5 := tb.out.2.2); have n1 := A_ os.nr)
    | (go_at_call 115; (try go_split_ands); refine (Nr.div k _ _ l0_0 t1 q rest _ (Nr.Nr.below na (by first | assumption | exact BW2.out)) (by repeat (first | exact n1.out | apply Nr.Nr.alloc | apply Nr.Nr.drew)) T2.out).mono ?_; rintro e w3 ⟨Aq, cq, Ar, cr, rfl, oq, nr, hb⟩; have BW3 := A_ (show Below W.heap.size W w3 from below_step (by first | assumption | exact BW2.out) hb); have z3 := BW3.out.size; (try replace ta := A_ (Nr.carry (w1 := w2) hb (by repeat (first | exact Below.refl _ _ | apply below_drew1 | apply below_alloc)) ta.out)); (try replace tb := A_ (Nr.carry (w1 := w2) hb (by repeat (first | exact Below.refl _ _ | apply below_drew1 | apply below_alloc)) tb.out)); (try replace ua := A_ (Nr.carry (w1 := w2) hb (by repeat (first | exact Below.refl _ _ | apply below_drew1 | apply below_alloc)) ua.out)); (try replace ub := A_ (Nr.carry (w1 := w2) hb (by repeat (first | exact Below.refl _ _ | apply below_drew1 | apply below_alloc)) ub.out)); (first | (have N2 := Nr.new2 hb; have va := A_ N2.1; have vb := A_ N2.2; clear N2) | have va := A_ (Nr.new1 hb) | skip); (try have i1 := ta.out.1); (try have i2 := ta.out.2.1); (try have i3 := ta.out.2.2); (try have j1 := tb.out.1); (try have j2 := tb.out.2.1); (try have j3 := tb.out.2.2); (try have k1 := ua.out.1); (try have k2 := ua.out.2.1); (try have k3 := ua.out.2.2); (try have l1 := ub.out.1); (try have l2 := ub.out.2.1); (try have l3 := ub.out.2.2); (try have m1 := va.out.1); (try have m2 := va.out.2.1); (try have m3 := va.out.2.2); (try have p1 := vb.out.1); (try have p2 := vb.out.2.1); (try have p3 := vb.out.2.2); (try have d1 : ¬ (W.heap.size = w1.heap.size) := by omega); (try have d2 : ¬ (w1.heap.size = W.heap.size) := by omega); (try have d3 : ¬ (W.heap.size = w2.heap.size) := by omega); (try have d4 : ¬ (w2.heap.size = W.heap.size) := by omega); (try have d5 : ¬ (w1.heap.size = w2.heap.size) := by omega); (try have d6 : ¬ (w2.heap.size = w1.heap.size) := by omega); have n2 := A_ oq; have n3 := A_ nr))
  all_goals (go_wp2_with fail; go_meet)
  all_goals (
   refine ⟨_, _, Aq, Ar, cq, cr, rfl, rfl, ?_, ?_, ?_, ?_, ?_, ?_⟩
   all_goals first
    | omega
    | (simp; done)
    | (simp; omega)
    | (go_simp; done)
    | (simp [go_sem, World.cell?_alloc_past, *]; done)
    | (repeat (first | exact (Nr.lower n2.out (by first | omega | (simp only [Nr.asz]; omega))) | apply Nr.Ow.alloc | (refine Nr.Ow.set ?_ _ (fun e => by have h6 := Kd.R_base n2.out.out _ e; (try dsimp only at h6); (try simp only [Nr.asz] at h6); omega))))
    | (repeat (first | exact BW3.out | apply below_drew1 | apply below_alloc | (refine below_set ?_ (by omega)))))
 case rest =>
  obtain ⟨g, h, Aq, Ar, cq, cr, rfl, rfl, hg, hh, cg, ch, ow, BW⟩ := hcut
  rename World => V
  have y1 := ((Nr.bcell BW).1 _ _ x3).trans x1
  have y2 := ((Nr.bcell BW).2 _ _ x3).trans x2
  have bl' := below_step bl BW
  have ow' := Nr.lower ow (b' := w.heap.size) (by omega)
  have ng : ¬ (g = w.heap.size + 1) := by omega
  have nh : ¬ (h = w.heap.size + 1) := by omega
  have ng' : ¬ (w.heap.size + 1 = g) := by omega
  have nh' : ¬ (w.heap.size + 1 = h) := by omega
  have hr2 : decide (0 < (rest.length : Int)) = r2 := by rw [← hr'.out]
  clear na x0 x1 x2 BW
  go_step
  go_upto_region 2 with fail
  go_region
  go_wp2
  have hr3 : decide (0 < rest.length) = r2 := by rw [← hr2]; simp
  have e2 := World.cell?_setCell_same _ _ (.slice Aq q.length cq) y1
  have ow2 := Nr.Ow.drew (Nr.Ow.set ow' (p := ⟨w.heap.size + 1, 0, none⟩) (.slice Aq q.length cq) (fun e => by have h6 : _ ≤ w.heap.size + 1 := Kd.R_base ow.out _ e; omega))
  exact bodyPost_ret (v := .tuple #[.agg #[.slice Aq q.length cq], .bool r2]) (by simp [results, Try.results100, go_sem, e2, hr3]) rfl ⟨_, rfl, Nr.Rok ow2.out (Nat.le_refl _) (fun _ _ _ _ => trivial), below_drew1 (below_set bl' (by omega))⟩
def r2_B.f (a0 : Int) : Option (Int) := if a0 = 32 then (some 127) else (some 1023)
theorem r2_B.calls (a0 : Int) (r : Int) (w : World) (h : r2_B.f a0 = some r) :
  Calls Try.prog 18 #[.int .i64 a0] w fun e w' => e = .returned (.int .i64 r) ∧ Drawn0 w w' := by
 have H : (if a0 = 32 then (some 127) else (some 1023)) = some r := h
 clear h
 by_cases c2 : a0 = 32
 ·rw [if_pos c2] at H
  have c2b0 : (a0 == 32) = true := beq_iff_eq.mpr c2
  have c2b1 : (a0 != 32) = false := bne_eq_false_iff_eq.mpr c2
  clear c2
  obtain rfl := Option.some.inj H
  go_enter Try.func18, Try.ntmps18
  go_wp2
  go_ret
  exact ⟨sm_, by repeat (first | exact Drawn0.refl _ | apply Drawn0.step)⟩
 ·rw [if_neg c2] at H
  have c2b0 : (a0 == 32) = false := beq_eq_false_iff_ne.mpr c2
  have c2b1 : (a0 != 32) = true := bne_iff_ne.mpr c2
  obtain rfl := Option.some.inj H
  go_enter Try.func18, Try.ntmps18
  go_wp2
  go_ret
  exact ⟨sm_, by repeat (first | exact Drawn0.refl _ | apply Drawn0.step)⟩
def r3_Low.f (a0 : Int) : Option (Int) := (r2_B.f a0).bind fun t367 => ((r2_F.f a0).bind fun t368 => (some (wrap64 ((wrap64 (1 - t367)) - t368))))
theorem r3_Low.calls (a0 : Int) (r : Int) (w : World) (h : r3_Low.f a0 = some r) :
  Calls Try.prog 97 #[.int .i64 a0] w fun e w' => e = .returned (.int .i64 r) ∧ Drawn0 w w' := by
 have H : ((r2_B.f a0).bind fun t367 => ((r2_F.f a0).bind fun t368 => (some (wrap64 ((wrap64 (1 - t367)) - t368))))) = some r := h
 clear h
 replace H := ob_ H
 obtain ⟨t367, A20, H⟩ := H
 replace H : ((r2_F.f a0).bind fun t368 => (some (wrap64 ((wrap64 (1 - t367)) - t368)))) = some r := H
 have A2 := A_ A20;clear A20
 replace H := ob_ H
 obtain ⟨t368, A30, H⟩ := H
 replace H : (some (wrap64 ((wrap64 (1 - t367)) - t368))) = some r := H
 have A3 := A_ A30;clear A30
 obtain rfl := Option.some.inj H
 go_enter Try.func97, Try.ntmps97
 go_wp2_with (first | ((with_reducible refine gate_callee (f := 18) rfl ?_); refine gl_ (some 4) Try.func18 #[.int .i64 a0] ?_; (with_reducible refine (r2_B.calls a0 t367 _ A2.out).mono ?_); rintro e w' ⟨rfl, ⟨nd, rfl⟩⟩; refine ⟨_, rfl, ?_⟩) | ((with_reducible refine gate_callee (f := 52) rfl ?_); refine gl_ (some 7) Try.func52 #[.int .i64 a0] ?_; (with_reducible refine (r2_F.calls a0 t368 _ A3.out).mono ?_); rintro e w' ⟨rfl, ⟨nd, rfl⟩⟩; refine ⟨_, rfl, ?_⟩))
 go_ret
 exact ⟨sm_, by repeat (first | exact Drawn0.refl _ | apply Drawn0.step)⟩
end Go.Proofs.Ytbpmnmceajmmcaa.PA
