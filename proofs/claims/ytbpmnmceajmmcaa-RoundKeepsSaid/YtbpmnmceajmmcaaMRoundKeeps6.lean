/- What the Go functions that the statement RoundKeeps reaches compute, and the mathematics on it, in the order in which one leans on the other; for every input. -/
import Derived.Test.YtbpmnmceajmmcaaVRoundKeeps0
import Derived.Test.YtbpmnmceajmmcaaMRoundKeeps5
import Derived.Test.YtbpmnmceajmmcaaMRoundKeeps0
import Derived.Deep.RegionHeld3
import Derived.Shelf.Spec.BitsCarry
import Derived.Deep.DeepCutAuto
import Derived.Test.YtbpmnmceajmmcaaMRoundKeeps4
import Derived.Test.YtbpmnmceajmmcaaMRoundKeeps2
import Derived.Test.YtbpmnmceajmmcaaMRoundKeeps1
section
set_option linter.unusedVariables false
set_option linter.unusedSimpArgs false
namespace Go.Proofs.Ytbpmnmceajmmcaa.Th
open Go.RowKit Go.Proofs.YtbpmnmceajmmcaaW.PrintWords Go.Proofs.YtbpmnmceajmmcaaW.PrintLast Go.Proofs.YtbpmnmceajmmcaaW.PrintMore Go.Proofs.Ytbpmnmceajmmcaa.PA Bit Dig
theorem or_add' (x y n : Nat) (hn : n ≤ 64) (hx : 2 ^ n ∣ x) (hy : y < 2 ^ n) (h : x < 18446744073709551616) (h2 : y < 18446744073709551616) : Go.bits .or .u64 (y : Int) (x : Int) = ((y + x : Nat) : Int) := by
  rw [u64_or_nat y x h2 h]
  congr 1
  obtain ⟨c, rfl⟩ := hx
  rw [Nat.mul_comm, or_pow y c n hy]
theorem gen_hi (B C h l : Nat) (hC : 0 < C) : (h * (B * C) + l) / C = h * B + l / C := by
  rw [← Nat.mul_assoc, Nat.mul_comm (h * B) C, Nat.mul_add_div hC]
theorem right_arith (h l n : Nat) (h0 : 0 < n) (hn : n < 64) (hh : h < 2 ^ 64) (hl : l < 2 ^ 64) :
    wn h l / 2 ^ n / 2 ^ 64 = h / 2 ^ n ∧ wn h l / 2 ^ n % 2 ^ 64 = l / 2 ^ n + h * 2 ^ (64 - n) % 2 ^ 64 ∧ 2 ^ (64 - n) ∣ h * 2 ^ (64 - n) % 2 ^ 64 ∧ l / 2 ^ n < 2 ^ (64 - n) := by
  have p0 : 0 < 2 ^ n := Nat.pow_pos (by decide)
  have p1 : 0 < 2 ^ (64 - n) := Nat.pow_pos (by decide)
  have e64 : 2 ^ 64 = 2 ^ (64 - n) * 2 ^ n := by rw [← Nat.pow_add]; congr 1; omega
  have hd : l / 2 ^ n < 2 ^ (64 - n) := by rw [Nat.div_lt_iff_lt_mul p0, ← e64]; exact hl
  have hdv : 2 ^ (64 - n) ∣ h * 2 ^ (64 - n) % 2 ^ 64 := by
    rw [e64]; exact (Nat.dvd_mod_iff (Nat.dvd_mul_right _ _)).2 (Nat.dvd_mul_left _ _)
  have hq : wn h l / 2 ^ n = h * 2 ^ (64 - n) + l / 2 ^ n := by
    unfold wn; rw [p64, e64]; exact gen_hi _ _ h l p0
  have hx : h * 2 ^ (64 - n) / 2 ^ 64 = h / 2 ^ n := by
    rw [e64, Nat.mul_comm (2 ^ (64 - n)), Nat.mul_div_mul_right _ _ p1]
  have hm := Nat.div_add_mod (h * 2 ^ (64 - n)) (2 ^ 64)
  have hlt := Nat.mod_lt (h * 2 ^ (64 - n)) (show 0 < 2 ^ 64 by decide)
  have hs : h * 2 ^ (64 - n) % 2 ^ 64 + l / 2 ^ n < 2 ^ 64 := by
    obtain ⟨c, hc⟩ := hdv
    have h3 : c < 2 ^ n := by
      rw [hc, e64] at hlt
      exact Nat.lt_of_mul_lt_mul_left hlt
    have h4 : 2 ^ (64 - n) * (c + 1) ≤ 2 ^ (64 - n) * 2 ^ n := Nat.mul_le_mul_left _ h3
    rw [← e64, Nat.mul_add, Nat.mul_one, ← hc] at h4
    omega
  rw [hx] at hm
  rw [hq]
  generalize h * 2 ^ (64 - n) % 2 ^ 64 = u at *
  generalize l / 2 ^ n = v at *
  rw [← hm, Nat.add_assoc]
  refine ⟨?_, ?_, hdv, hd⟩
  · rw [Nat.mul_add_div (by decide), Nat.div_eq_of_lt hs, Nat.add_zero]
  · rw [Nat.mul_add_mod, Nat.mod_eq_of_lt hs, Nat.add_comm]
theorem lost_iff (a p : Nat) (h : a < 340282366920938463463374607431768211456) : (a / p * p) % 340282366920938463463374607431768211456 ≠ a ↔ a % p ≠ 0 := by
  have h1 := Nat.div_add_mod a p
  rw [Nat.mul_comm] at h1
  have h2 : a / p * p < 340282366920938463463374607431768211456 := by omega
  rw [Nat.mod_eq_of_lt h2]
  omega
def rgV (a : Nat) (n : Int) : Nat := a / 2 ^ n.toNat
theorem rightW (h l : Nat) (n : Int) (hh : h < 18446744073709551616) (hl : l < 18446744073709551616) (hn : n < 9223372036854775808) :
    wide_Right.f h l n = some (((rgV (wn h l) n / 18446744073709551616 : Nat) : Int), ((rgV (wn h l) n % 18446744073709551616 : Nat) : Int), decide (wn h l % 2 ^ n.toNat ≠ 0)) := by
  unfold wide_Right.f rgV
  have hw := wn_lt hh hl
  by_cases h0 : n ≤ 0
  · rw [if_pos h0, show n.toNat = 0 by omega, Nat.pow_zero, Nat.div_one, Nat.mod_one, wn_hi hl, wn_lo hl]; rfl
  · rw [if_neg h0]
    obtain ⟨m, rfl⟩ := Int.eq_ofNat_of_zero_le (show 0 ≤ n by omega)
    rw [Int.toNat_natCast]
    have key : ∀ Q : Nat, Q = wn h l / 2 ^ m → (!(((lfV (wn (Q / 18446744073709551616) (Q % 18446744073709551616)) (m : Int) / 18446744073709551616 : Nat) : Int) == (h : Int)) || !(((lfV (wn (Q / 18446744073709551616) (Q % 18446744073709551616)) (m : Int) % 18446744073709551616 : Nat) : Int) == (l : Int))) = decide (wn h l % 2 ^ m ≠ 0) := by
      intro Q hQ
      rw [wn_div]
      unfold lfV
      rw [Int.toNat_natCast, hQ, wn_ne _ h l (Nat.mod_lt _ (by decide)) hl, decide_eq_decide]
      exact lost_iff _ _ hw
    by_cases h1 : (m : Int) ≥ 128
    · rw [if_pos h1]
      have hb : wn h l < 2 ^ m := Nat.lt_of_lt_of_le hw (by rw [p128]; exact Nat.pow_le_pow_right (by decide) (by omega))
      rw [Nat.div_eq_of_lt hb, Nat.mod_eq_of_lt hb]
      have e := wn_ne 0 h l (by decide) hl
      have e2 : (!((h : Int) == 0) || !((l : Int) == 0)) = decide (wn h l ≠ 0) := by
        rw [Bool.eq_iff_iff]; simp; unfold wn; omega
      rw [e2]; rfl
    · rw [if_neg h1]
      by_cases h2 : (m : Int) ≥ 64
      · rw [if_pos h2, w64_id (by omega) (by omega), show (m : Int) - 64 = ((m - 64 : Nat) : Int) by omega, shrN' _ _ (by omega)]
        have hQ : h / 2 ^ (m - 64) = wn h l / 2 ^ m := by
          rw [show 2 ^ m = 18446744073709551616 * 2 ^ (m - 64) by rw [p64, ← Nat.pow_add]; congr 1; omega, ← Nat.div_div_eq_div_mul, wn_hi hl]
        have hq1 := Nat.div_le_self h (2 ^ (m - 64))
        have k := key _ hQ
        rw [← hQ]
        generalize h / 2 ^ (m - 64) = q at *
        rw [Nat.div_eq_of_lt (show q < 18446744073709551616 by omega), Nat.mod_eq_of_lt (show q < 18446744073709551616 by omega)] at k ⊢
        have lw := leftW 0 q (m : Int) (by decide) (by omega) (by omega)
        rw [show ((0 : Nat) : Int) = 0 from rfl] at lw
        rw [lw, Option.bind_some]
        show some (0, (q : Int), _) = _
        rw [k]; rfl
      · rw [if_neg h2, w64_id (by omega) (by omega), show (64 : Int) - m = ((64 - m : Nat) : Int) by omega, shrN' _ _ (by omega), shrN' _ _ (by omega), shlN _ _ (by omega)]
        obtain ⟨k1, k2, k3, k4⟩ := right_arith h l m (by omega) (by omega) hh hl
        rw [← p64] at k1 k2 k3
        have k5 := Nat.mod_lt (h * 2 ^ (64 - m)) (show 0 < 18446744073709551616 by decide)
        have k6 := Nat.div_le_self l (2 ^ m)
        have k7 := Nat.div_le_self h (2 ^ m)
        rw [or_add' _ _ (64 - m) (by omega) k3 k4 (by omega) (by omega)]
        have k := key _ rfl
        rw [k1, k2] at k
        rw [k1, k2]
        have lw := leftW (h / 2 ^ m) (l / 2 ^ m + h * 2 ^ (64 - m) % 18446744073709551616) (m : Int) (by omega) (by rw [← k2]; exact Nat.mod_lt _ (by decide)) (by omega)
        rw [lw, Option.bind_some, k]
theorem addW (a b c d : Nat) (ha : a < 18446744073709551616) (hb : b < 18446744073709551616) (hc : c < 18446744073709551616) (hd : d < 18446744073709551616) :
    wide_Add.f a b c d = some ((((wn a b + wn c d) % 340282366920938463463374607431768211456 / 18446744073709551616 : Nat) : Int), (((wn a b + wn c d) % 340282366920938463463374607431768211456 % 18446744073709551616 : Nat) : Int)) := by
  unfold wide_Add.f wn
  rw [if_pos (by omega)]
  have e1 : ((a : Int) + (c : Int) + ((b : Int) + (d : Int)) / 18446744073709551616) % 18446744073709551616 = (((a * 18446744073709551616 + b + (c * 18446744073709551616 + d)) % 340282366920938463463374607431768211456 / 18446744073709551616 : Nat) : Int) := by omega
  have e2 : ((b : Int) + (d : Int)) % 18446744073709551616 = (((a * 18446744073709551616 + b + (c * 18446744073709551616 + d)) % 340282366920938463463374607431768211456 % 18446744073709551616 : Nat) : Int) := by omega
  rw [e1, e2]
end Go.Proofs.Ytbpmnmceajmmcaa.Th
end
section
set_option linter.unusedVariables false
set_option linter.unusedSimpArgs false
namespace Go.Proofs.Ytbpmnmceajmmcaa.Th
open Go.RowKit Go.Proofs.YtbpmnmceajmmcaaW.PrintWords Go.Proofs.YtbpmnmceajmmcaaW.PrintLast Go.Proofs.YtbpmnmceajmmcaaW.PrintMore Go.Proofs.Ytbpmnmceajmmcaa.PA Bit Flo
theorem fmt_bd' (w : Int) : (fmt w).f ≤ 52 ∧ (-5000 < (fmt w).low ∧ (fmt w).low < 0) ∧ (fmt w).top < 5000 ∧ 2 ≤ (fmt w).top := by
  unfold fmt; split <;> decide
def wH (V : Nat) : Int := ((V / 18446744073709551616 : Nat) : Int)
def wL (V : Nat) : Int := ((V % 18446744073709551616 : Nat) : Int)
theorem wHL (h l : Nat) (hl : l < 18446744073709551616) : wH (wn h l) = h ∧ wL (wn h l) = l := by unfold wH wL; rw [wn_hi hl, wn_lo hl]; exact ⟨rfl, rfl⟩
theorem hi64 {V : Nat} (h : V < 340282366920938463463374607431768211456) : V / 18446744073709551616 < 18446744073709551616 := by omega
theorem lo64 (V : Nat) : V % 18446744073709551616 < 18446744073709551616 := Nat.mod_lt _ (by decide)
theorem wLen {V : Nat} (h : V < 340282366920938463463374607431768211456) : wide_Len.f (wH V) (wL V) = some ((bl V : Nat) : Int) := by
  have := lenW (V / 18446744073709551616) (V % 18446744073709551616) (hi64 h) (lo64 V)
  rwa [wn_div] at this
theorem wLeft {V : Nat} (h : V < 340282366920938463463374607431768211456) (n : Nat) (hn : n < 1000) (hV : V * 2 ^ n < 340282366920938463463374607431768211456) : wide_Left.f (wH V) (wL V) n = some (wH (V * 2 ^ n), wL (V * 2 ^ n)) := by
  have := leftW (V / 18446744073709551616) (V % 18446744073709551616) n (hi64 h) (lo64 V) (by omega)
  rwa [wn_div, lfV, Int.toNat_natCast, Nat.mod_eq_of_lt hV] at this
theorem wRight {V : Nat} (h : V < 340282366920938463463374607431768211456) (n : Nat) (hn : n < 1099511627776) : wide_Right.f (wH V) (wL V) n = some (wH (V / 2 ^ n), wL (V / 2 ^ n), decide (V % 2 ^ n ≠ 0)) := by
  have := rightW (V / 18446744073709551616) (V % 18446744073709551616) n (hi64 h) (lo64 V) (by omega)
  rwa [wn_div, rgV, Int.toNat_natCast] at this
theorem wAdd1 {V : Nat} (h : V + 1 < 340282366920938463463374607431768211456) : wide_Add.f (wH V) (wL V) 0 1 = some (wH (V + 1), wL (V + 1)) := by
  have := addW (V / 18446744073709551616) (V % 18446744073709551616) 0 1 (hi64 (by omega)) (lo64 V) (by decide) (by decide)
  rw [wn_div, show wn 0 1 = 1 by decide, Nat.mod_eq_of_lt h] at this
  exact this
theorem wAnd1 (V : Nat) : (Go.bits .and .u64 (wL V) 1 == 1) = decide (V % 2 = 1) := by
  unfold wL
  rw [show (1 : Int) = ((1 : Nat) : Int) from rfl, u64_and_nat _ 1 (lo64 V) (by decide)]
  have h1 := and_low (V % 18446744073709551616) 1
  rw [show (2 : Nat) ^ 1 - 1 = 1 by decide, show (2 : Nat) ^ 1 = 2 by decide] at h1
  rw [h1, Bool.eq_iff_iff]; simp; omega
theorem wSmall {V : Nat} (h : V < 18446744073709551616) : wH V = 0 ∧ wL V = V := by unfold wH wL; omega
theorem shZ (w : Int) (hw : w = 32 ∨ w = 64) (s : Bool) : shape_Zero.f w s = some ((mkN w 0 s : Nat) : Int) := by rcases hw with rfl | rfl; exact shZero32 s; exact shZero64 s
theorem shI (w : Int) (hw : w = 32 ∨ w = 64) (s : Bool) : shape_Inf.f w s = some ((mkN w (fmt w).inf s : Nat) : Int) := by rcases hw with rfl | rfl; exact shInf32 s; exact shInf64 s
theorem clo (w : Int) (hw : w = 32 ∨ w = 64) (s : Bool) (m : Nat) (h0 : 0 < m) (hm : m < (fmt w).inf) : ∃ k z, shape_Close.f k w s 1 ((fmt w).ex m) ((fmt w).sg m : Nat) = some (((mkN w m s : Nat) : Int), z) := by
  rcases hw with rfl | rfl
  · obtain ⟨k, hk⟩ := (close32 s m h0 hm).rounds; exact ⟨k, 0, hk⟩
  · obtain ⟨k, hk⟩ := (close64 s m h0 hm).rounds; exact ⟨k, 0, hk⟩
end Go.Proofs.Ytbpmnmceajmmcaa.Th
end
/- round.Pack answers the nearest float, for every number in the range of exponents that it looks at. -/
namespace Go.Proofs.Ytbpmnmceajmmcaa.PA
open Go.RowKit Go.Proofs.YtbpmnmceajmmcaaW.PrintWords Go.Proofs.YtbpmnmceajmmcaaW.PrintLast Go.Proofs.YtbpmnmceajmmcaaW.PrintMore
attribute [local go_sem] max2_int min2_int max_two min_two max_three min_three max_four min_four   -- for this text's walks alone
set_option linter.unusedVariables false
set_option linter.unusedSimpArgs false
open Go.Proofs.Ytbpmnmceajmmcaa.Th Flo
theorem rp_fin (W : Int) (hw : W = 32 ∨ W = 64) (ng : Bool) (t2 t1 hi : Int) (h2 : t2 = ((2 ^ ((fmt W).f + 1) : Nat) : Int)) (h1 : t1 = ((2 ^ (fmt W).f : Nat) : Int)) (hh : hi = (fmt W).low + (fmt W).top - 2) (q R : Nat) (e3 : Int) (he : e3 = q + (fmt W).low)
    (hR : R ≤ 2 ^ ((fmt W).f + 1)) (hl : 0 < q → 2 ^ (fmt W).f ≤ R) :
    (hi < e3 ∧ shape_Inf.f W ng = some ((mkN W ((fmt W).fin q R) ng : Nat) : Int)) ∨ (e3 ≤ hi ∧ ∃ l4 e4, (((R : Int) = t2 ∧ t1 = l4 ∧ e3 + 1 = e4) ∨ ((R : Int) ≠ t2 ∧ (R : Int) = l4 ∧ e3 = e4)) ∧
      ((l4 = 0 ∧ shape_Zero.f W ng = some ((mkN W ((fmt W).fin q R) ng : Nat) : Int)) ∨ (l4 ≠ 0 ∧ hi < e4 ∧ shape_Inf.f W ng = some ((mkN W ((fmt W).fin q R) ng : Nat) : Int)) ∨ (l4 ≠ 0 ∧ e4 ≤ hi ∧ ∃ k z, shape_Close.f k W ng 1 e4 l4 = some (((mkN W ((fmt W).fin q R) ng : Nat) : Int), z)))) := by
  have hz := shZ W hw ng
  have hi_ := shI W hw ng
  have hc := clo W hw ng
  generalize fmt W = F at *
  have hp := F.pow_pos
  have ht := F.ht
  have e1 : 2 ^ (F.f + 1) = 2 ^ F.f * 2 := Nat.pow_succ ..
  by_cases c1 : F.top < q + 2
  · left
    refine ⟨by omega, ?_⟩
    have : F.fin q R = F.inf := by
      unfold Fmt.fin
      split
      · first | rfl | rw [if_pos (by omega)]
      · first | rfl | rw [if_pos c1]
    rw [this]; exact hi_
  · right
    refine ⟨by omega, ?_⟩
    by_cases c2 : R = 2 ^ (F.f + 1)
    · refine ⟨t1, e3 + 1, .inl ⟨by rw [c2, h2], rfl, rfl⟩, ?_⟩
      by_cases c3 : F.top < q + 3
      · refine .inr (.inl ⟨by rw [h1]; omega, by omega, ?_⟩)
        have : F.fin q R = F.inf := by unfold Fmt.fin; rw [if_pos c2, if_pos c3]
        rw [this]; exact hi_
      · refine .inr (.inr ⟨by rw [h1]; omega, by omega, ?_⟩)
        have e5 : F.fin q R = (q + 1) * 2 ^ F.f + 2 ^ F.f := by unfold Fmt.fin; rw [if_pos c2, if_neg c3, Nat.add_mul, Nat.add_mul]; omega
        have hm : F.fin q R < F.inf := by
          rw [e5]
          unfold Fmt.inf
          have := Nat.mul_le_mul_right (2 ^ F.f) (show q + 3 ≤ F.top by omega)
          rw [Nat.add_mul] at this ⊢
          omega
        obtain ⟨h3, h4⟩ := F.sg_mk (q + 1) (2 ^ F.f) (by omega) (fun _ => Nat.le_refl _)
        have := hc (F.fin q R) (by rw [e5]; omega) hm
        rw [e5, h3, h4, ← e5, show (((q + 1 : Nat) : Int) + F.low) = e3 + 1 by omega, ← h1] at this
        exact this
    · refine ⟨(R : Int), e3, .inr ⟨by rw [h2]; intro k; exact c2 (by exact_mod_cast k), rfl, rfl⟩, ?_⟩
      by_cases c3 : R = 0
      · left
        have hq : q = 0 := by rcases Nat.eq_zero_or_pos q with h | h; exact h; have := hl h; omega
        have : F.fin q R = 0 := by unfold Fmt.fin; rw [if_neg c2, if_neg c1, if_pos (by omega)]; exact c3
        exact ⟨by omega, by rw [this]; exact hz⟩
      · refine .inr (.inr ⟨by omega, by omega, ?_⟩)
        have e5 : F.fin q R = q * 2 ^ F.f + R := by
          unfold Fmt.fin
          rw [if_neg c2, if_neg c1]
          split
          · rcases Nat.eq_zero_or_pos q with h | h
            · rw [h]; omega
            · have := hl h; omega
          · rw [Nat.add_mul]; omega
        have hm : F.fin q R < F.inf := by
          rw [e5]
          unfold Fmt.inf
          have := Nat.mul_le_mul_right (2 ^ F.f) (show q + 2 ≤ F.top by omega)
          rw [Nat.add_mul] at this
          omega
        obtain ⟨h3, h4⟩ := F.sg_mk q R (by omega) hl
        have := hc (F.fin q R) (by rw [e5]; omega) hm
        rw [e5, h3, h4, ← e5, ← he] at this
        exact this
theorem rp_main (W f t2 t1 lo hi : Int) (hW : (W = 32 ∧ f = 23 ∧ t2 = 16777216 ∧ t1 = 8388608) ∨ (W = 64 ∧ f = 52 ∧ t2 = 9007199254740992 ∧ t1 = 4503599627370496)) (hlo : lo = (fmt W).low) (hhi : hi = (fmt W).low + (fmt W).top - 2)
    (AIM : ∀ ng h l e m, round_aim.f W ng h l e m = some (h, l, e, m, W, f, lo, hi, ng, true)) (S : Nat) (hS : S < 340282366920938463463374607431768211456) (e : Int) (m ng : Bool) (Z : S ≠ 0 ∨ m = true) (E1 : e ≤ 1048576) (E2 : -1048576 ≤ e) (w : World) :
    Calls Try.prog 36 #[.int .i64 W, .bool ng, .agg #[.int .u64 (wH S), .int .u64 (wL S)], .int .i64 e, .bool m] w fun en w' => en = .returned (.int .u64 ((mkN W (pkm (fmt W) S e m) ng : Nat) : Int)) ∧ Below w.heap.size w w' := by
  have hw : W = 32 ∨ W = 64 := by rcases hW with ⟨h, _⟩ | ⟨h, _⟩; exact .inl h; exact .inr h
  have hf : f = ((fmt W).f : Int) ∧ t2 = ((2 ^ ((fmt W).f + 1) : Nat) : Int) ∧ t1 = ((2 ^ (fmt W).f : Nat) : Int) := by
    rcases hW with ⟨rfl, rfl, rfl, rfl⟩ | ⟨rfl, rfl, rfl, rfl⟩ <;> decide
  have hbd := fmt_bd' W
  obtain ⟨hf, h2, h1⟩ := hf
  -- the number whose last bits go
  obtain ⟨S1, e1, m1, hS1, hpos, hm1, hk, hT⟩ : ∃ (S1 : Nat) (e1 : Int) (m1 : Bool), S1 < 340282366920938463463374607431768211456 ∧ 0 < S1 ∧ (m1 = true → 127 ≤ bl S1) ∧ pkm (fmt W) S e m = pkc (fmt W) S1 e1 (if m1 then 1 else 0) ∧
      ((m = true ∧ (∃ n0, wide_Len.f (wH S) (wL S) = some n0 ∧ n0 < 127) ∧ (∃ x0 x1, wide_Left.f (wH S) (wL S) 1 = some (x0, x1) ∧ wide_Add.f x0 x1 0 1 = some (wH S1, wL S1)) ∧ e - 1 = e1 ∧ m1 = false) ∨ ((m = false ∨ ∃ n0, wide_Len.f (wH S) (wL S) = some n0 ∧ 127 ≤ n0) ∧ wH S1 = wH S ∧ wL S1 = wL S ∧ e1 = e ∧ m1 = m)) := by
    have hk : pkm (fmt W) S e m = if m = true ∧ bl S < 127 then pkc (fmt W) (2 * S + 1) (e - 1) 0 else pkc (fmt W) S e (if m then 1 else 0) := by
      unfold pkm
      rw [if_neg (by rintro ⟨h1, h2⟩; rcases Z with h | h; exact h h1; rw [h2] at h; cases h), if_neg (by omega), if_neg (by omega)]
    by_cases c : m = true ∧ bl S < 127
    · rw [if_pos c] at hk
      have hlt := bl_le.1 (Nat.le_of_lt_succ (show bl S < 126 + 1 from c.2))
      rw [show (2 : Nat) ^ 126 = 85070591730234615865843651857942052864 by decide] at hlt
      have hl := wLeft hS 1 (by decide) (by omega)
      refine ⟨2 * S + 1, e - 1, false, by omega, by omega, fun h => (by cases h), (by rw [hk]; rfl), .inl ⟨c.1, ⟨_, wLen hS, by omega⟩, ⟨_, _, hl, ?_⟩, rfl, rfl⟩⟩
      rw [wAdd1 (by omega)]
      rw [show S * 2 ^ 1 + 1 = 2 * S + 1 by omega]
    · rw [if_neg c] at hk
      refine ⟨S, e, m, hS, ?_, fun h => ?_, hk, .inr ⟨?_, rfl, rfl, rfl, rfl⟩⟩
      · rcases Z with h | h
        · omega
        · have : 127 ≤ bl S := by
            rcases Nat.lt_or_ge (bl S) 127 with h3 | h3
            · exact absurd ⟨h, h3⟩ c
            · exact h3
          exact bl_pos.1 (by omega)
      · rcases Nat.lt_or_ge (bl S) 127 with h3 | h3
        · exact absurd ⟨h, h3⟩ c
        · exact h3
      · cases hm : m
        · exact .inl rfl
        · right
          refine ⟨_, wLen hS, ?_⟩
          rcases Nat.lt_or_ge (bl S) 127 with h3 | h3
          · exact absurd ⟨hm, h3⟩ c
          · omega
  have b128 := bl_128 hS1
  have he1 : -1048578 < e1 ∧ e1 < 1048578 := by rcases hT with ⟨_, _, _, h, _⟩ | ⟨_, _, _, h, _⟩ <;> omega
  rw [hk]
  have mx_ : ∀ a b : Int, mx a b = max a b := fun a b => by unfold mx; split <;> omega
  have mn_ : ∀ a b : Int, mn a b = min a b := fun a b => by unfold mn; split <;> omega
  have p54 : 2 ^ ((fmt W).f + 1) ≤ 9007199254740992 := by
    rw [show (9007199254740992 : Nat) = 2 ^ 53 by decide]; exact Nat.pow_le_pow_right (by decide) (by omega)
  by_cases c : (bl S1 : Int) - (fmt W).f - 1 ≤ 0 ∧ (fmt W).low - e1 ≤ 0
  · obtain rfl : m1 = false := by
      cases m1
      · rfl
      · have := hm1 rfl; omega
    obtain ⟨q, u, hu, hq, e5, _, hR, hl⟩ := pkc_up (fmt W) hpos c
    have e6 : pkc (fmt W) S1 e1 (if false = true then 1 else 0) = (fmt W).fin q (S1 * 2 ^ u) := e5
    rw [e6]
    have FX := rp_fin W hw ng t2 t1 hi h2 h1 hhi q (S1 * 2 ^ u) (e1 - u) (by omega) hR hl
    have hs := wSmall (V := S1 * 2 ^ u) (by omega)
    refine rp_pack W f t2 t1 lo hi hW (by omega) (wH S) (wL S) e (wH S1) (wL S1) e1 (bl S1) (max ((bl S1 : Int) - f - 1) (lo - e1)) (wH S1) (wL S1) e1 (bl S1) u (wH (S1 * 2 ^ u)) (wL (S1 * 2 ^ u)) (e1 - u) _ m false ng w (AIM _ _ _ _ _) ?_ E1 E2 hT (wLen hS1) (by omega) (mx_ _ _) (.inl ⟨by omega, rfl, rfl, rfl, rfl⟩) (wLen hS1) (by omega) ?_ ?_ ?_
    · rcases Z with h | h
      · left
        rw [Bool.and_eq_false_iff]
        by_cases h3 : S / 18446744073709551616 = 0
        · right; unfold wL; rw [beq_eq_false_iff_ne]; omega
        · left; unfold wH; rw [beq_eq_false_iff_ne]; omega
      · exact .inr h
    · rw [mn_, hf, hlo]; exact hu.symm
    · rcases Nat.eq_zero_or_pos u with h | h
      · right; subst h; exact ⟨by omega, by rw [Nat.pow_zero, Nat.mul_one], by rw [Nat.pow_zero, Nat.mul_one], by omega⟩
      · left; exact ⟨by omega, wLeft hS1 u (by omega) (by omega), rfl⟩
    · rw [hs.1, hs.2]
      rcases FX with h | ⟨h, h'⟩
      · exact .inl h
      · exact .inr ⟨h, rfl, h'⟩
  · obtain ⟨q, n, j, hj, hq, hn, e5, _, hR, hl⟩ := pkc_dn (fmt W) (S := S1) (m := if m1 then 1 else 0) (e := e1) (by cases m1 <;> decide) hpos c
    rw [e5]
    have FX := rp_fin W hw ng t2 t1 hi h2 h1 hhi q n (e1 + ((j + 1 : Nat) : Int)) (by omega) hR hl
    have hs := wSmall (V := n) (by omega)
    have hn128 : n < 340282366920938463463374607431768211456 := by omega
    have hj40 : j < 1099511627775 := by omega
    have r1 := wRight hS1 j (by omega)
    have hk1 : S1 / 2 ^ j < 340282366920938463463374607431768211456 := Nat.lt_of_le_of_lt (Nat.div_le_self _ _) hS1
    have r2 := wRight hk1 1 (by decide)
    have rb := rne_bits S1 j (if m1 then 1 else 0) (by cases m1 <;> decide)
    rw [← hn] at rb
    have hn2 := bl_128 hn128
    have hlen : (fmt W).f + 1 ≤ bl n ∨ q = 0 := by
      rcases Nat.eq_zero_or_pos q with h | h
      · exact .inr h
      · left
        have := hl h
        exact lt_bl.2 this
    refine rp_pack W f t2 t1 lo hi hW (by omega) (wH S) (wL S) e (wH S1) (wL S1) e1 (bl S1) ((j + 1 : Nat) : Int) (wH n) (wL n) (e1 + ((j + 1 : Nat) : Int)) (bl n) (min (f + 1 - bl n) (e1 + ((j + 1 : Nat) : Int) - lo)) (wH n) (wL n) (e1 + ((j + 1 : Nat) : Int)) _ m m1 ng w (AIM _ _ _ _ _) ?_ E1 E2 hT (wLen hS1) (by omega) ?_ (.inr ⟨by omega, rfl, wH (S1 / 2 ^ j), wL (S1 / 2 ^ j), wH (S1 / 2 ^ j / 2), wL (S1 / 2 ^ j / 2), decide (S1 % 2 ^ j ≠ 0), _, decide (S1 / 2 ^ j % 2 = 1 ∧ (S1 % 2 ^ j ≠ 0 ∨ (if m1 then 1 else 0) = 1 ∨ S1 / 2 ^ j / 2 % 2 = 1)), ?_, r2, ?_, ?_, ?_⟩) (wLen hn128) (by omega) (mn_ _ _) (.inr ⟨by omega, rfl, rfl, rfl⟩) ?_
    · rcases Z with h | h
      · left
        rw [Bool.and_eq_false_iff]
        by_cases h3 : S / 18446744073709551616 = 0
        · right; unfold wL; rw [beq_eq_false_iff_ne]; omega
        · left; unfold wH; rw [beq_eq_false_iff_ne]; omega
      · exact .inr h
    · rw [mx_, hf, hlo]; rw [← hj]; rfl
    · rw [show (((j + 1 : Nat) : Int) - 1) = (j : Int) by omega]; exact r1
    · rw [wAnd1, wAnd1, Bool.eq_iff_iff]
      cases m1 <;> simp
    · intro h
      rw [decide_eq_true_eq] at h
      rw [if_pos h] at rb
      rw [rb]
      exact wAdd1 (by omega)
    · intro h
      rw [decide_eq_false_iff_not] at h
      rw [if_neg h] at rb
      rw [rb]; exact ⟨rfl, rfl⟩
    · rw [hs.1, hs.2]
      rcases FX with h | ⟨h, h'⟩
      · exact .inl h
      · exact .inr ⟨h, rfl, h'⟩
end Go.Proofs.Ytbpmnmceajmmcaa.PA
/- round.Pack's short ways: no width; nought; an exponent that is too great or too small. -/
namespace Go.Proofs.Ytbpmnmceajmmcaa.PA
open Go.RowKit Go.Proofs.YtbpmnmceajmmcaaW.PrintWords Go.Proofs.YtbpmnmceajmmcaaW.PrintLast Go.Proofs.YtbpmnmceajmmcaaW.PrintMore
attribute [local go_sem] max2_int min2_int max_two min_two max_three min_three max_four min_four   -- for this text's walks alone
set_option linter.unusedVariables false
set_option linter.unusedSimpArgs false
attribute [local go_sem high] eqA42
open Go.Proofs.Ytbpmnmceajmmcaa.Th Flo
set_option maxHeartbeats 8000000 in
set_option maxRecDepth 100000 in
theorem rp_none (W : Int) (h l e : Int) (m ng : Bool) (w : World) (AIM : round_aim.f W ng h l e m = some (0, 0, 0, false, 0, 0, 0, 0, false, false)) :
    Calls Try.prog 36 #[.int .i64 W, .bool ng, .agg #[.int .u64 h, .int .u64 l], .int .i64 e, .bool m] w fun en w' => en = .returned (.int .u64 0) ∧ Below w.heap.size w w' := by
  have hu41 := Try.underlying42
  have hu95 := Try.underlying81
  have hu97 := Try.underlying83
  have A_ := Aside0.mk AIM
  clear AIM
  go_enter Try.func36, Try.ntmps36
  go_wp2_with (first | (go_at_call 73; (with_reducible refine (round_aim.calls W ng h l e m 0 0 0 false 0 0 0 0 false false _ A_.out).mono ?_); rintro en w1 ⟨rfl, hb⟩))
  go_ret
  exact ⟨rfl, below_alloc (below_step (below_alloc (Below.refl _ w) _) hb) _⟩
set_option maxHeartbeats 8000000 in
set_option maxRecDepth 100000 in
theorem rp_short (W f lo hi : Int) (h l e r : Int) (m ng : Bool) (w : World) (AIM : round_aim.f W ng h l e m = some (h, l, e, m, W, f, lo, hi, ng, true))
    (C : (h = 0 ∧ l = 0 ∧ m = false ∧ shape_Zero.f W ng = some r) ∨ (((h == 0) && (l == 0) && !m) = false ∧ ((1048576 < e ∧ shape_Inf.f W ng = some r) ∨ (e < -1048576 ∧ shape_Zero.f W ng = some r)))) :
    Calls Try.prog 36 #[.int .i64 W, .bool ng, .agg #[.int .u64 h, .int .u64 l], .int .i64 e, .bool m] w fun en w' => en = .returned (.int .u64 r) ∧ Below w.heap.size w w' := by
  have hu41 := Try.underlying42
  have hu95 := Try.underlying81
  have hu97 := Try.underlying83
  have A_ := Aside0.mk AIM
  clear AIM
  obtain ⟨bh, hh⟩ : ∃ y, (h == 0) = y := ⟨_, rfl⟩
  obtain ⟨bl_, hl⟩ : ∃ y, (l == 0) = y := ⟨_, rfl⟩
  rw [hh, hl] at C
  rcases C with ⟨rfl, rfl, rfl, B_⟩ | ⟨Z, C⟩
  · have B := Aside0.mk B_
    clear B_ hh hl
    go_enter Try.func36, Try.ntmps36
    go_wp2_with (first
      | (go_at_call 73; (with_reducible refine (round_aim.calls W ng 0 0 e false 0 0 e false W f lo hi ng true _ A_.out).mono ?_); rintro en w1 ⟨rfl, hb⟩; have sa := ((Nr.bcell hb).1 w.heap.size 0 (by simp)).trans (show _ = some (Value.int .u64 0) by simp [go_sem]); have sb := ((Nr.bcell hb).1 w.heap.size 1 (by simp)).trans (show _ = some (Value.int .u64 0) by simp [go_sem]); have hz := Nat.lt_of_lt_of_le (show w.heap.size < (w.alloc (.cells #[.int .u64 0, .int .u64 0] 42 (0, 0))).heap.size by simp) hb.size; have H1 := Aside0.mk (below_step (below_alloc (Below.refl _ w) _) hb); clear hb)
      | (go_at_call 30; (with_reducible refine (shape_Zero.calls W ng r _ B.out).mono ?_); rintro en w2 ⟨rfl, hb⟩))
    go_ret
    exact ⟨rfl, below_step (below_alloc H1.out _) hb⟩
  · have key : Aside0 ((decide (1048576 < e) = true ∧ shape_Inf.f W ng = some r) ∨ (decide (1048576 < e) = false ∧ decide (e < -1048576) = true ∧ shape_Zero.f W ng = some r)) := ⟨by
      rcases C with ⟨h1, h2⟩ | ⟨h1, h2⟩
      · exact .inl ⟨decide_eq_true h1, h2⟩
      · exact .inr ⟨decide_eq_false (by omega), decide_eq_true h1, h2⟩⟩
    clear C
    cases bh <;> cases bl_ <;> cases m <;> first
      | (exfalso; simp at Z; done)
      | (clear Z
         rcases key.out with ⟨d, B_⟩ | ⟨d, d2, B_⟩
         all_goals
          have B := Aside0.mk B_
          clear B_ key
          go_enter Try.func36, Try.ntmps36
          go_wp2_with (first
            | (go_at_call 73; (with_reducible refine (round_aim.calls W ng h l e _ h l e _ W f lo hi ng true _ A_.out).mono ?_); rintro en w1 ⟨rfl, hb⟩; have sa := ((Nr.bcell hb).1 w.heap.size 0 (by simp)).trans (show _ = some (Value.int .u64 h) by simp [go_sem]); have sb := ((Nr.bcell hb).1 w.heap.size 1 (by simp)).trans (show _ = some (Value.int .u64 l) by simp [go_sem]); have hz := Nat.lt_of_lt_of_le (show w.heap.size < (w.alloc (.cells #[.int .u64 h, .int .u64 l] 42 (0, 0))).heap.size by simp) hb.size; have H1 := Aside0.mk (below_step (below_alloc (Below.refl _ w) _) hb); clear hb)
            | (go_at_call 30; (with_reducible refine (shape_Zero.calls W ng r _ B.out).mono ?_); rintro en w2 ⟨rfl, hb⟩)
            | (go_at_call 42; (with_reducible refine (shape_Inf.calls W ng r _ B.out).mono ?_); rintro en w2 ⟨rfl, hb⟩))
          go_ret
          exact ⟨rfl, below_step (below_alloc H1.out _) hb⟩)
end Go.Proofs.Ytbpmnmceajmmcaa.PA
namespace Go.Proofs.Ytbpmnmceajmmcaa.PA
open Go.RowKit Go.Proofs.YtbpmnmceajmmcaaW.PrintWords Go.Proofs.YtbpmnmceajmmcaaW.PrintLast Go.Proofs.YtbpmnmceajmmcaaW.PrintMore
attribute [local go_sem] max2_int min2_int max_two min_two max_three min_three max_four min_four   -- for this text's walks alone
set_option linter.unusedVariables false
set_option linter.unusedSimpArgs false
set_option maxHeartbeats 8000000
set_option maxRecDepth 100000
-- IMPORT Derived.Test.YtbpmnmceajmmcaaHRpF
def round_Pack.f (a0 : Int) (a1 : Bool) (a2_0 : Int) (a2_1 : Int) (a3 : Int) (a4 : Bool) : Option (Int) :=
 if (0 ≤ a2_0 ∧ a2_0 < 18446744073709551616) ∧ (0 ≤ a2_1 ∧ a2_1 < 18446744073709551616) then
  some (if a0 = 32 ∨ a0 = 64 then ((Th.mkN a0 (Th.pkm (Th.fmt a0) (Th.wn a2_0.toNat a2_1.toNat) a3 a4) a1 : Nat) : Int) else 0) else none
theorem round_Pack.calls (a0 : Int) (a1 : Bool) (a2_0 : Int) (a2_1 : Int) (a3 : Int) (a4 : Bool) (r : Int) (w : World) (h : round_Pack.f a0 a1 a2_0 a2_1 a3 a4 = some r) :
  Calls Try.prog 36 #[.int .i64 a0, .bool a1, .agg #[.int .u64 a2_0, .int .u64 a2_1], .int .i64 a3, .bool a4] w fun e w' => e = .returned (.int .u64 r) ∧ Below w.heap.size w w' := by
 unfold round_Pack.f at h
 split at h
 rotate_left
 ·cases h
 rename_i hr
 obtain ⟨⟨p1, p2⟩, p3, p4⟩ := hr
 obtain rfl := Option.some.inj h
 obtain ⟨H, rfl⟩ := Int.eq_ofNat_of_zero_le p1
 obtain ⟨L, rfl⟩ := Int.eq_ofNat_of_zero_le p3
 rw [Int.toNat_natCast, Int.toNat_natCast]
 have hL : L < 18446744073709551616 := by omega
 have hS := Th.wn_lt (show H < 18446744073709551616 by omega) hL
 obtain ⟨e1, e2⟩ := Th.wHL H L hL
 have hz : Th.wn H L = 0 ↔ H = 0 ∧ L = 0 := by unfold Th.wn; omega
 by_cases hw : a0 = 32 ∨ a0 = 64
 ·rw [if_pos hw]
  have key : ∀ (f lo hi t2 t1 : Int), ((a0 = 32 ∧ f = 23 ∧ t2 = 16777216 ∧ t1 = 8388608) ∨ (a0 = 64 ∧ f = 52 ∧ t2 = 9007199254740992 ∧ t1 = 4503599627370496)) → lo = (Th.fmt a0).low → hi = (Th.fmt a0).low + (Th.fmt a0).top - 2 →
    (∀ ng h l e m, round_aim.f a0 ng h l e m = some (h, l, e, m, a0, f, lo, hi, ng, true)) → Calls Try.prog 36 #[.int .i64 a0, .bool a1, .agg #[.int .u64 (H : Int), .int .u64 (L : Int)], .int .i64 a3, .bool a4] w fun e w' => e = .returned (.int .u64 ((Th.mkN a0 (Th.pkm (Th.fmt a0) (Th.wn H L) a3 a4) a1 : Nat) : Int)) ∧ Below w.heap.size w w' := by
   intro f lo hi t2 t1 hW h1 h2 AIM
   by_cases c1 : Th.wn H L = 0 ∧ a4 = false
   ·refine rp_short a0 f lo hi H L a3 _ a4 a1 w (AIM _ _ _ _ _) (.inl ⟨by have := hz.1 c1.1; omega, by have := hz.1 c1.1; omega, c1.2, ?_⟩)
    unfold Th.pkm
    rw [if_pos c1]
    exact Th.shZ a0 hw a1
   ·have hb : (((H : Int) == 0) && ((L : Int) == 0) && !a4) = false := by
     cases a4
     ·have : ¬ (H = 0 ∧ L = 0) := fun h => c1 ⟨hz.2 h, rfl⟩
      rw [Bool.not_false, Bool.and_true, Bool.and_eq_false_iff, beq_eq_false_iff_ne, beq_eq_false_iff_ne]
      omega
     ·simp
    by_cases c2 : 1048576 < a3
    ·refine rp_short a0 f lo hi H L a3 _ a4 a1 w (AIM _ _ _ _ _) (.inr ⟨hb, .inl ⟨c2, ?_⟩⟩)
     unfold Th.pkm
     rw [if_neg c1, if_pos c2]
     exact Th.shI a0 hw a1
    ·by_cases c3 : a3 < -1048576
     ·refine rp_short a0 f lo hi H L a3 _ a4 a1 w (AIM _ _ _ _ _) (.inr ⟨hb, .inr ⟨c3, ?_⟩⟩)
      unfold Th.pkm
      rw [if_neg c1, if_neg c2, if_pos c3]
      exact Th.shZ a0 hw a1
     ·have := rp_main a0 f t2 t1 lo hi hW h1 h2 AIM (Th.wn H L) hS a3 a4 a1 (by
       cases a4
       ·exact .inl fun h => c1 ⟨h, rfl⟩
       ·exact .inr rfl) (by omega) (by omega) w
      rw [e1, e2] at this
      exact this
  rcases hw with rfl | rfl
  ·exact key 23 (-149) 104 16777216 8388608 (.inl ⟨rfl, rfl, rfl, rfl⟩) (by decide) (by decide) (fun ng h l e m => by
    unfold round_aim.f; rw [show shape_Fields.f 32 = some (8, 23) by decide, Option.bind_some, if_neg (by decide), if_pos (by decide +kernel), if_pos (by decide)]
    rw [show wrap64 ((wrap64 (2 - (shl .i64 1 (wrap64 ((8 : Int) - 1))))) - 23) = -149 by decide +kernel, show wrap64 ((wrap64 ((-149 : Int) + (shl .i64 1 8))) - 3) = 104 by decide +kernel])
  ·exact key 52 (-1074) 971 9007199254740992 4503599627370496 (.inr ⟨rfl, rfl, rfl, rfl⟩) (by decide) (by decide) (fun ng h l e m => by
    unfold round_aim.f; rw [show shape_Fields.f 64 = some (11, 52) by decide, Option.bind_some, if_neg (by decide), if_pos (by decide +kernel), if_pos (by decide)]
    rw [show wrap64 ((wrap64 (2 - (shl .i64 1 (wrap64 ((11 : Int) - 1))))) - 52) = -1074 by decide +kernel, show wrap64 ((wrap64 ((-1074 : Int) + (shl .i64 1 11))) - 3) = 971 by decide +kernel])
 ·rw [if_neg hw]
  refine rp_none a0 H L a3 a4 a1 w ?_
  unfold round_aim.f shape_Fields.f shape_of.f
  rw [if_neg (by omega), if_neg (by omega)]
  rfl
def round_Narrow.f (a0 : Int) (a1_0 : Bool) (a1_1 : Int) (a1_2 : Int) (a1_3 : Int) : Option (Int) := if a1_1 = 0 then ((shape_Zero.f a0 a1_0).bind fun t239 => (some t239)) else (if a1_1 = 1 then ((wide_Of.f a1_3).bind fun bt240 => ((round_Pack.f a0 a1_0 bt240.1 bt240.2 a1_2 false).bind fun t242 => (some t242))) else (if a1_1 = 2 then ((shape_Inf.f a0 a1_0).bind fun t243 => (some t243)) else (if a1_1 = 3 then ((shape_Nan.f a0).bind fun t244 => (some t244)) else (some 0))))
def round_Narrow.T5 : Bool × List (List Nat × List Nat) := (true, [([], []), ([], []), ([1], [1]), ([], []), ([3], [3]), ([4], [4]), ([], []), ([6], [6]), ([0, 2, 5, 7, 5], [0, 2, 5, 7]), ([8, 8, 0, 1, 2, 3, 4, 5, 6, 7, 8], [8])])
def round_Narrow.B5 : List Nat := [0, 0, 2, 0, 8, 24, 0, 64, 255, 511]
theorem round_Narrow.tab5 : rtab .any (opsOf Try.f40 5) = round_Narrow.T5 := by kernel_rfl
theorem round_Narrow.bits5 : waitsOk round_Narrow.T5.2 round_Narrow.B5 = true := by kernel_rfl
theorem round_Narrow.calls (a0 : Int) (a1_0 : Bool) (a1_1 : Int) (a1_2 : Int) (a1_3 : Int) (r : Int) (w : World) (h : round_Narrow.f a0 a1_0 a1_1 a1_2 a1_3 = some r) :
  Calls Try.prog 40 #[.int .i64 a0, .agg #[.bool a1_0, .int .i64 a1_1, .int .i64 a1_2, .int .u64 a1_3]] w fun e w' => e = .returned (.int .u64 r) ∧ Below w.heap.size w w' := by
 have hu38 := Try.underlying38
 have HB := A_ (Below.refl w.heap.size w)
 have H : (if a1_1 = 0 then ((shape_Zero.f a0 a1_0).bind fun t239 => (some t239)) else (if a1_1 = 1 then ((wide_Of.f a1_3).bind fun bt240 => ((round_Pack.f a0 a1_0 bt240.1 bt240.2 a1_2 false).bind fun t242 => (some t242))) else (if a1_1 = 2 then ((shape_Inf.f a0 a1_0).bind fun t243 => (some t243)) else (if a1_1 = 3 then ((shape_Nan.f a0).bind fun t244 => (some t244)) else (some 0))))) = some r := h
 clear h
 by_cases c3 : a1_1 = 0
 ·rw [if_pos c3] at H
  have c3b0 : (a1_1 == 0) = true := beq_iff_eq.mpr c3
  have c3b1 : (a1_1 != 0) = false := bne_eq_false_iff_eq.mpr c3
  clear c3
  replace H := ob_ H
  obtain ⟨t239, A40, H⟩ := H
  replace H : (some t239) = some r := H
  have A4 := A_ A40;clear A40
  obtain rfl := Option.some.inj H
  go_enter Try.func40, Try.ntmps40
  go_wp2_with (first | ((with_reducible refine gate_dst (N := 3) rfl ?_); refine be_ 3 #[.bool a1_0, .int .i64 a1_1, .int .i64 a1_2, .int .u64 a1_3] 38 ?_; intro gb238 hg w5 hbox hb; have BK238 := A_ (hbox); have GW238 := A_ (sz_ hg (hb_ HB.out)); have GE238 := A_ (sz_ hg (hb_ HB.out)); replace HB := A_ (below_step (hb_ HB.out) hb); clear hb hbox hg; have hcz6_0 := bv_ BK238.out 0; have hcz6_1 := bv_ BK238.out 1; have hcz6_2 := bv_ BK238.out 2; have hcz6_3 := bv_ BK238.out 3; have hfz6_0 := blk_frozen BK238.out 0; have hfz6_1 := blk_frozen BK238.out 1; have hfz6_2 := blk_frozen BK238.out 2; have hfz6_3 := blk_frozen BK238.out 3) | ((with_reducible refine gate_callee (f := 30) rfl ?_); refine gl_ (some 12) Try.func30 #[.int .i64 a0, .bool a1_0] ?_; (with_reducible refine (shape_Zero.calls a0 a1_0 t239 _ A4.out).mono ?_); rintro e w7 ⟨rfl, hb⟩; refine ⟨_, rfl, ?_⟩; replace BK238 := A_ (bb_ BK238.out hb); replace HB := A_ (below_step (hb1_ HB.out GE238.out) hb); (try clear hb); (try clear hb2); (try clear hk); (try clear hi)))
  go_ret
  exact ⟨er_, hb1_ HB.out GE238.out⟩
 ·rw [if_neg c3] at H
  have c3b0 : (a1_1 == 0) = false := beq_eq_false_iff_ne.mpr c3
  have c3b1 : (a1_1 != 0) = true := bne_iff_ne.mpr c3
  by_cases c8 : a1_1 = 1
  ·rw [if_pos c8] at H
   have c8b0 : (a1_1 == 1) = true := beq_iff_eq.mpr c8
   have c8b1 : (a1_1 != 1) = false := bne_eq_false_iff_eq.mpr c8
   clear c8
   replace H := ob_ H
   obtain ⟨⟨t240, t241⟩, A90, H⟩ := H
   replace H : ((round_Pack.f a0 a1_0 t240 t241 a1_2 false).bind fun t242 => (some t242)) = some r := H
   have A9 := A_ A90;clear A90
   replace H := ob_ H
   obtain ⟨t242, A100, H⟩ := H
   replace H : (some t242) = some r := H
   have A10 := A_ A100;clear A100
   obtain rfl := Option.some.inj H
   go_enter Try.func40, Try.ntmps40
   try go_wp2_with (first | ((with_reducible refine gate_dst (N := 3) rfl ?_); refine be_ 3 #[.bool a1_0, .int .i64 a1_1, .int .i64 a1_2, .int .u64 a1_3] 38 ?_; intro gb238 hg w11 hbox hb; have BK238 := A_ (hbox); have GW238 := A_ (sz_ hg (hb_ HB.out)); have GE238 := A_ (sz_ hg (hb_ HB.out)); replace HB := A_ (below_step (hb_ HB.out) hb); clear hb hbox hg; have hcz12_0 := bv_ BK238.out 0; have hcz12_1 := bv_ BK238.out 1; have hcz12_2 := bv_ BK238.out 2; have hcz12_3 := bv_ BK238.out 3; have hfz12_0 := blk_frozen BK238.out 0; have hfz12_1 := blk_frozen BK238.out 1; have hfz12_2 := blk_frozen BK238.out 2; have hfz12_3 := blk_frozen BK238.out 3))
   replace BK238 := A_ (blk_drew BK238.out)
   replace HB := A_ (below_drew1 HB.out)
   refine start_ (n := 10) (S := fun w' => w'.cell? ⟨gb238, 0, none⟩ = some (.bool a1_0) ∧ w'.cell? ⟨gb238, 1, none⟩ = some (.int .i64 a1_1) ∧ w'.cell? ⟨gb238, 2, none⟩ = some (.int .i64 a1_2) ∧ w'.cell? ⟨gb238, 3, none⟩ = some (.int .u64 a1_3)) (ds := []) #[false, false, false, false, false, false, false, false, false, false] (by kernel_rfl) rfl rfl ⟨bc_ BK238.out 0, bc_ BK238.out 1, bc_ BK238.out 2, bc_ BK238.out 3⟩ (fun hHeld => ?_); refine with_tabW round_Narrow.tab5 round_Narrow.bits5 (fun HT_ HW_ => ?_)
   generalize w11.drew = w13 at BK238 HB hHeld ⊢
   refine pu_ 0 (some 15) #[true, false, false, false, false, false, false, false, false, false] rfl rfl (any_of HT_.out (by kernel_rfl)) ?_
   refine pu_ 1 (some 16) #[true, true, false, false, false, false, false, false, false, false] rfl rfl (any_of HT_.out (by kernel_rfl)) ?_
   refine pu_ 3 (some 18) #[true, true, false, true, false, false, false, false, false, false] rfl rfl (any_of HT_.out (by kernel_rfl)) ?_
   refine pu_ 6 (some 21) #[true, true, false, true, false, false, true, false, false, false] rfl rfl (any_of HT_.out (by kernel_rfl)) ?_
   refine tk4_ 2 (some 17) #[true, true, true, true, false, false, true, false, false, false] rfl rfl (take_ofW HT_.out HW_.out (by kernel_rfl)) hHeld ?_
   refine tk4_ 4 (some 19) #[true, true, true, true, true, false, true, false, false, false] rfl rfl (take_ofW HT_.out HW_.out (by kernel_rfl)) hHeld ?_
   refine tk4_ 7 (some 22) #[true, true, true, true, true, false, true, true, false, false] rfl rfl (take_ofW HT_.out HW_.out (by kernel_rfl)) hHeld ?_
   refine one_ (i := 5) (N := some 20) #[true, true, true, true, true, true, true, true, false, false] rfl rfl (one_of HT_.out (by kernel_rfl)) (by decide) (fun K hK => ?_)
   refine goes_ Try.func39 (by kernel_rfl) rfl #[.int .u64 a1_3] (by rfl) rfl rfl mp_ ?_
   with_reducible refine (wide_Of.calls a1_3 t240 t241 _ A9.out).mono ?_
   rintro e w14 ⟨rfl, hb⟩
   refine ⟨_, rfl, ?_⟩
   replace BK238 := A_ (bb_ BK238.out hb)
   replace HB := A_ (below_step (hb1_ HB.out GE238.out) hb);(try clear hb);(try clear hb2);(try clear hk);(try clear hi)
   refine hK.out _ _ ⟨bc_ BK238.out 0, bc_ BK238.out 1, bc_ BK238.out 2, bc_ BK238.out 3⟩ (fun hHeld => ?_)
   clear hK K
   refine norm_ (a' := ?_) ?_ ?_
   rotate_left
   ·show Act.put _ (some 20) _ = _
    simp only [Act.put, lI_, l0_, lS_, i64_w, i32_w]
    rfl
   refine one_ (i := 8) (N := some 23) #[true, true, true, true, true, true, true, true, true, false] rfl rfl (one_of HT_.out (by kernel_rfl)) (by decide) (fun K hK => ?_)
   refine goes_ Try.func36 (by kernel_rfl) rfl #[.int .i64 a0, .bool a1_0, .agg #[.int .u64 t240, .int .u64 t241], .int .i64 a1_2, .bool false] (by rfl) rfl rfl mp_ ?_
   with_reducible refine (round_Pack.calls a0 a1_0 t240 t241 a1_2 false t242 _ A10.out).mono ?_
   rintro e w15 ⟨rfl, hb⟩
   refine ⟨_, rfl, ?_⟩
   replace BK238 := A_ (bb_ BK238.out hb)
   replace HB := A_ (below_step (hb1_ HB.out GE238.out) hb);(try clear hb);(try clear hb2);(try clear hk);(try clear hi)
   refine hK.out _ _ ⟨bc_ BK238.out 0, bc_ BK238.out 1, bc_ BK238.out 2, bc_ BK238.out 3⟩ (fun hHeld => ?_)
   clear hK K
   refine norm_ (a' := ?_) ?_ ?_
   rotate_left
   ·show Act.put _ (some 23) _ = _
    simp only [Act.put, lI_, l0_, lS_, i64_w, i32_w]
    rfl
   refine pu_ 9 (some 4) #[true, true, true, true, true, true, true, true, true, true] rfl rfl (any_of HT_.out (by kernel_rfl)) ?_
   refine done_ (done_of HT_.out (by kernel_rfl)) ?_
   try go_wp2
   go_ret
   exact ⟨er_, hb1_ HB.out GE238.out⟩
  ·rw [if_neg c8] at H
   have c8b0 : (a1_1 == 1) = false := beq_eq_false_iff_ne.mpr c8
   have c8b1 : (a1_1 != 1) = true := bne_iff_ne.mpr c8
   by_cases c16 : a1_1 = 2
   ·rw [if_pos c16] at H
    have c16b0 : (a1_1 == 2) = true := beq_iff_eq.mpr c16
    have c16b1 : (a1_1 != 2) = false := bne_eq_false_iff_eq.mpr c16
    clear c16
    replace H := ob_ H
    obtain ⟨t243, A170, H⟩ := H
    replace H : (some t243) = some r := H
    have A17 := A_ A170;clear A170
    obtain rfl := Option.some.inj H
    go_enter Try.func40, Try.ntmps40
    go_wp2_with (first | ((with_reducible refine gate_dst (N := 3) rfl ?_); refine be_ 3 #[.bool a1_0, .int .i64 a1_1, .int .i64 a1_2, .int .u64 a1_3] 38 ?_; intro gb238 hg w18 hbox hb; have BK238 := A_ (hbox); have GW238 := A_ (sz_ hg (hb_ HB.out)); have GE238 := A_ (sz_ hg (hb_ HB.out)); replace HB := A_ (below_step (hb_ HB.out) hb); clear hb hbox hg; have hcz19_0 := bv_ BK238.out 0; have hcz19_1 := bv_ BK238.out 1; have hcz19_2 := bv_ BK238.out 2; have hcz19_3 := bv_ BK238.out 3; have hfz19_0 := blk_frozen BK238.out 0; have hfz19_1 := blk_frozen BK238.out 1; have hfz19_2 := blk_frozen BK238.out 2; have hfz19_3 := blk_frozen BK238.out 3) | ((with_reducible refine gate_callee (f := 42) rfl ?_); refine gl_ (some 29) Try.func42 #[.int .i64 a0, .bool a1_0] ?_; (with_reducible refine (shape_Inf.calls a0 a1_0 t243 _ A17.out).mono ?_); rintro e w20 ⟨rfl, hb⟩; refine ⟨_, rfl, ?_⟩; replace BK238 := A_ (bb_ BK238.out hb); replace HB := A_ (below_step (hb1_ HB.out GE238.out) hb); (try clear hb); (try clear hb2); (try clear hk); (try clear hi)))
    go_ret
    exact ⟨er_, hb1_ HB.out GE238.out⟩
   ·rw [if_neg c16] at H
    have c16b0 : (a1_1 == 2) = false := beq_eq_false_iff_ne.mpr c16
    have c16b1 : (a1_1 != 2) = true := bne_iff_ne.mpr c16
    by_cases c21 : a1_1 = 3
    ·rw [if_pos c21] at H
     have c21b0 : (a1_1 == 3) = true := beq_iff_eq.mpr c21
     have c21b1 : (a1_1 != 3) = false := bne_eq_false_iff_eq.mpr c21
     clear c21
     replace H := ob_ H
     obtain ⟨t244, A220, H⟩ := H
     replace H : (some t244) = some r := H
     have A22 := A_ A220;clear A220
     obtain rfl := Option.some.inj H
     go_enter Try.func40, Try.ntmps40
     go_wp2_with (first | ((with_reducible refine gate_dst (N := 3) rfl ?_); refine be_ 3 #[.bool a1_0, .int .i64 a1_1, .int .i64 a1_2, .int .u64 a1_3] 38 ?_; intro gb238 hg w23 hbox hb; have BK238 := A_ (hbox); have GW238 := A_ (sz_ hg (hb_ HB.out)); have GE238 := A_ (sz_ hg (hb_ HB.out)); replace HB := A_ (below_step (hb_ HB.out) hb); clear hb hbox hg; have hcz24_0 := bv_ BK238.out 0; have hcz24_1 := bv_ BK238.out 1; have hcz24_2 := bv_ BK238.out 2; have hcz24_3 := bv_ BK238.out 3; have hfz24_0 := blk_frozen BK238.out 0; have hfz24_1 := blk_frozen BK238.out 1; have hfz24_2 := blk_frozen BK238.out 2; have hfz24_3 := blk_frozen BK238.out 3) | ((with_reducible refine gate_callee (f := 34) rfl ?_); refine gl_ (some 33) Try.func34 #[.int .i64 a0] ?_; (with_reducible refine (shape_Nan.calls a0 t244 _ A22.out).mono ?_); rintro e w25 ⟨rfl, hb⟩; refine ⟨_, rfl, ?_⟩; replace BK238 := A_ (bb_ BK238.out hb); replace HB := A_ (below_step (hb1_ HB.out GE238.out) hb); (try clear hb); (try clear hb2); (try clear hk); (try clear hi)))
     go_ret
     exact ⟨er_, hb1_ HB.out GE238.out⟩
    ·rw [if_neg c21] at H
     have c21b0 : (a1_1 == 3) = false := beq_eq_false_iff_ne.mpr c21
     have c21b1 : (a1_1 != 3) = true := bne_iff_ne.mpr c21
     obtain rfl := Option.some.inj H
     go_enter Try.func40, Try.ntmps40
     go_wp2_with (first | ((with_reducible refine gate_dst (N := 3) rfl ?_); refine be_ 3 #[.bool a1_0, .int .i64 a1_1, .int .i64 a1_2, .int .u64 a1_3] 38 ?_; intro gb238 hg w26 hbox hb; have BK238 := A_ (hbox); have GW238 := A_ (sz_ hg (hb_ HB.out)); have GE238 := A_ (sz_ hg (hb_ HB.out)); replace HB := A_ (below_step (hb_ HB.out) hb); clear hb hbox hg; have hcz27_0 := bv_ BK238.out 0; have hcz27_1 := bv_ BK238.out 1; have hcz27_2 := bv_ BK238.out 2; have hcz27_3 := bv_ BK238.out 3; have hfz27_0 := blk_frozen BK238.out 0; have hfz27_1 := blk_frozen BK238.out 1; have hfz27_2 := blk_frozen BK238.out 2; have hfz27_3 := blk_frozen BK238.out 3))
     go_ret
     exact ⟨er_, hb1_ HB.out GE238.out⟩
def round_Whole.f (a0 : Int) (a1 : Bool) (a2 : Int) : Option (Int) := if a1 = true then ((wide_Of.f a2).bind fun bt221 => ((round_Pack.f a0 (decide (a2 > 0)) bt221.1 bt221.2 0 false).bind fun t223 => (some t223))) else ((wide_Of.f a2).bind fun bt224 => ((round_Pack.f a0 false bt224.1 bt224.2 0 false).bind fun t226 => (some t226)))
theorem round_Whole.calls (a0 : Int) (a1 : Bool) (a2 : Int) (r : Int) (w : World) (h : round_Whole.f a0 a1 a2 = some r) :
  Calls Try.prog 65 #[.int .i64 a0, .bool a1, .int .u64 a2] w fun e w' => e = .returned (.int .u64 r) ∧ Below w.heap.size w w' := by
 have HB := A_ (Below.refl w.heap.size w)
 have H : (if a1 = true then ((wide_Of.f a2).bind fun bt221 => ((round_Pack.f a0 (decide (a2 > 0)) bt221.1 bt221.2 0 false).bind fun t223 => (some t223))) else ((wide_Of.f a2).bind fun bt224 => ((round_Pack.f a0 false bt224.1 bt224.2 0 false).bind fun t226 => (some t226)))) = some r := h
 clear h
 by_cases c4 : a1 = true
 ·subst c4
  have H1 : ((wide_Of.f a2).bind fun bt221 => ((round_Pack.f a0 (decide (a2 > 0)) bt221.1 bt221.2 0 false).bind fun t223 => (some t223))) = some r := by rw [if_pos rfl] at H; exact H
  clear H;have H := H1;clear H1
  replace H := ob_ H
  obtain ⟨⟨t221, t222⟩, A50, H⟩ := H
  replace H : ((round_Pack.f a0 (decide (a2 > 0)) t221 t222 0 false).bind fun t223 => (some t223)) = some r := H
  have A5 := A_ A50;clear A50
  replace H := ob_ H
  obtain ⟨t223, A60, H⟩ := H
  replace H : (some t223) = some r := H
  have A6 := A_ A60;clear A60
  obtain rfl := Option.some.inj H
  go_enter Try.func65, Try.ntmps65
  go_wp2_with (first | ((with_reducible refine gate_callee (f := 39) rfl ?_); refine gl_ (some 14) Try.func39 #[.int .u64 a2] ?_; (with_reducible refine (wide_Of.calls a2 t221 t222 _ A5.out).mono ?_); rintro e w7 ⟨rfl, hb⟩; refine ⟨_, rfl, ?_⟩; replace HB := A_ (below_step (hb_ HB.out) hb); (try clear hb); (try clear hb2); (try clear hk); (try clear hi)) | ((with_reducible refine gate_callee (f := 36) rfl ?_); refine gl_ (some 15) Try.func36 #[.int .i64 a0, .bool (decide (a2 > 0)), .agg #[.int .u64 t221, .int .u64 t222], .int .i64 0, .bool false] ?_; (with_reducible refine (round_Pack.calls a0 (decide (a2 > 0)) t221 t222 0 false t223 _ A6.out).mono ?_); rintro e w8 ⟨rfl, hb⟩; refine ⟨_, rfl, ?_⟩; replace HB := A_ (below_step (hb_ HB.out) hb); (try clear hb); (try clear hb2); (try clear hk); (try clear hi)))
  go_ret
  exact ⟨er_, hb_ HB.out⟩
 ·replace c4 := Bool.eq_false_iff.mpr c4
  subst c4
  have H1 : ((wide_Of.f a2).bind fun bt224 => ((round_Pack.f a0 false bt224.1 bt224.2 0 false).bind fun t226 => (some t226))) = some r := by rw [if_neg (show ¬ (false = true) by decide)] at H; exact H
  clear H;have H := H1;clear H1
  replace H := ob_ H
  obtain ⟨⟨t224, t225⟩, A90, H⟩ := H
  replace H : ((round_Pack.f a0 false t224 t225 0 false).bind fun t226 => (some t226)) = some r := H
  have A9 := A_ A90;clear A90
  replace H := ob_ H
  obtain ⟨t226, A100, H⟩ := H
  replace H : (some t226) = some r := H
  have A10 := A_ A100;clear A100
  obtain rfl := Option.some.inj H
  go_enter Try.func65, Try.ntmps65
  go_wp2_with (first | ((with_reducible refine gate_callee (f := 39) rfl ?_); refine gl_ (some 14) Try.func39 #[.int .u64 a2] ?_; (with_reducible refine (wide_Of.calls a2 t224 t225 _ A9.out).mono ?_); rintro e w11 ⟨rfl, hb⟩; refine ⟨_, rfl, ?_⟩; replace HB := A_ (below_step (hb_ HB.out) hb); (try clear hb); (try clear hb2); (try clear hk); (try clear hi)) | ((with_reducible refine gate_callee (f := 36) rfl ?_); refine gl_ (some 15) Try.func36 #[.int .i64 a0, .bool false, .agg #[.int .u64 t224, .int .u64 t225], .int .i64 0, .bool false] ?_; (with_reducible refine (round_Pack.calls a0 false t224 t225 0 false t226 _ A10.out).mono ?_); rintro e w12 ⟨rfl, hb⟩; refine ⟨_, rfl, ?_⟩; replace HB := A_ (below_step (hb_ HB.out) hb); (try clear hb); (try clear hb2); (try clear hk); (try clear hi)))
  go_ret
  exact ⟨er_, hb_ HB.out⟩
def L03_awake.f : Option (Bool) := some true
theorem L03_awake.v1 : round_Whole.f 32 false 16777217 = some 1266679808 := by decide +kernel
theorem L03_awake.v2 : round_Pack.f 64 false 0 1 (-1075) false = some 0 := by decide +kernel
theorem L03_awake.v3 : round_Pack.f 64 false 0 1 (-1075) true = some 1 := by decide +kernel
theorem L03_awake.calls (r : Bool) (w : World) (h : L03_awake.f = some r) :
  Calls Try.prog 35 #[] w fun e w' => e = .returned (.bool r) ∧ Below w.heap.size w w' := by
 obtain rfl := Option.some.inj h
 have HB := A_ (Below.refl w.heap.size w)
 go_enter Try.func35, Try.ntmps35
 go_wp2_with (first
  | (go_at_call 65; (with_reducible refine (round_Whole.calls 32 false 16777217 1266679808 _ L03_awake.v1).mono ?_); rintro e w1 ⟨rfl, hb⟩; replace HB := A_ (below_step HB.out hb); clear hb)
  | (go_at_call 39; (with_reducible refine (wide_Of.calls 1 0 1 _ rfl).mono ?_); rintro e w2 ⟨rfl, hb⟩; replace HB := A_ (below_step HB.out hb); clear hb)
  | (go_at_call 36; (with_reducible refine (round_Pack.calls 64 false 0 1 (-1075) false 0 _ L03_awake.v2).mono ?_); rintro e w3 ⟨rfl, hb⟩; replace HB := A_ (below_step HB.out hb); clear hb)
  | (go_at_call 36; (with_reducible refine (round_Pack.calls 64 false 0 1 (-1075) true 1 _ L03_awake.v3).mono ?_); rintro e w4 ⟨rfl, hb⟩; replace HB := A_ (below_step HB.out hb); clear hb))
 go_ret
 exact ⟨rfl, HB.out⟩
mutual
def L03_RoundKeeps.j0 : Nat → Int → Int → Bool → Bool → Int → Int → Int → Bool → Option (Bool)
 | 0, _, _, _, _, _, _, _, _ => none
 | k + 1, x0, x1, x17, x742000, x742001, x742002, x742003, x742004 => if x17 = true then (some true) else ((shape_Open.f k x0 x1).bind fun bt743 => (if bt743.2.1 = 3 then (L03_RoundKeeps.j1 k x0 x1 false x742000 x742001 x742002 x742003 x742004 bt743.1 bt743.2.1 bt743.2.2.1 bt743.2.2.2) else ((round_Narrow.f x0 bt743.1 bt743.2.1 bt743.2.2.1 bt743.2.2.2).bind fun t748 => ((shape_Cut.f x0 x1).bind fun t749 => (L03_RoundKeeps.j1 k x0 x1 (t748 != t749) x742000 x742001 x742002 x742003 x742004 bt743.1 bt743.2.1 bt743.2.2.1 bt743.2.2.2)))))
def L03_RoundKeeps.j1 : Nat → Int → Int → Bool → Bool → Int → Int → Int → Bool → Bool → Int → Int → Int → Option (Bool)
 | 0, _, _, _, _, _, _, _, _, _, _, _, _ => none
 | k + 1, x0, x1, x32, x742000, x742001, x742002, x742003, x742004, x748000, x748001, x748002, x748003 => if x32 = true then (some false) else (if x748001 = 1 then ((wide_Of.f x748003).bind fun bt750 => ((wide_Left.f bt750.1 bt750.2 60).bind fun bt752 => ((round_Pack.f x0 x748000 bt752.1 bt752.2 (wrap64 (x748002 - 60)) false).bind fun t754 => ((shape_Cut.f x0 x1).bind fun t755 => (L03_RoundKeeps.j2 k x0 (t754 != t755) x742000 x742001 x742002 x742003 x742004))))) else (L03_RoundKeeps.j2 k x0 false x742000 x742001 x742002 x742003 x742004))
def L03_RoundKeeps.j2 : Nat → Int → Bool → Bool → Int → Int → Int → Bool → Option (Bool)
 | 0, _, _, _, _, _, _, _ => none
 | k + 1, x0, x52, x742000, x742001, x742002, x742003, x742004 => if x52 = true then (some false) else ((round_Pack.f x0 false x742001 x742002 x742003 false).bind fun t756 => ((round_Pack.f x0 false x742001 x742002 x742003 true).bind fun t757 => (if t756 ≤ t757 then ((shape_Inf.f x0 false).bind fun t758 => (if t757 ≤ t758 then ((round_Pack.f x0 true x742001 x742002 x742003 true).bind fun t759 => ((shape_Zero.f x0 true).bind fun t760 => (some (t759 == (Go.bits .or .u64 t757 t760))))) else (some false))) else (some false))))
end
def L03_RoundKeeps.f (k : Nat) (a0 : Int) (a1 : Int) (a2_0 : Bool) (a2_1 : Int) (a2_2 : Int) (a2_3 : Int) (a2_4 : Bool) : Option (Bool) := (L03_awake.f).bind fun t742 => (if t742 = true then (if a0 = 32 then (L03_RoundKeeps.j0 k a0 a1 false a2_0 a2_1 a2_2 a2_3 a2_4) else (L03_RoundKeeps.j0 k a0 a1 (a0 != 64) a2_0 a2_1 a2_2 a2_3 a2_4)) else (some false))
theorem L03_RoundKeeps.mono_l : ∀ k, (∀ y0 y1 y2 y3 y4 y5 y6 y7, LeO (L03_RoundKeeps.j0 k y0 y1 y2 y3 y4 y5 y6 y7) (L03_RoundKeeps.j0 (k + 1) y0 y1 y2 y3 y4 y5 y6 y7)) ∧ (∀ y0 y1 y2 y3 y4 y5 y6 y7 y8 y9 y10 y11, LeO (L03_RoundKeeps.j1 k y0 y1 y2 y3 y4 y5 y6 y7 y8 y9 y10 y11) (L03_RoundKeeps.j1 (k + 1) y0 y1 y2 y3 y4 y5 y6 y7 y8 y9 y10 y11)) ∧ (∀ y0 y1 y2 y3 y4 y5 y6, LeO (L03_RoundKeeps.j2 k y0 y1 y2 y3 y4 y5 y6) (L03_RoundKeeps.j2 (k + 1) y0 y1 y2 y3 y4 y5 y6))
 | 0 => ⟨fun _ _ _ _ _ _ _ _ r h => by simp [L03_RoundKeeps.j0] at h, fun _ _ _ _ _ _ _ _ _ _ _ _ r h => by simp [L03_RoundKeeps.j1] at h, fun _ _ _ _ _ _ _ r h => by simp [L03_RoundKeeps.j2] at h⟩
 | k + 1 => by
  obtain ⟨ih0, ih1, ih2⟩ := L03_RoundKeeps.mono_l k
  refine ⟨?_, ?_, ?_⟩
  ·intro y0 y1 y2 y3 y4 y5 y6 y7
   unfold L03_RoundKeeps.j0
   repeat' first
   | (with_reducible exact ih0 _ _ _ _ _ _ _ _)
   | (with_reducible exact ih1 _ _ _ _ _ _ _ _ _ _ _ _)
   | (with_reducible exact ih2 _ _ _ _ _ _ _)
   | (with_reducible exact shape_Open.mono _ _ _)
   | (with_reducible exact LeO.refl _)
   | (with_reducible exact LeO.none _)
   | (with_reducible refine LeO.ite ?_ ?_)
   | (with_reducible refine LeO.bind ?_ (fun _ => ?_))
   | exact ih0 _ _ _ _ _ _ _ _
   | exact ih1 _ _ _ _ _ _ _ _ _ _ _ _
   | exact ih2 _ _ _ _ _ _ _
   | exact shape_Open.mono _ _ _
   | exact LeO.none _
   | refine LeO.ite ?_ ?_
   | refine LeO.bind ?_ (fun _ => ?_)
  ·intro y0 y1 y2 y3 y4 y5 y6 y7 y8 y9 y10 y11
   unfold L03_RoundKeeps.j1
   repeat' first
   | (with_reducible exact ih0 _ _ _ _ _ _ _ _)
   | (with_reducible exact ih1 _ _ _ _ _ _ _ _ _ _ _ _)
   | (with_reducible exact ih2 _ _ _ _ _ _ _)
   | (with_reducible exact shape_Open.mono _ _ _)
   | (with_reducible exact LeO.refl _)
   | (with_reducible exact LeO.none _)
   | (with_reducible refine LeO.ite ?_ ?_)
   | (with_reducible refine LeO.bind ?_ (fun _ => ?_))
   | exact ih0 _ _ _ _ _ _ _ _
   | exact ih1 _ _ _ _ _ _ _ _ _ _ _ _
   | exact ih2 _ _ _ _ _ _ _
   | exact shape_Open.mono _ _ _
   | exact LeO.none _
   | refine LeO.ite ?_ ?_
   | refine LeO.bind ?_ (fun _ => ?_)
  ·intro y0 y1 y2 y3 y4 y5 y6
   unfold L03_RoundKeeps.j2
   repeat' first
   | (with_reducible exact ih0 _ _ _ _ _ _ _ _)
   | (with_reducible exact ih1 _ _ _ _ _ _ _ _ _ _ _ _)
   | (with_reducible exact ih2 _ _ _ _ _ _ _)
   | (with_reducible exact shape_Open.mono _ _ _)
   | (with_reducible exact LeO.refl _)
   | (with_reducible exact LeO.none _)
   | (with_reducible refine LeO.ite ?_ ?_)
   | (with_reducible refine LeO.bind ?_ (fun _ => ?_))
   | exact ih0 _ _ _ _ _ _ _ _
   | exact ih1 _ _ _ _ _ _ _ _ _ _ _ _
   | exact ih2 _ _ _ _ _ _ _
   | exact shape_Open.mono _ _ _
   | exact LeO.none _
   | refine LeO.ite ?_ ?_
   | refine LeO.bind ?_ (fun _ => ?_)
theorem L03_RoundKeeps.mono : ∀ a0 a1 a2 a3 a4 a5 a6 k, LeO (L03_RoundKeeps.f k a0 a1 a2 a3 a4 a5 a6) (L03_RoundKeeps.f (k + 1) a0 a1 a2 a3 a4 a5 a6) := by
 intro a0 a1 a2 a3 a4 a5 a6 k
 obtain ⟨ih0, ih1, ih2⟩ := L03_RoundKeeps.mono_l k
 unfold L03_RoundKeeps.f
 repeat' first
   | (with_reducible exact ih0 _ _ _ _ _ _ _ _)
   | (with_reducible exact ih1 _ _ _ _ _ _ _ _ _ _ _ _)
   | (with_reducible exact ih2 _ _ _ _ _ _ _)
   | (with_reducible exact shape_Open.mono _ _ _)
   | (with_reducible exact LeO.refl _)
   | (with_reducible exact LeO.none _)
   | (with_reducible refine LeO.ite ?_ ?_)
   | (with_reducible refine LeO.bind ?_ (fun _ => ?_))
   | exact ih0 _ _ _ _ _ _ _ _
   | exact ih1 _ _ _ _ _ _ _ _ _ _ _ _
   | exact ih2 _ _ _ _ _ _ _
   | exact shape_Open.mono _ _ _
   | exact LeO.none _
   | refine LeO.ite ?_ ?_
   | refine LeO.bind ?_ (fun _ => ?_)
def L03_RoundKeeps.T8 : Bool × List (List Nat × List Nat) := (true, [([], []), ([0], [0]), ([1], [1]), ([2], [2]), ([3], [3]), ([3], [3]), ([5, 3], [3, 5]), ([3], [3]), ([7, 3], [3, 7]), ([8, 3, 3], [3, 8]), ([9, 9, 3], [3, 9]), ([3], [3]), ([11, 3], [3, 11]), ([12, 3], [3, 12]), ([4, 6, 10, 13, 10, 3], [3, 4, 6, 10, 13]), ([3], [3]), ([3], [3]), ([15, 16, 14, 3], [3, 15, 16]), ([14, 17, 3], [3, 14, 17]), ([3, 18], [3, 18])])
def L03_RoundKeeps.B8 : List Nat := [0, 1, 3, 7, 15, 15, 47, 15, 143, 399, 911, 15, 2063, 6159, 16383, 15, 15, 131071, 262143, 524287]
theorem L03_RoundKeeps.tab8 : rtab .any (opsOf Try.f10 8) = L03_RoundKeeps.T8 := by kernel_rfl
theorem L03_RoundKeeps.bits8 : waitsOk L03_RoundKeeps.T8.2 L03_RoundKeeps.B8 = true := by kernel_rfl
def L03_RoundKeeps.T10 : Bool × List (List Nat × List Nat) := (true, [([], []), ([], []), ([1], [1]), ([], []), ([3], [3]), ([0, 2, 4], [0, 2, 4]), ([], []), ([], []), ([7], [7]), ([], []), ([9], [9]), ([6, 8, 10, 5], [6, 8, 10]), ([5, 11, 0, 1, 2, 3, 4, 5], [5]), ([11, 12, 0, 1, 2, 3, 4, 5, 6, 7, 8, 9, 10, 11, 12], [11])])
def L03_RoundKeeps.B10 : List Nat := [0, 0, 2, 0, 8, 31, 0, 0, 128, 0, 512, 2047, 4095, 8191]
theorem L03_RoundKeeps.tab10 : rtab .any (opsOf Try.f10 10) = L03_RoundKeeps.T10 := by kernel_rfl
theorem L03_RoundKeeps.bits10 : waitsOk L03_RoundKeeps.T10.2 L03_RoundKeeps.B10 = true := by kernel_rfl
theorem L03_RoundKeeps.calls (k : Nat) (a0 : Int) (a1 : Int) (a2_0 : Bool) (a2_1 : Int) (a2_2 : Int) (a2_3 : Int) (a2_4 : Bool) (r : Bool) (w : World) (h : L03_RoundKeeps.f k a0 a1 a2_0 a2_1 a2_2 a2_3 a2_4 = some r) (hr_ : Aside0 (r = true)) :
  Calls Try.prog 10 #[.int .i64 a0, .int .u64 a1, .agg #[.bool a2_0, .int .u64 a2_1, .int .u64 a2_2, .int .i64 a2_3, .bool a2_4]] w fun e w' => e = .returned (.bool r) ∧ Below w.heap.size w w' := by
 have hu44 := Try.underlying44
 have hu38 := Try.underlying38
 have hu42 := Try.underlying42
 have HB := A_ (Below.refl w.heap.size w)
 have H : ((L03_awake.f).bind fun t742 => (if t742 = true then (if a0 = 32 then (L03_RoundKeeps.j0 k a0 a1 false a2_0 a2_1 a2_2 a2_3 a2_4) else (L03_RoundKeeps.j0 k a0 a1 (a0 != 64) a2_0 a2_1 a2_2 a2_3 a2_4)) else (some false))) = some r := h
 clear h
 replace H := ob_ H
 obtain ⟨t742, A40, H⟩ := H
 replace H : (if t742 = true then (if a0 = 32 then (L03_RoundKeeps.j0 k a0 a1 false a2_0 a2_1 a2_2 a2_3 a2_4) else (L03_RoundKeeps.j0 k a0 a1 (a0 != 64) a2_0 a2_1 a2_2 a2_3 a2_4)) else (some false)) = some r := H
 have A4 := A_ A40;clear A40
 by_cases c5 : t742 = true
 ·subst c5
  have H1 : (if a0 = 32 then (L03_RoundKeeps.j0 k a0 a1 false a2_0 a2_1 a2_2 a2_3 a2_4) else (L03_RoundKeeps.j0 k a0 a1 (a0 != 64) a2_0 a2_1 a2_2 a2_3 a2_4)) = some r := by rw [if_pos rfl] at H; exact H
  clear H;have H := H1;clear H1;have HC6 := A_ H;clear H
  go_enter Try.func10, Try.ntmps10
  go_upto_region 3 with (first | ((with_reducible refine gate_dst (N := 5) rfl ?_); refine be_ 5 #[.bool a2_0, .int .u64 a2_1, .int .u64 a2_2, .int .i64 a2_3, .bool a2_4] 44 ?_; intro gb741 hg w7 hbox hb; have BK741 := A_ (hbox); have GW741 := A_ (sz_ hg (hb_ HB.out)); have GE741 := A_ (sz_ hg (hb_ HB.out)); replace HB := A_ (below_step (hb_ HB.out) hb); clear hb hbox hg) | ((with_reducible refine gate_callee (f := 35) rfl ?_); refine gl_ (some 10) Try.func35 #[] ?_; (with_reducible refine (L03_awake.calls  true _ A4.out).mono ?_); rintro e w8 ⟨rfl, hb⟩; refine ⟨_, rfl, ?_⟩; replace BK741 := A_ (bb_ BK741.out hb); replace HB := A_ (below_step (hb1_ HB.out GE741.out) hb); (try clear hb); (try clear hb2); (try clear hk); (try clear hi)))
  (try simp only [Act.put, lI_, l0_, lS_])
  go_cut [17] (fun v17 wc => ∃ (kq : Nat) (x17_5 : Bool), v17 = .bool x17_5 ∧ Aside0 (L03_RoundKeeps.j0 kq a0 a1 x17_5 a2_0 a2_1 a2_2 a2_3 a2_4 = some r) ∧ Aside0 (kq ≤ k) ∧ Aside0 (wc.heap[gb741]? = some (.cells #[.bool a2_0, .int .u64 a2_1, .int .u64 a2_2, .int .i64 a2_3, .bool a2_4] 44 (0, 0))) ∧ Aside0 (Below w.heap.size w wc))
  case first =>
   have H := HC6.out
   clear HC6
   by_cases c9 : a0 = 32
   ·rw [if_pos c9] at H
    have c9b0 : (a0 == 32) = true := beq_iff_eq.mpr c9
    have c9b1 : (a0 != 32) = false := bne_eq_false_iff_eq.mpr c9
    clear c9
    (first | rw [c9b0] | (simp only [i64_w, i32_w]; rw [c9b0]) | skip)
    have H' := A_ H
    clear H
    go_wp2
    go_meet
    case rel => exact ⟨_, (false), sm_, H', ⟨by first | omega | exact Nat.le_refl _⟩, ⟨bk_ BK741.out⟩, ⟨hb1_ HB.out GE741.out⟩⟩
   ·rw [if_neg c9] at H
    have c9b0 : (a0 == 32) = false := beq_eq_false_iff_ne.mpr c9
    have c9b1 : (a0 != 32) = true := bne_iff_ne.mpr c9
    (first | rw [c9b0] | (simp only [i64_w, i32_w]; rw [c9b0]) | skip)
    have H' := A_ H
    clear H
    go_wp2
    go_meet
    case rel => exact ⟨_, ((a0 != 64)), sm_, H', ⟨by first | omega | exact Nat.le_refl _⟩, ⟨bk_ BK741.out⟩, ⟨hb1_ HB.out GE741.out⟩⟩
  case rest =>
   clear HC6
   try clear c1
   try clear p2
   try clear c3
   try clear c5
   try clear c9
   try clear c9b0
   try clear c9b1
   obtain ⟨kq, x17_5, rfl, HA, HJ5, BK741, HB⟩ := hcut
   cases kq with
   | zero => exact absurd HA.out (by simp [L03_RoundKeeps.j0])
   | succ kj5 =>
    have H := HA.out
    clear HA
    simp only [L03_RoundKeeps.j0] at H
    by_cases c10 : x17_5 = true
    ·subst c10
     have H1 : (some true) = some r := by rw [if_pos rfl] at H; exact H
     clear H;have H := H1;clear H1
     obtain rfl := Option.some.inj H
     go_wp2
     go_ret
     exact ⟨er_, hb1_ HB.out GE741.out⟩
    ·replace c10 := Bool.eq_false_iff.mpr c10
     subst c10
     have H1 : ((shape_Open.f kj5 a0 a1).bind fun bt743 => (if bt743.2.1 = 3 then (L03_RoundKeeps.j1 kj5 a0 a1 false a2_0 a2_1 a2_2 a2_3 a2_4 bt743.1 bt743.2.1 bt743.2.2.1 bt743.2.2.2) else ((round_Narrow.f a0 bt743.1 bt743.2.1 bt743.2.2.1 bt743.2.2.2).bind fun t748 => ((shape_Cut.f a0 a1).bind fun t749 => (L03_RoundKeeps.j1 kj5 a0 a1 (t748 != t749) a2_0 a2_1 a2_2 a2_3 a2_4 bt743.1 bt743.2.1 bt743.2.2.1 bt743.2.2.2))))) = some r := by rw [if_neg (show ¬ (false = true) by decide)] at H; exact H
     clear H;have H := H1;clear H1
     replace H := ob_ H
     obtain ⟨⟨t743, t744, t745, t746⟩, A110, H⟩ := H
     replace H : (if t744 = 3 then (L03_RoundKeeps.j1 kj5 a0 a1 false a2_0 a2_1 a2_2 a2_3 a2_4 t743 t744 t745 t746) else ((round_Narrow.f a0 t743 t744 t745 t746).bind fun t748 => ((shape_Cut.f a0 a1).bind fun t749 => (L03_RoundKeeps.j1 kj5 a0 a1 (t748 != t749) a2_0 a2_1 a2_2 a2_3 a2_4 t743 t744 t745 t746)))) = some r := H
     have A11 := A_ A110;clear A110;have HC12 := A_ H;clear H
     go_upto_region 6 with (first | ((with_reducible refine gate_callee (f := 31) rfl ?_); refine gl_ (some 20) Try.func31 #[.int .i64 a0, .int .u64 a1] ?_; (with_reducible refine (shape_Open.calls kj5 a0 a1 t743 t744 t745 t746 _ A11.out).mono ?_); rintro e w13 ⟨rfl, hb⟩; refine ⟨_, rfl, ?_⟩; replace BK741 := A_ (bb_ BK741.out hb); replace HB := A_ (below_step (hb1_ HB.out GE741.out) hb); (try clear hb); (try clear hb2); (try clear hk); (try clear hi)) | ((with_reducible refine gate_dst (N := 7) rfl ?_); refine be_ 7 #[.bool false, .int .i64 0, .int .i64 0, .int .u64 0] 38 ?_; intro gb747 hg w14 hbox hb; have BK747 := A_ (hbox); have GW747 := A_ (sz_ hg (hb1_ HB.out GE741.out)); have GE747 := A_ (sz_ hg (hb1_ HB.out GE741.out)); have NB741_747 := A_ (nl_ hg BK741.out); have NB747_741 := A_ (ng_ hg BK741.out); replace BK741 := A_ (bb_ BK741.out hb); replace HB := A_ (below_step (hb1_ HB.out GE741.out) hb); clear hb hbox hg; have hnb15 := NB747_741.out; have hnc15 := NB741_747.out; have hcz16_0 := bv_ BK747.out 0; have hcz16_1 := bv_ BK747.out 1; have hcz16_2 := bv_ BK747.out 2; have hcz16_3 := bv_ BK747.out 3; have hfz16_0 := blk_frozen BK747.out 0; have hfz16_1 := blk_frozen BK747.out 1; have hfz16_2 := blk_frozen BK747.out 2; have hfz16_3 := blk_frozen BK747.out 3))
     (try simp only [Act.put, lI_, l0_, lS_])
     go_cut [32] (fun v32 wc => ∃ (kq : Nat) (x32_11 : Bool), v32 = .bool x32_11 ∧ Aside0 (L03_RoundKeeps.j1 kq a0 a1 x32_11 a2_0 a2_1 a2_2 a2_3 a2_4 t743 t744 t745 t746 = some r) ∧ Aside0 (kq ≤ kj5) ∧ Aside0 (wc.heap[gb741]? = some (.cells #[.bool a2_0, .int .u64 a2_1, .int .u64 a2_2, .int .i64 a2_3, .bool a2_4] 44 (0, 0))) ∧ Aside0 (wc.heap[gb747]? = some (.cells #[.bool t743, .int .i64 t744, .int .i64 t745, .int .u64 t746] 38 (0, 0))) ∧ Aside0 (Below w.heap.size w wc))
     case first =>
      have H := HC12.out
      clear HC12
      by_cases c17 : t744 = 3
      ·rw [if_pos c17] at H
       have c17b0 : (t744 == 3) = true := beq_iff_eq.mpr c17
       have c17b1 : (t744 != 3) = false := bne_eq_false_iff_eq.mpr c17
       clear c17
       (first | rw [c17b0] | (simp only [i64_w, i32_w]; rw [c17b0]) | skip)
       have H' := A_ H
       clear H
       have hnb18 := NB747_741.out
       have hnc18 := NB741_747.out
       have hcz19_0 := bv_ BK747.out 0
       have hcz19_1 := bv_ BK747.out 1
       have hcz19_2 := bv_ BK747.out 2
       have hcz19_3 := bv_ BK747.out 3
       have hfz19_0 := blk_frozen BK747.out 0
       have hfz19_1 := blk_frozen BK747.out 1
       have hfz19_2 := blk_frozen BK747.out 2
       have hfz19_3 := blk_frozen BK747.out 3
       go_wp2
       go_meet
       case rel => exact ⟨_, (false), sm_, H', ⟨by have := HJ5.out; first | omega | exact Nat.le_refl _⟩, ⟨bf4_ BK741.out NB741_747.out NB741_747.out NB741_747.out NB741_747.out⟩, ⟨by (with_reducible repeat (first | refine blk_drewN ?_ _ | refine blk_drew ?_ | refine blk_alloc ?_ _)); refine blk_put (cs := #[.bool t743, .int .i64 t744, .int .i64 t745, .int .u64 0]) ?_ 3 _ rfl; (with_reducible repeat (first | refine blk_drewN ?_ _ | refine blk_drew ?_ | refine blk_alloc ?_ _)); refine blk_put (cs := #[.bool t743, .int .i64 t744, .int .i64 0, .int .u64 0]) ?_ 2 _ rfl; (with_reducible repeat (first | refine blk_drewN ?_ _ | refine blk_drew ?_ | refine blk_alloc ?_ _)); refine blk_put (cs := #[.bool t743, .int .i64 0, .int .i64 0, .int .u64 0]) ?_ 1 _ rfl; (with_reducible repeat (first | refine blk_drewN ?_ _ | refine blk_drew ?_ | refine blk_alloc ?_ _)); refine blk_put (cs := #[.bool false, .int .i64 0, .int .i64 0, .int .u64 0]) ?_ 0 _ rfl; (with_reducible repeat (first | refine blk_drewN ?_ _ | refine blk_drew ?_ | refine blk_alloc ?_ _)); exact BK747.out⟩, ⟨hb2_ HB.out GE741.out GE747.out⟩⟩
      ·rw [if_neg c17] at H
       have c17b0 : (t744 == 3) = false := beq_eq_false_iff_ne.mpr c17
       have c17b1 : (t744 != 3) = true := bne_iff_ne.mpr c17
       (first | rw [c17b0] | (simp only [i64_w, i32_w]; rw [c17b0]) | skip)
       replace H := ob_ H
       obtain ⟨t748, A200, H⟩ := H
       replace H : ((shape_Cut.f a0 a1).bind fun t749 => (L03_RoundKeeps.j1 kj5 a0 a1 (t748 != t749) a2_0 a2_1 a2_2 a2_3 a2_4 t743 t744 t745 t746)) = some r := H
       have A20 := A_ A200;clear A200
       replace H := ob_ H
       obtain ⟨t749, A210, H⟩ := H
       replace H : (L03_RoundKeeps.j1 kj5 a0 a1 (t748 != t749) a2_0 a2_1 a2_2 a2_3 a2_4 t743 t744 t745 t746) = some r := H
       have A21 := A_ A210;clear A210
       have H' := A_ H
       clear H
       have hnb22 := NB747_741.out
       have hnc22 := NB741_747.out
       have hcz23_0 := bv_ BK747.out 0
       have hcz23_1 := bv_ BK747.out 1
       have hcz23_2 := bv_ BK747.out 2
       have hcz23_3 := bv_ BK747.out 3
       have hfz23_0 := blk_frozen BK747.out 0
       have hfz23_1 := blk_frozen BK747.out 1
       have hfz23_2 := blk_frozen BK747.out 2
       have hfz23_3 := blk_frozen BK747.out 3
       go_wp2_with (first | (go_at_call 40; (with_reducible refine (round_Narrow.calls a0 t743 t744 t745 t746 t748 _ A20.out).mono ?_); rintro e w24 ⟨rfl, hb⟩; replace BK741 := A_ (blk_below (g := gb741) (o := .cells #[.bool a2_0, .int .u64 a2_1, .int .u64 a2_2, .int .i64 a2_3, .bool a2_4] 44 (0, 0)) (bf4_ BK741.out NB741_747.out NB741_747.out NB741_747.out NB741_747.out) hb); replace BK747 := A_ (blk_below (g := gb747) (o := .cells #[.bool t743, .int .i64 t744, .int .i64 t745, .int .u64 t746] 38 (0, 0)) (by (with_reducible repeat (first | refine blk_drewN ?_ _ | refine blk_drew ?_ | refine blk_alloc ?_ _)); refine blk_put (cs := #[.bool t743, .int .i64 t744, .int .i64 t745, .int .u64 0]) ?_ 3 _ rfl; (with_reducible repeat (first | refine blk_drewN ?_ _ | refine blk_drew ?_ | refine blk_alloc ?_ _)); refine blk_put (cs := #[.bool t743, .int .i64 t744, .int .i64 0, .int .u64 0]) ?_ 2 _ rfl; (with_reducible repeat (first | refine blk_drewN ?_ _ | refine blk_drew ?_ | refine blk_alloc ?_ _)); refine blk_put (cs := #[.bool t743, .int .i64 0, .int .i64 0, .int .u64 0]) ?_ 1 _ rfl; (with_reducible repeat (first | refine blk_drewN ?_ _ | refine blk_drew ?_ | refine blk_alloc ?_ _)); refine blk_put (cs := #[.bool false, .int .i64 0, .int .i64 0, .int .u64 0]) ?_ 0 _ rfl; (with_reducible repeat (first | refine blk_drewN ?_ _ | refine blk_drew ?_ | refine blk_alloc ?_ _)); exact BK747.out) hb); replace HB := A_ (below_step (hb2_ HB.out GE741.out GE747.out) hb); (try clear hb); (try clear hb2); (try clear hk); (try clear hi)) | (go_at_call 32; (with_reducible refine (shape_Cut.calls a0 a1 t749 _ A21.out).mono ?_); rintro e w' ⟨rfl, ⟨nd, rfl⟩⟩))
       go_meet
       case rel => exact ⟨_, ((t748 != t749)), sm_, H', ⟨by have := HJ5.out; first | omega | exact Nat.le_refl _⟩, ⟨bk_ BK741.out⟩, ⟨bk_ BK747.out⟩, ⟨hb2_ HB.out GE741.out GE747.out⟩⟩
     case rest =>
      clear HC12
      try clear c1
      try clear c2
      try clear p2
      try clear c3
      try clear c5
      try clear c9
      try clear c9b0
      try clear c9b1
      try clear c10
      try clear c15
      try clear c17
      try clear c17b0
      try clear c17b1
      try clear c18
      try clear c22
      try clear hcz16_0
      try clear hcz16_1
      try clear hcz16_2
      try clear hcz16_3
      try clear hcz19_0
      try clear hcz19_1
      try clear hcz19_2
      try clear hcz19_3
      try clear hcz23_0
      try clear hcz23_1
      try clear hcz23_2
      try clear hcz23_3
      try clear hfz16_0
      try clear hfz16_1
      try clear hfz16_2
      try clear hfz16_3
      try clear hfz19_0
      try clear hfz19_1
      try clear hfz19_2
      try clear hfz19_3
      try clear hfz23_0
      try clear hfz23_1
      try clear hfz23_2
      try clear hfz23_3
      try clear p2
      obtain ⟨kq, x32_11, rfl, HA, HJ11, BK741, BK747, HB⟩ := hcut
      cases kq with
      | zero => exact absurd HA.out (by simp [L03_RoundKeeps.j1])
      | succ kj11 =>
       have H := HA.out
       clear HA
       simp only [L03_RoundKeeps.j1] at H
       by_cases c25 : x32_11 = true
       ·subst c25
        have H1 : (some false) = some r := by rw [if_pos rfl] at H; exact H
        clear H;have H := H1;clear H1
        exact absurd ((Option.some.inj H).trans hr_.out) (by decide)
       ·replace c25 := Bool.eq_false_iff.mpr c25
        subst c25
        have H1 : (if t744 = 1 then ((wide_Of.f t746).bind fun bt750 => ((wide_Left.f bt750.1 bt750.2 60).bind fun bt752 => ((round_Pack.f a0 t743 bt752.1 bt752.2 (wrap64 (t745 - 60)) false).bind fun t754 => ((shape_Cut.f a0 a1).bind fun t755 => (L03_RoundKeeps.j2 kj11 a0 (t754 != t755) a2_0 a2_1 a2_2 a2_3 a2_4))))) else (L03_RoundKeeps.j2 kj11 a0 false a2_0 a2_1 a2_2 a2_3 a2_4)) = some r := by rw [if_neg (show ¬ (false = true) by decide)] at H; exact H
        clear H;have H := H1;clear H1;have HC26 := A_ H;clear H
        go_upto_region 8 with (fail)
        go_cut [52] (fun v52 wc => ∃ (kq : Nat) (x52_25 : Bool), v52 = .bool x52_25 ∧ Aside0 (L03_RoundKeeps.j2 kq a0 x52_25 a2_0 a2_1 a2_2 a2_3 a2_4 = some r) ∧ Aside0 (kq ≤ kj11) ∧ Aside0 (wc.heap[gb741]? = some (.cells #[.bool a2_0, .int .u64 a2_1, .int .u64 a2_2, .int .i64 a2_3, .bool a2_4] 44 (0, 0))) ∧ Aside0 (wc.heap[gb747]? = some (.cells #[.bool t743, .int .i64 t744, .int .i64 t745, .int .u64 t746] 38 (0, 0))) ∧ Aside0 (Below w.heap.size w wc))
        case first =>
         have H := HC26.out
         clear HC26
         by_cases c27 : t744 = 1
         ·rw [if_pos c27] at H
          have c27b0 : (t744 == 1) = true := beq_iff_eq.mpr c27
          have c27b1 : (t744 != 1) = false := bne_eq_false_iff_eq.mpr c27
          clear c27
          (first | rw [c27b0] | (simp only [i64_w, i32_w]; rw [c27b0]) | skip)
          replace H := ob_ H
          obtain ⟨⟨t750, t751⟩, A280, H⟩ := H
          replace H : ((wide_Left.f t750 t751 60).bind fun bt752 => ((round_Pack.f a0 t743 bt752.1 bt752.2 (wrap64 (t745 - 60)) false).bind fun t754 => ((shape_Cut.f a0 a1).bind fun t755 => (L03_RoundKeeps.j2 kj11 a0 (t754 != t755) a2_0 a2_1 a2_2 a2_3 a2_4)))) = some r := H
          have A28 := A_ A280;clear A280
          replace H := ob_ H
          obtain ⟨⟨t752, t753⟩, A290, H⟩ := H
          replace H : ((round_Pack.f a0 t743 t752 t753 (wrap64 (t745 - 60)) false).bind fun t754 => ((shape_Cut.f a0 a1).bind fun t755 => (L03_RoundKeeps.j2 kj11 a0 (t754 != t755) a2_0 a2_1 a2_2 a2_3 a2_4))) = some r := H
          have A29 := A_ A290;clear A290
          replace H := ob_ H
          obtain ⟨t754, A300, H⟩ := H
          replace H : ((shape_Cut.f a0 a1).bind fun t755 => (L03_RoundKeeps.j2 kj11 a0 (t754 != t755) a2_0 a2_1 a2_2 a2_3 a2_4)) = some r := H
          have A30 := A_ A300;clear A300
          replace H := ob_ H
          obtain ⟨t755, A310, H⟩ := H
          replace H : (L03_RoundKeeps.j2 kj11 a0 (t754 != t755) a2_0 a2_1 a2_2 a2_3 a2_4) = some r := H
          have A31 := A_ A310;clear A310
          have H' := A_ H
          clear H
          try go_wp2
          replace BK741 := A_ (blk_drew BK741.out)
          replace BK747 := A_ (blk_drew BK747.out)
          replace HB := A_ (below_drew1 HB.out)
          refine start_ (n := 20) (S := fun w' => w'.cell? ⟨gb747, 0, none⟩ = some (.bool t743) ∧ w'.cell? ⟨gb747, 1, none⟩ = some (.int .i64 t744) ∧ w'.cell? ⟨gb747, 2, none⟩ = some (.int .i64 t745) ∧ w'.cell? ⟨gb747, 3, none⟩ = some (.int .u64 t746)) (ds := []) #[false, false, false, false, false, false, false, false, false, false, false, false, false, false, false, false, false, false, false, false] (by kernel_rfl) rfl rfl ⟨bc_ BK747.out 0, bc_ BK747.out 1, bc_ BK747.out 2, bc_ BK747.out 3⟩ (fun hHeld => ?_); refine with_tabW L03_RoundKeeps.tab8 L03_RoundKeeps.bits8 (fun HT_ HW_ => ?_)
          generalize wc.drew = w32 at BK741 BK747 HB hHeld ⊢
          refine pu_ 0 (some 33) #[true, false, false, false, false, false, false, false, false, false, false, false, false, false, false, false, false, false, false, false] rfl rfl (any_of HT_.out (by kernel_rfl)) ?_
          refine tk4_ 1 (some 34) #[true, true, false, false, false, false, false, false, false, false, false, false, false, false, false, false, false, false, false, false] rfl rfl (take_ofW HT_.out HW_.out (by kernel_rfl)) hHeld ?_
          refine pu_ 2 (some 35) #[true, true, true, false, false, false, false, false, false, false, false, false, false, false, false, false, false, false, false, false] rfl rfl (any_of HT_.out (by kernel_rfl)) ?_
          refine pu_ 3 (some 36) #[true, true, true, true, false, false, false, false, false, false, false, false, false, false, false, false, false, false, false, false] rfl rfl (any_of HT_.out (by kernel_rfl)) ?_
          refine pu_ 4 (some 37) #[true, true, true, true, true, false, false, false, false, false, false, false, false, false, false, false, false, false, false, false] rfl rfl (any_of HT_.out (by kernel_rfl)) ?_
          refine pu_ 5 (some 38) #[true, true, true, true, true, true, false, false, false, false, false, false, false, false, false, false, false, false, false, false] rfl rfl (any_of HT_.out (by kernel_rfl)) ?_
          refine pu_ 7 (some 40) #[true, true, true, true, true, true, false, true, false, false, false, false, false, false, false, false, false, false, false, false] rfl rfl (any_of HT_.out (by kernel_rfl)) ?_
          refine pu_ 11 (some 44) #[true, true, true, true, true, true, false, true, false, false, false, true, false, false, false, false, false, false, false, false] rfl rfl (any_of HT_.out (by kernel_rfl)) ?_
          refine pu_ 15 (some 48) #[true, true, true, true, true, true, false, true, false, false, false, true, false, false, false, true, false, false, false, false] rfl rfl (any_of HT_.out (by kernel_rfl)) ?_
          refine pu_ 16 (some 49) #[true, true, true, true, true, true, false, true, false, false, false, true, false, false, false, true, true, false, false, false] rfl rfl (any_of HT_.out (by kernel_rfl)) ?_
          refine tk4_ 6 (some 39) #[true, true, true, true, true, true, true, true, false, false, false, true, false, false, false, true, true, false, false, false] rfl rfl (take_ofW HT_.out HW_.out (by kernel_rfl)) hHeld ?_
          refine tk4_ 8 (some 41) #[true, true, true, true, true, true, true, true, true, false, false, true, false, false, false, true, true, false, false, false] rfl rfl (take_ofW HT_.out HW_.out (by kernel_rfl)) hHeld ?_
          refine tk4_ 12 (some 45) #[true, true, true, true, true, true, true, true, true, false, false, true, true, false, false, true, true, false, false, false] rfl rfl (take_ofW HT_.out HW_.out (by kernel_rfl)) hHeld ?_
          refine pu_ 13 (some 46) #[true, true, true, true, true, true, true, true, true, false, false, true, true, true, false, true, true, false, false, false] rfl rfl (any_of HT_.out (by kernel_rfl)) ?_
          refine one_ (i := 9) (N := some 42) #[true, true, true, true, true, true, true, true, true, true, false, true, true, true, false, true, true, false, false, false] rfl rfl (one_of HT_.out (by kernel_rfl)) (by decide) (fun K hK => ?_)
          refine goes_ Try.func39 (by kernel_rfl) rfl #[.int .u64 t746] (by rfl) rfl rfl mp_ ?_
          with_reducible refine (wide_Of.calls t746 t750 t751 _ A28.out).mono ?_
          rintro e w33 ⟨rfl, hb⟩
          refine ⟨_, rfl, ?_⟩
          replace BK741 := A_ (bb_ BK741.out hb)
          replace BK747 := A_ (bb_ BK747.out hb)
          replace HB := A_ (below_step (hb2_ HB.out GE741.out GE747.out) hb);(try clear hb);(try clear hb2);(try clear hk);(try clear hi)
          refine hK.out _ _ ⟨bc_ BK747.out 0, bc_ BK747.out 1, bc_ BK747.out 2, bc_ BK747.out 3⟩ (fun hHeld => ?_)
          clear hK K
          refine norm_ (a' := ?_) ?_ ?_
          rotate_left
          ·show Act.put _ (some 42) _ = _
           simp only [Act.put, lI_, l0_, lS_, i64_w, i32_w]
           rfl
          refine one_ (i := 10) (N := some 43) #[true, true, true, true, true, true, true, true, true, true, true, true, true, true, false, true, true, false, false, false] rfl rfl (one_of HT_.out (by kernel_rfl)) (by decide) (fun K hK => ?_)
          refine goes_ Try.func41 (by kernel_rfl) rfl #[.agg #[.int .u64 t750, .int .u64 t751], .int .i64 60] (by rfl) rfl rfl mp_ ?_
          with_reducible refine (wide_Left.calls t750 t751 60 t752 t753 _ A29.out).mono ?_
          rintro e w34 ⟨rfl, hb⟩
          refine ⟨_, rfl, ?_⟩
          replace BK741 := A_ (bb_ BK741.out hb)
          replace BK747 := A_ (bb_ BK747.out hb)
          replace HB := A_ (below_step (hb2_ HB.out GE741.out GE747.out) hb);(try clear hb);(try clear hb2);(try clear hk);(try clear hi)
          refine hK.out _ _ ⟨bc_ BK747.out 0, bc_ BK747.out 1, bc_ BK747.out 2, bc_ BK747.out 3⟩ (fun hHeld => ?_)
          clear hK K
          refine norm_ (a' := ?_) ?_ ?_
          rotate_left
          ·show Act.put _ (some 43) _ = _
           simp only [Act.put, lI_, l0_, lS_, i64_w, i32_w]
           rfl
          refine one_ (i := 14) (N := some 47) #[true, true, true, true, true, true, true, true, true, true, true, true, true, true, true, true, true, false, false, false] rfl rfl (one_of HT_.out (by kernel_rfl)) (by decide) (fun K hK => ?_)
          refine goes_ Try.func36 (by kernel_rfl) rfl #[.int .i64 a0, .bool t743, .agg #[.int .u64 t752, .int .u64 t753], .int .i64 (wrap64 (t745 - 60)), .bool false] (by rfl) rfl rfl mp_ ?_
          with_reducible refine (round_Pack.calls a0 t743 t752 t753 (wrap64 (t745 - 60)) false t754 _ A30.out).mono ?_
          rintro e w35 ⟨rfl, hb⟩
          refine ⟨_, rfl, ?_⟩
          replace BK741 := A_ (bb_ BK741.out hb)
          replace BK747 := A_ (bb_ BK747.out hb)
          replace HB := A_ (below_step (hb2_ HB.out GE741.out GE747.out) hb);(try clear hb);(try clear hb2);(try clear hk);(try clear hi)
          refine hK.out _ _ ⟨bc_ BK747.out 0, bc_ BK747.out 1, bc_ BK747.out 2, bc_ BK747.out 3⟩ (fun hHeld => ?_)
          clear hK K
          refine norm_ (a' := ?_) ?_ ?_
          rotate_left
          ·show Act.put _ (some 47) _ = _
           simp only [Act.put, lI_, l0_, lS_, i64_w, i32_w]
           rfl
          refine one_ (i := 17) (N := some 50) #[true, true, true, true, true, true, true, true, true, true, true, true, true, true, true, true, true, true, false, false] rfl rfl (one_of HT_.out (by kernel_rfl)) (by decide) (fun K hK => ?_)
          refine goes_ Try.func32 (by kernel_rfl) rfl #[.int .i64 a0, .int .u64 a1] (by rfl) rfl rfl mp_ ?_
          with_reducible refine (shape_Cut.calls a0 a1 t755 _ A31.out).mono ?_
          rintro e w' ⟨rfl, ⟨nd, rfl⟩⟩
          refine ⟨_, rfl, ?_⟩
          refine hK.out _ _ ⟨bc_ BK747.out 0, bc_ BK747.out 1, bc_ BK747.out 2, bc_ BK747.out 3⟩ (fun hHeld => ?_)
          clear hK K
          refine norm_ (a' := ?_) ?_ ?_
          rotate_left
          ·show Act.put _ (some 50) _ = _
           simp only [Act.put, lI_, l0_, lS_, i64_w, i32_w]
           rfl
          refine pu_ 18 (some 51) #[true, true, true, true, true, true, true, true, true, true, true, true, true, true, true, true, true, true, true, false] rfl rfl (any_of HT_.out (by kernel_rfl)) ?_
          refine pu_ 19 (some 52) #[true, true, true, true, true, true, true, true, true, true, true, true, true, true, true, true, true, true, true, true] rfl rfl (any_of HT_.out (by kernel_rfl)) ?_
          refine done_ (done_of HT_.out (by kernel_rfl)) ?_
          try go_wp2
          go_meet
          case rel => exact ⟨_, ((t754 != t755)), sm_, H', ⟨by have := HJ5.out; have := HJ11.out; first | omega | exact Nat.le_refl _⟩, ⟨bk_ BK741.out⟩, ⟨bk_ BK747.out⟩, ⟨hb2_ HB.out GE741.out GE747.out⟩⟩
         ·rw [if_neg c27] at H
          have c27b0 : (t744 == 1) = false := beq_eq_false_iff_ne.mpr c27
          have c27b1 : (t744 != 1) = true := bne_iff_ne.mpr c27
          (first | rw [c27b0] | (simp only [i64_w, i32_w]; rw [c27b0]) | skip)
          have H' := A_ H
          clear H
          try go_wp2
          replace BK741 := A_ (blk_drew BK741.out)
          replace BK747 := A_ (blk_drew BK747.out)
          replace HB := A_ (below_drew1 HB.out)
          refine start_ (n := 20) (S := fun w' => w'.cell? ⟨gb747, 0, none⟩ = some (.bool t743) ∧ w'.cell? ⟨gb747, 1, none⟩ = some (.int .i64 t744) ∧ w'.cell? ⟨gb747, 2, none⟩ = some (.int .i64 t745) ∧ w'.cell? ⟨gb747, 3, none⟩ = some (.int .u64 t746)) (ds := []) #[false, false, false, false, false, false, false, false, false, false, false, false, false, false, false, false, false, false, false, false] (by kernel_rfl) rfl rfl ⟨bc_ BK747.out 0, bc_ BK747.out 1, bc_ BK747.out 2, bc_ BK747.out 3⟩ (fun hHeld => ?_); refine with_tabW L03_RoundKeeps.tab8 L03_RoundKeeps.bits8 (fun HT_ HW_ => ?_)
          generalize wc.drew = w36 at BK741 BK747 HB hHeld ⊢
          refine pu_ 0 (some 33) #[true, false, false, false, false, false, false, false, false, false, false, false, false, false, false, false, false, false, false, false] rfl rfl (any_of HT_.out (by kernel_rfl)) ?_
          refine tk4_ 1 (some 34) #[true, true, false, false, false, false, false, false, false, false, false, false, false, false, false, false, false, false, false, false] rfl rfl (take_ofW HT_.out HW_.out (by kernel_rfl)) hHeld ?_
          refine pu_ 2 (some 35) #[true, true, true, false, false, false, false, false, false, false, false, false, false, false, false, false, false, false, false, false] rfl rfl (any_of HT_.out (by kernel_rfl)) ?_
          refine pu_ 3 (some 36) #[true, true, true, true, false, false, false, false, false, false, false, false, false, false, false, false, false, false, false, false] rfl rfl (any_of HT_.out (by kernel_rfl)) ?_
          refine pure_ (i := 4) (N := some 37) (v := undef) (a' := ?_) #[true, true, true, true, true, false, false, false, false, false, false, false, false, false, false, false, false, false, false, false] rfl rfl (any_of HT_.out (by kernel_rfl)) (fun _ _ _ h => h) (Or.inr ⟨by rfl, rfl⟩) ?_ ?_
          rotate_left
          ·simp only [Act.put, lI_, l0_, lS_, i64_w, i32_w]
           rfl
          refine pure_ (i := 5) (N := some 38) (v := undef) (a' := ?_) #[true, true, true, true, true, true, false, false, false, false, false, false, false, false, false, false, false, false, false, false] rfl rfl (any_of HT_.out (by kernel_rfl)) (fun _ _ _ h => h) (Or.inr ⟨by rfl, rfl⟩) ?_ ?_
          rotate_left
          ·simp only [Act.put, lI_, l0_, lS_, i64_w, i32_w]
           rfl
          refine pure_ (i := 6) (N := some 39) (v := undef) (a' := ?_) #[true, true, true, true, true, true, true, false, false, false, false, false, false, false, false, false, false, false, false, false] rfl rfl (any_of HT_.out (by kernel_rfl)) (fun _ _ _ h => h) (Or.inr ⟨by rfl, rfl⟩) ?_ ?_
          rotate_left
          ·simp only [Act.put, lI_, l0_, lS_, i64_w, i32_w]
           rfl
          refine pure_ (i := 7) (N := some 40) (v := undef) (a' := ?_) #[true, true, true, true, true, true, true, true, false, false, false, false, false, false, false, false, false, false, false, false] rfl rfl (any_of HT_.out (by kernel_rfl)) (fun _ _ _ h => h) (Or.inr ⟨by rfl, rfl⟩) ?_ ?_
          rotate_left
          ·simp only [Act.put, lI_, l0_, lS_, i64_w, i32_w]
           rfl
          refine pure_ (i := 8) (N := some 41) (v := undef) (a' := ?_) #[true, true, true, true, true, true, true, true, true, false, false, false, false, false, false, false, false, false, false, false] rfl rfl (any_of HT_.out (by kernel_rfl)) (fun _ _ _ h => h) (Or.inr ⟨by rfl, rfl⟩) ?_ ?_
          rotate_left
          ·simp only [Act.put, lI_, l0_, lS_, i64_w, i32_w]
           rfl
          refine pure_ (i := 9) (N := some 42) (v := undef) (a' := ?_) #[true, true, true, true, true, true, true, true, true, true, false, false, false, false, false, false, false, false, false, false] rfl rfl (any_of HT_.out (by kernel_rfl)) (fun _ _ _ h => h) (Or.inr ⟨by rfl, rfl⟩) ?_ ?_
          rotate_left
          ·simp only [Act.put, lI_, l0_, lS_, i64_w, i32_w]
           rfl
          refine pure_ (i := 10) (N := some 43) (v := undef) (a' := ?_) #[true, true, true, true, true, true, true, true, true, true, true, false, false, false, false, false, false, false, false, false] rfl rfl (any_of HT_.out (by kernel_rfl)) (fun _ _ _ h => h) (Or.inr ⟨by rfl, rfl⟩) ?_ ?_
          rotate_left
          ·simp only [Act.put, lI_, l0_, lS_, i64_w, i32_w]
           rfl
          refine pure_ (i := 11) (N := some 44) (v := undef) (a' := ?_) #[true, true, true, true, true, true, true, true, true, true, true, true, false, false, false, false, false, false, false, false] rfl rfl (any_of HT_.out (by kernel_rfl)) (fun _ _ _ h => h) (Or.inr ⟨by rfl, rfl⟩) ?_ ?_
          rotate_left
          ·simp only [Act.put, lI_, l0_, lS_, i64_w, i32_w]
           rfl
          refine pure_ (i := 12) (N := some 45) (v := undef) (a' := ?_) #[true, true, true, true, true, true, true, true, true, true, true, true, true, false, false, false, false, false, false, false] rfl rfl (any_of HT_.out (by kernel_rfl)) (fun _ _ _ h => h) (Or.inr ⟨by rfl, rfl⟩) ?_ ?_
          rotate_left
          ·simp only [Act.put, lI_, l0_, lS_, i64_w, i32_w]
           rfl
          refine pure_ (i := 13) (N := some 46) (v := undef) (a' := ?_) #[true, true, true, true, true, true, true, true, true, true, true, true, true, true, false, false, false, false, false, false] rfl rfl (any_of HT_.out (by kernel_rfl)) (fun _ _ _ h => h) (Or.inr ⟨by rfl, rfl⟩) ?_ ?_
          rotate_left
          ·simp only [Act.put, lI_, l0_, lS_, i64_w, i32_w]
           rfl
          refine pure_ (i := 14) (N := some 47) (v := undef) (a' := ?_) #[true, true, true, true, true, true, true, true, true, true, true, true, true, true, true, false, false, false, false, false] rfl rfl (any_of HT_.out (by kernel_rfl)) (fun _ _ _ h => h) (Or.inr ⟨by rfl, rfl⟩) ?_ ?_
          rotate_left
          ·simp only [Act.put, lI_, l0_, lS_, i64_w, i32_w]
           rfl
          refine pure_ (i := 15) (N := some 48) (v := undef) (a' := ?_) #[true, true, true, true, true, true, true, true, true, true, true, true, true, true, true, true, false, false, false, false] rfl rfl (any_of HT_.out (by kernel_rfl)) (fun _ _ _ h => h) (Or.inr ⟨by rfl, rfl⟩) ?_ ?_
          rotate_left
          ·simp only [Act.put, lI_, l0_, lS_, i64_w, i32_w]
           rfl
          refine pure_ (i := 16) (N := some 49) (v := undef) (a' := ?_) #[true, true, true, true, true, true, true, true, true, true, true, true, true, true, true, true, true, false, false, false] rfl rfl (any_of HT_.out (by kernel_rfl)) (fun _ _ _ h => h) (Or.inr ⟨by rfl, rfl⟩) ?_ ?_
          rotate_left
          ·simp only [Act.put, lI_, l0_, lS_, i64_w, i32_w]
           rfl
          refine pure_ (i := 17) (N := some 50) (v := undef) (a' := ?_) #[true, true, true, true, true, true, true, true, true, true, true, true, true, true, true, true, true, true, false, false] rfl rfl (any_of HT_.out (by kernel_rfl)) (fun _ _ _ h => h) (Or.inr ⟨by rfl, rfl⟩) ?_ ?_
          rotate_left
          ·simp only [Act.put, lI_, l0_, lS_, i64_w, i32_w]
           rfl
          refine pure_ (i := 18) (N := some 51) (v := undef) (a' := ?_) #[true, true, true, true, true, true, true, true, true, true, true, true, true, true, true, true, true, true, true, false] rfl rfl (any_of HT_.out (by kernel_rfl)) (fun _ _ _ h => h) (Or.inr ⟨by rfl, rfl⟩) ?_ ?_
          rotate_left
          ·simp only [Act.put, lI_, l0_, lS_, i64_w, i32_w]
           rfl
          refine pu_ 19 (some 52) #[true, true, true, true, true, true, true, true, true, true, true, true, true, true, true, true, true, true, true, true] rfl rfl (any_of HT_.out (by kernel_rfl)) ?_
          refine done_ (done_of HT_.out (by kernel_rfl)) ?_
          try go_wp2
          go_meet
          case rel => exact ⟨_, (false), sm_, H', ⟨by have := HJ5.out; have := HJ11.out; first | omega | exact Nat.le_refl _⟩, ⟨bk_ BK741.out⟩, ⟨bk_ BK747.out⟩, ⟨hb2_ HB.out GE741.out GE747.out⟩⟩
        case rest =>
         clear HC26
         try clear c1
         try clear c2
         try clear p2
         try clear c3
         try clear c4
         try clear c5
         try clear p6
         try clear c9
         try clear c9b0
         try clear c9b1
         try clear c10
         try clear c15
         try clear c17
         try clear c17b0
         try clear c17b1
         try clear c18
         try clear c22
         try clear c25
         try clear c27
         try clear c27b0
         try clear c27b1
         try clear c31
         try clear c32
         try clear c35
         try clear c36
         try clear hcz16_0
         try clear hcz16_1
         try clear hcz16_2
         try clear hcz16_3
         try clear hcz19_0
         try clear hcz19_1
         try clear hcz19_2
         try clear hcz19_3
         try clear hcz23_0
         try clear hcz23_1
         try clear hcz23_2
         try clear hcz23_3
         try clear hfz16_0
         try clear hfz16_1
         try clear hfz16_2
         try clear hfz16_3
         try clear hfz19_0
         try clear hfz19_1
         try clear hfz19_2
         try clear hfz19_3
         try clear hfz23_0
         try clear hfz23_1
         try clear hfz23_2
         try clear hfz23_3
         try clear p2
         obtain ⟨kq, x52_25, rfl, HA, HJ25, BK741, BK747, HB⟩ := hcut
         cases kq with
         | zero => exact absurd HA.out (by simp [L03_RoundKeeps.j2])
         | succ kj25 =>
          have H := HA.out
          clear HA
          simp only [L03_RoundKeeps.j2] at H
          by_cases c37 : x52_25 = true
          ·subst c37
           have H1 : (some false) = some r := by rw [if_pos rfl] at H; exact H
           clear H;have H := H1;clear H1
           exact absurd ((Option.some.inj H).trans hr_.out) (by decide)
          ·replace c37 := Bool.eq_false_iff.mpr c37
           subst c37
           have H1 : ((round_Pack.f a0 false a2_1 a2_2 a2_3 false).bind fun t756 => ((round_Pack.f a0 false a2_1 a2_2 a2_3 true).bind fun t757 => (if t756 ≤ t757 then ((shape_Inf.f a0 false).bind fun t758 => (if t757 ≤ t758 then ((round_Pack.f a0 true a2_1 a2_2 a2_3 true).bind fun t759 => ((shape_Zero.f a0 true).bind fun t760 => (some (t759 == (Go.bits .or .u64 t757 t760))))) else (some false))) else (some false)))) = some r := by rw [if_neg (show ¬ (false = true) by decide)] at H; exact H
           clear H;have H := H1;clear H1
           replace H := ob_ H
           obtain ⟨t756, A380, H⟩ := H
           replace H : ((round_Pack.f a0 false a2_1 a2_2 a2_3 true).bind fun t757 => (if t756 ≤ t757 then ((shape_Inf.f a0 false).bind fun t758 => (if t757 ≤ t758 then ((round_Pack.f a0 true a2_1 a2_2 a2_3 true).bind fun t759 => ((shape_Zero.f a0 true).bind fun t760 => (some (t759 == (Go.bits .or .u64 t757 t760))))) else (some false))) else (some false))) = some r := H
           have A38 := A_ A380;clear A380
           replace H := ob_ H
           obtain ⟨t757, A390, H⟩ := H
           replace H : (if t756 ≤ t757 then ((shape_Inf.f a0 false).bind fun t758 => (if t757 ≤ t758 then ((round_Pack.f a0 true a2_1 a2_2 a2_3 true).bind fun t759 => ((shape_Zero.f a0 true).bind fun t760 => (some (t759 == (Go.bits .or .u64 t757 t760))))) else (some false))) else (some false)) = some r := H
           have A39 := A_ A390;clear A390
           by_cases c40 : t756 ≤ t757
           ·rw [if_pos c40] at H
            have c40b0 : decide (t756 ≤ t757) = true := decide_eq_true c40
            clear c40
            replace H := ob_ H
            obtain ⟨t758, A410, H⟩ := H
            replace H : (if t757 ≤ t758 then ((round_Pack.f a0 true a2_1 a2_2 a2_3 true).bind fun t759 => ((shape_Zero.f a0 true).bind fun t760 => (some (t759 == (Go.bits .or .u64 t757 t760))))) else (some false)) = some r := H
            have A41 := A_ A410;clear A410
            by_cases c42 : t757 ≤ t758
            ·rw [if_pos c42] at H
             have c42b0 : decide (t757 ≤ t758) = true := decide_eq_true c42
             clear c42
             replace H := ob_ H
             obtain ⟨t759, A430, H⟩ := H
             replace H : ((shape_Zero.f a0 true).bind fun t760 => (some (t759 == (Go.bits .or .u64 t757 t760)))) = some r := H
             have A43 := A_ A430;clear A430
             replace H := ob_ H
             obtain ⟨t760, A440, H⟩ := H
             replace H : (some (t759 == (Go.bits .or .u64 t757 t760))) = some r := H
             have A44 := A_ A440;clear A440
             obtain rfl := Option.some.inj H
             try go_wp2
             replace BK741 := A_ (blk_drew BK741.out)
             replace BK747 := A_ (blk_drew BK747.out)
             replace HB := A_ (below_drew1 HB.out)
             refine start_ (n := 14) (S := fun w' => w'.cell? ⟨gb741, 0, none⟩ = some (.bool a2_0) ∧ w'.cell? ⟨gb741, 1, none⟩ = some (.int .u64 a2_1) ∧ w'.cell? ⟨gb741, 2, none⟩ = some (.int .u64 a2_2) ∧ w'.cell? ⟨gb741, 3, none⟩ = some (.int .i64 a2_3) ∧ w'.cell? ⟨gb741, 4, none⟩ = some (.bool a2_4)) (ds := []) #[false, false, false, false, false, false, false, false, false, false, false, false, false, false] (by kernel_rfl) rfl rfl ⟨bc_ BK741.out 0, bc_ BK741.out 1, bc_ BK741.out 2, bc_ BK741.out 3, bc_ BK741.out 4⟩ (fun hHeld => ?_); refine with_tabW L03_RoundKeeps.tab10 L03_RoundKeeps.bits10 (fun HT_ HW_ => ?_)
             generalize wc.drew = w45 at BK741 BK747 HB hHeld ⊢
             refine pu_ 0 (some 53) #[true, false, false, false, false, false, false, false, false, false, false, false, false, false] rfl rfl (any_of HT_.out (by kernel_rfl)) ?_
             refine pu_ 1 (some 54) #[true, true, false, false, false, false, false, false, false, false, false, false, false, false] rfl rfl (any_of HT_.out (by kernel_rfl)) ?_
             refine pu_ 3 (some 56) #[true, true, false, true, false, false, false, false, false, false, false, false, false, false] rfl rfl (any_of HT_.out (by kernel_rfl)) ?_
             refine pu_ 6 (some 59) #[true, true, false, true, false, false, true, false, false, false, false, false, false, false] rfl rfl (any_of HT_.out (by kernel_rfl)) ?_
             refine pu_ 7 (some 60) #[true, true, false, true, false, false, true, true, false, false, false, false, false, false] rfl rfl (any_of HT_.out (by kernel_rfl)) ?_
             refine pu_ 9 (some 62) #[true, true, false, true, false, false, true, true, false, true, false, false, false, false] rfl rfl (any_of HT_.out (by kernel_rfl)) ?_
             refine tk5_ 2 (some 55) #[true, true, true, true, false, false, true, true, false, true, false, false, false, false] rfl rfl (take_ofW HT_.out HW_.out (by kernel_rfl)) hHeld ?_
             refine tk5_ 4 (some 57) #[true, true, true, true, true, false, true, true, false, true, false, false, false, false] rfl rfl (take_ofW HT_.out HW_.out (by kernel_rfl)) hHeld ?_
             refine tk5_ 8 (some 61) #[true, true, true, true, true, false, true, true, true, true, false, false, false, false] rfl rfl (take_ofW HT_.out HW_.out (by kernel_rfl)) hHeld ?_
             refine tk5_ 10 (some 63) #[true, true, true, true, true, false, true, true, true, true, true, false, false, false] rfl rfl (take_ofW HT_.out HW_.out (by kernel_rfl)) hHeld ?_
             refine one_ (i := 5) (N := some 58) #[true, true, true, true, true, true, true, true, true, true, true, false, false, false] rfl rfl (one_of HT_.out (by kernel_rfl)) (by decide) (fun K hK => ?_)
             refine goes_ Try.func36 (by kernel_rfl) rfl #[.int .i64 a0, .bool false, .agg #[.int .u64 a2_1, .int .u64 a2_2], .int .i64 a2_3, .bool false] (by rfl) rfl rfl mp_ ?_
             with_reducible refine (round_Pack.calls a0 false a2_1 a2_2 a2_3 false t756 _ A38.out).mono ?_
             rintro e w46 ⟨rfl, hb⟩
             refine ⟨_, rfl, ?_⟩
             replace BK741 := A_ (bb_ BK741.out hb)
             replace BK747 := A_ (bb_ BK747.out hb)
             replace HB := A_ (below_step (hb2_ HB.out GE741.out GE747.out) hb);(try clear hb);(try clear hb2);(try clear hk);(try clear hi)
             refine hK.out _ _ ⟨bc_ BK741.out 0, bc_ BK741.out 1, bc_ BK741.out 2, bc_ BK741.out 3, bc_ BK741.out 4⟩ (fun hHeld => ?_)
             clear hK K
             refine norm_ (a' := ?_) ?_ ?_
             rotate_left
             ·show Act.put _ (some 58) _ = _
              simp only [Act.put, lI_, l0_, lS_, i64_w, i32_w]
              rfl
             refine one_ (i := 11) (N := some 64) #[true, true, true, true, true, true, true, true, true, true, true, true, false, false] rfl rfl (one_of HT_.out (by kernel_rfl)) (by decide) (fun K hK => ?_)
             refine goes_ Try.func36 (by kernel_rfl) rfl #[.int .i64 a0, .bool false, .agg #[.int .u64 a2_1, .int .u64 a2_2], .int .i64 a2_3, .bool true] (by rfl) rfl rfl mp_ ?_
             with_reducible refine (round_Pack.calls a0 false a2_1 a2_2 a2_3 true t757 _ A39.out).mono ?_
             rintro e w47 ⟨rfl, hb⟩
             refine ⟨_, rfl, ?_⟩
             replace BK741 := A_ (bb_ BK741.out hb)
             replace BK747 := A_ (bb_ BK747.out hb)
             replace HB := A_ (below_step (hb2_ HB.out GE741.out GE747.out) hb);(try clear hb);(try clear hb2);(try clear hk);(try clear hi)
             refine hK.out _ _ ⟨bc_ BK741.out 0, bc_ BK741.out 1, bc_ BK741.out 2, bc_ BK741.out 3, bc_ BK741.out 4⟩ (fun hHeld => ?_)
             clear hK K
             refine norm_ (a' := ?_) ?_ ?_
             rotate_left
             ·show Act.put _ (some 64) _ = _
              simp only [Act.put, lI_, l0_, lS_, i64_w, i32_w]
              rfl
             refine pu_ 12 (some 8) #[true, true, true, true, true, true, true, true, true, true, true, true, true, false] rfl rfl (any_of HT_.out (by kernel_rfl)) ?_
             refine pu_ 13 (some 9) #[true, true, true, true, true, true, true, true, true, true, true, true, true, true] rfl rfl (any_of HT_.out (by kernel_rfl)) ?_
             refine done_ (done_of HT_.out (by kernel_rfl)) ?_
             try go_wp2_with (first | (go_at_call 42; (with_reducible refine (shape_Inf.calls a0 false t758 _ A41.out).mono ?_); rintro e w48 ⟨rfl, hb⟩; replace BK741 := A_ (bb_ BK741.out hb); replace BK747 := A_ (bb_ BK747.out hb); replace HB := A_ (below_step (hb2_ HB.out GE741.out GE747.out) hb); (try clear hb); (try clear hb2); (try clear hk); (try clear hi); have hnb49 := NB741_747.out; have hnc49 := NB747_741.out; have hcz50_0 := bv_ BK741.out 0; have hcz50_1 := bv_ BK741.out 1; have hcz50_2 := bv_ BK741.out 2; have hcz50_3 := bv_ BK741.out 3; have hcz50_4 := bv_ BK741.out 4; have hfz50_0 := blk_frozen BK741.out 0; have hfz50_1 := blk_frozen BK741.out 1; have hfz50_2 := blk_frozen BK741.out 2; have hfz50_3 := blk_frozen BK741.out 3; have hfz50_4 := blk_frozen BK741.out 4) | (go_at_call 36; (with_reducible refine (round_Pack.calls a0 true a2_1 a2_2 a2_3 true t759 _ A43.out).mono ?_); rintro e w51 ⟨rfl, hb⟩; replace BK741 := A_ (bb_ BK741.out hb); replace BK747 := A_ (bb_ BK747.out hb); replace HB := A_ (below_step (hb2_ HB.out GE741.out GE747.out) hb); (try clear hb); (try clear hb2); (try clear hk); (try clear hi)) | (go_at_call 30; (with_reducible refine (shape_Zero.calls a0 true t760 _ A44.out).mono ?_); rintro e w52 ⟨rfl, hb⟩; replace BK741 := A_ (bb_ BK741.out hb); replace BK747 := A_ (bb_ BK747.out hb); replace HB := A_ (below_step (hb2_ HB.out GE741.out GE747.out) hb); (try clear hb); (try clear hb2); (try clear hk); (try clear hi)))
             go_ret
             exact ⟨er_, hb2_ HB.out GE741.out GE747.out⟩
            ·rw [if_neg c42] at H
             have c42b0 : decide (t757 ≤ t758) = false := decide_eq_false c42
             clear c42
             exact absurd ((Option.some.inj H).trans hr_.out) (by decide)
           ·rw [if_neg c40] at H
            have c40b0 : decide (t756 ≤ t757) = false := decide_eq_false c40
            clear c40
            exact absurd ((Option.some.inj H).trans hr_.out) (by decide)
 ·replace c5 := Bool.eq_false_iff.mpr c5
  subst c5
  have H1 : (some false) = some r := by rw [if_neg (show ¬ (false = true) by decide)] at H; exact H
  clear H;have H := H1;clear H1
  exact absurd ((Option.some.inj H).trans hr_.out) (by decide)
def L03_RoundKeeps.Pure : Prop := ∀ (a0 : Int) (a1 : Int) (a2_0 : Bool) (a2_1 : Int) (a2_2 : Int) (a2_3 : Int) (a2_4 : Bool), (Lit.int .i64 a0).wf = true → (Lit.int .u64 a1).wf = true → (Lit.int .u64 a2_1).wf = true → (Lit.int .u64 a2_2).wf = true → (Lit.int .i64 a2_3).wf = true → ∃ k, L03_RoundKeeps.f k a0 a1 a2_0 a2_1 a2_2 a2_3 a2_4 = some true
theorem L03_RoundKeeps.walk (P : L03_RoundKeeps.Pure) (a0 : Int) (a1 : Int) (a2_0 : Bool) (a2_1 : Int) (a2_2 : Int) (a2_3 : Int) (a2_4 : Bool) (w : World) (w0 : (Lit.int .i64 a0).wf = true) (w1 : (Lit.int .u64 a1).wf = true) (wh : (Lit.int .u64 a2_1).wf = true) (wl : (Lit.int .u64 a2_2).wf = true) (we : (Lit.int .i64 a2_3).wf = true) :
  Calls Try.prog 10 #[.int .i64 a0, .int .u64 a1, .agg #[.bool a2_0, .int .u64 a2_1, .int .u64 a2_2, .int .i64 a2_3, .bool a2_4]] w fun e w' => e = .returned (.bool true) ∧ Below w.heap.size w w' := by
 obtain ⟨k, h⟩ := P a0 a1 a2_0 a2_1 a2_2 a2_3 a2_4 w0 w1 wh wl we
 refine (L03_RoundKeeps.calls k a0 a1 a2_0 a2_1 a2_2 a2_3 a2_4 true w h ⟨rfl⟩).mono ?_
 rintro e w' ⟨rfl, hd⟩
 exact ⟨rfl, hd⟩
end Go.Proofs.Ytbpmnmceajmmcaa.PA
