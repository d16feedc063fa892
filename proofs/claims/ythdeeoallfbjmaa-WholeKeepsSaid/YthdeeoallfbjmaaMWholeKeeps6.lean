/- What the Go functions that the statement WholeKeeps reaches compute, and the mathematics on it, in the order in which one leans on the other; for every input. -/
import Derived.Test.YthdeeoallfbjmaaVWholeKeeps1
import Derived.Test.YthdeeoallfbjmaaMWholeKeeps0
import Derived.Test.YthdeeoallfbjmaaMWholeKeeps3
import Derived.Test.YthdeeoallfbjmaaMWholeKeeps5
import Derived.Test.YthdeeoallfbjmaaMWholeKeeps1
import Derived.Test.YthdeeoallfbjmaaMWholeKeeps2
import Derived.Deep.RegionHeld3
/- round.Pack answers the nearest float, for every number in the range of exponents that it looks at. -/
namespace Go.Proofs.Ythdeeoallfbjmaa.PA
open Go.RowKit Go.Proofs.YthdeeoallfbjmaaW.PrintWords Go.Proofs.YthdeeoallfbjmaaW.PrintLast Go.Proofs.YthdeeoallfbjmaaW.PrintMore
attribute [local go_sem] max2_int min2_int max_two min_two max_three min_three max_four min_four   -- for this text's walks alone
set_option linter.unusedVariables false
set_option linter.unusedSimpArgs false
open Go.Proofs.Ythdeeoallfbjmaa.Th Flo
theorem rp_fin (W : Int) (hw : W = 32 ∨ W = 64) (ng : Bool) (t2 t1 hi : Int) (h2 : t2 = ((2 ^ ((fmt W).f + 1) : Nat) : Int)) (h1 : t1 = ((2 ^ (fmt W).f : Nat) : Int)) (hh : hi = (fmt W).low + (fmt W).top - 2) (q R : Nat) (e3 : Int) (he : e3 = q + (fmt W).low)
    (hR : R ≤ 2 ^ ((fmt W).f + 1)) (hl : 0 < q → 2 ^ (fmt W).f ≤ R) :
    (hi < e3 ∧ shape_Inf.f W ng = some ((mkN W ((fmt W).fin q R) ng : Nat) : Int)) ∨ (e3 ≤ hi ∧ ∃ l4 e4, (((R : Int) = t2 ∧ t1 = l4 ∧ e3 + 1 = e4) ∨ ((R : Int) ≠ t2 ∧ (R : Int) = l4 ∧ e3 = e4)) ∧
      ((l4 = 0 ∧ shape_Zero.f W ng = some ((mkN W ((fmt W).fin q R) ng : Nat) : Int)) ∨ (l4 ≠ 0 ∧ hi < e4 ∧ shape_Inf.f W ng = some ((mkN W ((fmt W).fin q R) ng : Nat) : Int)) ∨ (l4 ≠ 0 ∧ e4 ≤ hi ∧ ∃ k z, shape_Close.f k W ng 1 e4 l4 = some (((mkN W ((fmt W).fin q R) ng : Nat) : Int), z)))) := by
  have hz := shZ W hw ng
  have hi_ := shI W hw ng
  have hc := clo W hw ng
  generalize fmt W = F at *
  have hp := F.pow_pos
  have ht := F.ht
  have e1 : 2 ^ (F.f + 1) = 2 ^ F.f * 2 := Nat.pow_succ ..
  by_cases c1 : F.top < q + 2
  · left
    refine ⟨by omega, ?_⟩
    have : F.fin q R = F.inf := by
      unfold Fmt.fin
      split
      · first | rfl | rw [if_pos (by omega)]
      · first | rfl | rw [if_pos c1]
    rw [this]; exact hi_
  · right
    refine ⟨by omega, ?_⟩
    by_cases c2 : R = 2 ^ (F.f + 1)
    · refine ⟨t1, e3 + 1, .inl ⟨by rw [c2, h2], rfl, rfl⟩, ?_⟩
      by_cases c3 : F.top < q + 3
      · refine .inr (.inl ⟨by rw [h1]; omega, by omega, ?_⟩)
        have : F.fin q R = F.inf := by unfold Fmt.fin; rw [if_pos c2, if_pos c3]
        rw [this]; exact hi_
      · refine .inr (.inr ⟨by rw [h1]; omega, by omega, ?_⟩)
        have e5 : F.fin q R = (q + 1) * 2 ^ F.f + 2 ^ F.f := by unfold Fmt.fin; rw [if_pos c2, if_neg c3, Nat.add_mul, Nat.add_mul]; omega
        have hm : F.fin q R < F.inf := by
          rw [e5]
          unfold Fmt.inf
          have := Nat.mul_le_mul_right (2 ^ F.f) (show q + 3 ≤ F.top by omega)
          rw [Nat.add_mul] at this ⊢
          omega
        obtain ⟨h3, h4⟩ := F.sg_mk (q + 1) (2 ^ F.f) (by omega) (fun _ => Nat.le_refl _)
        have := hc (F.fin q R) (by rw [e5]; omega) hm
        rw [e5, h3, h4, ← e5, show (((q + 1 : Nat) : Int) + F.low) = e3 + 1 by omega, ← h1] at this
        exact this
    · refine ⟨(R : Int), e3, .inr ⟨by rw [h2]; intro k; exact c2 (by exact_mod_cast k), rfl, rfl⟩, ?_⟩
      by_cases c3 : R = 0
      · left
        have hq : q = 0 := by rcases Nat.eq_zero_or_pos q with h | h; exact h; have := hl h; omega
        have : F.fin q R = 0 := by unfold Fmt.fin; rw [if_neg c2, if_neg c1, if_pos (by omega)]; exact c3
        exact ⟨by omega, by rw [this]; exact hz⟩
      · refine .inr (.inr ⟨by omega, by omega, ?_⟩)
        have e5 : F.fin q R = q * 2 ^ F.f + R := by
          unfold Fmt.fin
          rw [if_neg c2, if_neg c1]
          split
          · rcases Nat.eq_zero_or_pos q with h | h
            · rw [h]; omega
            · have := hl h; omega
          · rw [Nat.add_mul]; omega
        have hm : F.fin q R < F.inf := by
          rw [e5]
          unfold Fmt.inf
          have := Nat.mul_le_mul_right (2 ^ F.f) (show q + 2 ≤ F.top by omega)
          rw [Nat.add_mul] at this
          omega
        obtain ⟨h3, h4⟩ := F.sg_mk q R (by omega) hl
        have := hc (F.fin q R) (by rw [e5]; omega) hm
        rw [e5, h3, h4, ← e5, ← he] at this
        exact this
theorem rp_main (W f t2 t1 lo hi : Int) (hW : (W = 32 ∧ f = 23 ∧ t2 = 16777216 ∧ t1 = 8388608) ∨ (W = 64 ∧ f = 52 ∧ t2 = 9007199254740992 ∧ t1 = 4503599627370496)) (hlo : lo = (fmt W).low) (hhi : hi = (fmt W).low + (fmt W).top - 2)
    (AIM : ∀ ng h l e m, round_aim.f W ng h l e m = some (h, l, e, m, W, f, lo, hi, ng, true)) (S : Nat) (hS : S < 340282366920938463463374607431768211456) (e : Int) (m ng : Bool) (Z : S ≠ 0 ∨ m = true) (E1 : e ≤ 1048576) (E2 : -1048576 ≤ e) (w : World) :
    Calls Try.prog 57 #[.int .i64 W, .bool ng, .agg #[.int .u64 (wH S), .int .u64 (wL S)], .int .i64 e, .bool m] w fun en w' => en = .returned (.int .u64 ((mkN W (pkm (fmt W) S e m) ng : Nat) : Int)) ∧ Below w.heap.size w w' := by
  have hw : W = 32 ∨ W = 64 := by rcases hW with ⟨h, _⟩ | ⟨h, _⟩; exact .inl h; exact .inr h
  have hf : f = ((fmt W).f : Int) ∧ t2 = ((2 ^ ((fmt W).f + 1) : Nat) : Int) ∧ t1 = ((2 ^ (fmt W).f : Nat) : Int) := by
    rcases hW with ⟨rfl, rfl, rfl, rfl⟩ | ⟨rfl, rfl, rfl, rfl⟩ <;> decide
  have hbd := fmt_bd' W
  obtain ⟨hf, h2, h1⟩ := hf
  -- the number whose last bits go
  obtain ⟨S1, e1, m1, hS1, hpos, hm1, hk, hT⟩ : ∃ (S1 : Nat) (e1 : Int) (m1 : Bool), S1 < 340282366920938463463374607431768211456 ∧ 0 < S1 ∧ (m1 = true → 127 ≤ bl S1) ∧ pkm (fmt W) S e m = pkc (fmt W) S1 e1 (if m1 then 1 else 0) ∧
      ((m = true ∧ (∃ n0, wide_Len.f (wH S) (wL S) = some n0 ∧ n0 < 127) ∧ (∃ x0 x1, wide_Left.f (wH S) (wL S) 1 = some (x0, x1) ∧ wide_Add.f x0 x1 0 1 = some (wH S1, wL S1)) ∧ e - 1 = e1 ∧ m1 = false) ∨ ((m = false ∨ ∃ n0, wide_Len.f (wH S) (wL S) = some n0 ∧ 127 ≤ n0) ∧ wH S1 = wH S ∧ wL S1 = wL S ∧ e1 = e ∧ m1 = m)) := by
    have hk : pkm (fmt W) S e m = if m = true ∧ bl S < 127 then pkc (fmt W) (2 * S + 1) (e - 1) 0 else pkc (fmt W) S e (if m then 1 else 0) := by
      unfold pkm
      rw [if_neg (by rintro ⟨h1, h2⟩; rcases Z with h | h; exact h h1; rw [h2] at h; cases h), if_neg (by omega), if_neg (by omega)]
    by_cases c : m = true ∧ bl S < 127
    · rw [if_pos c] at hk
      have hlt := bl_le.1 (Nat.le_of_lt_succ (show bl S < 126 + 1 from c.2))
      rw [show (2 : Nat) ^ 126 = 85070591730234615865843651857942052864 by decide] at hlt
      have hl := wLeft hS 1 (by decide) (by omega)
      refine ⟨2 * S + 1, e - 1, false, by omega, by omega, fun h => (by cases h), (by rw [hk]; rfl), .inl ⟨c.1, ⟨_, wLen hS, by omega⟩, ⟨_, _, hl, ?_⟩, rfl, rfl⟩⟩
      rw [wAdd1 (by omega)]
      rw [show S * 2 ^ 1 + 1 = 2 * S + 1 by omega]
    · rw [if_neg c] at hk
      refine ⟨S, e, m, hS, ?_, fun h => ?_, hk, .inr ⟨?_, rfl, rfl, rfl, rfl⟩⟩
      · rcases Z with h | h
        · omega
        · have : 127 ≤ bl S := by
            rcases Nat.lt_or_ge (bl S) 127 with h3 | h3
            · exact absurd ⟨h, h3⟩ c
            · exact h3
          exact bl_pos.1 (by omega)
      · rcases Nat.lt_or_ge (bl S) 127 with h3 | h3
        · exact absurd ⟨h, h3⟩ c
        · exact h3
      · cases hm : m
        · exact .inl rfl
        · right
          refine ⟨_, wLen hS, ?_⟩
          rcases Nat.lt_or_ge (bl S) 127 with h3 | h3
          · exact absurd ⟨hm, h3⟩ c
          · omega
  have b128 := bl_128 hS1
  have he1 : -1048578 < e1 ∧ e1 < 1048578 := by rcases hT with ⟨_, _, _, h, _⟩ | ⟨_, _, _, h, _⟩ <;> omega
  rw [hk]
  have mx_ : ∀ a b : Int, mx a b = max a b := fun a b => by unfold mx; split <;> omega
  have mn_ : ∀ a b : Int, mn a b = min a b := fun a b => by unfold mn; split <;> omega
  have p54 : 2 ^ ((fmt W).f + 1) ≤ 9007199254740992 := by
    rw [show (9007199254740992 : Nat) = 2 ^ 53 by decide]; exact Nat.pow_le_pow_right (by decide) (by omega)
  by_cases c : (bl S1 : Int) - (fmt W).f - 1 ≤ 0 ∧ (fmt W).low - e1 ≤ 0
  · obtain rfl : m1 = false := by
      cases m1
      · rfl
      · have := hm1 rfl; omega
    obtain ⟨q, u, hu, hq, e5, _, hR, hl⟩ := pkc_up (fmt W) hpos c
    have e6 : pkc (fmt W) S1 e1 (if false = true then 1 else 0) = (fmt W).fin q (S1 * 2 ^ u) := e5
    rw [e6]
    have FX := rp_fin W hw ng t2 t1 hi h2 h1 hhi q (S1 * 2 ^ u) (e1 - u) (by omega) hR hl
    have hs := wSmall (V := S1 * 2 ^ u) (by omega)
    refine rp_pack W f t2 t1 lo hi hW (by omega) (wH S) (wL S) e (wH S1) (wL S1) e1 (bl S1) (max ((bl S1 : Int) - f - 1) (lo - e1)) (wH S1) (wL S1) e1 (bl S1) u (wH (S1 * 2 ^ u)) (wL (S1 * 2 ^ u)) (e1 - u) _ m false ng w (AIM _ _ _ _ _) ?_ E1 E2 hT (wLen hS1) (by omega) (mx_ _ _) (.inl ⟨by omega, rfl, rfl, rfl, rfl⟩) (wLen hS1) (by omega) ?_ ?_ ?_
    · rcases Z with h | h
      · left
        rw [Bool.and_eq_false_iff]
        by_cases h3 : S / 18446744073709551616 = 0
        · right; unfold wL; rw [beq_eq_false_iff_ne]; omega
        · left; unfold wH; rw [beq_eq_false_iff_ne]; omega
      · exact .inr h
    · rw [mn_, hf, hlo]; exact hu.symm
    · rcases Nat.eq_zero_or_pos u with h | h
      · right; subst h; exact ⟨by omega, by rw [Nat.pow_zero, Nat.mul_one], by rw [Nat.pow_zero, Nat.mul_one], by omega⟩
      · left; exact ⟨by omega, wLeft hS1 u (by omega) (by omega), rfl⟩
    · rw [hs.1, hs.2]
      rcases FX with h | ⟨h, h'⟩
      · exact .inl h
      · exact .inr ⟨h, rfl, h'⟩
  · obtain ⟨q, n, j, hj, hq, hn, e5, _, hR, hl⟩ := pkc_dn (fmt W) (S := S1) (m := if m1 then 1 else 0) (e := e1) (by cases m1 <;> decide) hpos c
    rw [e5]
    have FX := rp_fin W hw ng t2 t1 hi h2 h1 hhi q n (e1 + ((j + 1 : Nat) : Int)) (by omega) hR hl
    have hs := wSmall (V := n) (by omega)
    have hn128 : n < 340282366920938463463374607431768211456 := by omega
    have hj40 : j < 1099511627775 := by omega
    have r1 := wRight hS1 j (by omega)
    have hk1 : S1 / 2 ^ j < 340282366920938463463374607431768211456 := Nat.lt_of_le_of_lt (Nat.div_le_self _ _) hS1
    have r2 := wRight hk1 1 (by decide)
    have rb := rne_bits S1 j (if m1 then 1 else 0) (by cases m1 <;> decide)
    rw [← hn] at rb
    have hn2 := bl_128 hn128
    have hlen : (fmt W).f + 1 ≤ bl n ∨ q = 0 := by
      rcases Nat.eq_zero_or_pos q with h | h
      · exact .inr h
      · left
        have := hl h
        exact lt_bl.2 this
    refine rp_pack W f t2 t1 lo hi hW (by omega) (wH S) (wL S) e (wH S1) (wL S1) e1 (bl S1) ((j + 1 : Nat) : Int) (wH n) (wL n) (e1 + ((j + 1 : Nat) : Int)) (bl n) (min (f + 1 - bl n) (e1 + ((j + 1 : Nat) : Int) - lo)) (wH n) (wL n) (e1 + ((j + 1 : Nat) : Int)) _ m m1 ng w (AIM _ _ _ _ _) ?_ E1 E2 hT (wLen hS1) (by omega) ?_ (.inr ⟨by omega, rfl, wH (S1 / 2 ^ j), wL (S1 / 2 ^ j), wH (S1 / 2 ^ j / 2), wL (S1 / 2 ^ j / 2), decide (S1 % 2 ^ j ≠ 0), _, decide (S1 / 2 ^ j % 2 = 1 ∧ (S1 % 2 ^ j ≠ 0 ∨ (if m1 then 1 else 0) = 1 ∨ S1 / 2 ^ j / 2 % 2 = 1)), ?_, r2, ?_, ?_, ?_⟩) (wLen hn128) (by omega) (mn_ _ _) (.inr ⟨by omega, rfl, rfl, rfl⟩) ?_
    · rcases Z with h | h
      · left
        rw [Bool.and_eq_false_iff]
        by_cases h3 : S / 18446744073709551616 = 0
        · right; unfold wL; rw [beq_eq_false_iff_ne]; omega
        · left; unfold wH; rw [beq_eq_false_iff_ne]; omega
      · exact .inr h
    · rw [mx_, hf, hlo]; rw [← hj]; rfl
    · rw [show (((j + 1 : Nat) : Int) - 1) = (j : Int) by omega]; exact r1
    · rw [wAnd1, wAnd1, Bool.eq_iff_iff]
      cases m1 <;> simp
    · intro h
      rw [decide_eq_true_eq] at h
      rw [if_pos h] at rb
      rw [rb]
      exact wAdd1 (by omega)
    · intro h
      rw [decide_eq_false_iff_not] at h
      rw [if_neg h] at rb
      rw [rb]; exact ⟨rfl, rfl⟩
    · rw [hs.1, hs.2]
      rcases FX with h | ⟨h, h'⟩
      · exact .inl h
      · exact .inr ⟨h, rfl, h'⟩
end Go.Proofs.Ythdeeoallfbjmaa.PA
/- round.Pack's short ways: no width; nought; an exponent that is too great or too small. -/
namespace Go.Proofs.Ythdeeoallfbjmaa.PA
open Go.RowKit Go.Proofs.YthdeeoallfbjmaaW.PrintWords Go.Proofs.YthdeeoallfbjmaaW.PrintLast Go.Proofs.YthdeeoallfbjmaaW.PrintMore
attribute [local go_sem] max2_int min2_int max_two min_two max_three min_three max_four min_four   -- for this text's walks alone
set_option linter.unusedVariables false
set_option linter.unusedSimpArgs false
attribute [local go_sem high] eqA75
open Go.Proofs.Ythdeeoallfbjmaa.Th Flo
set_option maxHeartbeats 8000000 in
set_option maxRecDepth 100000 in
theorem rp_none (W : Int) (h l e : Int) (m ng : Bool) (w : World) (AIM : round_aim.f W ng h l e m = some (0, 0, 0, false, 0, 0, 0, 0, false, false)) :
    Calls Try.prog 57 #[.int .i64 W, .bool ng, .agg #[.int .u64 h, .int .u64 l], .int .i64 e, .bool m] w fun en w' => en = .returned (.int .u64 0) ∧ Below w.heap.size w w' := by
  have hu41 := Try.underlying75
  have hu95 := Try.underlying89
  have hu97 := Try.underlying91
  have A_ := Aside0.mk AIM
  clear AIM
  go_enter Try.func57, Try.ntmps57
  go_wp2_with (first | (go_at_call 73; (with_reducible refine (round_aim.calls W ng h l e m 0 0 0 false 0 0 0 0 false false _ A_.out).mono ?_); rintro en w1 ⟨rfl, hb⟩))
  go_ret
  exact ⟨rfl, below_alloc (below_step (below_alloc (Below.refl _ w) _) hb) _⟩
set_option maxHeartbeats 8000000 in
set_option maxRecDepth 100000 in
theorem rp_short (W f lo hi : Int) (h l e r : Int) (m ng : Bool) (w : World) (AIM : round_aim.f W ng h l e m = some (h, l, e, m, W, f, lo, hi, ng, true))
    (C : (h = 0 ∧ l = 0 ∧ m = false ∧ shape_Zero.f W ng = some r) ∨ (((h == 0) && (l == 0) && !m) = false ∧ ((1048576 < e ∧ shape_Inf.f W ng = some r) ∨ (e < -1048576 ∧ shape_Zero.f W ng = some r)))) :
    Calls Try.prog 57 #[.int .i64 W, .bool ng, .agg #[.int .u64 h, .int .u64 l], .int .i64 e, .bool m] w fun en w' => en = .returned (.int .u64 r) ∧ Below w.heap.size w w' := by
  have hu41 := Try.underlying75
  have hu95 := Try.underlying89
  have hu97 := Try.underlying91
  have A_ := Aside0.mk AIM
  clear AIM
  obtain ⟨bh, hh⟩ : ∃ y, (h == 0) = y := ⟨_, rfl⟩
  obtain ⟨bl_, hl⟩ : ∃ y, (l == 0) = y := ⟨_, rfl⟩
  rw [hh, hl] at C
  rcases C with ⟨rfl, rfl, rfl, B_⟩ | ⟨Z, C⟩
  · have B := Aside0.mk B_
    clear B_ hh hl
    go_enter Try.func57, Try.ntmps57
    go_wp2_with (first
      | (go_at_call 73; (with_reducible refine (round_aim.calls W ng 0 0 e false 0 0 e false W f lo hi ng true _ A_.out).mono ?_); rintro en w1 ⟨rfl, hb⟩; have sa := ((Nr.bcell hb).1 w.heap.size 0 (by simp)).trans (show _ = some (Value.int .u64 0) by simp [go_sem]); have sb := ((Nr.bcell hb).1 w.heap.size 1 (by simp)).trans (show _ = some (Value.int .u64 0) by simp [go_sem]); have hz := Nat.lt_of_lt_of_le (show w.heap.size < (w.alloc (.cells #[.int .u64 0, .int .u64 0] 75 (0, 0))).heap.size by simp) hb.size; have H1 := Aside0.mk (below_step (below_alloc (Below.refl _ w) _) hb); clear hb)
      | (go_at_call 70; (with_reducible refine (shape_Zero.calls W ng r _ B.out).mono ?_); rintro en w2 ⟨rfl, hb⟩))
    go_ret
    exact ⟨rfl, below_step (below_alloc H1.out _) hb⟩
  · have key : Aside0 ((decide (1048576 < e) = true ∧ shape_Inf.f W ng = some r) ∨ (decide (1048576 < e) = false ∧ decide (e < -1048576) = true ∧ shape_Zero.f W ng = some r)) := ⟨by
      rcases C with ⟨h1, h2⟩ | ⟨h1, h2⟩
      · exact .inl ⟨decide_eq_true h1, h2⟩
      · exact .inr ⟨decide_eq_false (by omega), decide_eq_true h1, h2⟩⟩
    clear C
    cases bh <;> cases bl_ <;> cases m <;> first
      | (exfalso; simp at Z; done)
      | (clear Z
         rcases key.out with ⟨d, B_⟩ | ⟨d, d2, B_⟩
         all_goals
          have B := Aside0.mk B_
          clear B_ key
          go_enter Try.func57, Try.ntmps57
          go_wp2_with (first
            | (go_at_call 73; (with_reducible refine (round_aim.calls W ng h l e _ h l e _ W f lo hi ng true _ A_.out).mono ?_); rintro en w1 ⟨rfl, hb⟩; have sa := ((Nr.bcell hb).1 w.heap.size 0 (by simp)).trans (show _ = some (Value.int .u64 h) by simp [go_sem]); have sb := ((Nr.bcell hb).1 w.heap.size 1 (by simp)).trans (show _ = some (Value.int .u64 l) by simp [go_sem]); have hz := Nat.lt_of_lt_of_le (show w.heap.size < (w.alloc (.cells #[.int .u64 h, .int .u64 l] 75 (0, 0))).heap.size by simp) hb.size; have H1 := Aside0.mk (below_step (below_alloc (Below.refl _ w) _) hb); clear hb)
            | (go_at_call 70; (with_reducible refine (shape_Zero.calls W ng r _ B.out).mono ?_); rintro en w2 ⟨rfl, hb⟩)
            | (go_at_call 74; (with_reducible refine (shape_Inf.calls W ng r _ B.out).mono ?_); rintro en w2 ⟨rfl, hb⟩))
          go_ret
          exact ⟨rfl, below_step (below_alloc H1.out _) hb⟩)
end Go.Proofs.Ythdeeoallfbjmaa.PA
namespace Go.Proofs.Ythdeeoallfbjmaa.PA
open Go.RowKit Go.Proofs.YthdeeoallfbjmaaW.PrintWords Go.Proofs.YthdeeoallfbjmaaW.PrintLast Go.Proofs.YthdeeoallfbjmaaW.PrintMore
attribute [local go_sem] max2_int min2_int max_two min_two max_three min_three max_four min_four   -- for this text's walks alone
set_option linter.unusedVariables false
set_option linter.unusedSimpArgs false
set_option maxHeartbeats 8000000
set_option maxRecDepth 100000
-- IMPORT Derived.Test.YthdeeoallfbjmaaHRpF
def round_Pack.f (a0 : Int) (a1 : Bool) (a2_0 : Int) (a2_1 : Int) (a3 : Int) (a4 : Bool) : Option (Int) :=
 if (0 ≤ a2_0 ∧ a2_0 < 18446744073709551616) ∧ (0 ≤ a2_1 ∧ a2_1 < 18446744073709551616) then
  some (if a0 = 32 ∨ a0 = 64 then ((Th.mkN a0 (Th.pkm (Th.fmt a0) (Th.wn a2_0.toNat a2_1.toNat) a3 a4) a1 : Nat) : Int) else 0) else none
theorem round_Pack.calls (a0 : Int) (a1 : Bool) (a2_0 : Int) (a2_1 : Int) (a3 : Int) (a4 : Bool) (r : Int) (w : World) (h : round_Pack.f a0 a1 a2_0 a2_1 a3 a4 = some r) :
  Calls Try.prog 57 #[.int .i64 a0, .bool a1, .agg #[.int .u64 a2_0, .int .u64 a2_1], .int .i64 a3, .bool a4] w fun e w' => e = .returned (.int .u64 r) ∧ Below w.heap.size w w' := by
 unfold round_Pack.f at h
 split at h
 rotate_left
 ·cases h
 rename_i hr
 obtain ⟨⟨p1, p2⟩, p3, p4⟩ := hr
 obtain rfl := Option.some.inj h
 obtain ⟨H, rfl⟩ := Int.eq_ofNat_of_zero_le p1
 obtain ⟨L, rfl⟩ := Int.eq_ofNat_of_zero_le p3
 rw [Int.toNat_natCast, Int.toNat_natCast]
 have hL : L < 18446744073709551616 := by omega
 have hS := Th.wn_lt (show H < 18446744073709551616 by omega) hL
 obtain ⟨e1, e2⟩ := Th.wHL H L hL
 have hz : Th.wn H L = 0 ↔ H = 0 ∧ L = 0 := by unfold Th.wn; omega
 by_cases hw : a0 = 32 ∨ a0 = 64
 ·rw [if_pos hw]
  have key : ∀ (f lo hi t2 t1 : Int), ((a0 = 32 ∧ f = 23 ∧ t2 = 16777216 ∧ t1 = 8388608) ∨ (a0 = 64 ∧ f = 52 ∧ t2 = 9007199254740992 ∧ t1 = 4503599627370496)) → lo = (Th.fmt a0).low → hi = (Th.fmt a0).low + (Th.fmt a0).top - 2 →
    (∀ ng h l e m, round_aim.f a0 ng h l e m = some (h, l, e, m, a0, f, lo, hi, ng, true)) → Calls Try.prog 57 #[.int .i64 a0, .bool a1, .agg #[.int .u64 (H : Int), .int .u64 (L : Int)], .int .i64 a3, .bool a4] w fun e w' => e = .returned (.int .u64 ((Th.mkN a0 (Th.pkm (Th.fmt a0) (Th.wn H L) a3 a4) a1 : Nat) : Int)) ∧ Below w.heap.size w w' := by
   intro f lo hi t2 t1 hW h1 h2 AIM
   by_cases c1 : Th.wn H L = 0 ∧ a4 = false
   ·refine rp_short a0 f lo hi H L a3 _ a4 a1 w (AIM _ _ _ _ _) (.inl ⟨by have := hz.1 c1.1; omega, by have := hz.1 c1.1; omega, c1.2, ?_⟩)
    unfold Th.pkm
    rw [if_pos c1]
    exact Th.shZ a0 hw a1
   ·have hb : (((H : Int) == 0) && ((L : Int) == 0) && !a4) = false := by
     cases a4
     ·have : ¬ (H = 0 ∧ L = 0) := fun h => c1 ⟨hz.2 h, rfl⟩
      rw [Bool.not_false, Bool.and_true, Bool.and_eq_false_iff, beq_eq_false_iff_ne, beq_eq_false_iff_ne]
      omega
     ·simp
    by_cases c2 : 1048576 < a3
    ·refine rp_short a0 f lo hi H L a3 _ a4 a1 w (AIM _ _ _ _ _) (.inr ⟨hb, .inl ⟨c2, ?_⟩⟩)
     unfold Th.pkm
     rw [if_neg c1, if_pos c2]
     exact Th.shI a0 hw a1
    ·by_cases c3 : a3 < -1048576
     ·refine rp_short a0 f lo hi H L a3 _ a4 a1 w (AIM _ _ _ _ _) (.inr ⟨hb, .inr ⟨c3, ?_⟩⟩)
      unfold Th.pkm
      rw [if_neg c1, if_neg c2, if_pos c3]
      exact Th.shZ a0 hw a1
     ·have := rp_main a0 f t2 t1 lo hi hW h1 h2 AIM (Th.wn H L) hS a3 a4 a1 (by
       cases a4
       ·exact .inl fun h => c1 ⟨h, rfl⟩
       ·exact .inr rfl) (by omega) (by omega) w
      rw [e1, e2] at this
      exact this
  rcases hw with rfl | rfl
  ·exact key 23 (-149) 104 16777216 8388608 (.inl ⟨rfl, rfl, rfl, rfl⟩) (by decide) (by decide) (fun ng h l e m => by
    unfold round_aim.f; rw [show shape_Fields.f 32 = some (8, 23) by decide, Option.bind_some, if_neg (by decide), if_pos (by decide +kernel), if_pos (by decide)]
    rw [show wrap64 ((wrap64 (2 - (shl .i64 1 (wrap64 ((8 : Int) - 1))))) - 23) = -149 by decide +kernel, show wrap64 ((wrap64 ((-149 : Int) + (shl .i64 1 8))) - 3) = 104 by decide +kernel])
  ·exact key 52 (-1074) 971 9007199254740992 4503599627370496 (.inr ⟨rfl, rfl, rfl, rfl⟩) (by decide) (by decide) (fun ng h l e m => by
    unfold round_aim.f; rw [show shape_Fields.f 64 = some (11, 52) by decide, Option.bind_some, if_neg (by decide), if_pos (by decide +kernel), if_pos (by decide)]
    rw [show wrap64 ((wrap64 (2 - (shl .i64 1 (wrap64 ((11 : Int) - 1))))) - 52) = -1074 by decide +kernel, show wrap64 ((wrap64 ((-1074 : Int) + (shl .i64 1 11))) - 3) = 971 by decide +kernel])
 ·rw [if_neg hw]
  refine rp_none a0 H L a3 a4 a1 w ?_
  unfold round_aim.f shape_Fields.f shape_of.f
  rw [if_neg (by omega), if_neg (by omega)]
  rfl
end Go.Proofs.Ythdeeoallfbjmaa.PA
/- whole.made, over any function value whose contract is given: what its four callers hand it. -/
namespace Go.Proofs.Ythdeeoallfbjmaa.PA
open Go.RowKit Go.Proofs.YthdeeoallfbjmaaW.PrintWords Go.Proofs.YthdeeoallfbjmaaW.PrintLast Go.Proofs.YthdeeoallfbjmaaW.PrintMore
attribute [local go_sem] max2_int min2_int max_two min_two max_three min_three max_four min_four   -- for this text's walks alone
set_option linter.unusedVariables false
set_option linter.unusedSimpArgs false
def whole_madeF (k : Nat) (aw : Bool → Int → Bool → Bool → Bool) (a0 a1 : Int) : Option Int :=
  if a0 = 32 ∨ a0 = 64 then (shape_Open.f k a0 a1).bind fun b =>
    if b.2.1 = 3 then shape_Nan.f a0
    else if b.2.1 = 1 ∧ b.2.2.1 < 0 then (whole_of.f b.1 b.2.1 b.2.2.1 b.2.2.2).bind fun c =>
      round_Pack.f a0 c.1 0 (if (c.2.2.1 || c.2.2.2) && aw c.1 c.2.1 c.2.2.1 c.2.2.2 then IntKind.u64.wrap (c.2.1 + 1) else c.2.1) 0 false
    else shape_Cut.f a0 a1
  else some 0
theorem whole_madeMono : ∀ aw a0 a1 k, LeO (whole_madeF k aw a0 a1) (whole_madeF (k + 1) aw a0 a1) := by
  intro aw a0 a1 k
  unfold whole_madeF
  exact LeO.ite (LeO.bind (shape_Open.mono _ _ _) fun _ => LeO.refl _) (LeO.refl _)
theorem Nr.exMade {W w' : World} {b : Nat} {v v1 : Value} (q : W.cell? ⟨b, 0, none⟩ = some v) (q1 : W.cell? ⟨b, 1, none⟩ = some v1) (z : b < W.heap.size) (hB : Below W.heap.size W w') :
    w'.cell? ⟨b, 0, none⟩ = some v ∧ w'.cell? ⟨b, 1, none⟩ = some v1 ∧ Below W.heap.size W w' :=
  ⟨((Nr.bcell hB).1 _ _ z).trans q, ((Nr.bcell hB).1 _ _ z).trans q1, hB⟩
theorem Nr.box4 {w w1 : World} {x0 x1 x2 x3 : Value} {ty : Nat} (h : Below (w.alloc (.cells #[x0, x1, x2, x3] ty)).heap.size (w.alloc (.cells #[x0, x1, x2, x3] ty)) w1) :
    w1.cell? ⟨w.heap.size, 0, none⟩ = some x0 ∧ w1.cell? ⟨w.heap.size, 1, none⟩ = some x1 ∧ w1.cell? ⟨w.heap.size, 2, none⟩ = some x2 ∧ w1.cell? ⟨w.heap.size, 3, none⟩ = some x3 ∧ w1.frozen? ⟨w.heap.size, 1, none⟩ = false ∧ w.heap.size < w1.heap.size := by
  have b := Nr.bcell h
  have z : w.heap.size < (w.alloc (.cells #[x0, x1, x2, x3] ty)).heap.size := by simp
  refine ⟨?_, ?_, ?_, ?_, ?_, Nat.lt_of_lt_of_le z h.size⟩
  · rw [b.1 _ _ z]; simp [go_sem]
  · rw [b.1 _ _ z]; simp [go_sem]
  · rw [b.1 _ _ z]; simp [go_sem]
  · rw [b.1 _ _ z]; simp [go_sem]
  · rw [b.2 _ _ z]; simp [go_sem]
theorem Nr.so (w : World) (B : Nat) (x : Value) : (w.setCell ⟨B, 1, none⟩ x).cell? ⟨B, 0, none⟩ = w.cell? ⟨B, 0, none⟩ := World.cell?_setCell_other w _ _ x (by simp)
theorem Nr.cc {w w1 : World} {B o : Nat} {v : Value} (h : Below w.heap.size w w1) (z : B < w.heap.size) (q : w.cell? ⟨B, o, none⟩ = some v) : w1.cell? ⟨B, o, none⟩ = some v := ((Nr.bcell h).1 _ _ z).trans q
theorem Nr.cf {w w1 : World} {B o : Nat} {v : Bool} (h : Below w.heap.size w w1) (z : B < w.heap.size) (q : w.frozen? ⟨B, o, none⟩ = v) : w1.frozen? ⟨B, o, none⟩ = v := ((Nr.bcell h).2 _ _ z).trans q
set_option maxHeartbeats 8000000 in
set_option maxRecDepth 100000 in
theorem whole_madeCalls (k : Nat) (kc : Nat) (aw : Bool → Int → Bool → Bool → Bool)
    (ek : ∀ args w, (callFunc kc args).run Try.prog w = .ok (.enter kc args) w)
    (hc : ∀ (s : Bool) (n : Int) (h l : Bool) (w : World), Calls Try.prog kc #[.agg #[.bool s, .int .u64 n, .bool h, .bool l]] w fun e w' => e = .returned (.bool (aw s n h l)) ∧ Below w.heap.size w w')
    (a0 a1 r : Int) (w : World) (h : whole_madeF k aw a0 a1 = some r) :
    Calls Try.prog 25 #[.int .i64 a0, .int .u64 a1, .func (.func kc) #[] #[]] w fun e w' => e = .returned (.int .u64 r) ∧ Below w.heap.size w w' := by
  have hu1 := Try.underlying36
  have hu2 := Try.underlying47
  have hu3 := Try.underlying75
  unfold whole_madeF at h
  by_cases hw : a0 = 32 ∨ a0 = 64
  · rw [if_pos hw] at h
    rcases hw with rfl | rfl
    all_goals
      obtain ⟨⟨s, kd, ex, g⟩, B1, h⟩ := Option.bind_eq_some_iff.mp h
      have T1 := Aside0.mk B1
      clear B1
      dsimp only at h
      by_cases k3 : kd = 3
      · rw [if_pos k3] at h
        subst k3
        have T2 := Aside0.mk h
        clear h
        go_enter Try.func25, Try.ntmps25
        go_wp2_with (first
          | (go_at_call 16; (with_reducible refine (shape_Open.calls k _ a1 s 3 ex g _ T1.out).mono ?_); rintro e w2 ⟨rfl, hb⟩; have HB := Aside0.mk hb; clear hb)
          | (go_at_call 17; (with_reducible refine (shape_Nan.calls _ r _ T2.out).mono ?_); rintro e w3 ⟨rfl, hb3⟩))
        go_ret
        exact ⟨rfl, below_step (below_alloc HB.out _) hb3⟩
      · rw [if_neg k3] at h
        have c3 : (kd == 3) = false := beq_eq_false_iff_ne.mpr k3
        by_cases c : kd = 1 ∧ ex < 0
        · rw [if_pos c] at h
          obtain ⟨rfl, cx⟩ := c
          obtain ⟨⟨s', n, hf, l⟩, B2, h⟩ := Option.bind_eq_some_iff.mp h
          dsimp only at h
          have T2 := Aside0.mk B2
          have cx' : (decide (0 ≤ ex)) = false := decide_eq_false (by omega)
          clear B2 k3 cx
          -- WAYS
          have E3 : whole_cut_exact.f s' n hf l = some (!(hf || l)) := by cases hf <;> cases l <;> rfl
          cases b1 : (hf || l)
          · rw [b1] at h E3
            have T3 := Aside0.mk (show whole_cut_exact.f s' n hf l = some true from E3)
            have T4 := Aside0.mk (show round_Pack.f _ s' 0 n 0 false = some r from h)
            clear h E3 b1
            go_enter Try.func25, Try.ntmps25
            go_upto_region 11 with (first
              | (go_at_call 16; (with_reducible refine (shape_Open.calls k _ a1 s 1 ex g _ T1.out).mono ?_); rintro e w2 ⟨rfl, hb2⟩; have HB := Aside0.mk hb2; clear hb2)
              | (go_at_call 36; (with_reducible refine (whole_of.calls s 1 ex g s' n hf l _ T2.out).mono ?_); rintro e w3 ⟨rfl, hb3⟩; replace HB := Aside0.mk (below_step (below_alloc HB.out _) hb3); have G3 := Aside0.mk HB.out.size; clear hb3)
              | (go_at_call 37; (with_reducible refine (whole_cut_exact.calls s' n hf l true _ T3.out).mono ?_); rintro e w4 ⟨rfl, hb4⟩; have BX := Nr.box4 hb4; obtain ⟨q0, q1, q2, q3, qf, ql⟩ := BX; replace HB := Aside0.mk (below_step (below_alloc HB.out _) hb4); clear hb4))
            obtain ⟨N', hN⟩ : ∃ N', n = N' := ⟨_, rfl⟩
            rw [hN] at T4 q1
            generalize w3.heap.size = B at q0 q1 ql ⊢
            go_region_held3 (fun w' => w'.cell? ⟨B, 0, none⟩ = some (.bool s') ∧ w'.cell? ⟨B, 1, none⟩ = some (.int .u64 N') ∧ Below w4.heap.size w4 w')
              (((try go_split_ands); (try dsimp only); refine Nr.exMade q0 q1 ql ?_; (repeat (first | assumption | exact BW2.out | exact BW1.out | exact Below.refl _ _ | apply below_drew1 | apply below_alloc)); done))
              (first
                | (go_at_call 58; refine (wide_Of.calls N' 0 N' _ rfl).mono ?_; rintro e w6 ⟨rfl, hb⟩; (try go_split_ands); have BW1 := Aside0.mk (show Below w4.heap.size w4 w6 from below_step (by first | assumption | exact Below.refl _ _) hb))
                | (go_at_call 57; refine (round_Pack.calls _ s' 0 N' 0 false r _ T4.out).mono ?_; rintro e w7 ⟨rfl, hb⟩; (try go_split_ands); have BW2 := Aside0.mk (show Below w4.heap.size w4 w7 from below_step (by first | assumption | exact BW1.out) hb)))
            all_goals (go_wp2_with fail; go_ret; exact ⟨rfl, below_step HB.out (by repeat (first | assumption | exact BW2.out | apply below_drew1 | apply below_alloc))⟩)
          · rw [b1] at h E3
            have T3 := Aside0.mk (show whole_cut_exact.f s' n hf l = some false from E3)
            clear E3 b1
            cases b2 : aw s' n hf l
            · rw [b2] at h
              have T4 := Aside0.mk (show round_Pack.f _ s' 0 n 0 false = some r from h)
              clear h
              have hc := fun w => b2 ▸ hc s' n hf l w
              go_enter Try.func25, Try.ntmps25
              go_upto_region 11 with (first
                | (go_at_call 16; (with_reducible refine (shape_Open.calls k _ a1 s 1 ex g _ T1.out).mono ?_); rintro e w2 ⟨rfl, hb2⟩; have HB := Aside0.mk hb2; clear hb2)
                | (go_at_call 36; (with_reducible refine (whole_of.calls s 1 ex g s' n hf l _ T2.out).mono ?_); rintro e w3 ⟨rfl, hb3⟩; replace HB := Aside0.mk (below_step (below_alloc HB.out _) hb3); have G3 := Aside0.mk HB.out.size; clear hb3)
                | (go_at_call 37; (with_reducible refine (whole_cut_exact.calls s' n hf l false _ T3.out).mono ?_); rintro e w4 ⟨rfl, hb4⟩; have BX := Nr.box4 hb4; obtain ⟨q0, q1, q2, q3, qf, ql⟩ := BX; replace HB := Aside0.mk (below_step (below_alloc HB.out _) hb4); clear hb4)
                | (go_at_fn kc; refine (hc _).mono ?_; rintro e w5 ⟨rfl, hb5⟩; replace q0 := Nr.cc hb5 ql q0; replace q1 := Nr.cc hb5 ql q1; replace qf := Nr.cf hb5 ql qf; replace ql := Nat.lt_of_lt_of_le ql hb5.size; replace HB := Aside0.mk (below_step HB.out hb5); clear hb5))
              obtain ⟨N', hN⟩ : ∃ N', n = N' := ⟨_, rfl⟩
              rw [hN] at T4 q1
              generalize w3.heap.size = B at q0 q1 ql ⊢
              go_region_held3 (fun w' => w'.cell? ⟨B, 0, none⟩ = some (.bool s') ∧ w'.cell? ⟨B, 1, none⟩ = some (.int .u64 N') ∧ Below w5.heap.size w5 w')
                (((try go_split_ands); (try dsimp only); refine Nr.exMade q0 q1 ql ?_; (repeat (first | assumption | exact BW2.out | exact BW1.out | exact Below.refl _ _ | apply below_drew1 | apply below_alloc)); done))
                (first
                  | (go_at_call 58; refine (wide_Of.calls N' 0 N' _ rfl).mono ?_; rintro e w6 ⟨rfl, hb⟩; (try go_split_ands); have BW1 := Aside0.mk (show Below w5.heap.size w5 w6 from below_step (by first | assumption | exact Below.refl _ _) hb))
                  | (go_at_call 57; refine (round_Pack.calls _ s' 0 N' 0 false r _ T4.out).mono ?_; rintro e w7 ⟨rfl, hb⟩; (try go_split_ands); have BW2 := Aside0.mk (show Below w5.heap.size w5 w7 from below_step (by first | assumption | exact BW1.out) hb)))
              all_goals (go_wp2_with fail; go_ret; exact ⟨rfl, below_step HB.out (by repeat (first | assumption | exact BW2.out | apply below_drew1 | apply below_alloc))⟩)
            · rw [b2] at h
              have T4 := Aside0.mk (show round_Pack.f _ s' 0 (IntKind.u64.wrap (n + 1)) 0 false = some r from h)
              clear h
              have hc := fun w => b2 ▸ hc s' n hf l w
              go_enter Try.func25, Try.ntmps25
              go_upto_region 11 with (first
                | (go_at_call 16; (with_reducible refine (shape_Open.calls k _ a1 s 1 ex g _ T1.out).mono ?_); rintro e w2 ⟨rfl, hb2⟩; have HB := Aside0.mk hb2; clear hb2)
                | (go_at_call 36; (with_reducible refine (whole_of.calls s 1 ex g s' n hf l _ T2.out).mono ?_); rintro e w3 ⟨rfl, hb3⟩; replace HB := Aside0.mk (below_step (below_alloc HB.out _) hb3); have G3 := Aside0.mk HB.out.size; clear hb3)
                | (go_at_call 37; (with_reducible refine (whole_cut_exact.calls s' n hf l false _ T3.out).mono ?_); rintro e w4 ⟨rfl, hb4⟩; have BX := Nr.box4 hb4; obtain ⟨q0, q1, q2, q3, qf, ql⟩ := BX; replace HB := Aside0.mk (below_step (below_alloc HB.out _) hb4); clear hb4)
                | (go_at_fn kc; refine (hc _).mono ?_; rintro e w5 ⟨rfl, hb5⟩; replace q0 := Nr.cc hb5 ql q0; replace q1 := Nr.cc hb5 ql q1; replace qf := Nr.cf hb5 ql qf; replace ql := Nat.lt_of_lt_of_le ql hb5.size; replace HB := Aside0.mk (below_step HB.out hb5); clear hb5))
              obtain ⟨W, hW⟩ : ∃ W, w5.setCell ⟨w3.heap.size, 1, none⟩ (.int .u64 (IntKind.u64.wrap (n + 1))) = W := ⟨_, rfl⟩
              rw [hW]
              have u0 : W.cell? ⟨w3.heap.size, 0, none⟩ = some (.bool s') := by rw [← hW, Nr.so]; exact q0
              have u1 : W.cell? ⟨w3.heap.size, 1, none⟩ = some (.int .u64 (IntKind.u64.wrap (n + 1))) := by rw [← hW]; exact World.cell?_setCell_same _ _ _ q1
              have ul : w3.heap.size < W.heap.size := by rw [← hW]; simpa [go_sem] using ql
              replace HB := Aside0.mk (show Below w.heap.size w W from hW ▸ below_set HB.out G3.out)
              clear hW q0 q1 ql
              have q0 := u0
              have q1 := u1
              have ql := ul
              clear u0 u1 ul
              obtain ⟨N', hN⟩ : ∃ N', IntKind.u64.wrap (n + 1) = N' := ⟨_, rfl⟩
              rw [hN] at T4 q1
              generalize w3.heap.size = B at q0 q1 ql ⊢
              go_region_held3 (fun w' => w'.cell? ⟨B, 0, none⟩ = some (.bool s') ∧ w'.cell? ⟨B, 1, none⟩ = some (.int .u64 N') ∧ Below W.heap.size W w')
                (((try go_split_ands); (try dsimp only); refine Nr.exMade q0 q1 ql ?_; (repeat (first | assumption | exact BW2.out | exact BW1.out | exact Below.refl _ _ | apply below_drew1 | apply below_alloc)); done))
                (first
                  | (go_at_call 58; refine (wide_Of.calls N' 0 N' _ rfl).mono ?_; rintro e w6 ⟨rfl, hb⟩; (try go_split_ands); have BW1 := Aside0.mk (show Below W.heap.size W w6 from below_step (by first | assumption | exact Below.refl _ _) hb))
                  | (go_at_call 57; refine (round_Pack.calls _ s' 0 N' 0 false r _ T4.out).mono ?_; rintro e w7 ⟨rfl, hb⟩; (try go_split_ands); have BW2 := Aside0.mk (show Below W.heap.size W w7 from below_step (by first | assumption | exact BW1.out) hb)))
              all_goals (go_wp2_with fail; go_ret; exact ⟨rfl, below_step HB.out (by repeat (first | assumption | exact BW2.out | apply below_drew1 | apply below_alloc))⟩)
          -- END WAYS
        · rw [if_neg c] at h
          have T2 := Aside0.mk h
          clear h
          by_cases c1 : kd = 1
          · subst c1
            have cx' : (decide (0 ≤ ex)) = true := decide_eq_true (by omega)
            clear c k3
            go_enter Try.func25, Try.ntmps25
            go_wp2_with (first
              | (go_at_call 16; (with_reducible refine (shape_Open.calls k _ a1 s 1 ex g _ T1.out).mono ?_); rintro e w2 ⟨rfl, hb⟩; have HB := Aside0.mk hb; clear hb)
              | (go_at_call 18; (with_reducible refine (shape_Cut.calls _ a1 r _ T2.out).mono ?_); rintro e w3 ⟨rfl, hb3⟩))
            go_ret
            exact ⟨rfl, below_step (below_alloc HB.out _) hb3.below⟩
          · have cx' : (kd != 1) = true := bne_iff_ne.mpr c1
            clear c c1 k3
            go_enter Try.func25, Try.ntmps25
            go_wp2_with (first
              | (go_at_call 16; (with_reducible refine (shape_Open.calls k _ a1 s kd ex g _ T1.out).mono ?_); rintro e w2 ⟨rfl, hb⟩; have HB := Aside0.mk hb; clear hb)
              | (go_at_call 18; (with_reducible refine (shape_Cut.calls _ a1 r _ T2.out).mono ?_); rintro e w3 ⟨rfl, hb3⟩))
            go_ret
            exact ⟨rfl, below_step (below_alloc HB.out _) hb3.below⟩
  · rw [if_neg hw] at h
    obtain rfl := Option.some.inj h
    have c1 : (a0 != 32) = true := bne_iff_ne.mpr (by omega)
    have c2 : (a0 != 64) = true := bne_iff_ne.mpr (by omega)
    clear h hw
    go_enter Try.func25, Try.ntmps25
    go_wp2_with fail
    go_ret
    exact ⟨rfl, Below.refl _ _⟩
end Go.Proofs.Ythdeeoallfbjmaa.PA
namespace Go.Proofs.Ythdeeoallfbjmaa.PA
open Go.RowKit Go.Proofs.YthdeeoallfbjmaaW.PrintWords Go.Proofs.YthdeeoallfbjmaaW.PrintLast Go.Proofs.YthdeeoallfbjmaaW.PrintMore
attribute [local go_sem] max2_int min2_int max_two min_two max_three min_three max_four min_four   -- for this text's walks alone
set_option linter.unusedVariables false
set_option linter.unusedSimpArgs false
set_option maxHeartbeats 8000000
set_option maxRecDepth 100000
-- IMPORT Derived.Test.YthdeeoallfbjmaaHMade
def whole_Ceil.aw : Bool → Int → Bool → Bool → Bool := fun s _ _ _ => !s
def whole_Ceil.f (k : Nat) (a0 : Int) (a1 : Int) : Option (Int) := whole_madeF k whole_Ceil.aw a0 a1
theorem whole_Ceil.mono : ∀ a0 a1 k, LeO (whole_Ceil.f k a0 a1) (whole_Ceil.f (k + 1) a0 a1) := fun a0 a1 k => whole_madeMono _ a0 a1 k
theorem whole_Ceil.away (s : Bool) (n : Int) (h l : Bool) (w : World) : Calls Try.prog 26 #[.agg #[.bool s, .int .u64 n, .bool h, .bool l]] w fun e w' => e = .returned (.bool (whole_Ceil.aw s n h l)) ∧ Below w.heap.size w w' := by
 have hu2 := Try.underlying47
 go_enter Try.func26, Try.ntmps26
 go_wp2
 all_goals (go_ret; first | exact ⟨rfl, Below.refl _ _⟩ | exact ⟨rfl, below_alloc (Below.refl _ _) _⟩ | (refine ⟨by simp [whole_Ceil.aw, *], ?_⟩; first | exact Below.refl _ _ | exact below_alloc (Below.refl _ _) _))
theorem whole_Ceil.calls (k : Nat) (a0 : Int) (a1 : Int) (r : Int) (w : World) (h : whole_Ceil.f k a0 a1 = some r) :
  Calls Try.prog 7 #[.int .i64 a0, .int .u64 a1] w fun e w' => e = .returned (.int .u64 r) ∧ Below w.heap.size w w' := by
 have H := whole_madeCalls k 26 whole_Ceil.aw (fun args w => enters_of Try.func26 (by kernel_rfl) rfl args w) whole_Ceil.away a0 a1 r w h
 go_enter Try.func7, Try.ntmps7
 go_wp2_with (go_at_call 25; refine H.mono ?_; rintro e w1 ⟨rfl, hb⟩)
 go_ret
 exact ⟨rfl, hb⟩
-- IMPORT Derived.Test.YthdeeoallfbjmaaHMade
def whole_Nearest.aw : Bool → Int → Bool → Bool → Bool := fun _ n h l => h && (l || Go.bits .and .u64 n 1 == 1)
def whole_Nearest.f (k : Nat) (a0 : Int) (a1 : Int) : Option (Int) := whole_madeF k whole_Nearest.aw a0 a1
theorem whole_Nearest.mono : ∀ a0 a1 k, LeO (whole_Nearest.f k a0 a1) (whole_Nearest.f (k + 1) a0 a1) := fun a0 a1 k => whole_madeMono _ a0 a1 k
theorem whole_Nearest.away (s : Bool) (n : Int) (h l : Bool) (w : World) : Calls Try.prog 29 #[.agg #[.bool s, .int .u64 n, .bool h, .bool l]] w fun e w' => e = .returned (.bool (whole_Nearest.aw s n h l)) ∧ Below w.heap.size w w' := by
 have hu2 := Try.underlying47
 obtain ⟨b, hb⟩ : ∃ b, (Go.bits .and .u64 n 1 == 1) = b := ⟨_, rfl⟩
 have e : whole_Nearest.aw s n h l = (h && (l || b)) := by show (h && (l || Go.bits .and .u64 n 1 == 1)) = _; rw [hb]
 rw [e]
 clear e
 cases h <;> cases l
 all_goals (
  go_enter Try.func29, Try.ntmps29
  go_wp2
  go_ret
  first | exact ⟨rfl, Below.refl _ _⟩ | exact ⟨rfl, below_alloc (Below.refl _ _) _⟩ | (refine ⟨by simp [hb], ?_⟩; first | exact Below.refl _ _ | exact below_alloc (Below.refl _ _) _))
theorem whole_Nearest.calls (k : Nat) (a0 : Int) (a1 : Int) (r : Int) (w : World) (h : whole_Nearest.f k a0 a1 = some r) :
  Calls Try.prog 10 #[.int .i64 a0, .int .u64 a1] w fun e w' => e = .returned (.int .u64 r) ∧ Below w.heap.size w w' := by
 have H := whole_madeCalls k 29 whole_Nearest.aw (fun args w => enters_of Try.func29 (by kernel_rfl) rfl args w) whole_Nearest.away a0 a1 r w h
 go_enter Try.func10, Try.ntmps10
 go_wp2_with (go_at_call 25; refine H.mono ?_; rintro e w1 ⟨rfl, hb⟩)
 go_ret
 exact ⟨rfl, hb⟩
def L09_awake.f (k : Nat)  : Option (Bool) := (whole_Nearest.f k 64 4612811918334230528).bind fun t213 => (if t213 = 4611686018427387904 then ((whole_Nearest.f k 64 13826050856027422720).bind fun t214 => (if t214 = 9223372036854775808 then ((whole_Ceil.f k 64 13826050856027422720).bind fun t215 => (some (t215 == 9223372036854775808))) else (some false))) else (some false))
theorem L09_awake.mono : ∀ k, LeO (L09_awake.f k ) (L09_awake.f (k + 1) ) := by
 intro  k
 unfold L09_awake.f
 repeat' first
   | (with_reducible exact whole_Ceil.mono _ _ _)
   | (with_reducible exact whole_Nearest.mono _ _ _)
   | (with_reducible exact LeO.refl _)
   | (with_reducible exact LeO.none _)
   | (with_reducible refine LeO.ite ?_ ?_)
   | (with_reducible refine LeO.bind ?_ (fun _ => ?_))
   | exact whole_Ceil.mono _ _ _
   | exact whole_Nearest.mono _ _ _
   | exact LeO.none _
   | refine LeO.ite ?_ ?_
   | refine LeO.bind ?_ (fun _ => ?_)
theorem L09_awake.calls (k : Nat)  (r : Bool) (w : World) (h : L09_awake.f k  = some r) :
  Calls Try.prog 6 #[] w fun e w' => e = .returned (.bool r) ∧ Below w.heap.size w w' := by
 have HB := A_ (Below.refl w.heap.size w)
 have H : ((whole_Nearest.f k 64 4612811918334230528).bind fun t213 => (if t213 = 4611686018427387904 then ((whole_Nearest.f k 64 13826050856027422720).bind fun t214 => (if t214 = 9223372036854775808 then ((whole_Ceil.f k 64 13826050856027422720).bind fun t215 => (some (t215 == 9223372036854775808))) else (some false))) else (some false))) = some r := h
 clear h
 replace H := ob_ H
 obtain ⟨t213, A10, H⟩ := H
 replace H : (if t213 = 4611686018427387904 then ((whole_Nearest.f k 64 13826050856027422720).bind fun t214 => (if t214 = 9223372036854775808 then ((whole_Ceil.f k 64 13826050856027422720).bind fun t215 => (some (t215 == 9223372036854775808))) else (some false))) else (some false)) = some r := H
 have A1 := A_ A10;clear A10
 by_cases c2 : t213 = 4611686018427387904
 ·rw [if_pos c2] at H
  have c2b0 : (t213 == 4611686018427387904) = true := beq_iff_eq.mpr c2
  have c2b1 : (t213 != 4611686018427387904) = false := bne_eq_false_iff_eq.mpr c2
  clear c2
  replace H := ob_ H
  obtain ⟨t214, A30, H⟩ := H
  replace H : (if t214 = 9223372036854775808 then ((whole_Ceil.f k 64 13826050856027422720).bind fun t215 => (some (t215 == 9223372036854775808))) else (some false)) = some r := H
  have A3 := A_ A30;clear A30
  by_cases c4 : t214 = 9223372036854775808
  ·rw [if_pos c4] at H
   have c4b0 : (t214 == 9223372036854775808) = true := beq_iff_eq.mpr c4
   have c4b1 : (t214 != 9223372036854775808) = false := bne_eq_false_iff_eq.mpr c4
   clear c4
   replace H := ob_ H
   obtain ⟨t215, A50, H⟩ := H
   replace H : (some (t215 == 9223372036854775808)) = some r := H
   have A5 := A_ A50;clear A50
   obtain rfl := Option.some.inj H
   go_enter Try.func6, Try.ntmps6
   go_wp2_with (first | ((with_reducible refine gate_callee (f := 10) rfl ?_); refine gl_ (some 1) Try.func10 #[.int .i64 64, .int .u64 4612811918334230528] ?_; (with_reducible refine (whole_Nearest.calls k 64 4612811918334230528 t213 _ A1.out).mono ?_); rintro e w6 ⟨rfl, hb⟩; refine ⟨_, rfl, ?_⟩; replace HB := A_ (below_step (hb_ HB.out) hb); (try clear hb); (try clear hb2); (try clear hk); (try clear hi)) | (go_at_call 10; (with_reducible refine (whole_Nearest.calls k 64 13826050856027422720 t214 _ A3.out).mono ?_); rintro e w7 ⟨rfl, hb⟩; replace HB := A_ (below_step (hb_ HB.out) hb); (try clear hb); (try clear hb2); (try clear hk); (try clear hi)) | (go_at_call 7; (with_reducible refine (whole_Ceil.calls k 64 13826050856027422720 t215 _ A5.out).mono ?_); rintro e w8 ⟨rfl, hb⟩; replace HB := A_ (below_step (hb_ HB.out) hb); (try clear hb); (try clear hb2); (try clear hk); (try clear hi)))
   go_ret
   exact ⟨er_, hb_ HB.out⟩
  ·rw [if_neg c4] at H
   have c4b0 : (t214 == 9223372036854775808) = false := beq_eq_false_iff_ne.mpr c4
   have c4b1 : (t214 != 9223372036854775808) = true := bne_iff_ne.mpr c4
   obtain rfl := Option.some.inj H
   go_enter Try.func6, Try.ntmps6
   go_wp2_with (first | ((with_reducible refine gate_callee (f := 10) rfl ?_); refine gl_ (some 1) Try.func10 #[.int .i64 64, .int .u64 4612811918334230528] ?_; (with_reducible refine (whole_Nearest.calls k 64 4612811918334230528 t213 _ A1.out).mono ?_); rintro e w9 ⟨rfl, hb⟩; refine ⟨_, rfl, ?_⟩; replace HB := A_ (below_step (hb_ HB.out) hb); (try clear hb); (try clear hb2); (try clear hk); (try clear hi)) | (go_at_call 10; (with_reducible refine (whole_Nearest.calls k 64 13826050856027422720 t214 _ A3.out).mono ?_); rintro e w10 ⟨rfl, hb⟩; replace HB := A_ (below_step (hb_ HB.out) hb); (try clear hb); (try clear hb2); (try clear hk); (try clear hi)))
   go_ret
   exact ⟨er_, hb_ HB.out⟩
 ·rw [if_neg c2] at H
  have c2b0 : (t213 == 4611686018427387904) = false := beq_eq_false_iff_ne.mpr c2
  have c2b1 : (t213 != 4611686018427387904) = true := bne_iff_ne.mpr c2
  obtain rfl := Option.some.inj H
  go_enter Try.func6, Try.ntmps6
  go_wp2_with (first | ((with_reducible refine gate_callee (f := 10) rfl ?_); refine gl_ (some 1) Try.func10 #[.int .i64 64, .int .u64 4612811918334230528] ?_; (with_reducible refine (whole_Nearest.calls k 64 4612811918334230528 t213 _ A1.out).mono ?_); rintro e w11 ⟨rfl, hb⟩; refine ⟨_, rfl, ?_⟩; replace HB := A_ (below_step (hb_ HB.out) hb); (try clear hb); (try clear hb2); (try clear hk); (try clear hi)))
  go_ret
  exact ⟨er_, hb_ HB.out⟩
-- IMPORT Derived.Test.YthdeeoallfbjmaaHMade
def whole_Floor.aw : Bool → Int → Bool → Bool → Bool := fun s _ _ _ => s
def whole_Floor.f (k : Nat) (a0 : Int) (a1 : Int) : Option (Int) := whole_madeF k whole_Floor.aw a0 a1
theorem whole_Floor.mono : ∀ a0 a1 k, LeO (whole_Floor.f k a0 a1) (whole_Floor.f (k + 1) a0 a1) := fun a0 a1 k => whole_madeMono _ a0 a1 k
theorem whole_Floor.away (s : Bool) (n : Int) (h l : Bool) (w : World) : Calls Try.prog 27 #[.agg #[.bool s, .int .u64 n, .bool h, .bool l]] w fun e w' => e = .returned (.bool (whole_Floor.aw s n h l)) ∧ Below w.heap.size w w' := by
 have hu2 := Try.underlying47
 go_enter Try.func27, Try.ntmps27
 go_wp2
 all_goals (go_ret; first | exact ⟨rfl, Below.refl _ _⟩ | exact ⟨rfl, below_alloc (Below.refl _ _) _⟩ | (refine ⟨by simp [whole_Floor.aw, *], ?_⟩; first | exact Below.refl _ _ | exact below_alloc (Below.refl _ _) _))
theorem whole_Floor.calls (k : Nat) (a0 : Int) (a1 : Int) (r : Int) (w : World) (h : whole_Floor.f k a0 a1 = some r) :
  Calls Try.prog 8 #[.int .i64 a0, .int .u64 a1] w fun e w' => e = .returned (.int .u64 r) ∧ Below w.heap.size w w' := by
 have H := whole_madeCalls k 27 whole_Floor.aw (fun args w => enters_of Try.func27 (by kernel_rfl) rfl args w) whole_Floor.away a0 a1 r w h
 go_enter Try.func8, Try.ntmps8
 go_wp2_with (go_at_call 25; refine H.mono ?_; rintro e w1 ⟨rfl, hb⟩)
 go_ret
 exact ⟨rfl, hb⟩
def whole_IsWhole.j0 : Nat → Int → Int → Bool → Option (Bool)
 | 0, _, _, _ => none
 | k + 1, x0, x1, x11 => if x11 = true then (some false) else ((shape_Open.f k x0 x1).bind fun bt485 => (if bt485.2.1 = 0 then (some true) else (if bt485.2.1 = 1 then (if bt485.2.2.1 ≥ 0 then (some true) else ((whole_of.f bt485.1 bt485.2.1 bt485.2.2.1 bt485.2.2.2).bind fun bt490 => ((whole_cut_exact.f bt490.1 bt490.2.1 bt490.2.2.1 bt490.2.2.2).bind fun t494 => (some t494)))) else (some false))))
def whole_IsWhole.f (k : Nat) (a0 : Int) (a1 : Int) : Option (Bool) := if a0 = 32 then (whole_IsWhole.j0 k a0 a1 false) else (whole_IsWhole.j0 k a0 a1 (a0 != 64))
theorem whole_IsWhole.mono_l : ∀ k, (∀ y0 y1 y2, LeO (whole_IsWhole.j0 k y0 y1 y2) (whole_IsWhole.j0 (k + 1) y0 y1 y2))
 | 0 => fun _ _ _ r h => by simp [whole_IsWhole.j0] at h
 | k + 1 => by
  have ih0 := whole_IsWhole.mono_l k
  ·intro y0 y1 y2
   unfold whole_IsWhole.j0
   repeat' first
   | (with_reducible exact ih0 _ _ _)
   | (with_reducible exact shape_Open.mono _ _ _)
   | (with_reducible exact LeO.refl _)
   | (with_reducible exact LeO.none _)
   | (with_reducible refine LeO.ite ?_ ?_)
   | (with_reducible refine LeO.bind ?_ (fun _ => ?_))
   | exact ih0 _ _ _
   | exact shape_Open.mono _ _ _
   | exact LeO.none _
   | refine LeO.ite ?_ ?_
   | refine LeO.bind ?_ (fun _ => ?_)
theorem whole_IsWhole.mono : ∀ a0 a1 k, LeO (whole_IsWhole.f k a0 a1) (whole_IsWhole.f (k + 1) a0 a1) := by
 intro a0 a1 k
 have ih0 := whole_IsWhole.mono_l k
 unfold whole_IsWhole.f
 repeat' first
   | (with_reducible exact ih0 _ _ _)
   | (with_reducible exact shape_Open.mono _ _ _)
   | (with_reducible exact LeO.refl _)
   | (with_reducible exact LeO.none _)
   | (with_reducible refine LeO.ite ?_ ?_)
   | (with_reducible refine LeO.bind ?_ (fun _ => ?_))
   | exact ih0 _ _ _
   | exact shape_Open.mono _ _ _
   | exact LeO.none _
   | refine LeO.ite ?_ ?_
   | refine LeO.bind ?_ (fun _ => ?_)
theorem whole_IsWhole.calls (k : Nat) (a0 : Int) (a1 : Int) (r : Bool) (w : World) (h : whole_IsWhole.f k a0 a1 = some r) :
  Calls Try.prog 13 #[.int .i64 a0, .int .u64 a1] w fun e w' => e = .returned (.bool r) ∧ Below w.heap.size w w' := by
 have hu36 := Try.underlying36
 have HB := A_ (Below.refl w.heap.size w)
 have H : (if a0 = 32 then (whole_IsWhole.j0 k a0 a1 false) else (whole_IsWhole.j0 k a0 a1 (a0 != 64))) = some r := h
 clear h;have HC3 := A_ H;clear H
 go_enter Try.func13, Try.ntmps13
 go_upto_region 1 with (fail)
 go_cut [11] (fun v11 wc => ∃ (kq : Nat) (x11_2 : Bool), v11 = .bool x11_2 ∧ Aside0 (whole_IsWhole.j0 kq a0 a1 x11_2 = some r) ∧ Aside0 (kq ≤ k) ∧ Aside0 (Below w.heap.size w wc))
 case first =>
  have H := HC3.out
  clear HC3
  by_cases c4 : a0 = 32
  ·rw [if_pos c4] at H
   have c4b0 : (a0 == 32) = true := beq_iff_eq.mpr c4
   have c4b1 : (a0 != 32) = false := bne_eq_false_iff_eq.mpr c4
   clear c4
   (first | rw [c4b0] | (simp only [i64_w, i32_w]; rw [c4b0]) | skip)
   have H' := A_ H
   clear H
   go_wp2
   go_meet
   case rel => exact ⟨_, (false), sm_, H', ⟨by first | omega | exact Nat.le_refl _⟩, ⟨hb_ HB.out⟩⟩
  ·rw [if_neg c4] at H
   have c4b0 : (a0 == 32) = false := beq_eq_false_iff_ne.mpr c4
   have c4b1 : (a0 != 32) = true := bne_iff_ne.mpr c4
   (first | rw [c4b0] | (simp only [i64_w, i32_w]; rw [c4b0]) | skip)
   have H' := A_ H
   clear H
   go_wp2
   go_meet
   case rel => exact ⟨_, ((a0 != 64)), sm_, H', ⟨by first | omega | exact Nat.le_refl _⟩, ⟨hb_ HB.out⟩⟩
 case rest =>
  clear HC3
  try clear c1
  try clear p2
  try clear c4
  try clear c4b0
  try clear c4b1
  obtain ⟨kq, x11_2, rfl, HA, HJ2, HB⟩ := hcut
  cases kq with
  | zero => exact absurd HA.out (by simp [whole_IsWhole.j0])
  | succ kj2 =>
   have H := HA.out
   clear HA
   simp only [whole_IsWhole.j0] at H
   by_cases c5 : x11_2 = true
   ·subst c5
    have H1 : (some false) = some r := by rw [if_pos rfl] at H; exact H
    clear H;have H := H1;clear H1
    obtain rfl := Option.some.inj H
    go_wp2
    go_ret
    exact ⟨er_, hb_ HB.out⟩
   ·replace c5 := Bool.eq_false_iff.mpr c5
    subst c5
    have H1 : ((shape_Open.f kj2 a0 a1).bind fun bt485 => (if bt485.2.1 = 0 then (some true) else (if bt485.2.1 = 1 then (if bt485.2.2.1 ≥ 0 then (some true) else ((whole_of.f bt485.1 bt485.2.1 bt485.2.2.1 bt485.2.2.2).bind fun bt490 => ((whole_cut_exact.f bt490.1 bt490.2.1 bt490.2.2.1 bt490.2.2.2).bind fun t494 => (some t494)))) else (some false)))) = some r := by rw [if_neg (show ¬ (false = true) by decide)] at H; exact H
    clear H;have H := H1;clear H1
    replace H := ob_ H
    obtain ⟨⟨t485, t486, t487, t488⟩, A60, H⟩ := H
    replace H : (if t486 = 0 then (some true) else (if t486 = 1 then (if t487 ≥ 0 then (some true) else ((whole_of.f t485 t486 t487 t488).bind fun bt490 => ((whole_cut_exact.f bt490.1 bt490.2.1 bt490.2.2.1 bt490.2.2.2).bind fun t494 => (some t494)))) else (some false))) = some r := H
    have A6 := A_ A60;clear A60
    by_cases c7 : t486 = 0
    ·rw [if_pos c7] at H
     have c7b0 : (t486 == 0) = true := beq_iff_eq.mpr c7
     have c7b1 : (t486 != 0) = false := bne_eq_false_iff_eq.mpr c7
     clear c7
     obtain rfl := Option.some.inj H
     go_wp2_with (first | ((with_reducible refine gate_callee (f := 16) rfl ?_); refine gl_ (some 14) Try.func16 #[.int .i64 a0, .int .u64 a1] ?_; (with_reducible refine (shape_Open.calls kj2 a0 a1 t485 t486 t487 t488 _ A6.out).mono ?_); rintro e w8 ⟨rfl, hb⟩; refine ⟨_, rfl, ?_⟩; replace HB := A_ (below_step (hb_ HB.out) hb); (try clear hb); (try clear hb2); (try clear hk); (try clear hi)) | ((with_reducible refine gate_dst (N := 5) rfl ?_); refine be_ 5 #[.bool false, .int .i64 0, .int .i64 0, .int .u64 0] 36 ?_; intro gb489 hg w9 hbox hb; have BK489 := A_ (hbox); have GW489 := A_ (sz_ hg (hb_ HB.out)); have GE489 := A_ (sz_ hg (hb_ HB.out)); replace HB := A_ (below_step (hb_ HB.out) hb); clear hb hbox hg; have hcz10_0 := bv_ BK489.out 0; have hcz10_1 := bv_ BK489.out 1; have hcz10_2 := bv_ BK489.out 2; have hcz10_3 := bv_ BK489.out 3; have hfz10_0 := blk_frozen BK489.out 0; have hfz10_1 := blk_frozen BK489.out 1; have hfz10_2 := blk_frozen BK489.out 2; have hfz10_3 := blk_frozen BK489.out 3))
     go_ret
     exact ⟨er_, hb1_ HB.out GE489.out⟩
    ·rw [if_neg c7] at H
     have c7b0 : (t486 == 0) = false := beq_eq_false_iff_ne.mpr c7
     have c7b1 : (t486 != 0) = true := bne_iff_ne.mpr c7
     by_cases c11 : t486 = 1
     ·rw [if_pos c11] at H
      have c11b0 : (t486 == 1) = true := beq_iff_eq.mpr c11
      have c11b1 : (t486 != 1) = false := bne_eq_false_iff_eq.mpr c11
      clear c11
      by_cases c12 : t487 ≥ 0
      ·rw [if_pos c12] at H
       have c12b0 : decide (0 ≤ t487) = true := decide_eq_true c12
       clear c12
       obtain rfl := Option.some.inj H
       go_wp2_with (first | ((with_reducible refine gate_callee (f := 16) rfl ?_); refine gl_ (some 14) Try.func16 #[.int .i64 a0, .int .u64 a1] ?_; (with_reducible refine (shape_Open.calls kj2 a0 a1 t485 t486 t487 t488 _ A6.out).mono ?_); rintro e w13 ⟨rfl, hb⟩; refine ⟨_, rfl, ?_⟩; replace HB := A_ (below_step (hb_ HB.out) hb); (try clear hb); (try clear hb2); (try clear hk); (try clear hi)) | ((with_reducible refine gate_dst (N := 5) rfl ?_); refine be_ 5 #[.bool false, .int .i64 0, .int .i64 0, .int .u64 0] 36 ?_; intro gb489 hg w14 hbox hb; have BK489 := A_ (hbox); have GW489 := A_ (sz_ hg (hb_ HB.out)); have GE489 := A_ (sz_ hg (hb_ HB.out)); replace HB := A_ (below_step (hb_ HB.out) hb); clear hb hbox hg; have hcz15_0 := bv_ BK489.out 0; have hcz15_1 := bv_ BK489.out 1; have hcz15_2 := bv_ BK489.out 2; have hcz15_3 := bv_ BK489.out 3; have hfz15_0 := blk_frozen BK489.out 0; have hfz15_1 := blk_frozen BK489.out 1; have hfz15_2 := blk_frozen BK489.out 2; have hfz15_3 := blk_frozen BK489.out 3))
       go_ret
       exact ⟨er_, hb1_ HB.out GE489.out⟩
      ·rw [if_neg c12] at H
       have c12b0 : decide (0 ≤ t487) = false := decide_eq_false c12
       clear c12
       replace H := ob_ H
       obtain ⟨⟨t490, t491, t492, t493⟩, A160, H⟩ := H
       replace H : ((whole_cut_exact.f t490 t491 t492 t493).bind fun t494 => (some t494)) = some r := H
       have A16 := A_ A160;clear A160
       replace H := ob_ H
       obtain ⟨t494, A170, H⟩ := H
       replace H : (some t494) = some r := H
       have A17 := A_ A170;clear A170
       obtain rfl := Option.some.inj H
       go_wp2_with (first | ((with_reducible refine gate_callee (f := 16) rfl ?_); refine gl_ (some 14) Try.func16 #[.int .i64 a0, .int .u64 a1] ?_; (with_reducible refine (shape_Open.calls kj2 a0 a1 t485 t486 t487 t488 _ A6.out).mono ?_); rintro e w18 ⟨rfl, hb⟩; refine ⟨_, rfl, ?_⟩; replace HB := A_ (below_step (hb_ HB.out) hb); (try clear hb); (try clear hb2); (try clear hk); (try clear hi)) | ((with_reducible refine gate_dst (N := 5) rfl ?_); refine be_ 5 #[.bool false, .int .i64 0, .int .i64 0, .int .u64 0] 36 ?_; intro gb489 hg w19 hbox hb; have BK489 := A_ (hbox); have GW489 := A_ (sz_ hg (hb_ HB.out)); have GE489 := A_ (sz_ hg (hb_ HB.out)); replace HB := A_ (below_step (hb_ HB.out) hb); clear hb hbox hg; have hcz20_0 := bv_ BK489.out 0; have hcz20_1 := bv_ BK489.out 1; have hcz20_2 := bv_ BK489.out 2; have hcz20_3 := bv_ BK489.out 3; have hfz20_0 := blk_frozen BK489.out 0; have hfz20_1 := blk_frozen BK489.out 1; have hfz20_2 := blk_frozen BK489.out 2; have hfz20_3 := blk_frozen BK489.out 3) | (go_at_call 36; (with_reducible refine (whole_of.calls t485 t486 t487 t488 t490 t491 t492 t493 _ A16.out).mono ?_); rintro e w21 ⟨rfl, hb⟩; replace BK489 := A_ (blk_below (g := gb489) (o := .cells #[.bool t485, .int .i64 t486, .int .i64 t487, .int .u64 t488] 36 (0, 0)) (by (with_reducible repeat (first | refine blk_drewN ?_ _ | refine blk_drew ?_ | refine blk_alloc ?_ _)); refine blk_put (cs := #[.bool t485, .int .i64 t486, .int .i64 t487, .int .u64 0]) ?_ 3 _ rfl; (with_reducible repeat (first | refine blk_drewN ?_ _ | refine blk_drew ?_ | refine blk_alloc ?_ _)); refine blk_put (cs := #[.bool t485, .int .i64 t486, .int .i64 0, .int .u64 0]) ?_ 2 _ rfl; (with_reducible repeat (first | refine blk_drewN ?_ _ | refine blk_drew ?_ | refine blk_alloc ?_ _)); refine blk_put (cs := #[.bool t485, .int .i64 0, .int .i64 0, .int .u64 0]) ?_ 1 _ rfl; (with_reducible repeat (first | refine blk_drewN ?_ _ | refine blk_drew ?_ | refine blk_alloc ?_ _)); refine blk_put (cs := #[.bool false, .int .i64 0, .int .i64 0, .int .u64 0]) ?_ 0 _ rfl; (with_reducible repeat (first | refine blk_drewN ?_ _ | refine blk_drew ?_ | refine blk_alloc ?_ _)); exact BK489.out) hb); replace HB := A_ (below_step (hb1_ HB.out GE489.out) hb); (try clear hb); (try clear hb2); (try clear hk); (try clear hi)) | (go_at_call 37; (with_reducible refine (whole_cut_exact.calls t490 t491 t492 t493 t494 _ A17.out).mono ?_); rintro e w22 ⟨rfl, hb⟩; replace BK489 := A_ (bb_ BK489.out hb); replace HB := A_ (below_step (hb1_ HB.out GE489.out) hb); (try clear hb); (try clear hb2); (try clear hk); (try clear hi)))
       go_ret
       exact ⟨er_, hb1_ HB.out GE489.out⟩
     ·rw [if_neg c11] at H
      have c11b0 : (t486 == 1) = false := beq_eq_false_iff_ne.mpr c11
      have c11b1 : (t486 != 1) = true := bne_iff_ne.mpr c11
      obtain rfl := Option.some.inj H
      go_wp2_with (first | ((with_reducible refine gate_callee (f := 16) rfl ?_); refine gl_ (some 14) Try.func16 #[.int .i64 a0, .int .u64 a1] ?_; (with_reducible refine (shape_Open.calls kj2 a0 a1 t485 t486 t487 t488 _ A6.out).mono ?_); rintro e w23 ⟨rfl, hb⟩; refine ⟨_, rfl, ?_⟩; replace HB := A_ (below_step (hb_ HB.out) hb); (try clear hb); (try clear hb2); (try clear hk); (try clear hi)) | ((with_reducible refine gate_dst (N := 5) rfl ?_); refine be_ 5 #[.bool false, .int .i64 0, .int .i64 0, .int .u64 0] 36 ?_; intro gb489 hg w24 hbox hb; have BK489 := A_ (hbox); have GW489 := A_ (sz_ hg (hb_ HB.out)); have GE489 := A_ (sz_ hg (hb_ HB.out)); replace HB := A_ (below_step (hb_ HB.out) hb); clear hb hbox hg; have hcz25_0 := bv_ BK489.out 0; have hcz25_1 := bv_ BK489.out 1; have hcz25_2 := bv_ BK489.out 2; have hcz25_3 := bv_ BK489.out 3; have hfz25_0 := blk_frozen BK489.out 0; have hfz25_1 := blk_frozen BK489.out 1; have hfz25_2 := blk_frozen BK489.out 2; have hfz25_3 := blk_frozen BK489.out 3))
      go_ret
      exact ⟨er_, hb1_ HB.out GE489.out⟩
-- IMPORT Derived.Test.YthdeeoallfbjmaaHMade
def whole_Trunc.aw : Bool → Int → Bool → Bool → Bool := fun _ _ _ _ => false
def whole_Trunc.f (k : Nat) (a0 : Int) (a1 : Int) : Option (Int) := whole_madeF k whole_Trunc.aw a0 a1
theorem whole_Trunc.mono : ∀ a0 a1 k, LeO (whole_Trunc.f k a0 a1) (whole_Trunc.f (k + 1) a0 a1) := fun a0 a1 k => whole_madeMono _ a0 a1 k
theorem whole_Trunc.away (s : Bool) (n : Int) (h l : Bool) (w : World) : Calls Try.prog 28 #[.agg #[.bool s, .int .u64 n, .bool h, .bool l]] w fun e w' => e = .returned (.bool (whole_Trunc.aw s n h l)) ∧ Below w.heap.size w w' := by
 have hu2 := Try.underlying47
 go_enter Try.func28, Try.ntmps28
 go_wp2
 all_goals (go_ret; first | exact ⟨rfl, Below.refl _ _⟩ | exact ⟨rfl, below_alloc (Below.refl _ _) _⟩ | (refine ⟨by simp [whole_Trunc.aw, *], ?_⟩; first | exact Below.refl _ _ | exact below_alloc (Below.refl _ _) _))
theorem whole_Trunc.calls (k : Nat) (a0 : Int) (a1 : Int) (r : Int) (w : World) (h : whole_Trunc.f k a0 a1 = some r) :
  Calls Try.prog 9 #[.int .i64 a0, .int .u64 a1] w fun e w' => e = .returned (.int .u64 r) ∧ Below w.heap.size w w' := by
 have H := whole_madeCalls k 28 whole_Trunc.aw (fun args w => enters_of Try.func28 (by kernel_rfl) rfl args w) whole_Trunc.away a0 a1 r w h
 go_enter Try.func9, Try.ntmps9
 go_wp2_with (go_at_call 25; refine H.mono ?_; rintro e w1 ⟨rfl, hb⟩)
 go_ret
 exact ⟨rfl, hb⟩
end Go.Proofs.Ythdeeoallfbjmaa.PA
