import Derived.Test.YtmjfenbbgfohlaaPAtrunnionlaw10SignBack
import Derived.Test.YtmjfenbbgfohlaaPAtrunnionlaw10SignTurns
import Derived.Test.YtmjfenbbgfohlaaBit
import Derived.Laws.BitsAllLaws
set_option linter.unusedVariables false
set_option linter.unusedSimpArgs false
namespace Go.Proofs.Ytmjfenbbgfohlaa.Th
open Go.RowKit Go.Proofs.YtmjfenbbgfohlaaW.PrintWords Go.Proofs.YtmjfenbbgfohlaaW.PrintLast Go.Proofs.YtmjfenbbgfohlaaW.PrintMore Go.Proofs.Ytmjfenbbgfohlaa.PA Bit
theorem wf_u64 {a : Int} (h : (Lit.int .u64 a).wf = true) : 0 ≤ a ∧ a < 18446744073709551616 := by
  simp [Lit.wf, IntKind.min, IntKind.max, IntKind.signed, IntKind.bits] at h; omega
theorem wf_i64 {a : Int} (h : (Lit.int .i64 a).wf = true) : -9223372036854775808 ≤ a ∧ a < 9223372036854775808 := by
  simp [Lit.wf, IntKind.min, IntKind.max, IntKind.signed, IntKind.bits] at h; omega
/-! ### shape.Cut, sign -/
/-- a width's greatest power -/
def cutN (w : Int) (a : Nat) : Nat := if w = 32 then a % 4294967296 else if w = 64 then a else 0
theorem shCut (w : Int) (a : Nat) (ha : a < 18446744073709551616) : shape_Cut.f w a = some ((cutN w a : Nat) : Int) := by
  unfold shape_Cut.f cutN
  by_cases h : w = 32
  · rw [if_pos h, if_pos h, show (4294967295 : Int) = ((4294967295 : Nat) : Int) from rfl, u64_and_nat a _ ha (by decide)]
    rw [show (4294967295 : Nat) = 2 ^ 32 - 1 by decide, and_low]
  · rw [if_neg h, if_neg h]
    by_cases h2 : w = 64
    · rw [if_pos h2, if_pos h2]
    · rw [if_neg h2, if_neg h2]; rfl
theorem r2Cut (w : Int) (a : Nat) (hw : w = 32 ∨ w = 64) : trunnionref02_Cut.f w a = some ((cutN w a : Nat) : Int) := by
  unfold trunnionref02_Cut.f cutN
  rcases hw with rfl | rfl
  · rw [if_pos rfl, if_pos rfl, Int.tmod_eq_emod_of_nonneg (by omega)]; congr 1
  · rw [if_neg (by decide), if_neg (by decide), if_pos rfl]
def sb (w : Int) : Nat := if w = 32 then 2147483648 else 9223372036854775808
theorem bitS (w : Int) (hw : w = 32 ∨ w = 64) : sign_bit.f w = some ((sb w : Nat) : Int) := by
  rcases hw with rfl | rfl <;> rfl
/-- has it a sign -/
def sgB (w : Int) (a : Nat) : Bool := decide (a / sb w % 2 = 1)
/-- without a sign -/
def magN (w : Int) (a : Nat) : Nat := a % sb w
theorem cutN_eq (w : Int) (hw : w = 32 ∨ w = 64) (a : Nat) (ha : a < 18446744073709551616) : cutN w a = magN w a + (if sgB w a then sb w else 0) := by
  unfold magN sgB
  rcases hw with rfl | rfl
  · simp only [cutN, sb, if_true, decide_eq_true_eq]; split <;> omega
  · simp only [cutN, sb, show ¬ ((64 : Int) = 32) by decide, if_false, if_true, decide_eq_true_eq]; split <;> omega
theorem magN_lt (w : Int) (hw : w = 32 ∨ w = 64) (a : Nat) : magN w a < sb w := by
  unfold magN sb; rcases hw with rfl | rfl <;> exact Nat.mod_lt _ (by decide)
theorem isS (w : Int) (hw : w = 32 ∨ w = 64) (a : Nat) (ha : a < 18446744073709551616) : sign_Is.f w a = some (sgB w a) := by
  unfold sign_Is.f
  rw [bitS w hw, Option.bind_some]
  congr 1
  have hs : sb w < 18446744073709551616 := by unfold sb; split <;> decide
  rw [u64_and_nat a _ ha hs]
  have hp : ∃ k, sb w = 2 ^ k := by
    rcases hw with rfl | rfl
    · exact ⟨31, by decide⟩
    · exact ⟨63, by decide⟩
  obtain ⟨k, hk⟩ := hp
  unfold sgB
  rw [hk, and_pow]
  have h0 : 0 < 2 ^ k := Nat.pow_pos (by decide)
  rcases Nat.mod_two_eq_zero_or_one (a / 2 ^ k) with h | h
  · rw [h]; simp
  · rw [h, Nat.one_mul, decide_eq_true (rfl : 1 = 1), bne_iff_ne]; intro h5; have h6 := Int.natCast_eq_zero.1 h5; omega
theorem absS (w : Int) (hw : w = 32 ∨ w = 64) (a : Nat) (ha : a < 18446744073709551616) : sign_Abs.f w a = some ((magN w a : Nat) : Int) := by
  unfold sign_Abs.f
  rw [shCut w a ha, Option.bind_some, bitS w hw, Option.bind_some]
  congr 1
  rcases hw with rfl | rfl
  · simp only [cutN, sb, magN, if_true]
    rw [u64_andNot_nat _ _ (by omega) (by decide)]
    have h := andnot_pow (a % 4294967296) 31 (by decide) (by have : a % 4294967296 < 4294967296 := Nat.mod_lt _ (by decide); simpa using this)
    rw [show (2 : Nat) ^ 31 = 2147483648 by decide] at h
    rw [h]; congr 1; omega
  · simp only [cutN, sb, magN, show ¬ ((64 : Int) = 32) by decide, if_false, if_true]
    rw [u64_andNot_nat _ _ ha (by decide)]
    have h := andnot_pow a 63 (by decide) (by simpa using ha)
    rw [show (2 : Nat) ^ 63 = 9223372036854775808 by decide] at h
    rw [h]
/-- with a sign, or without -/
def mkN (w : Int) (m : Nat) (s : Bool) : Nat := m + if s then sb w else 0
theorem negS (w : Int) (hw : w = 32 ∨ w = 64) (a : Nat) (ha : a < 18446744073709551616) : sign_Neg.f w a = some ((mkN w (magN w a) (!sgB w a) : Nat) : Int) := by
  unfold sign_Neg.f
  rw [shCut w a ha, Option.bind_some, bitS w hw, Option.bind_some]
  have hs : sb w < 18446744073709551616 := by unfold sb; split <;> decide
  have hc : cutN w a < 18446744073709551616 := by unfold cutN; split; (have : a % 4294967296 < 4294967296 := Nat.mod_lt _ (by decide)); omega; split <;> omega
  rw [u64_xor_nat _ _ hc hs]
  congr 2
  have hm := magN_lt w hw a
  rw [cutN_eq w hw a ha]
  have hp : ∃ k, sb w = 2 ^ k := by
    rcases hw with rfl | rfl
    · exact ⟨31, by decide⟩
    · exact ⟨63, by decide⟩
  obtain ⟨k, hk⟩ := hp
  unfold mkN
  rw [hk] at hm ⊢
  cases sgB w a
  · simp only [Bool.false_eq_true, if_false, Nat.add_zero, Bool.not_false, if_true]
    exact xor_pow_lt _ _ hm
  · simp only [if_true, Bool.not_true, Bool.false_eq_true, if_false, Nat.add_zero]
    rw [xor_pow_ge _ _ (by omega) (by rw [Nat.pow_succ]; omega)]
    omega
theorem copyS (w : Int) (hw : w = 32 ∨ w = 64) (a b : Nat) (ha : a < 18446744073709551616) (hb : b < 18446744073709551616) : sign_Copysign.f w a b = some ((mkN w (magN w a) (sgB w b) : Nat) : Int) := by
  unfold sign_Copysign.f
  rw [absS w hw a ha, Option.bind_some, bitS w hw, Option.bind_some]
  have hs : sb w < 18446744073709551616 := by unfold sb; split <;> decide
  have hm := magN_lt w hw a
  have hl : b &&& sb w ≤ sb w := Nat.and_le_right
  rw [u64_and_nat b _ hb hs, u64_or_nat _ _ (by omega) (by omega)]
  congr 2
  have hp : ∃ k, sb w = 2 ^ k := by
    rcases hw with rfl | rfl
    · exact ⟨31, by decide⟩
    · exact ⟨63, by decide⟩
  obtain ⟨k, hk⟩ := hp
  unfold mkN sgB
  rw [hk] at hm ⊢
  rw [and_pow, or_pow _ _ _ hm]
  rcases Nat.mod_two_eq_zero_or_one (b / 2 ^ k) with h | h <;> rw [h] <;> simp
theorem mkN_lt (w : Int) (hw : w = 32 ∨ w = 64) (m : Nat) (s : Bool) (h : m < sb w) : mkN w m s < 18446744073709551616 := by
  unfold mkN; revert h; unfold sb; rcases hw with rfl | rfl <;> cases s <;> simp <;> omega
theorem sg_mk (w : Int) (hw : w = 32 ∨ w = 64) (m : Nat) (s : Bool) (h : m < sb w) : sgB w (mkN w m s) = s := by
  unfold sgB mkN; revert h; unfold sb; rcases hw with rfl | rfl <;> cases s <;> simp <;> omega
theorem mag_mk (w : Int) (hw : w = 32 ∨ w = 64) (m : Nat) (s : Bool) (h : m < sb w) : magN w (mkN w m s) = m := by
  unfold magN mkN; revert h; unfold sb; rcases hw with rfl | rfl <;> cases s <;> simp <;> omega
theorem awake10 : trunnionlaw10_awake.f = some true := by
  unfold trunnionlaw10_awake.f
  have h1 := negS 32 (.inl rfl) 2143289344 (by decide)
  have h2 := absS 64 (.inr rfl) 9223372036854775813 (by decide)
  rw [show ((2143289344 : Nat) : Int) = 2143289344 from rfl] at h1
  rw [show ((9223372036854775813 : Nat) : Int) = 9223372036854775813 from rfl] at h2
  rw [h1, Option.bind_some, if_pos (by decide), h2, Option.bind_some]
  decide
theorem SignBackP : trunnionlaw10_SignBack.Pure := by
  intro w a b hw0 ha0 hb0
  have hw1 := wf_i64 hw0
  obtain ⟨ha1, ha2⟩ := wf_u64 ha0
  obtain ⟨hb1, hb2⟩ := wf_u64 hb0
  obtain ⟨a, rfl⟩ := Int.eq_ofNat_of_zero_le ha1
  obtain ⟨b, rfl⟩ := Int.eq_ofNat_of_zero_le hb1
  refine ⟨1, ?_⟩
  unfold trunnionlaw10_SignBack.f
  rw [awake10, Option.bind_some, if_pos rfl]
  by_cases hw : w = 32 ∨ w = 64
  · have key : trunnionlaw10_SignBack.j0 1 w a b false = some true := by
      have hm := magN_lt w hw a
      simp only [trunnionlaw10_SignBack.j0]
      rw [if_neg (by decide), negS w hw a (by omega), Option.bind_some, copyS w hw a b (by omega) (by omega), Option.bind_some]
      have hn := mkN_lt w hw (magN w a) (!sgB w a) hm
      have hc := mkN_lt w hw (magN w a) (sgB w b) hm
      have e : shr .u64 (shl .u64 (a : Int) (wrap64 (64 - w))) (wrap64 (64 - w)) = ((cutN w a : Nat) : Int) := by
        rcases hw with rfl | rfl
        · rw [show wrap64 (64 - 32) = 32 by decide +kernel]
          unfold shr shl
          rw [show min (32 : Int).toNat IntKind.u64.bits = 32 by decide, IntKind.wrap_u64, show (2 : Int) ^ 32 = 4294967296 by decide]
          simp only [cutN, if_true]; omega
        · rw [show wrap64 (64 - 64) = 0 by decide +kernel]
          unfold shr shl
          rw [show min (0 : Int).toNat IntKind.u64.bits = 0 by decide, IntKind.wrap_u64, show (2 : Int) ^ 0 = 1 by decide]
          simp only [cutN, show ¬ ((64 : Int) = 32) by decide, if_false, if_true]; omega
      have e1 : shl .u64 1 (wrap64 (w - 1)) = ((sb w : Nat) : Int) := by rcases hw with rfl | rfl <;> decide +kernel
      have g1 : 0 ≤ wrap64 (64 - w) := by rcases hw with rfl | rfl <;> decide +kernel
      have g2 : 0 ≤ wrap64 (w - 1) := by rcases hw with rfl | rfl <;> decide +kernel
      have hcut : cutN w a < 18446744073709551616 := by unfold cutN; split; (have : a % 4294967296 < 4294967296 := Nat.mod_lt _ (by decide)); omega; split <;> omega
      rw [if_pos g1, negS w hw _ hn, Option.bind_some, sg_mk w hw _ _ hm, mag_mk w hw _ _ hm, Bool.not_not, e, e1,
        if_pos (by rw [cutN_eq w hw a (by omega)]; rfl), if_pos g2, u64_xor_nat _ _ hn hcut]
      have hx : mkN w (magN w a) (!sgB w a) ^^^ cutN w a = sb w := by
        rw [cutN_eq w hw a (by omega)]
        have hp : ∃ k, sb w = 2 ^ k := by
          rcases hw with rfl | rfl
          · exact ⟨31, by decide⟩
          · exact ⟨63, by decide⟩
        obtain ⟨k, hk⟩ := hp
        unfold mkN
        rw [hk] at hm ⊢
        have h1 := xor_pow_lt _ _ hm
        cases sgB w a
        · simp only [Bool.not_false, if_true, Bool.false_eq_true, if_false, Nat.add_zero]
          rw [← h1, Nat.xor_assoc, Nat.xor_comm (2 ^ k), ← Nat.xor_assoc, Nat.xor_self, Nat.zero_xor]
        · simp only [Bool.not_true, if_true, Bool.false_eq_true, if_false, Nat.add_zero]
          rw [← h1, ← Nat.xor_assoc, Nat.xor_self, Nat.zero_xor]
      rw [hx, if_pos rfl, isS w hw _ hc, Option.bind_some, isS w hw _ (by omega), Option.bind_some, sg_mk w hw _ _ hm, if_pos (by simp), absS w hw _ hc, Option.bind_some, absS w hw _ (by omega), Option.bind_some,
        mag_mk w hw _ _ hm, if_pos rfl, isS w hw _ hn, Option.bind_some, isS w hw _ (by omega), Option.bind_some, sg_mk w hw _ _ hm]
      cases sgB w a <;> rfl
    rcases hw with rfl | rfl
    · rw [if_pos rfl]; exact key
    · rw [if_neg (by decide)]; exact key
  · rw [if_neg (by omega)]
    simp only [trunnionlaw10_SignBack.j0]
    rw [if_pos (by simp; omega)]
/-! ### the document's -/
theorem known_f (w : Int) : trunnionref02_Known.f w = some (decide (w = 32 ∨ w = 64)) := by
  unfold trunnionref02_Known.f
  by_cases h : w = 32
  · rw [if_pos h]; simp [h]
  · rw [if_neg h]; congr 1; by_cases h2 : w = 64 <;> simp [h, h2]
theorem Ev.pos {α : Type} {c : Prop} [Decidable c] {f g : Nat → Option α} {r : α} (h : c) (k : Ev f r) : Ev (fun n => if c then f n else g n) r := Ev.congr (fun _ => if_pos h) k
theorem Ev.neg {α : Type} {c : Prop} [Decidable c] {f g : Nat → Option α} {r : α} (h : ¬ c) (k : Ev g r) : Ev (fun n => if c then f n else g n) r := Ev.congr (fun _ => if_neg h) k
theorem Ev.bs {α β : Type} {g : Option α} {a : α} {f : Nat → α → Option β} {r : β} (h : g = some a) (k : Ev (fun n => f n a) r) : Ev (fun n => g.bind (f n)) r := by subst h; exact k
theorem Ev.out {α : Type} {r s : α} (h : r = s) : Ev (fun _ => some r) s := by subst h; exact Ev.now _
theorem u64_id {n : Int} (h : 0 ≤ n) (h2 : n < 18446744073709551616) : IntKind.u64.wrap n = n := by rw [IntKind.wrap_u64]; omega
theorem w64_id {n : Int} (h : -9223372036854775808 ≤ n) (h2 : n < 9223372036854775808) : wrap64 n = n := by unfold wrap64; omega
theorem two_loop (n : Nat) (hn : n < 64) (d : Nat) : ∀ i : Nat, i ≤ n → n - i = d → Ev (fun k => trunnionref02_Two.l0 k n (2 ^ i : Nat) i) ((2 ^ n : Nat) : Int) := by
  induction d with
  | zero =>
    intro i hi hd
    obtain rfl : i = n := by omega
    refine Ev.step (fun _ => trunnionref02_Two.l0.eq_2 ..) ?_
    exact Ev.neg (by omega) (Ev.out rfl)
  | succ d ih =>
    intro i hi hd
    refine Ev.step (fun _ => trunnionref02_Two.l0.eq_2 ..) ?_
    refine Ev.pos (by omega) ?_
    have h := ih (i + 1) (by omega) (by omega)
    have hp : 2 ^ i ≤ 4611686018427387904 * 2 := by
      have : 2 ^ i ≤ 2 ^ 63 := Nat.pow_le_pow_right (by decide) (by omega)
      simpa using this
    have hp2 : 2 ^ (i + 1) ≤ 9223372036854775808 := by
      have : 2 ^ (i + 1) ≤ 2 ^ 63 := Nat.pow_le_pow_right (by decide) (by omega)
      simpa using this
    rw [Nat.pow_succ] at h hp2
    generalize 2 ^ i = P at *
    rw [u64_id (by omega) (by omega), w64_id (by omega) (by omega), show (2 : Int) * (P : Int) = ((P * 2 : Nat) : Int) by omega, show (i : Int) + 1 = ((i + 1 : Nat) : Int) by omega]
    exact h
theorem two_f (n : Nat) (hn : n < 64) : Ev (fun k => trunnionref02_Two.f k n) ((2 ^ n : Nat) : Int) := two_loop n hn _ 0 (by omega) rfl
theorem twoS (w : Int) (hw : w = 32 ∨ w = 64) : Ev (fun k => trunnionref02_Two.f k (wrap64 (w - 1))) ((sb w : Nat) : Int) := by
  rcases hw with rfl | rfl
  · rw [show wrap64 (32 - 1) = ((31 : Nat) : Int) by decide +kernel]; exact two_f 31 (by decide)
  · rw [show wrap64 (64 - 1) = ((63 : Nat) : Int) by decide +kernel]; exact two_f 63 (by decide)
theorem cutN_lt (w : Int) (a : Nat) (ha : a < 18446744073709551616) : cutN w a < 18446744073709551616 := by unfold cutN; split; (have : a % 4294967296 < 4294967296 := Nat.mod_lt _ (by decide)); omega; split <;> omega
theorem r2Neg (w : Int) (hw : w = 32 ∨ w = 64) (a : Nat) (ha : a < 18446744073709551616) : Ev (fun k => trunnionref02_Neg.f k w a) (sgB w a) := by
  unfold trunnionref02_Neg.f
  refine Ev.bs (r2Cut w a hw) (Ev.bind (twoS w hw) ?_)
  have hs : 0 < sb w := by unfold sb; split <;> decide
  refine Ev.neg (by omega) (Ev.out ?_)
  have hm := magN_lt w hw a
  rw [Int.tdiv_eq_ediv_of_nonneg (by omega), ← Int.natCast_ediv, cutN_eq w hw a ha]
  cases sgB w a
  · simp only [Bool.false_eq_true, if_false, Nat.add_zero]
    rw [Nat.div_eq_of_lt hm]; decide
  · simp only [if_true]
    rw [Nat.add_div_right _ hs, Nat.div_eq_of_lt hm]; decide
theorem withS (w : Int) (hw : w = 32 ∨ w = 64) (a : Nat) (ha : a < 18446744073709551616) (s : Bool) : Ev (fun k => trunnionref10_With.f k w a s) ((mkN w (magN w a) s : Nat) : Int) := by
  unfold trunnionref10_With.f
  refine Ev.bs (r2Cut w a hw) (Ev.bind (r2Neg w hw a ha) ?_)
  have hm := magN_lt w hw a
  have hs : sb w ≤ 9223372036854775808 := by unfold sb; split <;> decide
  rw [cutN_eq w hw a ha]
  unfold mkN
  cases sgB w a
  · refine Ev.neg (by decide) ?_
    simp only [Bool.false_eq_true, if_false, Nat.add_zero]
    cases s
    · exact Ev.neg (by decide) (Ev.out (by simp))
    · refine Ev.pos rfl (Ev.bind (twoS w hw) (Ev.out ?_))
      rw [u64_id (by omega) (by omega)]; simp
  · refine Ev.pos rfl (Ev.bind (twoS w hw) ?_)
    simp only [if_true]
    rw [u64_id (n := ((magN w a + sb w : Nat) : Int) - _) (by omega) (by omega)]
    cases s
    · refine Ev.neg (by decide) (Ev.out ?_)
      simp only [Bool.false_eq_true, if_false]; omega
    · refine Ev.pos rfl (Ev.bind (twoS w hw) (Ev.out ?_))
      rw [u64_id (by omega) (by omega)]; simp only [if_true]; omega
theorem SignTurnsP : trunnionlaw10_SignTurns.Pure := by
  intro w a b hw0 ha0 hb0
  obtain ⟨ha1, ha2⟩ := wf_u64 ha0
  obtain ⟨hb1, hb2⟩ := wf_u64 hb0
  obtain ⟨a, rfl⟩ := Int.eq_ofNat_of_zero_le ha1
  obtain ⟨b, rfl⟩ := Int.eq_ofNat_of_zero_le hb1
  refine Ev.rounds ?_
  unfold trunnionlaw10_SignTurns.f
  refine Ev.bs awake10 (Ev.pos rfl (Ev.bs (known_f w) ?_))
  by_cases hw : w = 32 ∨ w = 64
  · rw [decide_eq_true hw]
    refine Ev.pos rfl (Ev.bind (r2Neg w hw a (by omega)) (Ev.bind (r2Neg w hw b (by omega)) (Ev.bs (isS w hw a (by omega)) (Ev.pos (by simp) (Ev.bs (absS w hw a (by omega)) (Ev.bind (withS w hw a (by omega) false) (Ev.pos ?_ ?_)))))))
    · simp [mkN]
    · refine Ev.bs (negS w hw a (by omega)) (Ev.bind (withS w hw a (by omega) _) (Ev.pos rfl (Ev.bs (copyS w hw a b (by omega) (by omega)) (Ev.bind (withS w hw a (by omega) _) (Ev.out (by simp))))))
  · rw [decide_eq_false hw]
    have hb : sign_bit.f w = some 0 := by unfold sign_bit.f; rw [if_neg (by omega), if_neg (by omega)]
    have hc : shape_Cut.f w a = some 0 := by unfold shape_Cut.f; rw [if_neg (by omega), if_neg (by omega)]
    have h1 : sign_Abs.f w a = some 0 := by unfold sign_Abs.f; rw [hc, Option.bind_some, hb, Option.bind_some]; rfl
    have h2 : sign_Neg.f w a = some 0 := by unfold sign_Neg.f; rw [hc, Option.bind_some, hb, Option.bind_some]; rfl
    have h0 : Go.bits .and .u64 (b : Int) 0 = 0 := by rw [show (0 : Int) = ((0 : Nat) : Int) from rfl, u64_and_nat b 0 (by omega) (by decide)]; simp
    have h0a : Go.bits .and .u64 (a : Int) 0 = 0 := by rw [show (0 : Int) = ((0 : Nat) : Int) from rfl, u64_and_nat a 0 (by omega) (by decide)]; simp
    have h3 : sign_Copysign.f w a b = some 0 := by unfold sign_Copysign.f; rw [h1, Option.bind_some, hb, Option.bind_some, h0]; rfl
    have h4 : sign_Is.f w a = some false := by unfold sign_Is.f; rw [hb, Option.bind_some, h0a]; rfl
    refine Ev.neg (by decide) (Ev.bs h1 (Ev.pos rfl (Ev.bs h2 (Ev.pos rfl (Ev.bs h3 (Ev.pos rfl (Ev.bs h4 (Ev.out rfl))))))))
end Go.Proofs.Ytmjfenbbgfohlaa.Th
