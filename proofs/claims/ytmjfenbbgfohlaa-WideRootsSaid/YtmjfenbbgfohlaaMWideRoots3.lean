/- What the Go functions that the statement WideRoots reaches compute, and the mathematics on it, in the order in which one leans on the other; for every input. -/
import Derived.Test.YtmjfenbbgfohlaaMWideRoots2
import Derived.Test.YtmjfenbbgfohlaaMWideRoots0
import Derived.Test.YtmjfenbbgfohlaaMWideRoots1
import Derived.Test.YtmjfenbbgfohlaaRows
import Derived.ProofKit
import Derived.JoinedOf
import Derived.KernelRfl
set_option linter.unusedVariables false
set_option linter.unusedSimpArgs false
namespace Go.Proofs.Ytmjfenbbgfohlaa.Th
open Go.RowKit Go.Proofs.YtmjfenbbgfohlaaW.PrintWords Go.Proofs.YtmjfenbbgfohlaaW.PrintLast Go.Proofs.YtmjfenbbgfohlaaW.PrintMore Go.Proofs.Ytmjfenbbgfohlaa.PA Dig

/-! ### Mul -/
theorem mod_in (s : Nat) : 0 ≤ ((s % 4294967296 : Nat) : Int) ∧ ((s % 4294967296 : Nat) : Int) < 4294967296 := by omega
theorem mul_most (e A b c : Nat) (h1 : A < 4294967296) (h2 : b < 4294967296) (h3 : e < 4294967296) (h4 : c < 4294967296) : e + A * b + c < 18446744073709551616 := by
  have h5 : A * b ≤ 4294967295 * 4294967295 := Nat.mul_le_mul (by omega) (by omega)
  omega
theorem mul_carry (e A b c : Nat) (h1 : A < 4294967296) (h2 : b < 4294967296) (h3 : e < 4294967296) (h4 : c < 4294967296) : (e + A * b + c) / 4294967296 < 4294967296 := by
  have := mul_most e A b c h1 h2 h3 h4; omega
theorem mul_word0 (e A b c : Nat) (h1 : A < 4294967296) (h2 : b < 4294967296) (h3 : e < 4294967296) (h4 : c < 4294967296) :
    IntKind.u64.wrap ((IntKind.u64.wrap ((e : Int) + (IntKind.u64.wrap ((A : Int) * (b : Int))))) + (c : Int)) = ((e + A * b + c : Nat) : Int) := by
  have := mul_most e A b c h1 h2 h3 h4
  rw [← Int.natCast_mul]
  generalize A * b = p at *
  rw [u64_id (n := (p : Int)) (by omega) (by omega), u64_id (n := (e : Int) + _) (by omega) (by omega), u64_id (by omega) (by omega)]
  omega
theorem mul_word1 (e A b c : Nat) (h1 : A < 4294967296) (h2 : b < 4294967296) (h3 : e < 4294967296) (h4 : c < 4294967296) :
    Int.tmod (IntKind.u64.wrap ((IntKind.u64.wrap ((e : Int) + (IntKind.u64.wrap ((A : Int) * (b : Int))))) + (c : Int))) 4294967296 = (((e + A * b + c) % 4294967296 : Nat) : Int) := by
  rw [mul_word0 e A b c h1 h2 h3 h4]
  generalize e + A * b + c = s
  rw [Int.tmod_eq_emod_of_nonneg (by omega)]; omega
theorem mul_word2 (e A b c : Nat) (h1 : A < 4294967296) (h2 : b < 4294967296) (h3 : e < 4294967296) (h4 : c < 4294967296) :
    IntKind.u64.wrap (Int.tdiv (IntKind.u64.wrap ((IntKind.u64.wrap ((e : Int) + (IntKind.u64.wrap ((A : Int) * (b : Int))))) + (c : Int))) 4294967296) = (((e + A * b + c) / 4294967296 : Nat) : Int) := by
  rw [mul_word0 e A b c h1 h2 h3 h4]
  have := mul_most e A b c h1 h2 h3 h4
  generalize e + A * b + c = s at *
  rw [Int.tdiv_eq_ediv_of_nonneg (by omega), u64_id (by omega) (by omega)]; omega
theorem mul_arith (v v' A b n' n'' P P' c e r q V : Nat) (hP : P' = P * 4294967296) (h1 : v' + P * e = v + P * r) (h5 : r + 4294967296 * q = e + A * b + c) (st : n' = n'' * 4294967296 + b) (hv : v + c * P + A * n' * P = V) :
    v' + q * P' + A * n'' * P' = V := by
  subst hP st hv
  have h6 := congrArg (P * ·) h5
  simp only [Nat.mul_add, Nat.add_mul] at h6 ⊢
  have h7 : A * (n'' * 4294967296) * P = A * n'' * (P * 4294967296) := by simp only [Nat.mul_comm, Nat.mul_left_comm, Nat.mul_assoc]
  have h8 : A * b * P = P * (A * b) := Nat.mul_comm ..
  have h9 : q * (P * 4294967296) = P * (4294967296 * q) := by simp only [Nat.mul_comm, Nat.mul_left_comm, Nat.mul_assoc]
  have h10 : c * P = P * c := Nat.mul_comm ..
  omega
theorem val_set_at {l : List Int} (h : Ok l) (i : Nat) (hi : i < l.length) (s : Nat) : val (l.set i ((s : Nat) : Int)) + 4294967296 ^ i * (val l / 4294967296 ^ i % 4294967296) = val l + 4294967296 ^ i * s := by
  have h1 := val_set h i hi (s : Int)
  rw [getD_val h, Int.toNat_natCast, Int.toNat_natCast] at h1
  exact h1
theorem mul_inner (m n i : Nat) (hi : i < (dg m).length) (hm : (dg m).length < 1000000000) (hn : (dg n).length < 1000000000)
    (next : ∀ y : List Int, Ok y → y.length = (dg m).length + (dg n).length + 1 → val y = m % 4294967296 ^ (i + 1) * n → Ev (fun k => trunnionref01_Mul.l0 k y ((i + 1 : Nat) : Int) (dg m) (dg n)) (dg (m * n))) (d : Nat) :
    ∀ (x : List Int) (c t : Nat), Ok x → x.length = (dg m).length + (dg n).length + 1 → c < 4294967296 → t ≤ (dg n).length + 1 →
    val x + c * 4294967296 ^ (i + t) + (m / 4294967296 ^ i % 4294967296) * (n / 4294967296 ^ t) * 4294967296 ^ (i + t) = m % 4294967296 ^ (i + 1) * n → (dg n).length + 1 - t = d →
    Ev (fun k => trunnionref01_Mul.l1 k x i c t (dg m) (dg n)) (dg (m * n)) := by
  have er : rd (dg m) (i : Int) = ((m / 4294967296 ^ i % 4294967296 : Nat) : Int) := by unfold rd; rw [Int.toNat_natCast, getD_dg]
  have hbound : m % 4294967296 ^ (i + 1) * n < 4294967296 ^ (i + 1 + (dg n).length) := by
    rw [Nat.pow_add 4294967296 (i + 1)]
    have h1 : m % 4294967296 ^ (i + 1) < 4294967296 ^ (i + 1) := Nat.mod_lt _ (Nat.pow_pos (by decide))
    exact Nat.mul_lt_mul_of_lt_of_le h1 (Nat.le_of_lt (lt_len n)) (Nat.pow_pos (by decide))
  have carry0 : ∀ (x : List Int) (c t : Nat), val x + c * 4294967296 ^ (i + t) + (m / 4294967296 ^ i % 4294967296) * (n / 4294967296 ^ t) * 4294967296 ^ (i + t) = m % 4294967296 ^ (i + 1) * n → 0 < c → t < (dg n).length + 1 := by
    intro x c t hv hc
    have h1 : 4294967296 ^ (i + t) ≤ c * 4294967296 ^ (i + t) := Nat.le_mul_of_pos_left _ hc
    have h2 : 4294967296 ^ (i + t) < 4294967296 ^ (i + 1 + (dg n).length) := by omega
    have h3 := (Nat.pow_lt_pow_iff_right (show 1 < 4294967296 by decide)).1 h2
    omega
  have done : ∀ (x : List Int) (t : Nat), Ok x → x.length = (dg m).length + (dg n).length + 1 → (dg n).length ≤ t →
      val x + 0 * 4294967296 ^ (i + t) + (m / 4294967296 ^ i % 4294967296) * (n / 4294967296 ^ t) * 4294967296 ^ (i + t) = m % 4294967296 ^ (i + 1) * n → Ev (fun k => trunnionref01_Mul.l1 k x i ((0 : Nat) : Int) t (dg m) (dg n)) (dg (m * n)) := by
    intro x t hx hl ht hv
    refine Ev.step (fun _ => trunnionref01_Mul.l1.eq_2 ..) ?_
    refine Ev.neg (by omega) (Ev.neg (show ¬ (((0 : Nat) : Int) > 0) by omega) ?_)
    rw [w64_id (n := (i : Int) + 1) (by clear hv; omega) (by clear hv; omega), show (i : Int) + 1 = ((i + 1 : Nat) : Int) from rfl]
    refine next x hx hl ?_
    rw [Nat.div_eq_of_lt (a := n) (b := 4294967296 ^ t) (lt_of_len (by omega))] at hv
    simpa using hv
  induction d with
  | zero =>
    intro x c t hx hl hc ht hv hd
    have h0 : c = 0 := by
      rcases Nat.eq_zero_or_pos c with h | h
      · exact h
      · have := carry0 x c t hv h; omega
    subst h0
    exact done x t hx hl (by omega) hv
  | succ d ih =>
    intro x c t hx hl hc ht hv hd
    have a1 : t ≤ (dg n).length := by clear hv; omega
    have a2 : i + t < (dg m).length + (dg n).length + 1 := by clear hv; omega
    have a3 : t + 1 ≤ (dg n).length + 1 := by clear hv; omega
    have a4 : (dg n).length + 1 - (t + 1) = d := by clear hv; omega
    have c1 : 0 ≤ ((i + t : Nat) : Int) := by clear hv; omega
    have c2 : ((i + t : Nat) : Int) < (x.length : Int) := by clear hv; omega
    have c3 : 0 ≤ (i : Int) := by clear hv; omega
    have c4 : (i : Int) < ((dg m).length : Int) := by clear hv; omega
    -- a round
    have hj : wrap64 ((i : Int) + t) = ((i + t : Nat) : Int) := by clear hv; rw [w64_id (by omega) (by omega)]; omega
    have ht1 : wrap64 ((t : Int) + 1) = ((t + 1 : Nat) : Int) := by clear hv; rw [w64_id (by omega) (by omega)]; omega
    have exr : rd x ((i + t : Nat) : Int) = ((val x / 4294967296 ^ (i + t) % 4294967296 : Nat) : Int) := by unfold rd; rw [Int.toNat_natCast, getD_val hx]
    have b1 := word_lt m i
    have b2 := word_lt n t
    have b3 := word_lt (val x) (i + t)
    have hbt := at_dg n t
    have hS : ∃ s, s = val x / 4294967296 ^ (i + t) % 4294967296 + m / 4294967296 ^ i % 4294967296 * (n / 4294967296 ^ t % 4294967296) + c := ⟨_, rfl⟩
    obtain ⟨s, hs⟩ := hS
    have g1 : Ok (x.set (i + t) (((s % 4294967296 : Nat) : Int))) := ok_set hx _ _ (mod_in _)
    have g2 : (x.set (i + t) (((s % 4294967296 : Nat) : Int))).length = (dg m).length + (dg n).length + 1 := by rw [List.length_set]; exact hl
    have g3 : s / 4294967296 < 4294967296 := by rw [hs]; exact mul_carry _ _ _ _ b1 b2 b3 hc
    have g4 : val (x.set (i + t) ((s % 4294967296 : Nat) : Int)) + s / 4294967296 * 4294967296 ^ (i + (t + 1)) + (m / 4294967296 ^ i % 4294967296) * (n / 4294967296 ^ (t + 1)) * 4294967296 ^ (i + (t + 1)) = m % 4294967296 ^ (i + 1) * n := by
      have k1 : 4294967296 ^ (i + (t + 1)) = 4294967296 ^ (i + t) * 4294967296 := by rw [← Nat.add_assoc, Nat.pow_succ]
      have k2 := val_set_at hx (i + t) (by rw [hl]; exact a2) (s % 4294967296)
      have k3 := Nat.mod_add_div s 4294967296
      exact mul_arith _ _ _ _ _ _ _ _ _ _ _ _ _ k1 k2 (k3.trans hs) (div_step n t) hv
    have hround := ih _ _ (t + 1) g1 g2 g3 a3 g4 a4
    by_cases h : (t : Int) < ((dg n).length : Int)
    · refine Ev.step (fun _ => trunnionref01_Mul.l1.eq_2 ..) ?_
      rw [hj, exr, er, ht1]
      refine Ev.pos h (Ev.pos c1 (Ev.pos c2 (Ev.pos c3 (Ev.pos c4 (Ev.bs hbt ?_)))))
      rw [mul_word1 _ _ _ _ b1 b2 b3 hc, mul_word2 _ _ _ _ b1 b2 b3 hc, Int.toNat_natCast, ← hs]
      exact hround
    · rcases Nat.eq_zero_or_pos c with h0 | h0
      · subst h0
        exact done x t hx hl (Nat.le_of_not_lt fun h' => h (Int.ofNat_lt.2 h')) hv
      · have h1 := carry0 x c t hv h0
        refine Ev.step (fun _ => trunnionref01_Mul.l1.eq_2 ..) ?_
        rw [hj, exr, er, ht1]
        refine Ev.neg h (Ev.pos (show ((c : Nat) : Int) > 0 from Int.natCast_pos.2 h0) (Ev.pos c1 (Ev.pos c2 (Ev.pos c3 (Ev.pos c4 (Ev.bs hbt ?_))))))
        rw [mul_word1 _ _ _ _ b1 b2 b3 hc, mul_word2 _ _ _ _ b1 b2 b3 hc, Int.toNat_natCast, ← hs]
        exact hround
theorem mul_outer (m n : Nat) (hm : (dg m).length < 1000000000) (hn : (dg n).length < 1000000000) (d : Nat) : ∀ (x : List Int) (i : Nat), Ok x → x.length = (dg m).length + (dg n).length + 1 → i ≤ (dg m).length →
    val x = m % 4294967296 ^ i * n → (dg m).length - i = d → Ev (fun k => trunnionref01_Mul.l0 k x i (dg m) (dg n)) (dg (m * n)) := by
  induction d with
  | zero =>
    intro x i hx hl hi hv hd
    refine Ev.step (fun _ => trunnionref01_Mul.l0.eq_2 ..) ?_
    refine Ev.neg (by omega) (Ev.bind (trim_val x hx (by omega)) (Ev.out ?_))
    rw [hv, mod_len (by omega)]
  | succ d ih =>
    intro x i hx hl hi hv hd
    refine Ev.step (fun _ => trunnionref01_Mul.l0.eq_2 ..) ?_
    refine Ev.pos (by omega) ?_
    refine mul_inner m n i (by omega) hm hn (fun y hy hly hvy => ih y (i + 1) hy hly (by omega) hvy (by omega)) _ x 0 0 hx hl (by decide) (by omega) ?_ rfl
    rw [hv, mod_succ, Nat.add_mul]
    simp only [Nat.zero_mul, Nat.add_zero, Nat.pow_zero, Nat.div_one]
    congr 1
    simp only [Nat.mul_comm, Nat.mul_left_comm, Nat.mul_assoc]
theorem mul_dg (m n : Nat) (hm : (dg m).length < 1000000000) (hn : (dg n).length < 1000000000) : Ev (fun k => trunnionref01_Mul.f k (dg m) (dg n)) (dg (m * n)) := by
  unfold trunnionref01_Mul.f
  rw [w64_id (n := ((dg m).length : Int) + ((dg n).length : Int)) (by omega) (by omega), w64_id (by omega) (by omega)]
  refine Ev.pos (by omega) (Ev.pos (by omega) ?_)
  have e : (((dg m).length : Int) + ((dg n).length : Int) + 1).toNat = (dg m).length + (dg n).length + 1 := by omega
  rw [e]
  exact mul_outer m n hm hn _ _ 0 (ok_zeros _) (by simp) (by omega) (by rw [val_zeros]; simp [Nat.mod_one]) rfl

/-! ### Len -/
def bl (n : Nat) : Nat := if n = 0 then 0 else n.log2 + 1
theorem bl_zero : bl 0 = 0 := rfl
theorem bl_half {n : Nat} (h : 0 < n) : bl n = bl (n / 2) + 1 := by
  unfold bl
  rw [if_neg (by omega)]
  by_cases h2 : n < 2
  · obtain rfl : n = 1 := by omega
    rfl
  · rw [if_neg (by omega), Nat.log2_def, if_pos (by omega)]
theorem bl_le {n k : Nat} : bl n ≤ k ↔ n < 2 ^ k := by
  unfold bl
  split
  · subst_vars; simp [Nat.pow_pos]
  · rw [← Nat.log2_lt ‹_›]; omega
theorem lt_bl {n k : Nat} : k < bl n ↔ 2 ^ k ≤ n := by
  have := @bl_le n k; omega
theorem bl_shift (n k : Nat) (h : 0 < n) : bl (n * 2 ^ k) = bl n + k := by
  refine Nat.le_antisymm ?_ ?_
  · rw [bl_le, Nat.pow_add]
    exact Nat.mul_lt_mul_of_pos_right (bl_le.1 (Nat.le_refl _)) (Nat.pow_pos (by decide))
  · have h1 : 2 ^ (bl n - 1) ≤ n := lt_bl.1 (by have := (lt_bl (n := n) (k := 0)).2 (by rw [Nat.pow_zero]; omega); omega)
    have h0 : 0 < bl n := (lt_bl (n := n) (k := 0)).2 (by rw [Nat.pow_zero]; omega)
    have h2 : bl n + k - 1 < bl (n * 2 ^ k) := by
      rw [lt_bl, show bl n + k - 1 = (bl n - 1) + k by omega, Nat.pow_add]
      exact Nat.mul_le_mul_right _ h1
    omega
theorem bl_add_low (a b k : Nat) (ha : 0 < a) (hb : b < 2 ^ k) : bl (a * 2 ^ k + b) = bl a + k := by
  refine Nat.le_antisymm ?_ ?_
  · rw [bl_le, Nat.pow_add]
    have h1 : a + 1 ≤ 2 ^ bl a := bl_le.1 (Nat.le_refl _)
    have h2 := Nat.mul_le_mul_right (2 ^ k) h1
    rw [Nat.add_mul] at h2
    omega
  · rw [← bl_shift a k ha]
    have h0 : 0 < bl (a * 2 ^ k) := (lt_bl (n := a * 2 ^ k) (k := 0)).2 (by rw [Nat.pow_zero]; exact Nat.mul_pos ha (Nat.pow_pos (by decide)))
    have h1 : bl (a * 2 ^ k) - 1 < bl (a * 2 ^ k + b) := by
      rw [lt_bl]
      have : 2 ^ (bl (a * 2 ^ k) - 1) ≤ a * 2 ^ k := lt_bl.1 (by omega)
      omega
    omega
theorem bl_mono {m n : Nat} (h : m ≤ n) : bl m ≤ bl n := by
  rw [bl_le]; exact Nat.lt_of_le_of_lt h (bl_le.1 (Nat.le_refl _))
theorem lt_two_bl (n : Nat) : n < 2 ^ bl n := bl_le.1 (Nat.le_refl _)
theorem bl_add (m n : Nat) : bl (m + n) ≤ max (bl m) (bl n) + 1 := by
  rw [bl_le, Nat.pow_succ]
  have h1 := lt_two_bl m
  have h2 := lt_two_bl n
  have h3 : 2 ^ bl m ≤ 2 ^ max (bl m) (bl n) := Nat.pow_le_pow_right (by decide) (by omega)
  have h4 : 2 ^ bl n ≤ 2 ^ max (bl m) (bl n) := Nat.pow_le_pow_right (by decide) (by omega)
  omega
theorem bl_mul (m n : Nat) : bl (m * n) ≤ bl m + bl n := by
  rw [bl_le, Nat.pow_add]
  exact Nat.mul_lt_mul'' (lt_two_bl m) (lt_two_bl n)
theorem bl_shl (m k : Nat) : bl (m * 2 ^ k) ≤ bl m + k := by
  rw [bl_le, Nat.pow_add]
  exact Nat.mul_lt_mul_of_pos_right (lt_two_bl m) (Nat.pow_pos (by decide))
theorem bl_one : bl 1 = 1 := by decide
theorem bl_two (k : Nat) : bl (2 ^ k) = k + 1 := by
  have := bl_shift 1 k (by decide)
  rw [Nat.one_mul, bl_one] at this; omega
theorem pow32 (k : Nat) : (4294967296 : Nat) ^ k = 2 ^ (32 * k) := by
  rw [show (4294967296 : Nat) = 2 ^ 32 by decide, ← Nat.pow_mul]
theorem len_bl (n : Nat) : (dg n).length ≤ bl n / 32 + 1 := by
  refine len_le ?_
  rw [pow32]
  exact bl_le.1 (by omega)
theorem len_loop (t : Nat) : ∀ (s : Nat), t < 18446744073709551616 → s + bl t < 1000000000000 → Ev (fun k => trunnionref01_Len.l0 k s t) ((s + bl t : Nat) : Int) := by
  induction t using Nat.strongRecOn with
  | _ t ih =>
    intro s ht hs
    refine Ev.step (fun _ => trunnionref01_Len.l0.eq_2 ..) ?_
    rcases Nat.eq_zero_or_pos t with h | h
    · subst h
      exact Ev.neg (by omega) (Ev.out (by simp [bl_zero]))
    · refine Ev.pos (by omega) ?_
      rw [Int.tdiv_eq_ediv_of_nonneg (by omega), u64_id (by omega) (by omega), w64_id (by omega) (by omega), bl_half h]
      rw [show (t : Int) / 2 = ((t / 2 : Nat) : Int) by omega, show (s : Int) + 1 = ((s + 1 : Nat) : Int) by omega, show s + (bl (t / 2) + 1) = s + 1 + bl (t / 2) by omega]
      exact ih (t / 2) (by omega) (s + 1) (by omega) (by have := bl_half h; omega)
theorem len_dg (m : Nat) (hm : bl m < 1000000000) : Ev (fun k => trunnionref01_Len.f k (dg m)) ((bl m : Nat) : Int) := by
  have hL := len_bl m
  unfold trunnionref01_Len.f
  rcases Nat.eq_zero_or_pos m with h | h
  · subst h
    rw [dg_zero]
    exact Ev.pos rfl (Ev.out rfl)
  · have h0 := len_pos.2 h
    generalize hl : (dg m).length = L at *
    have e : wrap64 ((L : Int) - 1) = ((L - 1 : Nat) : Int) := by rw [w64_id (by omega) (by omega)]; omega
    rw [e, w64_id (n := 32 * ((L - 1 : Nat) : Int)) (by omega) (by omega)]
    refine Ev.neg (by omega) (Ev.pos (by omega) (Ev.pos (by omega) ?_))
    have er : rd (dg m) ((L - 1 : Nat) : Int) = ((m / 4294967296 ^ (L - 1) % 4294967296 : Nat) : Int) := by unfold rd; rw [Int.toNat_natCast, getD_dg]
    have hw := word_lt m (L - 1)
    have htop : m / 4294967296 ^ (L - 1) % 4294967296 = m / 4294967296 ^ (L - 1) := by
      refine Nat.mod_eq_of_lt ?_
      rw [Nat.div_lt_iff_lt_mul (Nat.pow_pos (by decide)), Nat.mul_comm, ← Nat.pow_succ]
      exact lt_of_len (by omega)
    have hpos : 0 < m / 4294967296 ^ (L - 1) := by
      refine Nat.div_pos ?_ (Nat.pow_pos (by decide))
      rcases Nat.lt_or_ge m (4294967296 ^ (L - 1)) with h1 | h1
      · have := len_le h1; omega
      · exact h1
    rw [er, htop]
    rw [htop] at hw
    have hm2 : bl m = bl (m / 4294967296 ^ (L - 1)) + 32 * (L - 1) := by
      have h1 := Nat.div_add_mod m (4294967296 ^ (L - 1))
      have h2 : m % 4294967296 ^ (L - 1) < 4294967296 ^ (L - 1) := Nat.mod_lt _ (Nat.pow_pos (by decide))
      rw [pow32] at h1 h2 ⊢
      have h3 := bl_add_low (m / 2 ^ (32 * (L - 1))) (m % 2 ^ (32 * (L - 1))) (32 * (L - 1)) (by rw [pow32] at hpos; exact hpos) h2
      rw [Nat.mul_comm, h1] at h3
      exact h3
    rw [hm2, Nat.add_comm, show (32 : Int) * ((L - 1 : Nat) : Int) = ((32 * (L - 1) : Nat) : Int) by omega]
    exact len_loop _ _ (Nat.lt_trans hw (by decide)) (by rw [Nat.add_comm, ← hm2]; clear hm2 htop er hw hpos; omega)

/-! ### by their bits -/
theorem add_bl (m n : Nat) (hm : bl m < 1000000000) (hn : bl n < 1000000000) : Ev (fun k => trunnionref01_Add.f k (dg m) (dg n)) (dg (m + n)) := add_dg m n (by have := len_bl m; omega) (by have := len_bl n; omega)
theorem shl_bl (m n : Nat) (hn : n < 30000000000) (hm : bl m < 1000000000) : Ev (fun k => trunnionref01_Shl.f k (dg m) n) (dg (m * 2 ^ n)) := shl_dg m n hn (by have := len_bl m; omega)
theorem cmp_bl (m n : Nat) (hm : bl m < 1000000000) (hn : bl n < 1000000000) : Ev (fun k => trunnionref01_Cmp.f k (dg m) (dg n)) (cmpN m n) := cmp_dg m n (by have := len_bl m; omega) (by have := len_bl n; omega)
theorem mul_bl (m n : Nat) (hm : bl m < 1000000000) (hn : bl n < 1000000000) : Ev (fun k => trunnionref01_Mul.f k (dg m) (dg n)) (dg (m * n)) := mul_dg m n (by have := len_bl m; omega) (by have := len_bl n; omega)
theorem bl64 {n : Nat} (h : n < 18446744073709551616) : bl n ≤ 64 := bl_le.2 h

/-! ### Pair -/
theorem pair_dg (a b : Nat) (ha : a < 18446744073709551616) (hb : b < 18446744073709551616) : Ev (fun k => trunnionref01_Pair.f k a b) (dg (a * 18446744073709551616 + b)) := by
  unfold trunnionref01_Pair.f
  have h1 := bl64 ha
  have h2 := bl64 hb
  have h3 := bl_shl a 64
  have hs := shl_bl a 64 (by decide) (by omega)
  refine Ev.bind (of_dg a ha) (Ev.bind hs (Ev.bind (of_dg b hb) ?_))
  refine Ev.bind (add_bl (a * 2 ^ 64) b (by omega) (by omega)) (Ev.out rfl)
end Go.Proofs.Ytmjfenbbgfohlaa.Th

namespace Go.Proofs.Ytmjfenbbgfohlaa.PA
open Go.RowKit Go.Proofs.YtmjfenbbgfohlaaW.PrintWords Go.Proofs.YtmjfenbbgfohlaaW.PrintLast Go.Proofs.YtmjfenbbgfohlaaW.PrintMore
attribute [local go_sem] max2_int min2_int max_two min_two max_three min_three max_four min_four   -- for this text's walks alone
set_option linter.unusedVariables false
set_option linter.unusedSimpArgs false

/-! ### bits_Len64: function 145 -/
-- IMPORT Derived.Test.YtmjfenbbgfohlaaShelf
def bits_Len64.f (a0 : Int) : Option (Int) := if 0 ≤ a0 ∧ a0 ≤ 18446744073709551615 then some ((Lib.bitLen a0.toNat : Nat) : Int) else none
theorem bits_Len64.calls (a0 : Int) (r : Int) (w : World) (h : bits_Len64.f a0 = some r) :
  Calls Try.prog 145 #[.int .u64 a0] w fun e w' => e = .returned (.int .i64 r) ∧ Drawn0 w w' := by
 unfold bits_Len64.f at h
 split at h
 ·rename_i hr
  obtain rfl := Option.some.inj h
  refine (Try.bits_Len64 a0 w hr.1 hr.2).mono ?_
  rintro e w' ⟨rfl, rfl⟩
  exact ⟨rfl, Drawn0.refl _⟩
 ·cases h

end Go.Proofs.Ytmjfenbbgfohlaa.PA

set_option linter.unusedVariables false
set_option linter.unusedSimpArgs false
namespace Go.Proofs.Ytmjfenbbgfohlaa.Th
open Go.RowKit Go.Proofs.YtmjfenbbgfohlaaW.PrintWords Go.Proofs.YtmjfenbbgfohlaaW.PrintLast Go.Proofs.YtmjfenbbgfohlaaW.PrintMore Go.Proofs.Ytmjfenbbgfohlaa.PA Bit Dig
/-! ### numbers of 128 bits -/
def wn (h l : Nat) : Nat := h * 18446744073709551616 + l
theorem wn_div (V : Nat) : wn (V / 18446744073709551616) (V % 18446744073709551616) = V := by unfold wn; omega
theorem wn_lt {h l : Nat} (hh : h < 18446744073709551616) (hl : l < 18446744073709551616) : wn h l < 340282366920938463463374607431768211456 := by unfold wn; omega
theorem bl_128 {n : Nat} (h : n < 340282366920938463463374607431768211456) : bl n ≤ 128 := bl_le.2 h
theorem mulW (x y : Nat) (hx : x < 18446744073709551616) (hy : y < 18446744073709551616) : wide_Mul.f x y = some (((x * y / 18446744073709551616 : Nat) : Int), ((x * y % 18446744073709551616 : Nat) : Int)) := by
  unfold wide_Mul.f bits_Mul64.f
  rw [if_pos (by omega)]; rfl
theorem cmpW (a b c d : Nat) (hb : b < 18446744073709551616) (hd : d < 18446744073709551616) : wide_Cmp.f a b c d = some (cmpN (wn a b) (wn c d)) := by
  unfold wide_Cmp.f wide_order.f cmpN wn
  by_cases h : (a : Int) = c
  · have h : a = c := by omega
    subst h
    rw [if_pos rfl]
    by_cases h1 : (b : Int) < d
    · rw [if_pos h1, if_pos (by omega)]; rfl
    · rw [if_neg h1]
      by_cases h2 : (b : Int) > d
      · rw [if_pos h2, if_neg (by omega), if_pos (by omega)]; rfl
      · rw [if_neg h2, if_neg (by omega), if_neg (by omega)]; rfl
  · rw [if_neg h]
    by_cases h1 : (a : Int) < c
    · rw [if_pos h1, if_pos (by omega)]; rfl
    · rw [if_neg h1]
      have h2 : (a : Int) > c := by omega
      rw [if_pos h2, if_neg (by omega), if_pos (by omega)]; rfl
theorem or_add (x y n : Nat) (hn : n ≤ 64) (hx : 2 ^ n ∣ x) (hy : y < 2 ^ n) (h : x < 18446744073709551616) (h2 : y < 18446744073709551616) : Go.bits .or .u64 (x : Int) (y : Int) = ((x + y : Nat) : Int) := by
  rw [u64_or_nat x y h h2]
  congr 1
  obtain ⟨c, rfl⟩ := hx
  rw [Nat.or_comm, Nat.mul_comm, or_pow y c n hy]; omega
end Go.Proofs.Ytmjfenbbgfohlaa.Th

set_option linter.unusedVariables false
set_option linter.unusedSimpArgs false
namespace Go.Proofs.Ytmjfenbbgfohlaa.Th
open Go.RowKit Go.Proofs.YtmjfenbbgfohlaaW.PrintWords Go.Proofs.YtmjfenbbgfohlaaW.PrintLast Go.Proofs.YtmjfenbbgfohlaaW.PrintMore Go.Proofs.Ytmjfenbbgfohlaa.PA Dig
theorem sq_unique {a x y : Nat} (h1 : x * x ≤ a) (h2 : a < (x + 1) * (x + 1)) (h3 : y * y ≤ a) (h4 : a < (y + 1) * (y + 1)) : x = y := by
  rcases Nat.lt_trichotomy x y with h | h | h
  · have := Nat.mul_le_mul (show x + 1 ≤ y from h) (show x + 1 ≤ y from h); omega
  · exact h
  · have := Nat.mul_le_mul (show y + 1 ≤ x from h) (show y + 1 ≤ x from h); omega
theorem one_dgR : Ev (fun k => trunnionref01_Of.f k 1) (dg 1) := of_dg 1 (by decide)
theorem cmp_le (m n : Nat) : cmpN m n ≤ 0 ↔ m ≤ n := by unfold cmpN; split <;> (try split) <;> omega
theorem root_loop (a : Nat) (ha : bl a < 100000000) (s : Nat) : ∀ (r : Nat), s < 100000000 → r * r ≤ a → a < (r + 2 ^ s) * (r + 2 ^ s) →
    ∃ x, x * x ≤ a ∧ a < (x + 1) * (x + 1) ∧ Ev (fun k => trunnionref01_Root.l0 k ((s : Int) - 1) (dg a) (dg r)) (dg x) := by
  induction s with
  | zero =>
    intro r _ h1 h2
    refine ⟨r, h1, h2, ?_⟩
    refine Ev.step (fun _ => trunnionref01_Root.l0.eq_2 ..) ?_
    exact Ev.neg (by omega) (Ev.out rfl)
  | succ s ih =>
    intro r hs h1 h2
    have hr : bl r ≤ bl a := bl_mono (by
      rcases Nat.eq_zero_or_pos r with h | h
      · omega
      · exact Nat.le_trans (Nat.le_mul_of_pos_left r h) h1)
    have b0 := bl_two s
    have b1 := bl_add r (2 ^ s)
    have b2 := bl_mul (r + 2 ^ s) (r + 2 ^ s)
    have e1 : (((s + 1 : Nat) : Int) - 1) = ((s : Nat) : Int) := by omega
    rw [e1]
    have hw : wrap64 ((s : Int) - 1) = (s : Int) - 1 := w64_id (by omega) (by omega)
    by_cases h : (r + 2 ^ s) * (r + 2 ^ s) ≤ a
    · obtain ⟨x, x1, x2, x3⟩ := ih (r + 2 ^ s) (by omega) h (by rw [Nat.add_assoc, ← Nat.two_mul, Nat.mul_comm 2, ← Nat.pow_succ]; exact h2)
      refine ⟨x, x1, x2, ?_⟩
      refine Ev.step (fun _ => trunnionref01_Root.l0.eq_2 ..) ?_
      rw [hw]
      refine Ev.pos (by omega) (Ev.bind one_dgR (Ev.bind (shl_bl 1 s (by omega) (by decide)) ?_))
      rw [Nat.one_mul]
      refine Ev.bind (add_bl r (2 ^ s) (by omega) (by omega)) (Ev.bind (mul_bl _ _ (by omega) (by omega)) (Ev.bind (cmp_bl _ a (by omega) (by omega)) ?_))
      exact Ev.pos ((cmp_le _ _).2 h) x3
    · obtain ⟨x, x1, x2, x3⟩ := ih r (by omega) h1 (by omega)
      refine ⟨x, x1, x2, ?_⟩
      refine Ev.step (fun _ => trunnionref01_Root.l0.eq_2 ..) ?_
      rw [hw]
      refine Ev.pos (by omega) (Ev.bind one_dgR (Ev.bind (shl_bl 1 s (by omega) (by decide)) ?_))
      rw [Nat.one_mul]
      refine Ev.bind (add_bl r (2 ^ s) (by omega) (by omega)) (Ev.bind (mul_bl _ _ (by omega) (by omega)) (Ev.bind (cmp_bl _ a (by omega) (by omega)) ?_))
      exact Ev.neg (fun h' => h ((cmp_le _ _).1 h')) x3
theorem root_dg (a : Nat) (ha : bl a < 10000000) : ∃ x, x * x ≤ a ∧ a < (x + 1) * (x + 1) ∧ Ev (fun k => trunnionref01_Root.f k (dg a)) (dg x) := by
  obtain ⟨x, x1, x2, x3⟩ := root_loop a (by omega) (bl a / 2 + 2) 0 (by omega) (by omega) (by
    have h1 := lt_two_bl a
    rw [Nat.zero_add, ← Nat.pow_add]
    exact Nat.lt_of_lt_of_le h1 (Nat.pow_le_pow_right (by decide) (by omega)))
  refine ⟨x, x1, x2, ?_⟩
  unfold trunnionref01_Root.f
  refine Ev.bind (len_dg a (by omega)) ?_
  rw [Int.tdiv_eq_ediv_of_nonneg (by omega), w64_id (n := ((bl a : Nat) : Int) / 2) (by omega) (by omega), w64_id (by omega) (by omega)]
  rw [show ((bl a : Nat) : Int) / 2 + 1 = (((bl a / 2 + 2 : Nat) : Int) - 1) by omega, ← dg_zero]
  exact x3
end Go.Proofs.Ytmjfenbbgfohlaa.Th

set_option linter.unusedVariables false
set_option linter.unusedSimpArgs false
namespace Go.Proofs.Ytmjfenbbgfohlaa.Th
open Go.RowKit Go.Proofs.YtmjfenbbgfohlaaW.PrintWords Go.Proofs.YtmjfenbbgfohlaaW.PrintLast Go.Proofs.YtmjfenbbgfohlaaW.PrintMore Go.Proofs.Ytmjfenbbgfohlaa.PA Bit Dig
theorem wn_ne (V h l : Nat) (hV : V < 340282366920938463463374607431768211456) (hl : l < 18446744073709551616) :
    (!(((V / 18446744073709551616 : Nat) : Int) == (h : Int)) || !(((V % 18446744073709551616 : Nat) : Int) == (l : Int))) = decide (V ≠ wn h l) := by
  have e : (((V / 18446744073709551616 : Nat) : Int) == (h : Int)) = decide (V / 18446744073709551616 = h) := by
    rw [Bool.eq_iff_iff]; simp; omega
  have e2 : (((V % 18446744073709551616 : Nat) : Int) == (l : Int)) = decide (V % 18446744073709551616 = l) := by
    rw [Bool.eq_iff_iff]; simp; omega
  rw [e, e2]
  have h3 : V = wn h l ↔ V / 18446744073709551616 = h ∧ V % 18446744073709551616 = l := by
    unfold wn; omega
  by_cases h1 : V / 18446744073709551616 = h <;> by_cases h2 : V % 18446744073709551616 = l <;> simp [h1, h2, h3]
theorem rootW_loop (h l : Nat) (hh : h < 18446744073709551616) (hl : l < 18446744073709551616) (s : Nat) : ∀ (r : Nat), s ≤ 64 → 2 ^ s ∣ r → r + 2 ^ s ≤ 18446744073709551616 → r * r ≤ wn h l → wn h l < (r + 2 ^ s) * (r + 2 ^ s) →
    ∃ x, x * x ≤ wn h l ∧ wn h l < (x + 1) * (x + 1) ∧ x < 18446744073709551616 ∧ Ev (fun k => wide_Root.l0 k r ((2 ^ s / 2 : Nat) : Int) h l) ((x : Int), decide (x * x ≠ wn h l)) := by
  have hsq : ∀ x : Nat, x < 18446744073709551616 → x * x < 340282366920938463463374607431768211456 := fun x hx => Nat.lt_of_le_of_lt (Nat.mul_le_mul (show x ≤ 18446744073709551615 by omega) (show x ≤ 18446744073709551615 by omega)) (by decide)
  induction s with
  | zero =>
    intro r _ _ h1 h2 h3
    refine ⟨r, h2, h3, by omega, ?_⟩
    refine Ev.step (fun _ => wide_Root.l0.eq_2 ..) ?_
    refine Ev.neg (by decide) (Ev.bs (mulW r r (by omega) (by omega)) (Ev.out ?_))
    rw [wn_ne (r * r) h l (hsq r (by omega)) hl]
  | succ s ih =>
    intro r hs hd h1 h2 h3
    have e1 : 2 ^ (s + 1) / 2 = 2 ^ s := by rw [Nat.pow_succ]; omega
    have p1 : 0 < 2 ^ s := Nat.pow_pos (by decide)
    have p2 : 2 ^ (s + 1) = 2 ^ s * 2 := Nat.pow_succ ..
    have hor : Go.bits .or .u64 (r : Int) ((2 ^ s : Nat) : Int) = ((r + 2 ^ s : Nat) : Int) := or_add r (2 ^ s) (s + 1) hs hd (by omega) (by omega) (by omega)
    have ehalf : ((2 ^ s : Nat) : Int) / 2 = ((2 ^ s / 2 : Nat) : Int) := by omega
    rw [e1]
    have hds : 2 ^ s ∣ r := Nat.dvd_trans ⟨2, p2⟩ hd
    have hlt : r + 2 ^ s < 18446744073709551616 := by omega
    by_cases hc : (r + 2 ^ s) * (r + 2 ^ s) ≤ wn h l
    · obtain ⟨x, x1, x2, x3, x4⟩ := ih (r + 2 ^ s) (by omega) ((Nat.dvd_add_right hds).2 (Nat.dvd_refl _)) (by omega) hc (by rw [Nat.add_assoc, ← Nat.mul_two, ← p2]; exact h3)
      refine ⟨x, x1, x2, x3, ?_⟩
      refine Ev.step (fun _ => wide_Root.l0.eq_2 ..) ?_
      rw [hor, ehalf]
      refine Ev.pos (by omega) (Ev.bs (mulW _ _ hlt hlt) (Ev.bs (cmpW _ _ h l (Nat.mod_lt _ (by decide)) hl) ?_))
      rw [wn_div]
      exact Ev.pos ((cmp_le _ _).2 hc) x4
    · obtain ⟨x, x1, x2, x3, x4⟩ := ih r (by omega) hds (by omega) h2 (by omega)
      refine ⟨x, x1, x2, x3, ?_⟩
      refine Ev.step (fun _ => wide_Root.l0.eq_2 ..) ?_
      rw [hor, ehalf]
      refine Ev.pos (by omega) (Ev.bs (mulW _ _ hlt hlt) (Ev.bs (cmpW _ _ h l (Nat.mod_lt _ (by decide)) hl) ?_))
      rw [wn_div]
      exact Ev.neg (fun h' => hc ((cmp_le _ _).1 h')) x4
theorem rootW (h l : Nat) (hh : h < 18446744073709551616) (hl : l < 18446744073709551616) :
    ∃ x, x * x ≤ wn h l ∧ wn h l < (x + 1) * (x + 1) ∧ x < 18446744073709551616 ∧ Ev (fun k => wide_Root.f k h l) ((x : Int), decide (x * x ≠ wn h l)) :=
  rootW_loop h l hh hl 64 0 (Nat.le_refl _) (Nat.dvd_zero _) (by decide) (by omega) (by have := wn_lt hh hl; rw [Nat.zero_add]; exact Nat.lt_of_lt_of_le this (by decide))
end Go.Proofs.Ytmjfenbbgfohlaa.Th

set_option linter.unusedVariables false
set_option linter.unusedSimpArgs false
namespace Go.Proofs.Ytmjfenbbgfohlaa.Th
open Go.RowKit Go.Proofs.YtmjfenbbgfohlaaW.PrintWords Go.Proofs.YtmjfenbbgfohlaaW.PrintLast Go.Proofs.YtmjfenbbgfohlaaW.PrintMore Go.Proofs.Ytmjfenbbgfohlaa.PA Bit Dig
theorem awake01 : Ev (fun k => trunnionlaw01_awake.f k) true := by
  unfold trunnionlaw01_awake.f
  have r1 : wide_Right.f 0 5 1 = some (0, 2, true) := by decide +kernel
  have m1 : wide_Mul.f 9223372036854775808 4 = some (2, 0) := by decide +kernel
  obtain ⟨x, x1, x2, x3, x4⟩ := rootW 1 0 (by decide) (by decide)
  have hx : x = 4294967296 := sq_unique x1 x2 (by decide) (by decide)
  subst hx
  have x5 : Ev (fun k => wide_Root.f k 1 0) (4294967296, false) := x4
  exact Ev.bs (show wide_Of.f 5 = some (0, 5) from rfl) (Ev.bs r1 (Ev.bind x5 (Ev.bs m1 (Ev.pos rfl (Ev.bs (show wide_Of.f 2 = some (0, 2) from rfl) (Ev.pos rfl (Ev.pos rfl (Ev.pos rfl (Ev.out rfl)))))))))
theorem natW (h l : Nat) (hh : h < 18446744073709551616) (hl : l < 18446744073709551616) : Ev (fun k => trunnionlaw01_Nat.f k h l) (dg (wn h l)) := by
  unfold trunnionlaw01_Nat.f
  exact Ev.bind (pair_dg h l hh hl) (Ev.out rfl)
end Go.Proofs.Ytmjfenbbgfohlaa.Th

set_option linter.unusedVariables false
set_option linter.unusedSimpArgs false
namespace Go.Proofs.Ytmjfenbbgfohlaa.Th
open Go.RowKit Go.Proofs.YtmjfenbbgfohlaaW.PrintWords Go.Proofs.YtmjfenbbgfohlaaW.PrintLast Go.Proofs.YtmjfenbbgfohlaaW.PrintMore Go.Proofs.Ytmjfenbbgfohlaa.PA Bit Dig
theorem WideRootsP : trunnionlaw01_WideRoots.Pure := by
  intro a b ha0 hb0
  obtain ⟨ha1, ha2⟩ := wf_u64 ha0
  obtain ⟨a, rfl⟩ := Int.eq_ofNat_of_zero_le ha1
  have ha : a < 18446744073709551616 := by omega
  obtain ⟨hb1, hb2⟩ := wf_u64 hb0
  obtain ⟨b, rfl⟩ := Int.eq_ofNat_of_zero_le hb1
  have hb : b < 18446744073709551616 := by omega
  refine Ev.rounds ?_
  unfold trunnionlaw01_WideRoots.f
  refine Ev.bind awake01 (Ev.pos rfl ?_)
  have hw := wn_lt ha hb
  have hbl := bl_128 hw
  obtain ⟨x, x1, x2, x3, x4⟩ := rootW a b ha hb
  obtain ⟨y, y1, y2, y3⟩ := root_dg (wn a b) (by omega)
  obtain rfl : y = x := sq_unique y1 y2 x1 x2
  have hx := bl64 x3
  have hx2 := bl_mul y y
  refine Ev.bind x4 (Ev.bind (natW a b ha hb) (Ev.bind y3 (Ev.bs (uint_dg y) (Ev.pos ?_ (Ev.bind (mul_bl y y (by omega) (by omega)) (Ev.bind (natW a b ha hb) (Ev.bind (cmp_bl _ _ (by omega) (by omega)) (Ev.out ?_))))))))
  · rw [Nat.mod_eq_of_lt x3]
  · have e : decide (cmpN (y * y) (wn a b) < 0) = decide (y * y ≠ wn a b) := by
      rw [decide_eq_decide]; unfold cmpN
      split
      · simp; omega
      · split
        · simp; omega
        · simp; omega
    rw [e]; simp
end Go.Proofs.Ytmjfenbbgfohlaa.Th

namespace Go.Proofs.Ytmjfenbbgfohlaa.Pure
theorem WideRoots : Go.Proofs.Ytmjfenbbgfohlaa.PA.trunnionlaw01_WideRoots.Pure := Go.Proofs.Ytmjfenbbgfohlaa.Th.WideRootsP
end Go.Proofs.Ytmjfenbbgfohlaa.Pure

namespace Go.Proofs.Ytmjfenbbgfohlaa.Facts
theorem words_word (w : List Char) (r : List Char) (h : w.all (fun c => c != Char.ofNat 32) = true) : wordsSigns (w ++ Char.ofNat 32 :: r) = w :: wordsSigns r := by
  induction w with
  | nil => rfl
  | cons c w ih =>
    rw [List.all_cons, Bool.and_eq_true] at h
    have hc : c ≠ Char.ofNat 32 := bne_iff_ne.1 h.1
    rw [List.cons_append]
    rw [wordsSigns.eq_3 c _ (fun e => hc e), ih h.2]
def w1 : List Char := [Char.ofNat 104, Char.ofNat 97, Char.ofNat 114, Char.ofNat 110, Char.ofNat 101, Char.ofNat 115, Char.ofNat 115]
def w2 : List Char := [Char.ofNat 101, Char.ofNat 57, Char.ofNat 57, Char.ofNat 97, Char.ofNat 57, Char.ofNat 55, Char.ofNat 53, Char.ofNat 98, Char.ofNat 102, Char.ofNat 48, Char.ofNat 101, Char.ofNat 53, Char.ofNat 99, Char.ofNat 55, Char.ofNat 52, Char.ofNat 56, Char.ofNat 48, Char.ofNat 48, Char.ofNat 48, Char.ofNat 98, Char.ofNat 51, Char.ofNat 97, Char.ofNat 56, Char.ofNat 52, Char.ofNat 54, Char.ofNat 50, Char.ofNat 99, Char.ofNat 99, Char.ofNat 52, Char.ofNat 50, Char.ofNat 57, Char.ofNat 51, Char.ofNat 51, Char.ofNat 49, Char.ofNat 51, Char.ofNat 99, Char.ofNat 57, Char.ofNat 55, Char.ofNat 51, Char.ofNat 57, Char.ofNat 52, Char.ofNat 98, Char.ofNat 52, Char.ofNat 51, Char.ofNat 57, Char.ofNat 101, Char.ofNat 54, Char.ofNat 51, Char.ofNat 53, Char.ofNat 55, Char.ofNat 52, Char.ofNat 56, Char.ofNat 49, Char.ofNat 54, Char.ofNat 97, Char.ofNat 56, Char.ofNat 56, Char.ofNat 51, Char.ofNat 98, Char.ofNat 49, Char.ofNat 50, Char.ofNat 52, Char.ofNat 48, Char.ofNat 56]
def w3 : List Char := [Char.ofNat 99, Char.ofNat 117, Char.ofNat 116]
set_option maxRecDepth 100000 in
def tailSigns : List Char := [Char.ofNat 97, Char.ofNat 116, Char.ofNat 32, Char.ofNat 116, Char.ofNat 114, Char.ofNat 117, Char.ofNat 110, Char.ofNat 110, Char.ofNat 105, Char.ofNat 111, Char.ofNat 110, Char.ofNat 47, Char.ofNat 116, Char.ofNat 114, Char.ofNat 117, Char.ofNat 110, Char.ofNat 110, Char.ofNat 105, Char.ofNat 111, Char.ofNat 110, Char.ofNat 108, Char.ofNat 97, Char.ofNat 119, Char.ofNat 49, Char.ofNat 48, Char.ofNat 46, Char.ofNat 83, Char.ofNat 105, Char.ofNat 103, Char.ofNat 110, Char.ofNat 65, Char.ofNat 103, Char.ofNat 97, Char.ofNat 105, Char.ofNat 110, Char.ofNat 32, Char.ofNat 116, Char.ofNat 114, Char.ofNat 117, Char.ofNat 110, Char.ofNat 110, Char.ofNat 105, Char.ofNat 111, Char.ofNat 110, Char.ofNat 47, Char.ofNat 116, Char.ofNat 114, Char.ofNat 117, Char.ofNat 110, Char.ofNat 110, Char.ofNat 105, Char.ofNat 111, Char.ofNat 110, Char.ofNat 108, Char.ofNat 97, Char.ofNat 119, Char.ofNat 49, Char.ofNat 48, Char.ofNat 46, Char.ofNat 83, Char.ofNat 105, Char.ofNat 103, Char.ofNat 110, Char.ofNat 84, Char.ofNat 117, Char.ofNat 114, Char.ofNat 110, Char.ofNat 115, Char.ofNat 32, Char.ofNat 116, Char.ofNat 114, Char.ofNat 117, Char.ofNat 110, Char.ofNat 110, Char.ofNat 105, Char.ofNat 111, Char.ofNat 110, Char.ofNat 47, Char.ofNat 116, Char.ofNat 114, Char.ofNat 117, Char.ofNat 110, Char.ofNat 110, Char.ofNat 105, Char.ofNat 111, Char.ofNat 110, Char.ofNat 108, Char.ofNat 97, Char.ofNat 119, Char.ofNat 49, Char.ofNat 48, Char.ofNat 46, Char.ofNat 83, Char.ofNat 105, Char.ofNat 103, Char.ofNat 110, Char.ofNat 66, Char.ofNat 97, Char.ofNat 99, Char.ofNat 107, Char.ofNat 32, Char.ofNat 116, Char.ofNat 114, Char.ofNat 117, Char.ofNat 110, Char.ofNat 110, Char.ofNat 105, Char.ofNat 111, Char.ofNat 110, Char.ofNat 47, Char.ofNat 116, Char.ofNat 114, Char.ofNat 117, Char.ofNat 110, Char.ofNat 110, Char.ofNat 105, Char.ofNat 111, Char.ofNat 110, Char.ofNat 108, Char.ofNat 97, Char.ofNat 119, Char.ofNat 49, Char.ofNat 51, Char.ofNat 46, Char.ofNat 73, Char.ofNat 110, Char.ofNat 116, Char.ofNat 115, Char.ofNat 83, Char.ofNat 117, Char.ofNat 109, Char.ofNat 115, Char.ofNat 32, Char.ofNat 116, Char.ofNat 114, Char.ofNat 117, Char.ofNat 110, Char.ofNat 110, Char.ofNat 105, Char.ofNat 111, Char.ofNat 110, Char.ofNat 47, Char.ofNat 116, Char.ofNat 114, Char.ofNat 117, Char.ofNat 110, Char.ofNat 110, Char.ofNat 105, Char.ofNat 111, Char.ofNat 110, Char.ofNat 108, Char.ofNat 97, Char.ofNat 119, Char.ofNat 48, Char.ofNat 50, Char.ofNat 46, Char.ofNat 83, Char.ofNat 104, Char.ofNat 97, Char.ofNat 112, Char.ofNat 101, Char.ofNat 79, Char.ofNat 114, Char.ofNat 100, Char.ofNat 101, Char.ofNat 114, Char.ofNat 32, Char.ofNat 116, Char.ofNat 114, Char.ofNat 117, Char.ofNat 110, Char.ofNat 110, Char.ofNat 105, Char.ofNat 111, Char.ofNat 110, Char.ofNat 47, Char.ofNat 116, Char.ofNat 114, Char.ofNat 117, Char.ofNat 110, Char.ofNat 110, Char.ofNat 105, Char.ofNat 111, Char.ofNat 110, Char.ofNat 108, Char.ofNat 97, Char.ofNat 119, Char.ofNat 48, Char.ofNat 50, Char.ofNat 46, Char.ofNat 83, Char.ofNat 104, Char.ofNat 97, Char.ofNat 112, Char.ofNat 101, Char.ofNat 79, Char.ofNat 112, Char.ofNat 101, Char.ofNat 110, Char.ofNat 115, Char.ofNat 32, Char.ofNat 116, Char.ofNat 114, Char.ofNat 117, Char.ofNat 110, Char.ofNat 110, Char.ofNat 105, Char.ofNat 111, Char.ofNat 110, Char.ofNat 47, Char.ofNat 116, Char.ofNat 114, Char.ofNat 117, Char.ofNat 110, Char.ofNat 110, Char.ofNat 105, Char.ofNat 111, Char.ofNat 110, Char.ofNat 108, Char.ofNat 97, Char.ofNat 119, Char.ofNat 49, Char.ofNat 51, Char.ofNat 46, Char.ofNat 73, Char.ofNat 110, Char.ofNat 116, Char.ofNat 115, Char.ofNat 83, Char.ofNat 104, Char.ofNat 105, Char.ofNat 102, Char.ofNat 116, Char.ofNat 115, Char.ofNat 32, Char.ofNat 116, Char.ofNat 114, Char.ofNat 117, Char.ofNat 110, Char.ofNat 110, Char.ofNat 105, Char.ofNat 111, Char.ofNat 110, Char.ofNat 47, Char.ofNat 116, Char.ofNat 114, Char.ofNat 117, Char.ofNat 110, Char.ofNat 110, Char.ofNat 105, Char.ofNat 111, Char.ofNat 110, Char.ofNat 108, Char.ofNat 97, Char.ofNat 119, Char.ofNat 48, Char.ofNat 49, Char.ofNat 46, Char.ofNat 87, Char.ofNat 105, Char.ofNat 100, Char.ofNat 101, Char.ofNat 82, Char.ofNat 111, Char.ofNat 111, Char.ofNat 116, Char.ofNat 115, Char.ofNat 32, Char.ofNat 116, Char.ofNat 114, Char.ofNat 117, Char.ofNat 110, Char.ofNat 110, Char.ofNat 105, Char.ofNat 111, Char.ofNat 110, Char.ofNat 47, Char.ofNat 116, Char.ofNat 114, Char.ofNat 117, Char.ofNat 110, Char.ofNat 110, Char.ofNat 105, Char.ofNat 111, Char.ofNat 110, Char.ofNat 108, Char.ofNat 97, Char.ofNat 119, Char.ofNat 48, Char.ofNat 50, Char.ofNat 46, Char.ofNat 83, Char.ofNat 104, Char.ofNat 97, Char.ofNat 112, Char.ofNat 101, Char.ofNat 69, Char.ofNat 110, Char.ofNat 100, Char.ofNat 115, Char.ofNat 32, Char.ofNat 116, Char.ofNat 114, Char.ofNat 117, Char.ofNat 110, Char.ofNat 110, Char.ofNat 105, Char.ofNat 111, Char.ofNat 110, Char.ofNat 47, Char.ofNat 116, Char.ofNat 114, Char.ofNat 117, Char.ofNat 110, Char.ofNat 110, Char.ofNat 105, Char.ofNat 111, Char.ofNat 110, Char.ofNat 108, Char.ofNat 97, Char.ofNat 119, Char.ofNat 49, Char.ofNat 51, Char.ofNat 46, Char.ofNat 73, Char.ofNat 110, Char.ofNat 116, Char.ofNat 115, Char.ofNat 68, Char.ofNat 105, Char.ofNat 118, Char.ofNat 115, Char.ofNat 32, Char.ofNat 116, Char.ofNat 114, Char.ofNat 117, Char.ofNat 110, Char.ofNat 110, Char.ofNat 105, Char.ofNat 111, Char.ofNat 110, Char.ofNat 47, Char.ofNat 116, Char.ofNat 114, Char.ofNat 117, Char.ofNat 110, Char.ofNat 110, Char.ofNat 105, Char.ofNat 111, Char.ofNat 110, Char.ofNat 108, Char.ofNat 97, Char.ofNat 119, Char.ofNat 49, Char.ofNat 51, Char.ofNat 46, Char.ofNat 73, Char.ofNat 110, Char.ofNat 116, Char.ofNat 115, Char.ofNat 80, Char.ofNat 111, Char.ofNat 119, Char.ofNat 101, Char.ofNat 114, Char.ofNat 115, Char.ofNat 32, Char.ofNat 116, Char.ofNat 114, Char.ofNat 117, Char.ofNat 110, Char.ofNat 110, Char.ofNat 105, Char.ofNat 111, Char.ofNat 110, Char.ofNat 47, Char.ofNat 116, Char.ofNat 114, Char.ofNat 117, Char.ofNat 110, Char.ofNat 110, Char.ofNat 105, Char.ofNat 111, Char.ofNat 110, Char.ofNat 108, Char.ofNat 97, Char.ofNat 119, Char.ofNat 48, Char.ofNat 49, Char.ofNat 46, Char.ofNat 87, Char.ofNat 105, Char.ofNat 100, Char.ofNat 101, Char.ofNat 83, Char.ofNat 104, Char.ofNat 105, Char.ofNat 102, Char.ofNat 116, Char.ofNat 115, Char.ofNat 32, Char.ofNat 116, Char.ofNat 114, Char.ofNat 117, Char.ofNat 110, Char.ofNat 110, Char.ofNat 105, Char.ofNat 111, Char.ofNat 110, Char.ofNat 47, Char.ofNat 116, Char.ofNat 114, Char.ofNat 117, Char.ofNat 110, Char.ofNat 110, Char.ofNat 105, Char.ofNat 111, Char.ofNat 110, Char.ofNat 108, Char.ofNat 97, Char.ofNat 119, Char.ofNat 48, Char.ofNat 49, Char.ofNat 46, Char.ofNat 87, Char.ofNat 105, Char.ofNat 100, Char.ofNat 101, Char.ofNat 76, Char.ofNat 101, Char.ofNat 110, Char.ofNat 115, Char.ofNat 32, Char.ofNat 116, Char.ofNat 114, Char.ofNat 117, Char.ofNat 110, Char.ofNat 110, Char.ofNat 105, Char.ofNat 111, Char.ofNat 110, Char.ofNat 47, Char.ofNat 116, Char.ofNat 114, Char.ofNat 117, Char.ofNat 110, Char.ofNat 110, Char.ofNat 105, Char.ofNat 111, Char.ofNat 110, Char.ofNat 108, Char.ofNat 97, Char.ofNat 119, Char.ofNat 48, Char.ofNat 49, Char.ofNat 46, Char.ofNat 87, Char.ofNat 105, Char.ofNat 100, Char.ofNat 101, Char.ofNat 83, Char.ofNat 117, Char.ofNat 109, Char.ofNat 115, Char.ofNat 32, Char.ofNat 116, Char.ofNat 114, Char.ofNat 117, Char.ofNat 110, Char.ofNat 110, Char.ofNat 105, Char.ofNat 111, Char.ofNat 110, Char.ofNat 47, Char.ofNat 116, Char.ofNat 114, Char.ofNat 117, Char.ofNat 110, Char.ofNat 110, Char.ofNat 105, Char.ofNat 111, Char.ofNat 110, Char.ofNat 108, Char.ofNat 97, Char.ofNat 119, Char.ofNat 48, Char.ofNat 56, Char.ofNat 46, Char.ofNat 79, Char.ofNat 114, Char.ofNat 100, Char.ofNat 101, Char.ofNat 114, Char.ofNat 80, Char.ofNat 105, Char.ofNat 99, Char.ofNat 107, Char.ofNat 115, Char.ofNat 32, Char.ofNat 116, Char.ofNat 114, Char.ofNat 117, Char.ofNat 110, Char.ofNat 110, Char.ofNat 105, Char.ofNat 111, Char.ofNat 110, Char.ofNat 47, Char.ofNat 116, Char.ofNat 114, Char.ofNat 117, Char.ofNat 110, Char.ofNat 110, Char.ofNat 105, Char.ofNat 111, Char.ofNat 110, Char.ofNat 108, Char.ofNat 97, Char.ofNat 119, Char.ofNat 48, Char.ofNat 50, Char.ofNat 46, Char.ofNat 83, Char.ofNat 104, Char.ofNat 97, Char.ofNat 112, Char.ofNat 101, Char.ofNat 66, Char.ofNat 97, Char.ofNat 99, Char.ofNat 107, Char.ofNat 32, Char.ofNat 116, Char.ofNat 114, Char.ofNat 117, Char.ofNat 110, Char.ofNat 110, Char.ofNat 105, Char.ofNat 111, Char.ofNat 110, Char.ofNat 47, Char.ofNat 116, Char.ofNat 114, Char.ofNat 117, Char.ofNat 110, Char.ofNat 110, Char.ofNat 105, Char.ofNat 111, Char.ofNat 110, Char.ofNat 108, Char.ofNat 97, Char.ofNat 119, Char.ofNat 48, Char.ofNat 56, Char.ofNat 46, Char.ofNat 79, Char.ofNat 114, Char.ofNat 100, Char.ofNat 101, Char.ofNat 114, Char.ofNat 65, Char.ofNat 115, Char.ofNat 107, Char.ofNat 115, Char.ofNat 32, Char.ofNat 116, Char.ofNat 114, Char.ofNat 117, Char.ofNat 110, Char.ofNat 110, Char.ofNat 105, Char.ofNat 111, Char.ofNat 110, Char.ofNat 47, Char.ofNat 116, Char.ofNat 114, Char.ofNat 117, Char.ofNat 110, Char.ofNat 110, Char.ofNat 105, Char.ofNat 111, Char.ofNat 110, Char.ofNat 108, Char.ofNat 97, Char.ofNat 119, Char.ofNat 48, Char.ofNat 56, Char.ofNat 46, Char.ofNat 79, Char.ofNat 114, Char.ofNat 100, Char.ofNat 101, Char.ofNat 114, Char.ofNat 75, Char.ofNat 101, Char.ofNat 101, Char.ofNat 112, Char.ofNat 115, Char.ofNat 32, Char.ofNat 116, Char.ofNat 114, Char.ofNat 117, Char.ofNat 110, Char.ofNat 110, Char.ofNat 105, Char.ofNat 111, Char.ofNat 110, Char.ofNat 47, Char.ofNat 116, Char.ofNat 114, Char.ofNat 117, Char.ofNat 110, Char.ofNat 110, Char.ofNat 105, Char.ofNat 111, Char.ofNat 110, Char.ofNat 108, Char.ofNat 97, Char.ofNat 119, Char.ofNat 48, Char.ofNat 56, Char.ofNat 46, Char.ofNat 79, Char.ofNat 114, Char.ofNat 100, Char.ofNat 101, Char.ofNat 114, Char.ofNat 67, Char.ofNat 104, Char.ofNat 97, Char.ofNat 105, Char.ofNat 110, Char.ofNat 32, Char.ofNat 116, Char.ofNat 114, Char.ofNat 117, Char.ofNat 110, Char.ofNat 110, Char.ofNat 105, Char.ofNat 111, Char.ofNat 110, Char.ofNat 47, Char.ofNat 116, Char.ofNat 114, Char.ofNat 117, Char.ofNat 110, Char.ofNat 110, Char.ofNat 105, Char.ofNat 111, Char.ofNat 110, Char.ofNat 108, Char.ofNat 97, Char.ofNat 119, Char.ofNat 49, Char.ofNat 51, Char.ofNat 46, Char.ofNat 73, Char.ofNat 110, Char.ofNat 116, Char.ofNat 115, Char.ofNat 66, Char.ofNat 97, Char.ofNat 99, Char.ofNat 107, Char.ofNat 32, Char.ofNat 116, Char.ofNat 114, Char.ofNat 117, Char.ofNat 110, Char.ofNat 110, Char.ofNat 105, Char.ofNat 111, Char.ofNat 110, Char.ofNat 47, Char.ofNat 116, Char.ofNat 114, Char.ofNat 117, Char.ofNat 110, Char.ofNat 110, Char.ofNat 105, Char.ofNat 111, Char.ofNat 110, Char.ofNat 108, Char.ofNat 97, Char.ofNat 119, Char.ofNat 48, Char.ofNat 49, Char.ofNat 46, Char.ofNat 87, Char.ofNat 105, Char.ofNat 100, Char.ofNat 101, Char.ofNat 68, Char.ofNat 105, Char.ofNat 118, Char.ofNat 115, Char.ofNat 32, Char.ofNat 116, Char.ofNat 114, Char.ofNat 117, Char.ofNat 110, Char.ofNat 110, Char.ofNat 105, Char.ofNat 111, Char.ofNat 110, Char.ofNat 47, Char.ofNat 116, Char.ofNat 114, Char.ofNat 117, Char.ofNat 110, Char.ofNat 110, Char.ofNat 105, Char.ofNat 111, Char.ofNat 110, Char.ofNat 108, Char.ofNat 97, Char.ofNat 119, Char.ofNat 48, Char.ofNat 49, Char.ofNat 46, Char.ofNat 87, Char.ofNat 105, Char.ofNat 100, Char.ofNat 101, Char.ofNat 66, Char.ofNat 97, Char.ofNat 99, Char.ofNat 107]
set_option maxRecDepth 100000 in
theorem head_list : Try.prog.initOrder.toList = w1 ++ Char.ofNat 32 :: (w2 ++ Char.ofNat 32 :: (w3 ++ Char.ofNat 32 :: tailSigns)) :=
  (congrArg String.toList (show Try.prog.initOrder = String.ofList (w1 ++ Char.ofNat 32 :: (w2 ++ Char.ofNat 32 :: (w3 ++ Char.ofNat 32 :: tailSigns))) from rfl)).trans String.toList_ofList
theorem words : ∃ rest, behindMainWord (wordsSigns Try.prog.initOrder.toList) = w3 :: rest := by
  refine ⟨wordsSigns tailSigns, ?_⟩
  rw [head_list, words_word w1 _ (by kernel_rfl), words_word w2 _ (by kernel_rfl), words_word w3 _ (by kernel_rfl)]
  generalize wordsSigns tailSigns = rest
  have e : ((w1 == "harness".toList || w1 == "ownmain".toList) && isSumSigns w2) = true := by kernel_rfl
  show (if ((w1 == "harness".toList || w1 == "ownmain".toList) && isSumSigns w2) = true then w3 :: rest else w1 :: w2 :: w3 :: rest) = w3 :: rest
  rw [if_pos e]
theorem c3 : (w3 == "gc".toList) = false ∧ (w3 == "spec".toList) = false ∧ (w3 == "cut".toList) = true ∧ (w3 == "carried".toList) = false ∧ (w3 == "finals".toList) = false := ⟨by kernel_rfl, by kernel_rfl, by kernel_rfl, by kernel_rfl, by kernel_rfl⟩
theorem strip (rest : List (List Char)) : stripLifts liftWords (w3 :: rest) = ([], w3 :: rest) := by
  have key : ∀ l : List String, l.all (fun o => !(w3 == o.toList)) = true → stripLifts l (w3 :: rest) = ([], w3 :: rest) := by
    intro l
    induction l with
    | nil => intro _; rfl
    | cons o l ih =>
      intro h
      rw [List.all_cons, Bool.and_eq_true] at h
      unfold stripLifts
      rw [if_neg (fun e => by have h1 := h.1; rw [e] at h1; cases h1)]
      exact ih h.2
  exact key liftWords (by kernel_rfl)
theorem make_of (P : Program) (h : ∃ rest, behindMainWord (wordsSigns P.initOrder.toList) = w3 :: rest) : P.make = some .cut := by
  obtain ⟨rest, h⟩ := h
  unfold Program.make
  rw [h]
  show (if (w3 == "gc".toList || w3 == "spec".toList) = true then some Make.whole else if (w3 == "cut".toList || (w3 == "finals".toList && rest.head? == some "cut".toList)) = true then some Make.cut else _) = some Make.cut
  rw [if_neg (by rw [c3.1, c3.2.1]; decide), if_pos (by rw [c3.2.2.1, Bool.true_or])]
set_option maxRecDepth 100000 in
theorem liftsFact : Try.prog.liftsFinal = false := by
  unfold Program.liftsFinal Program.headLifts
  rw [head_list]
  kernel_rfl
theorem doorFact : (!Try.prog.laysLater && !Try.prog.bearsReflect && Try.prog.doorFits []) = true := by kernel_rfl
theorem makeFact : Try.prog.make = some .cut := make_of _ words
theorem enter_of (P : Program) (h : ∃ rest, behindMainWord (wordsSigns P.initOrder.toList) = w3 :: rest) (d : (!P.laysLater && !P.bearsReflect && P.doorFits []) = true) : P.mayEnter = true := by
  obtain ⟨rest, h⟩ := h
  rw [Bool.and_eq_true, Bool.and_eq_true] at d
  have e : ((some w3 == some "cut".toList) : Bool) = true := by kernel_rfl
  unfold Program.mayEnter
  rw [h]
  show ((_ || _) || ((stripLifts liftWords (w3 :: rest)).2.head? == some "cut".toList && ((stripLifts liftWords (w3 :: rest)).1.contains "finals" || !P.laysLater) && ((stripLifts liftWords (w3 :: rest)).1.contains "reflectrows" || !P.bearsReflect) &&
      ((stripLifts liftWords (w3 :: rest)).1.contains "reflectrows" || !(stripLifts liftWords (w3 :: rest)).1.contains "leanrows") && P.doorFits (stripLifts liftWords (w3 :: rest)).1)) = true
  rw [strip, Bool.or_eq_true]
  refine .inr ?_
  rw [Bool.and_eq_true, Bool.and_eq_true, Bool.and_eq_true, Bool.and_eq_true, Bool.or_eq_true, Bool.or_eq_true]
  exact ⟨⟨⟨⟨e, .inr d.1.1⟩, .inr d.1.2⟩, rfl⟩, d.2⟩
theorem enterFact : Try.prog.mayEnter = true := enter_of _ words doorFact
end Go.Proofs.Ytmjfenbbgfohlaa.Facts
