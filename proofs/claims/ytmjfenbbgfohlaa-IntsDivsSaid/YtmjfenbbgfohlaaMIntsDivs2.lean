/- What the Go functions that the statement IntsDivs reaches compute, and the mathematics on it, in the order in which one leans on the other; for every input. -/
import Derived.Test.YtmjfenbbgfohlaaMIntsDivs1
import Derived.Test.YtmjfenbbgfohlaaMIntsDivs0
import Derived.Test.YtmjfenbbgfohlaaRows
import Derived.ProofKit
import Derived.JoinedOf
import Derived.KernelRfl
set_option linter.unusedVariables false
set_option linter.unusedSimpArgs false
namespace Go.Proofs.Ytmjfenbbgfohlaa.Th
open Go.RowKit Go.Proofs.YtmjfenbbgfohlaaW.PrintWords Go.Proofs.YtmjfenbbgfohlaaW.PrintLast Go.Proofs.YtmjfenbbgfohlaaW.PrintMore Go.Proofs.Ytmjfenbbgfohlaa.PA Dig

/-! ### Sub -/
theorem sub_loop (m n : Nat) (hmn : n ≤ m) (hm : (dg m).length < 1000000000000) (d : Nat) : ∀ (x : List Int) (c i : Nat), Ok x → x.length = i → c ≤ 1 → i ≤ (dg m).length →
    val x + n % 4294967296 ^ i = m % 4294967296 ^ i + c * 4294967296 ^ i → (dg m).length - i = d →
    Ev (fun k => trunnionref01_Sub.l0 k x c i (dg m) (dg n)) (dg (m - n)) := by
  induction d with
  | zero =>
    intro x c i hx hl hc hi hv hd
    have h1 := mod_len (n := m) (i := i) (by omega)
    have h2 : n % 4294967296 ^ i = n := Nat.mod_eq_of_lt (Nat.lt_of_le_of_lt hmn (lt_of_len (by omega)))
    rw [h1, h2] at hv
    have h3 := val_lt hx
    rw [hl] at h3
    have h4 := lt_of_len (n := m) (i := i) (by omega)
    refine Ev.step (fun _ => trunnionref01_Sub.l0.eq_2 ..) ?_
    refine Ev.neg (by omega) (Ev.bind (trim_val x hx (by omega)) (Ev.out ?_))
    congr 1
    rcases Nat.eq_zero_or_pos c with h | h
    · subst h; omega
    · obtain rfl : c = 1 := by omega
      omega
  | succ d ih =>
    intro x c i hx hl hc hi hv hd
    refine Ev.step (fun _ => trunnionref01_Sub.l0.eq_2 ..) ?_
    have er : rd (dg m) (i : Int) = ((m / 4294967296 ^ i % 4294967296 : Nat) : Int) := by unfold rd; rw [Int.toNat_natCast, getD_dg]
    refine Ev.pos (by omega) (Ev.pos (by omega) (Ev.bs (at_dg n i) (Ev.pos (by omega) ?_)))
    rw [er]
    have h1 := word_lt m i
    have h2 := word_lt n i
    have s1 := mod_succ m i
    have s2 := mod_succ n i
    generalize m / 4294967296 ^ i % 4294967296 = A at *
    generalize n / 4294967296 ^ i % 4294967296 = A' at *
    rw [u64_id (n := (A : Int) + 4294967296) (by omega) (by omega), u64_id (n := (A : Int) + 4294967296 - A') (by omega) (by omega), u64_id (n := (A : Int) + 4294967296 - A' - c) (by omega) (by omega), Int.tmod_eq_emod_of_nonneg (by omega), Int.tdiv_eq_ediv_of_nonneg (by omega),
      u64_id (n := ((A : Int) + 4294967296 - A' - c) / 4294967296) (by omega) (by omega), u64_id (by omega) (by omega), w64_id (by omega) (by omega)]
    rw [show ((A : Int) + 4294967296 - A' - c) % 4294967296 = (((A + 4294967296 - A' - c) % 4294967296 : Nat) : Int) by omega, show 1 - ((A : Int) + 4294967296 - A' - c) / 4294967296 = ((1 - (A + 4294967296 - A' - c) / 4294967296 : Nat) : Int) by omega, show (i : Int) + 1 = ((i + 1 : Nat) : Int) by omega]
    refine ih (x ++ [(((A + 4294967296 - A' - c) % 4294967296 : Nat) : Int)]) (1 - (A + 4294967296 - A' - c) / 4294967296) (i + 1) (hx.snoc (by omega)) (by simp [hl]) (by omega) (by omega) ?_ (by omega)
    rw [val_snoc, hl, s1, s2, Int.toNat_natCast, Nat.pow_succ]
    have h4 : c + (A + 4294967296 - A' - c) % 4294967296 + A' = A + 4294967296 * (1 - (A + 4294967296 - A' - c) / 4294967296) := by omega
    have h5 := congrArg (4294967296 ^ i * ·) h4
    simp only [Nat.mul_add] at h5
    rw [Nat.mul_comm (1 - _), Nat.mul_assoc]
    rw [Nat.mul_comm c] at hv
    omega
theorem sub_dg (m n : Nat) (hmn : n ≤ m) (hm : (dg m).length < 1000000000000) : Ev (fun k => trunnionref01_Sub.f k (dg m) (dg n)) (dg (m - n)) :=
  sub_loop m n hmn hm _ [] 0 0 Ok.nil rfl (by omega) (by omega) (by simp [val_nil, Nat.mod_one]) rfl

/-! ### Shl -/
theorem shl_l2 (m q u : Nat) (hq : q < 1000000000) (hu : u ≤ 2147483648) (hu0 : 0 < u) (hm : (dg m).length < 1000000000000) (d : Nat) : ∀ (x : List Int) (c i : Nat), Ok x → x.length = q + i → c < u → i ≤ (dg m).length →
    val x + c * 4294967296 ^ (q + i) = (m % 4294967296 ^ i) * u * 4294967296 ^ q → (dg m).length - i = d →
    Ev (fun k => trunnionref01_Shl.l2 k x u c i (dg m)) (dg (m * u * 4294967296 ^ q)) := by
  induction d with
  | zero =>
    intro x c i hx hl hc hi hv hd
    have h1 := mod_len (n := m) (i := i) (by omega)
    rw [h1] at hv
    refine Ev.step (fun _ => trunnionref01_Shl.l2.eq_2 ..) ?_
    refine Ev.neg (by omega) (Ev.pos (by omega) (Ev.bind (trim_val _ (hx.snoc (by omega)) (by simp; omega)) (Ev.out ?_)))
    congr 1
    rw [val_snoc, hl, Int.toNat_natCast, Nat.mul_comm _ c]
    exact hv
  | succ d ih =>
    intro x c i hx hl hc hi hv hd
    refine Ev.step (fun _ => trunnionref01_Shl.l2.eq_2 ..) ?_
    have er : rd (dg m) (i : Int) = ((m / 4294967296 ^ i % 4294967296 : Nat) : Int) := by unfold rd; rw [Int.toNat_natCast, getD_dg]
    refine Ev.pos (by omega) (Ev.pos (by omega) (Ev.pos (by omega) ?_))
    rw [er]
    have h1 := word_lt m i
    have s1 := mod_succ m i
    generalize m / 4294967296 ^ i % 4294967296 = A at *
    have hau : A * u ≤ 4294967295 * u := Nat.mul_le_mul_right u (by omega)
    rw [← Int.natCast_mul, u64_id (n := ((A * u : Nat) : Int)) (by omega) (by omega), u64_id (by omega) (by omega), Int.tmod_eq_emod_of_nonneg (by omega), Int.tdiv_eq_ediv_of_nonneg (by omega), u64_id (by omega) (by omega), w64_id (by omega) (by omega)]
    rw [show (((A * u : Nat) : Int) + c) % 4294967296 = (((A * u + c) % 4294967296 : Nat) : Int) by omega, show (((A * u : Nat) : Int) + c) / 4294967296 = (((A * u + c) / 4294967296 : Nat) : Int) by omega, show (i : Int) + 1 = ((i + 1 : Nat) : Int) by omega]
    refine ih (x ++ [(((A * u + c) % 4294967296 : Nat) : Int)]) ((A * u + c) / 4294967296) (i + 1) (hx.snoc (by omega)) (by simp [hl]; omega) ?_ (by omega) ?_ (by omega)
    · rw [Nat.div_lt_iff_lt_mul (by decide)]; omega
    rw [val_snoc, hl, s1, Int.toNat_natCast, ← Nat.add_assoc, Nat.pow_succ]
    have h5 := Nat.mod_add_div (A * u + c) 4294967296
    have h6 := congrArg (4294967296 ^ (q + i) * ·) h5
    simp only [Nat.mul_add] at h6
    have h7 : 4294967296 ^ (q + i) * (A * u) = 4294967296 ^ i * A * u * 4294967296 ^ q := by
      rw [Nat.pow_add]; simp only [Nat.mul_comm, Nat.mul_left_comm, Nat.mul_assoc]
    have h8 : (m % 4294967296 ^ i + 4294967296 ^ i * A) * u * 4294967296 ^ q = (m % 4294967296 ^ i) * u * 4294967296 ^ q + 4294967296 ^ i * A * u * 4294967296 ^ q := by
      rw [Nat.add_mul, Nat.add_mul]
    rw [h8, ← h7, ← hv, Nat.mul_comm ((A * u + c) / 4294967296), Nat.mul_assoc, Nat.mul_comm c]
    omega
theorem shl_l1 (m n : Nat) (hn : n < 30000000000) (hm : (dg m).length < 1000000000000) (d : Nat) : ∀ (x : List Int) (j : Nat), Ok x → x.length = n / 32 → val x = 0 → j ≤ n % 32 → n % 32 - j = d →
    Ev (fun k => trunnionref01_Shl.l1 k n x (2 ^ j : Nat) j (dg m)) (dg (m * 2 ^ n)) := by
  have e : m * 2 ^ n = m * 2 ^ (n % 32) * 4294967296 ^ (n / 32) := by
    rw [show (4294967296 : Nat) = 2 ^ 32 by decide, ← Nat.pow_mul, Nat.mul_assoc, ← Nat.pow_add]
    congr 2; omega
  induction d with
  | zero =>
    intro x j hx hl hv hj hd
    obtain rfl : j = n % 32 := by omega
    refine Ev.step (fun _ => trunnionref01_Shl.l1.eq_2 ..) ?_
    rw [Int.tmod_eq_emod_of_nonneg (by omega)]
    refine Ev.neg (by omega) ?_
    rw [e]
    have hp : 2 ^ (n % 32) ≤ 2147483648 := by
      have : 2 ^ (n % 32) ≤ 2 ^ 31 := Nat.pow_le_pow_right (by decide) (by omega)
      simpa using this
    exact shl_l2 m (n / 32) (2 ^ (n % 32)) (by omega) hp (Nat.pow_pos (by decide)) hm _ x 0 0 hx (by simpa using hl) (Nat.pow_pos (by decide)) (by omega) (by simp [hv, Nat.mod_one]) rfl
  | succ d ih =>
    intro x j hx hl hv hj hd
    refine Ev.step (fun _ => trunnionref01_Shl.l1.eq_2 ..) ?_
    rw [Int.tmod_eq_emod_of_nonneg (by omega)]
    refine Ev.pos (by omega) ?_
    have hp : 2 ^ j ≤ 2147483648 := by
      have : 2 ^ j ≤ 2 ^ 31 := Nat.pow_le_pow_right (by decide) (by omega)
      simpa using this
    have h := ih x (j + 1) hx hl hv (by omega) (by omega)
    rw [Nat.pow_succ] at h
    generalize 2 ^ j = P at *
    rw [u64_id (by omega) (by omega), w64_id (by omega) (by omega)]
    rw [show (2 : Int) * (P : Int) = ((P * 2 : Nat) : Int) by omega, show (j : Int) + 1 = ((j + 1 : Nat) : Int) by omega]
    exact h
theorem shl_l0 (m n : Nat) (hn : n < 30000000000) (hm : (dg m).length < 1000000000000) (d : Nat) : ∀ (i : Nat), i ≤ n / 32 → n / 32 - i = d →
    Ev (fun k => trunnionref01_Shl.l0 k n (List.replicate i 0) i (dg m)) (dg (m * 2 ^ n)) := by
  induction d with
  | zero =>
    intro i hi hd
    refine Ev.step (fun _ => trunnionref01_Shl.l0.eq_2 ..) ?_
    rw [Int.tdiv_eq_ediv_of_nonneg (by omega), w64_id (by omega) (by omega)]
    refine Ev.neg (by omega) ?_
    exact shl_l1 m n hn hm _ _ 0 (ok_zeros _) (by simp; omega) (val_zeros _) (by omega) rfl
  | succ d ih =>
    intro i hi hd
    refine Ev.step (fun _ => trunnionref01_Shl.l0.eq_2 ..) ?_
    rw [Int.tdiv_eq_ediv_of_nonneg (by omega), w64_id (n := (n : Int) / 32) (by omega) (by omega), w64_id (by omega) (by omega)]
    refine Ev.pos (by omega) (Ev.pos (by simp; omega) ?_)
    have h := ih (i + 1) (by omega) (by omega)
    rw [← List.replicate_succ', show (i : Int) + 1 = ((i + 1 : Nat) : Int) by omega]
    exact h
theorem shl_dg (m n : Nat) (hn : n < 30000000000) (hm : (dg m).length < 1000000000000) : Ev (fun k => trunnionref01_Shl.f k (dg m) n) (dg (m * 2 ^ n)) :=
  shl_l0 m n hn hm _ 0 (by omega) rfl

/-! ### Cmp -/
def cmpN (m n : Nat) : Int := if m < n then -1 else if n < m then 1 else 0
theorem div_lt_of {m n p : Nat} (hp : 0 < p) (h : m / p < n / p) : m < n := by
  rcases Nat.lt_or_ge m n with h1 | h1
  · exact h1
  · have := Nat.div_le_div_right (c := p) h1; omega
theorem cmp_loop (m n : Nat) (i : Nat) : i < 1000000000000 → m / 4294967296 ^ i = n / 4294967296 ^ i → Ev (fun k => trunnionref01_Cmp.l0 k ((i : Int) - 1) (dg m) (dg n)) (cmpN m n) := by
  induction i with
  | zero =>
    intro hi h
    simp at h
    subst h
    refine Ev.step (fun _ => trunnionref01_Cmp.l0.eq_2 ..) ?_
    refine Ev.neg (by omega) (Ev.out ?_)
    simp [cmpN]
  | succ i ih =>
    intro hi h
    refine Ev.step (fun _ => trunnionref01_Cmp.l0.eq_2 ..) ?_
    rw [show ((i + 1 : Nat) : Int) - 1 = i by omega]
    refine Ev.pos (by omega) (Ev.bs (at_dg m i) (Ev.bs (at_dg n i) ?_))
    have s1 := div_step m i
    have s2 := div_step n i
    rw [h] at s1
    have hp : 0 < 4294967296 ^ i := Nat.pow_pos (by decide)
    by_cases h1 : m / 4294967296 ^ i % 4294967296 < n / 4294967296 ^ i % 4294967296
    · refine Ev.pos (Int.ofNat_lt.2 h1) (Ev.out ?_)
      rw [cmpN, if_pos (div_lt_of hp (by omega))]
    · refine Ev.neg (fun h' => h1 (Int.ofNat_lt.1 h')) ?_
      by_cases h2 : n / 4294967296 ^ i % 4294967296 < m / 4294967296 ^ i % 4294967296
      · refine Ev.pos (Int.ofNat_lt.2 h2) (Ev.out ?_)
        have := div_lt_of hp (show n / 4294967296 ^ i < m / 4294967296 ^ i by omega)
        rw [cmpN, if_neg (by omega), if_pos this]
      · refine Ev.neg (fun h' => h2 (Int.ofNat_lt.1 h')) ?_
        rw [w64_id (by omega) (by omega)]
        exact ih (by omega) (by omega)
theorem cmp_dg (m n : Nat) (hm : (dg m).length < 100000000000) (hn : (dg n).length < 100000000000) : Ev (fun k => trunnionref01_Cmp.f k (dg m) (dg n)) (cmpN m n) := by
  unfold trunnionref01_Cmp.f
  have hmx : mx ((dg m).length : Int) ((dg n).length : Int) = ((max (dg m).length (dg n).length : Nat) : Int) := by unfold mx; split <;> omega
  rw [hmx, w64_id (by omega) (by omega)]
  refine cmp_loop m n _ (by omega) ?_
  rw [Nat.div_eq_of_lt (lt_of_len (by omega)), Nat.div_eq_of_lt (lt_of_len (by omega))]

/-! ### Uint -/
theorem uint_dg (n : Nat) : trunnionref01_Uint.f (dg n) = some ((n % 18446744073709551616 : Nat) : Int) := by
  unfold trunnionref01_Uint.f
  have h0 := at_dg n 0
  have h1 := at_dg n 1
  rw [show ((0 : Nat) : Int) = 0 from rfl] at h0
  rw [show ((1 : Nat) : Int) = 1 from rfl] at h1
  rw [h1, Option.bind_some, h0, Option.bind_some]
  simp only [Nat.pow_zero, Nat.div_one, Nat.pow_one]
  rw [u64_id (n := ((n / 4294967296 % 4294967296 : Nat) : Int) * 4294967296) (by omega) (by omega), u64_id (by omega) (by omega)]
  congr 1
  omega
end Go.Proofs.Ytmjfenbbgfohlaa.Th

set_option linter.unusedVariables false
set_option linter.unusedSimpArgs false
namespace Go.Proofs.Ytmjfenbbgfohlaa.Th
open Go.RowKit Go.Proofs.YtmjfenbbgfohlaaW.PrintWords Go.Proofs.YtmjfenbbgfohlaaW.PrintLast Go.Proofs.YtmjfenbbgfohlaaW.PrintMore Go.Proofs.Ytmjfenbbgfohlaa.PA Dig

/-! ### Mul -/
/-! ### Len -/
def bl (n : Nat) : Nat := if n = 0 then 0 else n.log2 + 1
theorem bl_zero : bl 0 = 0 := rfl
theorem bl_half {n : Nat} (h : 0 < n) : bl n = bl (n / 2) + 1 := by
  unfold bl
  rw [if_neg (by omega)]
  by_cases h2 : n < 2
  · obtain rfl : n = 1 := by omega
    rfl
  · rw [if_neg (by omega), Nat.log2_def, if_pos (by omega)]
theorem bl_le {n k : Nat} : bl n ≤ k ↔ n < 2 ^ k := by
  unfold bl
  split
  · subst_vars; simp [Nat.pow_pos]
  · rw [← Nat.log2_lt ‹_›]; omega
theorem lt_bl {n k : Nat} : k < bl n ↔ 2 ^ k ≤ n := by
  have := @bl_le n k; omega
theorem bl_shift (n k : Nat) (h : 0 < n) : bl (n * 2 ^ k) = bl n + k := by
  refine Nat.le_antisymm ?_ ?_
  · rw [bl_le, Nat.pow_add]
    exact Nat.mul_lt_mul_of_pos_right (bl_le.1 (Nat.le_refl _)) (Nat.pow_pos (by decide))
  · have h1 : 2 ^ (bl n - 1) ≤ n := lt_bl.1 (by have := (lt_bl (n := n) (k := 0)).2 (by rw [Nat.pow_zero]; omega); omega)
    have h0 : 0 < bl n := (lt_bl (n := n) (k := 0)).2 (by rw [Nat.pow_zero]; omega)
    have h2 : bl n + k - 1 < bl (n * 2 ^ k) := by
      rw [lt_bl, show bl n + k - 1 = (bl n - 1) + k by omega, Nat.pow_add]
      exact Nat.mul_le_mul_right _ h1
    omega
theorem bl_add_low (a b k : Nat) (ha : 0 < a) (hb : b < 2 ^ k) : bl (a * 2 ^ k + b) = bl a + k := by
  refine Nat.le_antisymm ?_ ?_
  · rw [bl_le, Nat.pow_add]
    have h1 : a + 1 ≤ 2 ^ bl a := bl_le.1 (Nat.le_refl _)
    have h2 := Nat.mul_le_mul_right (2 ^ k) h1
    rw [Nat.add_mul] at h2
    omega
  · rw [← bl_shift a k ha]
    have h0 : 0 < bl (a * 2 ^ k) := (lt_bl (n := a * 2 ^ k) (k := 0)).2 (by rw [Nat.pow_zero]; exact Nat.mul_pos ha (Nat.pow_pos (by decide)))
    have h1 : bl (a * 2 ^ k) - 1 < bl (a * 2 ^ k + b) := by
      rw [lt_bl]
      have : 2 ^ (bl (a * 2 ^ k) - 1) ≤ a * 2 ^ k := lt_bl.1 (by omega)
      omega
    omega
theorem bl_mono {m n : Nat} (h : m ≤ n) : bl m ≤ bl n := by
  rw [bl_le]; exact Nat.lt_of_le_of_lt h (bl_le.1 (Nat.le_refl _))
theorem lt_two_bl (n : Nat) : n < 2 ^ bl n := bl_le.1 (Nat.le_refl _)
theorem bl_pos {n : Nat} : 0 < bl n ↔ 0 < n := by
  have := (lt_bl (n := n) (k := 0)); rw [Nat.pow_zero] at this; omega
theorem two_bl_le {n : Nat} (h : 0 < n) : 2 ^ (bl n - 1) ≤ n := lt_bl.1 (by have := bl_pos.2 h; omega)
theorem bl_add (m n : Nat) : bl (m + n) ≤ max (bl m) (bl n) + 1 := by
  rw [bl_le, Nat.pow_succ]
  have h1 := lt_two_bl m
  have h2 := lt_two_bl n
  have h3 : 2 ^ bl m ≤ 2 ^ max (bl m) (bl n) := Nat.pow_le_pow_right (by decide) (by omega)
  have h4 : 2 ^ bl n ≤ 2 ^ max (bl m) (bl n) := Nat.pow_le_pow_right (by decide) (by omega)
  omega
theorem bl_shl (m k : Nat) : bl (m * 2 ^ k) ≤ bl m + k := by
  rw [bl_le, Nat.pow_add]
  exact Nat.mul_lt_mul_of_pos_right (lt_two_bl m) (Nat.pow_pos (by decide))
theorem bl_one : bl 1 = 1 := by decide
theorem pow32 (k : Nat) : (4294967296 : Nat) ^ k = 2 ^ (32 * k) := by
  rw [show (4294967296 : Nat) = 2 ^ 32 by decide, ← Nat.pow_mul]
theorem len_bl (n : Nat) : (dg n).length ≤ bl n / 32 + 1 := by
  refine len_le ?_
  rw [pow32]
  exact bl_le.1 (by omega)
theorem len_loop (t : Nat) : ∀ (s : Nat), t < 18446744073709551616 → s + bl t < 1000000000000 → Ev (fun k => trunnionref01_Len.l0 k s t) ((s + bl t : Nat) : Int) := by
  induction t using Nat.strongRecOn with
  | _ t ih =>
    intro s ht hs
    refine Ev.step (fun _ => trunnionref01_Len.l0.eq_2 ..) ?_
    rcases Nat.eq_zero_or_pos t with h | h
    · subst h
      exact Ev.neg (by omega) (Ev.out (by simp [bl_zero]))
    · refine Ev.pos (by omega) ?_
      rw [Int.tdiv_eq_ediv_of_nonneg (by omega), u64_id (by omega) (by omega), w64_id (by omega) (by omega), bl_half h]
      rw [show (t : Int) / 2 = ((t / 2 : Nat) : Int) by omega, show (s : Int) + 1 = ((s + 1 : Nat) : Int) by omega, show s + (bl (t / 2) + 1) = s + 1 + bl (t / 2) by omega]
      exact ih (t / 2) (by omega) (s + 1) (by omega) (by have := bl_half h; omega)
theorem len_dg (m : Nat) (hm : bl m < 1000000000) : Ev (fun k => trunnionref01_Len.f k (dg m)) ((bl m : Nat) : Int) := by
  have hL := len_bl m
  unfold trunnionref01_Len.f
  rcases Nat.eq_zero_or_pos m with h | h
  · subst h
    rw [dg_zero]
    exact Ev.pos rfl (Ev.out rfl)
  · have h0 := len_pos.2 h
    generalize hl : (dg m).length = L at *
    have e : wrap64 ((L : Int) - 1) = ((L - 1 : Nat) : Int) := by rw [w64_id (by omega) (by omega)]; omega
    rw [e, w64_id (n := 32 * ((L - 1 : Nat) : Int)) (by omega) (by omega)]
    refine Ev.neg (by omega) (Ev.pos (by omega) (Ev.pos (by omega) ?_))
    have er : rd (dg m) ((L - 1 : Nat) : Int) = ((m / 4294967296 ^ (L - 1) % 4294967296 : Nat) : Int) := by unfold rd; rw [Int.toNat_natCast, getD_dg]
    have hw := word_lt m (L - 1)
    have htop : m / 4294967296 ^ (L - 1) % 4294967296 = m / 4294967296 ^ (L - 1) := by
      refine Nat.mod_eq_of_lt ?_
      rw [Nat.div_lt_iff_lt_mul (Nat.pow_pos (by decide)), Nat.mul_comm, ← Nat.pow_succ]
      exact lt_of_len (by omega)
    have hpos : 0 < m / 4294967296 ^ (L - 1) := by
      refine Nat.div_pos ?_ (Nat.pow_pos (by decide))
      rcases Nat.lt_or_ge m (4294967296 ^ (L - 1)) with h1 | h1
      · have := len_le h1; omega
      · exact h1
    rw [er, htop]
    rw [htop] at hw
    have hm2 : bl m = bl (m / 4294967296 ^ (L - 1)) + 32 * (L - 1) := by
      have h1 := Nat.div_add_mod m (4294967296 ^ (L - 1))
      have h2 : m % 4294967296 ^ (L - 1) < 4294967296 ^ (L - 1) := Nat.mod_lt _ (Nat.pow_pos (by decide))
      rw [pow32] at h1 h2 ⊢
      have h3 := bl_add_low (m / 2 ^ (32 * (L - 1))) (m % 2 ^ (32 * (L - 1))) (32 * (L - 1)) (by rw [pow32] at hpos; exact hpos) h2
      rw [Nat.mul_comm, h1] at h3
      exact h3
    rw [hm2, Nat.add_comm, show (32 : Int) * ((L - 1 : Nat) : Int) = ((32 * (L - 1) : Nat) : Int) by omega]
    exact len_loop _ _ (Nat.lt_trans hw (by decide)) (by rw [Nat.add_comm, ← hm2]; clear hm2 htop er hw hpos; omega)

/-! ### by their bits -/
theorem add_bl (m n : Nat) (hm : bl m < 1000000000) (hn : bl n < 1000000000) : Ev (fun k => trunnionref01_Add.f k (dg m) (dg n)) (dg (m + n)) := add_dg m n (by have := len_bl m; omega) (by have := len_bl n; omega)
theorem sub_bl (m n : Nat) (hmn : n ≤ m) (hm : bl m < 1000000000) : Ev (fun k => trunnionref01_Sub.f k (dg m) (dg n)) (dg (m - n)) := sub_dg m n hmn (by have := len_bl m; omega)
theorem shl_bl (m n : Nat) (hn : n < 30000000000) (hm : bl m < 1000000000) : Ev (fun k => trunnionref01_Shl.f k (dg m) n) (dg (m * 2 ^ n)) := shl_dg m n hn (by have := len_bl m; omega)
theorem cmp_bl (m n : Nat) (hm : bl m < 1000000000) (hn : bl n < 1000000000) : Ev (fun k => trunnionref01_Cmp.f k (dg m) (dg n)) (cmpN m n) := cmp_dg m n (by have := len_bl m; omega) (by have := len_bl n; omega)
theorem bl64 {n : Nat} (h : n < 18446744073709551616) : bl n ≤ 64 := bl_le.2 h

/-! ### Pair -/
end Go.Proofs.Ytmjfenbbgfohlaa.Th

set_option linter.unusedVariables false
set_option linter.unusedSimpArgs false
namespace Go.Proofs.Ytmjfenbbgfohlaa.Th
open Go.RowKit Go.Proofs.YtmjfenbbgfohlaaW.PrintWords Go.Proofs.YtmjfenbbgfohlaaW.PrintLast Go.Proofs.YtmjfenbbgfohlaaW.PrintMore Go.Proofs.Ytmjfenbbgfohlaa.PA Bit Dig
def pw (w : Int) : Nat := if w = 32 then 4294967296 else 18446744073709551616
theorem cutP (w : Int) (hw : w = 32 ∨ w = 64) (a : Nat) (ha : a < 18446744073709551616) : cutN w a = a % pw w := by
  unfold cutN pw; rcases hw with rfl | rfl
  · rfl
  · rw [if_neg (by decide), if_pos rfl, if_neg (by decide)]; omega
theorem awake13 : trunnionlaw13_awake.f = some true := by decide +kernel
theorem subS (w : Int) (hw : w = 32 ∨ w = 64) (a b : Nat) (ha : a < 18446744073709551616) (hb : b < 18446744073709551616) : ints_Sub.f w a b = some (((a + pw w - b % pw w) % pw w : Nat) : Int) := by
  unfold ints_Sub.f pw
  rcases hw with rfl | rfl
  · rw [if_pos rfl, if_pos rfl]; congr 1; omega
  · rw [if_neg (by decide), if_pos rfl, if_neg (by decide), IntKind.wrap_u64]; congr 1; omega
theorem mulS (w : Int) (hw : w = 32 ∨ w = 64) (a b : Nat) (ha : a < 18446744073709551616) (hb : b < 18446744073709551616) : ints_Mul.f w a b = some (((a * b) % pw w : Nat) : Int) := by
  unfold ints_Mul.f pw
  rcases hw with rfl | rfl
  · rw [if_pos rfl, if_pos rfl]; congr 1
    rw [show (a : Int) % 4294967296 * ((b : Int) % 4294967296) % 4294967296 = (a : Int) * b % 4294967296 from (Int.mul_emod _ _ _).symm]
    omega
  · rw [if_neg (by decide), if_pos rfl, if_neg (by decide), IntKind.wrap_u64]; congr 1
theorem natS (w : Int) (hw : w = 32 ∨ w = 64) (a : Nat) (ha : a < 18446744073709551616) : Ev (fun k => trunnionref13_nat.f k w a) (dg (a % pw w)) := by
  unfold trunnionref13_nat.f
  refine Ev.bs (r2Cut w a hw) (Ev.bind (of_dg _ (by rw [cutP w hw a ha]; have := Nat.mod_le a (pw w); omega)) (Ev.out ?_))
  rw [cutP w hw a ha]
theorem modS (w : Int) (hw : w = 32 ∨ w = 64) (n : Nat) : trunnionref13_mod.f w (dg n) = some ((n % pw w : Nat) : Int) := by
  unfold trunnionref13_mod.f
  rw [uint_dg, Option.bind_some, r2Cut w _ hw, Option.bind_some, cutP w hw _ (Nat.mod_lt _ (by decide))]
  congr 2
  unfold pw; rcases hw with rfl | rfl
  · rw [if_pos rfl]; omega
  · rw [if_neg (by decide)]; omega
theorem pw_64 (w : Int) : pw w ≤ 18446744073709551616 := by unfold pw; split <;> omega
theorem pw_0 (w : Int) : 0 < pw w := by unfold pw; split <;> decide
theorem pw_two (w : Int) (hw : w = 32 ∨ w = 64) : pw w = 2 ^ w.toNat := by rcases hw with rfl | rfl <;> decide
theorem blm (w : Int) (a : Nat) : bl (a % pw w) ≤ 64 := bl64 (by have := Nat.mod_lt a (pw_0 w); have := pw_64 w; omega)
theorem sub13 (w : Int) (hw : w = 32 ∨ w = 64) (a b : Nat) (ha : a < 18446744073709551616) (hb : b < 18446744073709551616) : Ev (fun k => trunnionref13_Sub.f k w a b) (((a + pw w - b % pw w) % pw w : Nat) : Int) := by
  unfold trunnionref13_Sub.f
  have h1 := blm w a
  have h2 := blm w b
  have h3 := bl_shl 1 w.toNat
  rw [bl_one] at h3
  have h4 : 1 * 2 ^ w.toNat = pw w := by rw [pw_two w hw]; omega
  have h5 := Nat.mod_lt b (pw_0 w)
  have h6 := bl_add (a % pw w) (pw w)
  rw [h4] at h3
  have h7 : w.toNat ≤ 64 := by omega
  have hs := shl_bl 1 w.toNat (by omega) (by rw [bl_one]; omega)
  rw [h4, show ((w.toNat : Nat) : Int) = w by omega] at hs
  refine Ev.bind (natS w hw a ha) (Ev.bind (of_dg 1 (by decide)) (Ev.bind hs (Ev.bind (add_bl _ _ (by omega) (by omega)) (Ev.bind (natS w hw b hb) (Ev.bind (sub_bl _ _ (by omega) (by omega)) (Ev.bs (modS w hw _) (Ev.out ?_)))))))
  congr 1
  rw [show a % pw w + pw w - b % pw w = a % pw w + (pw w - b % pw w) by omega, show a + pw w - b % pw w = a + (pw w - b % pw w) by omega, Nat.add_mod, Nat.mod_mod, ← Nat.add_mod]
end Go.Proofs.Ytmjfenbbgfohlaa.Th

set_option linter.unusedVariables false
set_option linter.unusedSimpArgs false
namespace Go.Proofs.Ytmjfenbbgfohlaa.Th
open Go.RowKit Go.Proofs.YtmjfenbbgfohlaaW.PrintWords Go.Proofs.YtmjfenbbgfohlaaW.PrintLast Go.Proofs.YtmjfenbbgfohlaaW.PrintMore Go.Proofs.Ytmjfenbbgfohlaa.PA Bit Dig
theorem known13 (w : Int) : ints_known.f w = some (decide (w = 32 ∨ w = 64)) := by
  unfold ints_known.f
  by_cases h : w = 32
  · subst h; rfl
  · by_cases h2 : w = 64
    · subst h2; rfl
    · rw [decide_eq_false (by omega)]; simp [h, h2]
/-- a number with its sign -/
def sgn (w : Int) (a : Nat) : Int := (a % pw w : Nat) - (if sgB w a then (pw w : Int) else 0)
theorem signedS (w : Int) (hw : w = 32 ∨ w = 64) (a : Nat) (ha : a < 18446744073709551616) : ints_signed.f w a = some (sgn w a) := by
  unfold ints_signed.f sgn sgB pw sb
  rcases hw with rfl | rfl
  · simp only [if_true, decide_eq_true_eq]
    rw [show wrap32 ((a : Int) % 4294967296) = if a / 2147483648 % 2 = 1 then ((a % 4294967296 : Nat) : Int) - 4294967296 else ((a % 4294967296 : Nat) : Int) by unfold wrap32; split <;> omega]
    congr 1
    split
    · rw [w64_id (by omega) (by omega)]; rfl
    · rw [w64_id (by omega) (by omega)]; omega
  · simp only [show ¬ ((64 : Int) = 32) by decide, if_false, decide_eq_true_eq]
    congr 1
    unfold wrap64
    split <;> omega
end Go.Proofs.Ytmjfenbbgfohlaa.Th

set_option linter.unusedVariables false
set_option linter.unusedSimpArgs false
namespace Go.Proofs.Ytmjfenbbgfohlaa.Th
open Go.RowKit Go.Proofs.YtmjfenbbgfohlaaW.PrintWords Go.Proofs.YtmjfenbbgfohlaaW.PrintLast Go.Proofs.YtmjfenbbgfohlaaW.PrintMore Go.Proofs.Ytmjfenbbgfohlaa.PA Bit Dig
/-! ### quotients -/
theorem u64_small (n : Nat) (h : n < 18446744073709551616) : IntKind.u64.wrap (n : Int) = (n : Int) := u64_id (by omega) (by omega)
theorem submul (P a p b : Nat) (hP : 0 < P) : (((a + P - (p * b % P) % P) % P : Nat) : Int) = ((a : Int) - p * b) % P := by
  have h0 : p * b % P < P := Nat.mod_lt _ hP
  have h1 := Nat.div_add_mod (p * b) P
  rw [Nat.mod_mod, Int.natCast_emod, ← Int.natCast_mul]
  generalize p * b = t at *
  have e : ((a + P - t % P : Nat) : Int) = ((a : Int) - t) + P * (1 + ((t / P : Nat) : Int)) := by
    rw [Int.mul_add, Int.mul_one, ← Int.natCast_mul]
    generalize P * (t / P) = u at *
    omega
  rw [e, Int.add_mul_emod_self_left]
theorem sub_mul_congr (P a p b x q y : Int) (ha : a % P = x % P) (hp : p % P = q % P) (hb : b % P = y % P) : (a - p * b) % P = (x - q * y) % P := by
  rw [Int.sub_emod, Int.mul_emod, ha, hp, hb, ← Int.mul_emod, ← Int.sub_emod]
theorem nat_emod (a P : Nat) : ((a : Int)) % (P : Int) = ((a % P : Nat) : Int) % (P : Int) := by rw [Int.natCast_emod, Int.emod_emod_of_dvd _ (Int.dvd_refl _)]
theorem divUS (w : Int) (hw : w = 32 ∨ w = 64) (a b : Nat) (ha : a < 18446744073709551616) (hb : b < 18446744073709551616) :
    ints_DivU.f w a b = some (if b % pw w = 0 then (0, 2) else (((a % pw w / (b % pw w) : Nat) : Int), 0)) := by
  unfold ints_DivU.f
  have h1 := Nat.mod_le a (pw w)
  have h2 := Nat.div_le_self (a % pw w) (b % pw w)
  rw [shCut w a ha, shCut w b hb, Option.bind_some, Option.bind_some, known13, Option.bind_some, decide_eq_true hw, if_pos rfl, cutP w hw a ha, cutP w hw b hb]
  by_cases h : b % pw w = 0
  · rw [if_pos (by omega), if_pos h]
  · rw [if_neg (by omega), if_neg h]
    rw [Int.tdiv_eq_ediv_of_nonneg (by omega), ← Int.natCast_ediv, u64_small _ (Nat.lt_of_le_of_lt (Nat.le_trans h2 h1) ha)]
theorem remUS (w : Int) (hw : w = 32 ∨ w = 64) (a b : Nat) (ha : a < 18446744073709551616) (hb : b < 18446744073709551616) :
    ints_RemU.f w a b = some (if b % pw w = 0 then (0, 2) else (((a % pw w % (b % pw w) : Nat) : Int), 0)) := by
  unfold ints_RemU.f
  have h1 := Nat.mod_le a (pw w)
  have h2 := Nat.div_le_self (a % pw w) (b % pw w)
  rw [divUS w hw a b ha hb, Option.bind_some]
  by_cases h : b % pw w = 0
  · rw [if_pos h, if_neg (by decide), if_pos h]
  · rw [if_neg h, if_pos rfl, if_neg h]
    have hP := pw_0 w
    have h3 := Nat.mod_lt (a % pw w / (b % pw w) * b) hP
    have h4 := pw_64 w
    show ((ints_Mul.f w ((a % pw w / (b % pw w) : Nat) : Int) b).bind fun t546 => ((ints_Sub.f w a t546).bind fun t547 => (some (t547, 0)))) = _
    rw [mulS w hw _ b (by omega) hb, Option.bind_some, subS w hw a _ ha (by omega), Option.bind_some]
    congr 2
    rw [submul _ _ _ _ hP]
    rw [sub_mul_congr (pw w) a ((a % pw w / (b % pw w) : Nat) : Int) b ((a % pw w : Nat) : Int) ((a % pw w / (b % pw w) : Nat) : Int) ((b % pw w : Nat) : Int) (nat_emod _ _) rfl (nat_emod _ _)]
    have h5 := Nat.div_add_mod (a % pw w) (b % pw w)
    have h6 := Nat.mod_lt (a % pw w) (show 0 < b % pw w by omega)
    have h7 := Nat.mod_lt b hP
    rw [← Int.natCast_mul, Nat.mul_comm]
    generalize b % pw w * (a % pw w / (b % pw w)) = u at *
    rw [show ((a % pw w : Nat) : Int) - u = ((a % pw w % (b % pw w) : Nat) : Int) by omega]
    exact Int.emod_eq_of_lt (by omega) (by omega)
/-- how much a signed number is -/
def mg (w : Int) (a : Nat) : Nat := if sgB w a then pw w - a % pw w else a % pw w
theorem sgn_mg (w : Int) (a : Nat) : sgn w a = if sgB w a then -((mg w a : Nat) : Int) else ((mg w a : Nat) : Int) := by
  unfold sgn mg
  have := Nat.mod_lt a (pw_0 w)
  cases sgB w a
  · simp
  · simp only [if_true]; omega
theorem mg_bd (w : Int) (hw : w = 32 ∨ w = 64) (a : Nat) : mg w a ≤ sb w ∧ (sgB w a = false → mg w a < sb w) ∧ (sgB w a = true → 0 < mg w a) ∧ pw w = 2 * sb w := by
  rcases hw with rfl | rfl
  · simp only [mg, sgB, pw, sb, if_true]
    by_cases h : a / 2147483648 % 2 = 1
    · simp only [h, decide_true, if_true]; exact ⟨by omega, (fun h => by cases h), (fun _ => by omega), by first | trivial | omega⟩
    · simp only [h, decide_false, if_neg (show ¬ (false = true) by decide)]; exact ⟨by omega, (fun _ => by omega), (fun h => by cases h), by first | trivial | omega⟩
  · simp only [mg, sgB, pw, sb, show ¬ ((64 : Int) = 32) by decide, if_false]
    by_cases h : a / 9223372036854775808 % 2 = 1
    · simp only [h, decide_true, if_true]; exact ⟨by omega, (fun h => by cases h), (fun _ => by omega), by first | trivial | omega⟩
    · simp only [h, decide_false, if_neg (show ¬ (false = true) by decide)]; exact ⟨by omega, (fun _ => by omega), (fun h => by cases h), by first | trivial | omega⟩
theorem signed11 (w : Int) (hw : w = 32 ∨ w = 64) (a : Nat) (ha : a < 18446744073709551616) : Ev (fun k => trunnionref11_Signed.f k w a) (sgB w a, ((mg w a : Nat) : Int)) := by
  unfold trunnionref11_Signed.f
  refine Ev.bs (r2Cut w a hw) (Ev.bind (twoS w hw) ?_)
  rw [cutP w hw a ha]
  rcases hw with rfl | rfl
  · simp only [mg, sgB, pw, sb, if_true]
    by_cases h : a / 2147483648 % 2 = 1
    · refine Ev.neg (by omega) (Ev.out ?_)
      simp only [h, decide_true, if_true]
      rw [u64_id (by omega) (by omega)]
      congr 1; omega
    · refine Ev.pos (by omega) (Ev.out ?_)
      simp only [h, decide_false]; simp
  · simp only [mg, sgB, pw, sb, show ¬ ((64 : Int) = 32) by decide, if_false]
    by_cases h : a / 9223372036854775808 % 2 = 1
    · refine Ev.neg (by omega) (Ev.out ?_)
      simp only [h, decide_true, if_true]
      rw [u64_id (n := 18446744073709551615 - ((a % 18446744073709551616 : Nat) : Int)) (by omega) (by omega), u64_id (by omega) (by omega)]
      congr 1; omega
    · refine Ev.pos (by omega) (Ev.out ?_)
      simp only [h, decide_false]; simp
theorem sgn_zero (w : Int) (hw : w = 32 ∨ w = 64) (b : Nat) : sgn w b = 0 ↔ b % pw w = 0 := by
  unfold sgn
  have := Nat.mod_lt b (pw_0 w)
  have h := mg_bd w hw b
  unfold mg at h
  cases hs : sgB w b
  · simp; omega
  · simp only [hs, if_true] at h ⊢; omega
theorem mg_zero (w : Int) (hw : w = 32 ∨ w = 64) (b : Nat) : mg w b = 0 ↔ b % pw w = 0 := by
  rw [← sgn_zero w hw b, sgn_mg]; split <;> omega
/-- the signed quotient, by how much the two are -/
theorem tdiv_mg (w : Int) (a b : Nat) : (sgn w a).tdiv (sgn w b) = if sgB w a = sgB w b then ((mg w a / mg w b : Nat) : Int) else -((mg w a / mg w b : Nat) : Int) := by
  rw [sgn_mg w a, sgn_mg w b, Int.natCast_ediv]
  have e : (((mg w a : Nat) : Int)).tdiv ((mg w b : Nat) : Int) = ((mg w a : Nat) : Int) / ((mg w b : Nat) : Int) := Int.tdiv_eq_ediv_of_nonneg (by omega)
  cases sgB w a <;> cases sgB w b <;> simp [Int.neg_tdiv, Int.tdiv_neg, e]
theorem tmod_mg (w : Int) (a b : Nat) : sgn w a - (sgn w a).tdiv (sgn w b) * sgn w b = if sgB w a then -((mg w a % mg w b : Nat) : Int) else ((mg w a % mg w b : Nat) : Int) := by
  rw [tdiv_mg, sgn_mg w a, sgn_mg w b]
  have h := Nat.div_add_mod (mg w a) (mg w b)
  generalize mg w a / mg w b = q at *
  generalize mg w a % mg w b = r at *
  have h' : ((mg w b : Nat) : Int) * ((q : Nat) : Int) + ((r : Nat) : Int) = ((mg w a : Nat) : Int) := by rw [← h, Int.natCast_add, Int.natCast_mul]
  generalize ((mg w b : Nat) : Int) = n at *
  generalize ((mg w a : Nat) : Int) = m at *
  have hc : ((q : Nat) : Int) * n = n * q := Int.mul_comm _ _
  cases sgB w a <;> cases sgB w b <;> simp [Int.neg_mul, Int.mul_neg, hc] <;> omega
def ovf (w : Int) (a b : Nat) : Bool := (sgB w a == sgB w b) && decide (mg w a / mg w b = sb w)
theorem ovf_iff (w : Int) (hw : w = 32 ∨ w = 64) (a b : Nat) (hb : b % pw w ≠ 0) : ovf w a b = true ↔ (sgn w b = -1 ∧ sgn w a = -((sb w : Nat) : Int)) := by
  have h1 := mg_bd w hw a
  have h2 := mg_bd w hw b
  have h3 : 0 < mg w b := Nat.pos_of_ne_zero fun h => hb ((mg_zero w hw b).1 h)
  have hs : 0 < sb w := by unfold sb; split <;> decide
  have key : mg w a / mg w b = sb w ↔ mg w a = sb w ∧ mg w b = 1 := by
    constructor
    · intro h
      have h4 : mg w b * sb w ≤ mg w a := by rw [← h]; exact Nat.mul_div_le _ _
      have h5 : mg w b = 1 := by
        rcases Nat.lt_or_ge 1 (mg w b) with h6 | h6
        · have := Nat.mul_le_mul_right (sb w) (show 2 ≤ mg w b from h6); omega
        · omega
      rw [h5, Nat.one_mul] at h4
      exact ⟨by omega, h5⟩
    · rintro ⟨h4, h5⟩; rw [h4, h5, Nat.div_one]
  unfold ovf
  rw [Bool.and_eq_true, decide_eq_true_eq, key, sgn_mg w a, sgn_mg w b]
  cases h4 : sgB w a <;> cases h5 : sgB w b <;> simp [h4, h5] at h1 h2 ⊢ <;> omega
theorem shl_m1 (w : Int) (hw : w = 32 ∨ w = 64) : shl .i64 (-1) (wrap64 (w - 1)) = -((sb w : Nat) : Int) := by rcases hw with rfl | rfl <;> decide +kernel
theorem cut_wrap (w : Int) (hw : w = 32 ∨ w = 64) (t : Int) : shape_Cut.f w (IntKind.u64.wrap t) = some (t % (pw w : Int)) := by
  rw [IntKind.wrap_u64]
  obtain ⟨x, hx⟩ := Int.eq_ofNat_of_zero_le (show 0 ≤ t % 18446744073709551616 by omega)
  rw [hx, shCut w x (by omega), cutP w hw x (by omega)]
  congr 1
  rw [Int.natCast_emod, ← hx]
  rcases hw with rfl | rfl
  · rw [show pw 32 = 4294967296 from rfl]; omega
  · rw [show pw 64 = 18446744073709551616 from rfl]; omega
theorem divSS (w : Int) (hw : w = 32 ∨ w = 64) (a b : Nat) (ha : a < 18446744073709551616) (hb : b < 18446744073709551616) :
    ints_DivS.f w a b = some (if b % pw w = 0 then (0, 2) else if ovf w a b then (0, 3) else ((sgn w a).tdiv (sgn w b) % (pw w : Int), 0)) := by
  unfold ints_DivS.f
  rw [signedS w hw a ha, signedS w hw b hb, Option.bind_some, Option.bind_some, known13, Option.bind_some, decide_eq_true hw, if_pos rfl]
  by_cases h : b % pw w = 0
  · rw [if_pos ((sgn_zero w hw b).2 h), if_pos h]
  · rw [if_neg (fun h' => h ((sgn_zero w hw b).1 h')), if_neg h]
    have hsb : sb w ≤ 9223372036854775808 := by unfold sb; split <;> omega
    have h1 := mg_bd w hw a
    have hq := Nat.div_le_self (mg w a) (mg w b)
    have hq0 : 0 ≤ mg w a / mg w b := Nat.zero_le _
    have hwr : ovf w a b = false → wrap64 ((sgn w a).tdiv (sgn w b)) = (sgn w a).tdiv (sgn w b) := by
      intro ho
      rw [tdiv_mg]
      unfold ovf at ho
      generalize mg w a / mg w b = q at *
      split
      · rename_i he
        rw [he, beq_self_eq_true, Bool.true_and, decide_eq_false_iff_not] at ho
        exact w64_id (by omega) (by omega)
      · exact w64_id (by omega) (by omega)
    have hiff := ovf_iff w hw a b h
    rw [shl_m1 w hw, if_pos (show 0 ≤ wrap64 (w - 1) by rcases hw with rfl | rfl <;> decide +kernel)]
    cases ho : ovf w a b
    · rw [ho] at hiff
      rw [hwr ho, cut_wrap w hw, Option.bind_some]
      by_cases h2 : sgn w b = -1
      · rw [if_pos h2, if_neg (fun h3 => by have := hiff.2 ⟨h2, h3⟩; cases this)]; rfl
      · rw [if_neg h2]; rfl
    · obtain ⟨h2, h3⟩ := hiff.1 ho
      rw [if_pos h2, if_pos h3]; rfl
theorem sgn_emod (w : Int) (a : Nat) : ((a : Int)) % (pw w : Int) = sgn w a % (pw w : Int) := by
  unfold sgn
  split
  · rw [Int.sub_emod_right]; exact nat_emod _ _
  · rw [Int.sub_zero]; exact nat_emod _ _
theorem remSS (w : Int) (hw : w = 32 ∨ w = 64) (a b : Nat) (ha : a < 18446744073709551616) (hb : b < 18446744073709551616) :
    ints_RemS.f w a b = some (if b % pw w = 0 then (0, 2) else ((sgn w a - (sgn w a).tdiv (sgn w b) * sgn w b) % (pw w : Int), 0)) := by
  unfold ints_RemS.f
  rw [divSS w hw a b ha hb, Option.bind_some]
  by_cases h : b % pw w = 0
  · rw [if_pos h, if_pos rfl, if_pos h]
  · rw [if_neg h, if_neg h]
    have hP := pw_0 w
    have h4 := pw_64 w
    cases ho : ovf w a b
    · simp only [Bool.false_eq_true, if_false, show ¬ ((0 : Int) = 2) by decide, show ¬ ((0 : Int) = 3) by decide]
      have p1 : 0 ≤ (sgn w a).tdiv (sgn w b) % (pw w : Int) := Int.emod_nonneg _ (by omega)
      have p2 : (sgn w a).tdiv (sgn w b) % (pw w : Int) < pw w := Int.emod_lt_of_pos _ (by omega)
      obtain ⟨p, hp⟩ := Int.eq_ofNat_of_zero_le p1
      show ((ints_Mul.f w ((sgn w a).tdiv (sgn w b) % (pw w : Int)) b).bind fun t550 => ((ints_Sub.f w a t550).bind fun t551 => (some (t551, 0)))) = _
      rw [hp]
      have h3 := Nat.mod_lt (p * b) hP
      rw [mulS w hw p b (by omega) hb, Option.bind_some, subS w hw a _ ha (by omega), Option.bind_some]
      congr 2
      rw [submul _ _ _ _ hP]
      refine sub_mul_congr _ _ _ _ _ _ _ (sgn_emod w a) ?_ (sgn_emod w b)
      rw [← hp, Int.emod_emod_of_dvd _ (Int.dvd_refl _)]
    · obtain ⟨h2, h3⟩ := (ovf_iff w hw a b h).1 ho
      simp only [if_true, show ¬ ((3 : Int) = 2) by decide, if_false]
      rw [h2, h3, Int.tdiv_neg, Int.tdiv_one]
      congr 2
      rw [show (-((sb w : Nat) : Int) - - -((sb w : Nat) : Int) * -1) = 0 by omega]; rfl
end Go.Proofs.Ytmjfenbbgfohlaa.Th

set_option linter.unusedVariables false
set_option linter.unusedSimpArgs false
namespace Go.Proofs.Ytmjfenbbgfohlaa.Th
open Go.RowKit Go.Proofs.YtmjfenbbgfohlaaW.PrintWords Go.Proofs.YtmjfenbbgfohlaaW.PrintLast Go.Proofs.YtmjfenbbgfohlaaW.PrintMore Go.Proofs.Ytmjfenbbgfohlaa.PA Dig

/-! ### Div -/
theorem one_dg : Ev (fun k => trunnionref01_Of.f k 1) (dg 1) := of_dg 1 (by decide)
theorem cmp_nonneg (m n : Nat) : cmpN m n ≥ 0 ↔ n ≤ m := by unfold cmpN; split <;> (try split) <;> omega
theorem div_loop (A n : Nat) (hn0 : 0 < n) (hA : bl A < 100000000) (hn : bl n < 100000000) (s : Nat) : ∀ (q m : Nat), s < 100000000 → q * n + m = A → m < n * 2 ^ s →
    Ev (fun k => trunnionref01_Div.l0 k ((s : Int) - 1) (dg n) (dg q) (dg m)) (dg (A / n), dg (A % n)) := by
  induction s with
  | zero =>
    intro q m _ he hm
    refine Ev.step (fun _ => trunnionref01_Div.l0.eq_2 ..) ?_
    refine Ev.neg (by omega) (Ev.out ?_)
    rw [Nat.pow_zero, Nat.mul_one] at hm
    have h1 : A / n = q := by rw [← he, Nat.mul_comm, Nat.mul_add_div hn0, Nat.div_eq_of_lt hm, Nat.add_zero]
    have h2 : A % n = m := by rw [← he, Nat.mul_comm, Nat.mul_add_mod, Nat.mod_eq_of_lt hm]
    rw [h1, h2]
  | succ s ih =>
    intro q m hs he hm
    have e1 : (((s + 1 : Nat) : Int) - 1) = ((s : Nat) : Int) := by omega
    rw [e1]
    have hm2 : m ≤ A := by omega
    have hq2 : q ≤ A := Nat.le_trans (Nat.le_mul_of_pos_right q hn0) (by omega)
    have b1 := bl_mono hm2
    have b2 := bl_mono hq2
    have b3 := bl_shl n s
    have hw : wrap64 ((s : Int) - 1) = (s : Int) - 1 := w64_id (by omega) (by omega)
    refine Ev.step (fun _ => trunnionref01_Div.l0.eq_2 ..) ?_
    rw [hw]
    refine Ev.pos (by omega) (Ev.bind (shl_bl n s (by omega) (by omega)) (Ev.bind (cmp_bl m (n * 2 ^ s) (by omega) (by omega)) ?_))
    by_cases h : n * 2 ^ s ≤ m
    · refine Ev.pos ((cmp_nonneg _ _).2 h) (Ev.bind (sub_bl m (n * 2 ^ s) h (by omega)) (Ev.bind one_dg (Ev.bind (shl_bl 1 s (by omega) (by decide)) ?_)))
      have h3 : 2 ^ s ≤ A := Nat.le_trans (Nat.le_mul_of_pos_left _ hn0) (Nat.le_trans h hm2)
      have b4 := bl_mono h3
      rw [Nat.one_mul]
      refine Ev.bind (add_bl q (2 ^ s) (by omega) (by omega)) (ih (q + 2 ^ s) (m - n * 2 ^ s) (by omega) ?_ ?_)
      · rw [Nat.add_mul, Nat.mul_comm (2 ^ s) n]; omega
      · rw [Nat.pow_succ, ← Nat.mul_assoc] at hm; omega
    · exact Ev.neg (fun h' => h ((cmp_nonneg _ _).1 h')) (ih q m (by omega) he (by omega))
theorem div_dg (a b : Nat) (hb : 0 < b) (ha1 : bl a < 100000000) (hb1 : bl b < 100000000) : Ev (fun k => trunnionref01_Div.f k (dg a) (dg b)) (dg (a / b), dg (a % b)) := by
  unfold trunnionref01_Div.f
  refine Ev.bind (len_dg a (by omega)) (Ev.bind (len_dg b (by omega)) ?_)
  rw [w64_id (by omega) (by omega)]
  by_cases h : bl b ≤ bl a
  · rw [show ((bl a : Nat) : Int) - ((bl b : Nat) : Int) = (((bl a - bl b + 1 : Nat) : Int) - 1) by omega, ← dg_zero]
    have h4 := bl_pos.2 hb
    refine div_loop a b hb ha1 hb1 (bl a - bl b + 1) 0 a (by omega) (by simp) ?_
    have h1 := lt_two_bl a
    have h2 := two_bl_le hb
    have h3 : 2 ^ (bl b - 1) * 2 ^ (bl a - bl b + 1) ≤ b * 2 ^ (bl a - bl b + 1) := Nat.mul_le_mul_right _ h2
    rw [← Nat.pow_add, show bl b - 1 + (bl a - bl b + 1) = bl a by omega] at h3
    omega
  · refine Ev.step (fun _ => trunnionref01_Div.l0.eq_2 ..) ?_
    have h1 : a < b := by
      rcases Nat.lt_or_ge a b with h1 | h1
      · exact h1
      · exact absurd (bl_mono h1) h
    refine Ev.neg (by omega) (Ev.out ?_)
    rw [Nat.div_eq_of_lt h1, Nat.mod_eq_of_lt h1, dg_zero]
end Go.Proofs.Ytmjfenbbgfohlaa.Th

set_option linter.unusedVariables false
set_option linter.unusedSimpArgs false
namespace Go.Proofs.Ytmjfenbbgfohlaa.Th
open Go.RowKit Go.Proofs.YtmjfenbbgfohlaaW.PrintWords Go.Proofs.YtmjfenbbgfohlaaW.PrintLast Go.Proofs.YtmjfenbbgfohlaaW.PrintMore Go.Proofs.Ytmjfenbbgfohlaa.PA Bit Dig
theorem divU13 (w : Int) (hw : w = 32 ∨ w = 64) (a b : Nat) (ha : a < 18446744073709551616) (hb : b < 18446744073709551616) (h : b % pw w ≠ 0) :
    Ev (fun k => trunnionref13_DivU.f k w a b) (((a % pw w / (b % pw w) : Nat) : Int), ((a % pw w % (b % pw w) : Nat) : Int)) := by
  unfold trunnionref13_DivU.f
  have h1 := blm w a
  have h2 := blm w b
  have h3 := Nat.mod_lt a (pw_0 w)
  have h4 := Nat.div_le_self (a % pw w) (b % pw w)
  have h5 := Nat.mod_le (a % pw w) (b % pw w)
  refine Ev.bind (natS w hw a ha) (Ev.bind (natS w hw b hb) (Ev.bind (div_dg _ _ (by omega) (by omega) (by omega)) (Ev.bs (modS w hw _) (Ev.bs (modS w hw _) (Ev.out ?_)))))
  rw [Nat.mod_eq_of_lt (a := a % pw w / (b % pw w)) (by omega), Nat.mod_eq_of_lt (a := a % pw w % (b % pw w)) (by omega)]
/-- less, modulo -/
theorem neg13 (w : Int) (hw : w = 32 ∨ w = 64) (n : Nat) (hn : n < 18446744073709551616) : Ev (fun k => trunnionref13_Sub.f k w 0 n) ((-(n : Int)) % (pw w : Int)) := by
  have h := sub13 w hw 0 n (by decide) hn
  have e : (((0 + pw w - n % pw w) % pw w : Nat) : Int) = (-(n : Int)) % (pw w : Int) := by
    have h1 := submul (pw w) 0 1 n (pw_0 w)
    rw [Nat.one_mul, Nat.mod_mod] at h1
    rw [h1]
    congr 1
    show ((0 : Nat) : Int) - ((1 : Nat) : Int) * (n : Int) = -(n : Int)
    omega
  rw [e] at h
  exact h
theorem divS13 (w : Int) (hw : w = 32 ∨ w = 64) (a b : Nat) (ha : a < 18446744073709551616) (hb : b < 18446744073709551616) (h : b % pw w ≠ 0) :
    Ev (fun k => trunnionref13_DivS.f k w a b) ((sgn w a).tdiv (sgn w b) % (pw w : Int), (sgn w a - (sgn w a).tdiv (sgn w b) * sgn w b) % (pw w : Int), ovf w a b) := by
  rw [tmod_mg, tdiv_mg]
  have h1 := mg_bd w hw a
  have h2 := mg_bd w hw b
  have hsb : sb w ≤ 9223372036854775808 := by unfold sb; split <;> omega
  have hs0 : 0 < sb w := by unfold sb; split <;> decide
  have hb0 : 0 < mg w b := Nat.pos_of_ne_zero fun h' => h ((mg_zero w hw b).1 h')
  have q1 := Nat.div_le_self (mg w a) (mg w b)
  have r1 := Nat.mod_le (mg w a) (mg w b)
  have g1 := bl64 (n := mg w a) (by omega)
  have g2 := bl64 (n := mg w b) (by omega)
  have g3 := bl64 (n := mg w a / mg w b) (by omega)
  have g4 := bl64 (n := sb w) (by omega)
  unfold trunnionref13_DivS.f
  refine Ev.bind (signed11 w hw a ha) (Ev.bind (signed11 w hw b hb) (Ev.bind (of_dg (mg w a) (by omega)) (Ev.bind (of_dg (mg w b) (by omega)) (Ev.bind (div_dg _ _ hb0 (by omega) (by omega)) ?_))))
  have jj : ∀ o, Ev (fun k => trunnionref13_DivS.j0 k w (sgB w a) (sgB w b) o (dg (mg w a / mg w b)) (dg (mg w a % mg w b)))
      ((if sgB w a = sgB w b then ((mg w a / mg w b : Nat) : Int) else -((mg w a / mg w b : Nat) : Int)) % (pw w : Int), (if sgB w a then -((mg w a % mg w b : Nat) : Int) else ((mg w a % mg w b : Nat) : Int)) % (pw w : Int), o) := by
    intro o
    refine Ev.step (fun _ => trunnionref13_DivS.j0.eq_2 ..) ?_
    have e1 : mg w a / mg w b % pw w = mg w a / mg w b := Nat.mod_eq_of_lt (by omega)
    have e2 : mg w a % mg w b % pw w = mg w a % mg w b := Nat.mod_eq_of_lt (by omega)
    refine Ev.bs (modS w hw _) (Ev.bs (modS w hw _) ?_)
    have n1 := neg13 w hw (mg w a / mg w b) (by omega)
    have n2 := neg13 w hw (mg w a % mg w b) (by omega)
    have i1 : ((mg w a / mg w b : Nat) : Int) % (pw w : Int) = ((mg w a / mg w b : Nat) : Int) := by rw [← Int.natCast_emod, e1]
    have i2 : ((mg w a % mg w b : Nat) : Int) % (pw w : Int) = ((mg w a % mg w b : Nat) : Int) := by rw [← Int.natCast_emod, e2]
    rw [e1, e2]
    clear e1 e2 q1 r1 g3
    generalize mg w a / mg w b = Q at n1 i1 ⊢
    generalize mg w a % mg w b = R at n2 i2 ⊢
    cases sgB w a <;> cases sgB w b
    · exact Ev.neg (by decide) (Ev.neg (by decide) (Ev.out (by simp only [if_true, i1, i2]; simp [i2])))
    · exact Ev.pos (by decide) (Ev.bind n1 (Ev.neg (by decide) (Ev.out (by simp [i2]))))
    · exact Ev.pos (by decide) (Ev.bind n1 (Ev.pos (by decide) (Ev.bind n2 (Ev.out (by simp)))))
    · exact Ev.neg (by decide) (Ev.pos (by decide) (Ev.bind n2 (Ev.out (by simp [i1]))))
  by_cases hs : sgB w a = sgB w b
  · refine Ev.pos (by simp [hs]) (Ev.bind (twoS w hw) (Ev.bind (of_dg (sb w) (by omega)) (Ev.bind (cmp_bl _ _ (by omega) (by omega)) ?_)))
    have e : (cmpN (mg w a / mg w b) (sb w) == 0) = ovf w a b := by
      unfold ovf cmpN
      rw [hs, beq_self_eq_true, Bool.true_and]
      split
      · rw [decide_eq_false (by omega)]; rfl
      · split
        · rw [decide_eq_false (by omega)]; rfl
        · rw [decide_eq_true (by omega)]; rfl
    rw [e]
    exact jj _
  · have e : ovf w a b = false := by
      unfold ovf
      rw [beq_eq_false_iff_ne.2 hs, Bool.false_and]
    refine Ev.neg (by simpa using hs) ?_
    rw [e]
    exact jj _
theorem IntsDivsP : trunnionlaw13_IntsDivs.Pure := by
  intro w a b hw0 ha0 hb0
  obtain ⟨ha1, ha2⟩ := wf_u64 ha0
  obtain ⟨a, rfl⟩ := Int.eq_ofNat_of_zero_le ha1
  have ha : a < 18446744073709551616 := by omega
  obtain ⟨hb1, hb2⟩ := wf_u64 hb0
  obtain ⟨b, rfl⟩ := Int.eq_ofNat_of_zero_le hb1
  have hb : b < 18446744073709551616 := by omega
  refine Ev.rounds ?_
  unfold trunnionlaw13_IntsDivs.f
  refine Ev.bs awake13 (Ev.pos rfl ?_)
  by_cases hw : w = 32 ∨ w = 64
  · refine Ev.bs (divUS w hw a b ha hb) (Ev.bs (remUS w hw a b ha hb) (Ev.bs (divSS w hw a b ha hb) (Ev.bs (remSS w hw a b ha hb) (Ev.bs (known_f w) ?_))))
    rw [decide_eq_true hw]
    refine Ev.pos rfl (Ev.bs (r2Cut w b hw) ?_)
    rw [cutP w hw b hb]
    by_cases h : b % pw w = 0
    · simp only [if_pos h]
      exact Ev.pos (by omega) (Ev.pos (by decide +kernel) (Ev.pos (by first | exact rfl | exact trivial) (Ev.pos (by first | exact rfl | exact trivial) (Ev.pos (by first | exact rfl | exact trivial) (Ev.out rfl)))))
    · simp only [if_neg h]
      refine Ev.neg (by omega) (Ev.bind (divU13 w hw a b ha hb h) (Ev.bind (divS13 w hw a b ha hb h) (Ev.pos (by first | exact rfl | exact trivial) (Ev.pos (by first | exact rfl | exact trivial) (Ev.pos (by first | exact rfl | exact trivial) (Ev.pos (by first | exact rfl | exact trivial) (Ev.pos (by first | exact rfl | exact trivial) ?_)))))))
      refine Ev.step (fun _ => trunnionlaw13_IntsDivs.j0.eq_2 ..) ?_
      refine Ev.neg (by decide) ?_
      cases ovf w a b
      · exact Ev.neg Bool.false_ne_true (Ev.pos (by first | exact rfl | exact trivial) (Ev.out rfl))
      · exact Ev.pos rfl (Ev.pos (by first | exact rfl | exact trivial) (Ev.out rfl))
  · have hc0 : ∀ x, shape_Cut.f w x = some 0 := fun x => by unfold shape_Cut.f; rw [if_neg (by omega), if_neg (by omega)]
    have k0 : ints_known.f w = some false := by rw [known13, decide_eq_false hw]
    have n1 : ints_DivU.f w a b = some (0, 0) := by unfold ints_DivU.f; rw [hc0, hc0, Option.bind_some, Option.bind_some, k0]; rfl
    have m1 : ∀ x y, ints_Mul.f w x y = some 0 := fun x y => by unfold ints_Mul.f; rw [if_neg (by omega), if_neg (by omega)]
    have s1 : ∀ x y, ints_Sub.f w x y = some 0 := fun x y => by unfold ints_Sub.f; rw [if_neg (by omega), if_neg (by omega)]
    have n2 : ints_RemU.f w a b = some (0, 0) := by unfold ints_RemU.f; rw [n1, Option.bind_some, if_pos rfl, m1, Option.bind_some, s1]; rfl
    have g1 : ∀ x : Int, ∃ y, ints_signed.f w x = some y := fun x => by unfold ints_signed.f; rw [if_neg (by omega)]; exact ⟨_, rfl⟩
    obtain ⟨x, hx⟩ := g1 a
    obtain ⟨y, hy⟩ := g1 b
    have n3 : ints_DivS.f w a b = some (0, 0) := by unfold ints_DivS.f; rw [hx, hy, Option.bind_some, Option.bind_some, k0]; rfl
    have n4 : ints_RemS.f w a b = some (0, 0) := by unfold ints_RemS.f; rw [n3, Option.bind_some, if_neg (by decide), if_neg (by decide), m1, Option.bind_some, s1]; rfl
    refine Ev.bs n1 (Ev.bs n2 (Ev.bs n3 (Ev.bs n4 (Ev.bs (known_f w) ?_))))
    rw [decide_eq_false hw]
    exact Ev.neg (by decide) (Ev.pos (by decide +kernel) (Ev.pos rfl (Ev.pos rfl (Ev.pos rfl (Ev.out rfl)))))
end Go.Proofs.Ytmjfenbbgfohlaa.Th

namespace Go.Proofs.Ytmjfenbbgfohlaa.Pure
theorem IntsDivs : Go.Proofs.Ytmjfenbbgfohlaa.PA.trunnionlaw13_IntsDivs.Pure := Go.Proofs.Ytmjfenbbgfohlaa.Th.IntsDivsP
end Go.Proofs.Ytmjfenbbgfohlaa.Pure

namespace Go.Proofs.Ytmjfenbbgfohlaa.Facts
theorem words_word (w : List Char) (r : List Char) (h : w.all (fun c => c != Char.ofNat 32) = true) : wordsSigns (w ++ Char.ofNat 32 :: r) = w :: wordsSigns r := by
  induction w with
  | nil => rfl
  | cons c w ih =>
    rw [List.all_cons, Bool.and_eq_true] at h
    have hc : c ≠ Char.ofNat 32 := bne_iff_ne.1 h.1
    rw [List.cons_append]
    rw [wordsSigns.eq_3 c _ (fun e => hc e), ih h.2]
def w1 : List Char := [Char.ofNat 104, Char.ofNat 97, Char.ofNat 114, Char.ofNat 110, Char.ofNat 101, Char.ofNat 115, Char.ofNat 115]
def w2 : List Char := [Char.ofNat 101, Char.ofNat 57, Char.ofNat 57, Char.ofNat 97, Char.ofNat 57, Char.ofNat 55, Char.ofNat 53, Char.ofNat 98, Char.ofNat 102, Char.ofNat 48, Char.ofNat 101, Char.ofNat 53, Char.ofNat 99, Char.ofNat 55, Char.ofNat 52, Char.ofNat 56, Char.ofNat 48, Char.ofNat 48, Char.ofNat 48, Char.ofNat 98, Char.ofNat 51, Char.ofNat 97, Char.ofNat 56, Char.ofNat 52, Char.ofNat 54, Char.ofNat 50, Char.ofNat 99, Char.ofNat 99, Char.ofNat 52, Char.ofNat 50, Char.ofNat 57, Char.ofNat 51, Char.ofNat 51, Char.ofNat 49, Char.ofNat 51, Char.ofNat 99, Char.ofNat 57, Char.ofNat 55, Char.ofNat 51, Char.ofNat 57, Char.ofNat 52, Char.ofNat 98, Char.ofNat 52, Char.ofNat 51, Char.ofNat 57, Char.ofNat 101, Char.ofNat 54, Char.ofNat 51, Char.ofNat 53, Char.ofNat 55, Char.ofNat 52, Char.ofNat 56, Char.ofNat 49, Char.ofNat 54, Char.ofNat 97, Char.ofNat 56, Char.ofNat 56, Char.ofNat 51, Char.ofNat 98, Char.ofNat 49, Char.ofNat 50, Char.ofNat 52, Char.ofNat 48, Char.ofNat 56]
def w3 : List Char := [Char.ofNat 99, Char.ofNat 117, Char.ofNat 116]
set_option maxRecDepth 100000 in
def tailSigns : List Char := [Char.ofNat 97, Char.ofNat 116, Char.ofNat 32, Char.ofNat 116, Char.ofNat 114, Char.ofNat 117, Char.ofNat 110, Char.ofNat 110, Char.ofNat 105, Char.ofNat 111, Char.ofNat 110, Char.ofNat 47, Char.ofNat 116, Char.ofNat 114, Char.ofNat 117, Char.ofNat 110, Char.ofNat 110, Char.ofNat 105, Char.ofNat 111, Char.ofNat 110, Char.ofNat 108, Char.ofNat 97, Char.ofNat 119, Char.ofNat 49, Char.ofNat 48, Char.ofNat 46, Char.ofNat 83, Char.ofNat 105, Char.ofNat 103, Char.ofNat 110, Char.ofNat 65, Char.ofNat 103, Char.ofNat 97, Char.ofNat 105, Char.ofNat 110, Char.ofNat 32, Char.ofNat 116, Char.ofNat 114, Char.ofNat 117, Char.ofNat 110, Char.ofNat 110, Char.ofNat 105, Char.ofNat 111, Char.ofNat 110, Char.ofNat 47, Char.ofNat 116, Char.ofNat 114, Char.ofNat 117, Char.ofNat 110, Char.ofNat 110, Char.ofNat 105, Char.ofNat 111, Char.ofNat 110, Char.ofNat 108, Char.ofNat 97, Char.ofNat 119, Char.ofNat 49, Char.ofNat 48, Char.ofNat 46, Char.ofNat 83, Char.ofNat 105, Char.ofNat 103, Char.ofNat 110, Char.ofNat 84, Char.ofNat 117, Char.ofNat 114, Char.ofNat 110, Char.ofNat 115, Char.ofNat 32, Char.ofNat 116, Char.ofNat 114, Char.ofNat 117, Char.ofNat 110, Char.ofNat 110, Char.ofNat 105, Char.ofNat 111, Char.ofNat 110, Char.ofNat 47, Char.ofNat 116, Char.ofNat 114, Char.ofNat 117, Char.ofNat 110, Char.ofNat 110, Char.ofNat 105, Char.ofNat 111, Char.ofNat 110, Char.ofNat 108, Char.ofNat 97, Char.ofNat 119, Char.ofNat 49, Char.ofNat 48, Char.ofNat 46, Char.ofNat 83, Char.ofNat 105, Char.ofNat 103, Char.ofNat 110, Char.ofNat 66, Char.ofNat 97, Char.ofNat 99, Char.ofNat 107, Char.ofNat 32, Char.ofNat 116, Char.ofNat 114, Char.ofNat 117, Char.ofNat 110, Char.ofNat 110, Char.ofNat 105, Char.ofNat 111, Char.ofNat 110, Char.ofNat 47, Char.ofNat 116, Char.ofNat 114, Char.ofNat 117, Char.ofNat 110, Char.ofNat 110, Char.ofNat 105, Char.ofNat 111, Char.ofNat 110, Char.ofNat 108, Char.ofNat 97, Char.ofNat 119, Char.ofNat 49, Char.ofNat 51, Char.ofNat 46, Char.ofNat 73, Char.ofNat 110, Char.ofNat 116, Char.ofNat 115, Char.ofNat 83, Char.ofNat 117, Char.ofNat 109, Char.ofNat 115, Char.ofNat 32, Char.ofNat 116, Char.ofNat 114, Char.ofNat 117, Char.ofNat 110, Char.ofNat 110, Char.ofNat 105, Char.ofNat 111, Char.ofNat 110, Char.ofNat 47, Char.ofNat 116, Char.ofNat 114, Char.ofNat 117, Char.ofNat 110, Char.ofNat 110, Char.ofNat 105, Char.ofNat 111, Char.ofNat 110, Char.ofNat 108, Char.ofNat 97, Char.ofNat 119, Char.ofNat 48, Char.ofNat 50, Char.ofNat 46, Char.ofNat 83, Char.ofNat 104, Char.ofNat 97, Char.ofNat 112, Char.ofNat 101, Char.ofNat 79, Char.ofNat 114, Char.ofNat 100, Char.ofNat 101, Char.ofNat 114, Char.ofNat 32, Char.ofNat 116, Char.ofNat 114, Char.ofNat 117, Char.ofNat 110, Char.ofNat 110, Char.ofNat 105, Char.ofNat 111, Char.ofNat 110, Char.ofNat 47, Char.ofNat 116, Char.ofNat 114, Char.ofNat 117, Char.ofNat 110, Char.ofNat 110, Char.ofNat 105, Char.ofNat 111, Char.ofNat 110, Char.ofNat 108, Char.ofNat 97, Char.ofNat 119, Char.ofNat 48, Char.ofNat 50, Char.ofNat 46, Char.ofNat 83, Char.ofNat 104, Char.ofNat 97, Char.ofNat 112, Char.ofNat 101, Char.ofNat 79, Char.ofNat 112, Char.ofNat 101, Char.ofNat 110, Char.ofNat 115, Char.ofNat 32, Char.ofNat 116, Char.ofNat 114, Char.ofNat 117, Char.ofNat 110, Char.ofNat 110, Char.ofNat 105, Char.ofNat 111, Char.ofNat 110, Char.ofNat 47, Char.ofNat 116, Char.ofNat 114, Char.ofNat 117, Char.ofNat 110, Char.ofNat 110, Char.ofNat 105, Char.ofNat 111, Char.ofNat 110, Char.ofNat 108, Char.ofNat 97, Char.ofNat 119, Char.ofNat 49, Char.ofNat 51, Char.ofNat 46, Char.ofNat 73, Char.ofNat 110, Char.ofNat 116, Char.ofNat 115, Char.ofNat 83, Char.ofNat 104, Char.ofNat 105, Char.ofNat 102, Char.ofNat 116, Char.ofNat 115, Char.ofNat 32, Char.ofNat 116, Char.ofNat 114, Char.ofNat 117, Char.ofNat 110, Char.ofNat 110, Char.ofNat 105, Char.ofNat 111, Char.ofNat 110, Char.ofNat 47, Char.ofNat 116, Char.ofNat 114, Char.ofNat 117, Char.ofNat 110, Char.ofNat 110, Char.ofNat 105, Char.ofNat 111, Char.ofNat 110, Char.ofNat 108, Char.ofNat 97, Char.ofNat 119, Char.ofNat 48, Char.ofNat 49, Char.ofNat 46, Char.ofNat 87, Char.ofNat 105, Char.ofNat 100, Char.ofNat 101, Char.ofNat 82, Char.ofNat 111, Char.ofNat 111, Char.ofNat 116, Char.ofNat 115, Char.ofNat 32, Char.ofNat 116, Char.ofNat 114, Char.ofNat 117, Char.ofNat 110, Char.ofNat 110, Char.ofNat 105, Char.ofNat 111, Char.ofNat 110, Char.ofNat 47, Char.ofNat 116, Char.ofNat 114, Char.ofNat 117, Char.ofNat 110, Char.ofNat 110, Char.ofNat 105, Char.ofNat 111, Char.ofNat 110, Char.ofNat 108, Char.ofNat 97, Char.ofNat 119, Char.ofNat 48, Char.ofNat 50, Char.ofNat 46, Char.ofNat 83, Char.ofNat 104, Char.ofNat 97, Char.ofNat 112, Char.ofNat 101, Char.ofNat 69, Char.ofNat 110, Char.ofNat 100, Char.ofNat 115, Char.ofNat 32, Char.ofNat 116, Char.ofNat 114, Char.ofNat 117, Char.ofNat 110, Char.ofNat 110, Char.ofNat 105, Char.ofNat 111, Char.ofNat 110, Char.ofNat 47, Char.ofNat 116, Char.ofNat 114, Char.ofNat 117, Char.ofNat 110, Char.ofNat 110, Char.ofNat 105, Char.ofNat 111, Char.ofNat 110, Char.ofNat 108, Char.ofNat 97, Char.ofNat 119, Char.ofNat 49, Char.ofNat 51, Char.ofNat 46, Char.ofNat 73, Char.ofNat 110, Char.ofNat 116, Char.ofNat 115, Char.ofNat 68, Char.ofNat 105, Char.ofNat 118, Char.ofNat 115, Char.ofNat 32, Char.ofNat 116, Char.ofNat 114, Char.ofNat 117, Char.ofNat 110, Char.ofNat 110, Char.ofNat 105, Char.ofNat 111, Char.ofNat 110, Char.ofNat 47, Char.ofNat 116, Char.ofNat 114, Char.ofNat 117, Char.ofNat 110, Char.ofNat 110, Char.ofNat 105, Char.ofNat 111, Char.ofNat 110, Char.ofNat 108, Char.ofNat 97, Char.ofNat 119, Char.ofNat 49, Char.ofNat 51, Char.ofNat 46, Char.ofNat 73, Char.ofNat 110, Char.ofNat 116, Char.ofNat 115, Char.ofNat 80, Char.ofNat 111, Char.ofNat 119, Char.ofNat 101, Char.ofNat 114, Char.ofNat 115, Char.ofNat 32, Char.ofNat 116, Char.ofNat 114, Char.ofNat 117, Char.ofNat 110, Char.ofNat 110, Char.ofNat 105, Char.ofNat 111, Char.ofNat 110, Char.ofNat 47, Char.ofNat 116, Char.ofNat 114, Char.ofNat 117, Char.ofNat 110, Char.ofNat 110, Char.ofNat 105, Char.ofNat 111, Char.ofNat 110, Char.ofNat 108, Char.ofNat 97, Char.ofNat 119, Char.ofNat 48, Char.ofNat 49, Char.ofNat 46, Char.ofNat 87, Char.ofNat 105, Char.ofNat 100, Char.ofNat 101, Char.ofNat 83, Char.ofNat 104, Char.ofNat 105, Char.ofNat 102, Char.ofNat 116, Char.ofNat 115, Char.ofNat 32, Char.ofNat 116, Char.ofNat 114, Char.ofNat 117, Char.ofNat 110, Char.ofNat 110, Char.ofNat 105, Char.ofNat 111, Char.ofNat 110, Char.ofNat 47, Char.ofNat 116, Char.ofNat 114, Char.ofNat 117, Char.ofNat 110, Char.ofNat 110, Char.ofNat 105, Char.ofNat 111, Char.ofNat 110, Char.ofNat 108, Char.ofNat 97, Char.ofNat 119, Char.ofNat 48, Char.ofNat 49, Char.ofNat 46, Char.ofNat 87, Char.ofNat 105, Char.ofNat 100, Char.ofNat 101, Char.ofNat 76, Char.ofNat 101, Char.ofNat 110, Char.ofNat 115, Char.ofNat 32, Char.ofNat 116, Char.ofNat 114, Char.ofNat 117, Char.ofNat 110, Char.ofNat 110, Char.ofNat 105, Char.ofNat 111, Char.ofNat 110, Char.ofNat 47, Char.ofNat 116, Char.ofNat 114, Char.ofNat 117, Char.ofNat 110, Char.ofNat 110, Char.ofNat 105, Char.ofNat 111, Char.ofNat 110, Char.ofNat 108, Char.ofNat 97, Char.ofNat 119, Char.ofNat 48, Char.ofNat 49, Char.ofNat 46, Char.ofNat 87, Char.ofNat 105, Char.ofNat 100, Char.ofNat 101, Char.ofNat 83, Char.ofNat 117, Char.ofNat 109, Char.ofNat 115, Char.ofNat 32, Char.ofNat 116, Char.ofNat 114, Char.ofNat 117, Char.ofNat 110, Char.ofNat 110, Char.ofNat 105, Char.ofNat 111, Char.ofNat 110, Char.ofNat 47, Char.ofNat 116, Char.ofNat 114, Char.ofNat 117, Char.ofNat 110, Char.ofNat 110, Char.ofNat 105, Char.ofNat 111, Char.ofNat 110, Char.ofNat 108, Char.ofNat 97, Char.ofNat 119, Char.ofNat 48, Char.ofNat 56, Char.ofNat 46, Char.ofNat 79, Char.ofNat 114, Char.ofNat 100, Char.ofNat 101, Char.ofNat 114, Char.ofNat 80, Char.ofNat 105, Char.ofNat 99, Char.ofNat 107, Char.ofNat 115, Char.ofNat 32, Char.ofNat 116, Char.ofNat 114, Char.ofNat 117, Char.ofNat 110, Char.ofNat 110, Char.ofNat 105, Char.ofNat 111, Char.ofNat 110, Char.ofNat 47, Char.ofNat 116, Char.ofNat 114, Char.ofNat 117, Char.ofNat 110, Char.ofNat 110, Char.ofNat 105, Char.ofNat 111, Char.ofNat 110, Char.ofNat 108, Char.ofNat 97, Char.ofNat 119, Char.ofNat 48, Char.ofNat 50, Char.ofNat 46, Char.ofNat 83, Char.ofNat 104, Char.ofNat 97, Char.ofNat 112, Char.ofNat 101, Char.ofNat 66, Char.ofNat 97, Char.ofNat 99, Char.ofNat 107, Char.ofNat 32, Char.ofNat 116, Char.ofNat 114, Char.ofNat 117, Char.ofNat 110, Char.ofNat 110, Char.ofNat 105, Char.ofNat 111, Char.ofNat 110, Char.ofNat 47, Char.ofNat 116, Char.ofNat 114, Char.ofNat 117, Char.ofNat 110, Char.ofNat 110, Char.ofNat 105, Char.ofNat 111, Char.ofNat 110, Char.ofNat 108, Char.ofNat 97, Char.ofNat 119, Char.ofNat 48, Char.ofNat 56, Char.ofNat 46, Char.ofNat 79, Char.ofNat 114, Char.ofNat 100, Char.ofNat 101, Char.ofNat 114, Char.ofNat 65, Char.ofNat 115, Char.ofNat 107, Char.ofNat 115, Char.ofNat 32, Char.ofNat 116, Char.ofNat 114, Char.ofNat 117, Char.ofNat 110, Char.ofNat 110, Char.ofNat 105, Char.ofNat 111, Char.ofNat 110, Char.ofNat 47, Char.ofNat 116, Char.ofNat 114, Char.ofNat 117, Char.ofNat 110, Char.ofNat 110, Char.ofNat 105, Char.ofNat 111, Char.ofNat 110, Char.ofNat 108, Char.ofNat 97, Char.ofNat 119, Char.ofNat 48, Char.ofNat 56, Char.ofNat 46, Char.ofNat 79, Char.ofNat 114, Char.ofNat 100, Char.ofNat 101, Char.ofNat 114, Char.ofNat 75, Char.ofNat 101, Char.ofNat 101, Char.ofNat 112, Char.ofNat 115, Char.ofNat 32, Char.ofNat 116, Char.ofNat 114, Char.ofNat 117, Char.ofNat 110, Char.ofNat 110, Char.ofNat 105, Char.ofNat 111, Char.ofNat 110, Char.ofNat 47, Char.ofNat 116, Char.ofNat 114, Char.ofNat 117, Char.ofNat 110, Char.ofNat 110, Char.ofNat 105, Char.ofNat 111, Char.ofNat 110, Char.ofNat 108, Char.ofNat 97, Char.ofNat 119, Char.ofNat 48, Char.ofNat 56, Char.ofNat 46, Char.ofNat 79, Char.ofNat 114, Char.ofNat 100, Char.ofNat 101, Char.ofNat 114, Char.ofNat 67, Char.ofNat 104, Char.ofNat 97, Char.ofNat 105, Char.ofNat 110, Char.ofNat 32, Char.ofNat 116, Char.ofNat 114, Char.ofNat 117, Char.ofNat 110, Char.ofNat 110, Char.ofNat 105, Char.ofNat 111, Char.ofNat 110, Char.ofNat 47, Char.ofNat 116, Char.ofNat 114, Char.ofNat 117, Char.ofNat 110, Char.ofNat 110, Char.ofNat 105, Char.ofNat 111, Char.ofNat 110, Char.ofNat 108, Char.ofNat 97, Char.ofNat 119, Char.ofNat 49, Char.ofNat 51, Char.ofNat 46, Char.ofNat 73, Char.ofNat 110, Char.ofNat 116, Char.ofNat 115, Char.ofNat 66, Char.ofNat 97, Char.ofNat 99, Char.ofNat 107, Char.ofNat 32, Char.ofNat 116, Char.ofNat 114, Char.ofNat 117, Char.ofNat 110, Char.ofNat 110, Char.ofNat 105, Char.ofNat 111, Char.ofNat 110, Char.ofNat 47, Char.ofNat 116, Char.ofNat 114, Char.ofNat 117, Char.ofNat 110, Char.ofNat 110, Char.ofNat 105, Char.ofNat 111, Char.ofNat 110, Char.ofNat 108, Char.ofNat 97, Char.ofNat 119, Char.ofNat 48, Char.ofNat 49, Char.ofNat 46, Char.ofNat 87, Char.ofNat 105, Char.ofNat 100, Char.ofNat 101, Char.ofNat 68, Char.ofNat 105, Char.ofNat 118, Char.ofNat 115, Char.ofNat 32, Char.ofNat 116, Char.ofNat 114, Char.ofNat 117, Char.ofNat 110, Char.ofNat 110, Char.ofNat 105, Char.ofNat 111, Char.ofNat 110, Char.ofNat 47, Char.ofNat 116, Char.ofNat 114, Char.ofNat 117, Char.ofNat 110, Char.ofNat 110, Char.ofNat 105, Char.ofNat 111, Char.ofNat 110, Char.ofNat 108, Char.ofNat 97, Char.ofNat 119, Char.ofNat 48, Char.ofNat 49, Char.ofNat 46, Char.ofNat 87, Char.ofNat 105, Char.ofNat 100, Char.ofNat 101, Char.ofNat 66, Char.ofNat 97, Char.ofNat 99, Char.ofNat 107]
set_option maxRecDepth 100000 in
theorem head_list : Try.prog.initOrder.toList = w1 ++ Char.ofNat 32 :: (w2 ++ Char.ofNat 32 :: (w3 ++ Char.ofNat 32 :: tailSigns)) :=
  (congrArg String.toList (show Try.prog.initOrder = String.ofList (w1 ++ Char.ofNat 32 :: (w2 ++ Char.ofNat 32 :: (w3 ++ Char.ofNat 32 :: tailSigns))) from rfl)).trans String.toList_ofList
theorem words : ∃ rest, behindMainWord (wordsSigns Try.prog.initOrder.toList) = w3 :: rest := by
  refine ⟨wordsSigns tailSigns, ?_⟩
  rw [head_list, words_word w1 _ (by kernel_rfl), words_word w2 _ (by kernel_rfl), words_word w3 _ (by kernel_rfl)]
  generalize wordsSigns tailSigns = rest
  have e : ((w1 == "harness".toList || w1 == "ownmain".toList) && isSumSigns w2) = true := by kernel_rfl
  show (if ((w1 == "harness".toList || w1 == "ownmain".toList) && isSumSigns w2) = true then w3 :: rest else w1 :: w2 :: w3 :: rest) = w3 :: rest
  rw [if_pos e]
theorem c3 : (w3 == "gc".toList) = false ∧ (w3 == "spec".toList) = false ∧ (w3 == "cut".toList) = true ∧ (w3 == "carried".toList) = false ∧ (w3 == "finals".toList) = false := ⟨by kernel_rfl, by kernel_rfl, by kernel_rfl, by kernel_rfl, by kernel_rfl⟩
theorem strip (rest : List (List Char)) : stripLifts liftWords (w3 :: rest) = ([], w3 :: rest) := by
  have key : ∀ l : List String, l.all (fun o => !(w3 == o.toList)) = true → stripLifts l (w3 :: rest) = ([], w3 :: rest) := by
    intro l
    induction l with
    | nil => intro _; rfl
    | cons o l ih =>
      intro h
      rw [List.all_cons, Bool.and_eq_true] at h
      unfold stripLifts
      rw [if_neg (fun e => by have h1 := h.1; rw [e] at h1; cases h1)]
      exact ih h.2
  exact key liftWords (by kernel_rfl)
theorem make_of (P : Program) (h : ∃ rest, behindMainWord (wordsSigns P.initOrder.toList) = w3 :: rest) : P.make = some .cut := by
  obtain ⟨rest, h⟩ := h
  unfold Program.make
  rw [h]
  show (if (w3 == "gc".toList || w3 == "spec".toList) = true then some Make.whole else if (w3 == "cut".toList || (w3 == "finals".toList && rest.head? == some "cut".toList)) = true then some Make.cut else _) = some Make.cut
  rw [if_neg (by rw [c3.1, c3.2.1]; decide), if_pos (by rw [c3.2.2.1, Bool.true_or])]
set_option maxRecDepth 100000 in
theorem liftsFact : Try.prog.liftsFinal = false := by
  unfold Program.liftsFinal Program.headLifts
  rw [head_list]
  kernel_rfl
theorem doorFact : (!Try.prog.laysLater && !Try.prog.bearsReflect && Try.prog.doorFits []) = true := by kernel_rfl
theorem makeFact : Try.prog.make = some .cut := make_of _ words
theorem enter_of (P : Program) (h : ∃ rest, behindMainWord (wordsSigns P.initOrder.toList) = w3 :: rest) (d : (!P.laysLater && !P.bearsReflect && P.doorFits []) = true) : P.mayEnter = true := by
  obtain ⟨rest, h⟩ := h
  rw [Bool.and_eq_true, Bool.and_eq_true] at d
  have e : ((some w3 == some "cut".toList) : Bool) = true := by kernel_rfl
  unfold Program.mayEnter
  rw [h]
  show ((_ || _) || ((stripLifts liftWords (w3 :: rest)).2.head? == some "cut".toList && ((stripLifts liftWords (w3 :: rest)).1.contains "finals" || !P.laysLater) && ((stripLifts liftWords (w3 :: rest)).1.contains "reflectrows" || !P.bearsReflect) &&
      ((stripLifts liftWords (w3 :: rest)).1.contains "reflectrows" || !(stripLifts liftWords (w3 :: rest)).1.contains "leanrows") && P.doorFits (stripLifts liftWords (w3 :: rest)).1)) = true
  rw [strip, Bool.or_eq_true]
  refine .inr ?_
  rw [Bool.and_eq_true, Bool.and_eq_true, Bool.and_eq_true, Bool.and_eq_true, Bool.or_eq_true, Bool.or_eq_true]
  exact ⟨⟨⟨⟨e, .inr d.1.1⟩, .inr d.1.2⟩, rfl⟩, d.2⟩
theorem enterFact : Try.prog.mayEnter = true := enter_of _ words doorFact
end Go.Proofs.Ytmjfenbbgfohlaa.Facts
