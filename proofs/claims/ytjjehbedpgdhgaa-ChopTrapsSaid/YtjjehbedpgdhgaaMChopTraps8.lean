/- What the Go functions that the statement ChopTraps reaches compute, and the mathematics on it, in the order in which one leans on the other; for every input. -/
import Derived.Test.YtjjehbedpgdhgaaVChopTraps0
import Derived.Test.YtjjehbedpgdhgaaMChopTraps7
import Derived.Test.YtjjehbedpgdhgaaMChopTraps0
import Derived.Shelf.Strconv.Itoa0
import Derived.Shelf.Bits.Mul64
import Derived.Test.YtjjehbedpgdhgaaProg
import Derived.Test.YtjjehbedpgdhgaaMChopTraps2
import Derived.Test.YtjjehbedpgdhgaaMChopTraps4
import Derived.Deep.RegionHeld3
import Derived.Deep.DeepCutAuto
import Derived.BigRegion
import Derived.Test.YtjjehbedpgdhgaaMChopTraps3
import Derived.Shelf.Spec.BitsCarry
import Derived.StillTail
import Derived.OrdersHeld
import Derived.RegionTactic
import Derived.Test.YtjjehbedpgdhgaaMChopTraps1
import Derived.Test.YtjjehbedpgdhgaaMChopTraps5
import Derived.Test.YtjjehbedpgdhgaaMChopTraps6
import Derived.Test.YtjjehbedpgdhgaaRows
import Derived.ProofKit
import Derived.JoinedOf
import Derived.KernelRfl
section
set_option linter.unusedVariables false
set_option linter.unusedSimpArgs false
namespace Go.Proofs.Ytjjehbedpgdhgaa.Th
open Go.RowKit Go.Proofs.YtjjehbedpgdhgaaW.PrintWords Go.Proofs.YtjjehbedpgdhgaaW.PrintLast Go.Proofs.YtjjehbedpgdhgaaW.PrintMore Go.Proofs.Ytjjehbedpgdhgaa.PA Dig

theorem sub_loop (m n : Nat) (hmn : n ≤ m) (hm : (dg m).length < 1000000000000) (d : Nat) : ∀ (x : List Int) (c i : Nat), Ok x → x.length = i → c ≤ 1 → i ≤ (dg m).length →
    val x + n % 4294967296 ^ i = m % 4294967296 ^ i + c * 4294967296 ^ i → (dg m).length - i = d →
    Ev (fun k => r1_Sub.l0 k x c i (dg m) (dg n)) (dg (m - n)) := by
  induction d with
  | zero =>
    intro x c i hx hl hc hi hv hd
    have h1 := mod_len (n := m) (i := i) (by omega)
    have h2 : n % 4294967296 ^ i = n := Nat.mod_eq_of_lt (Nat.lt_of_le_of_lt hmn (lt_of_len (by omega)))
    rw [h1, h2] at hv
    have h3 := val_lt hx
    rw [hl] at h3
    have h4 := lt_of_len (n := m) (i := i) (by omega)
    refine Ev.step (fun _ => r1_Sub.l0.eq_2 ..) ?_
    refine Ev.neg (by omega) (Ev.bind (trim_val x hx (by omega)) (Ev.out ?_))
    congr 1
    rcases Nat.eq_zero_or_pos c with h | h
    · subst h; omega
    · obtain rfl : c = 1 := by omega
      omega
  | succ d ih =>
    intro x c i hx hl hc hi hv hd
    refine Ev.step (fun _ => r1_Sub.l0.eq_2 ..) ?_
    have er : rd (dg m) (i : Int) = ((m / 4294967296 ^ i % 4294967296 : Nat) : Int) := by unfold rd; rw [Int.toNat_natCast, getD_dg]
    refine Ev.pos (by omega) (Ev.pos (by omega) (Ev.bs (at_dg n i) (Ev.pos (by omega) ?_)))
    rw [er]
    have h1 := word_lt m i
    have h2 := word_lt n i
    have s1 := mod_succ m i
    have s2 := mod_succ n i
    generalize m / 4294967296 ^ i % 4294967296 = A at *
    generalize n / 4294967296 ^ i % 4294967296 = A' at *
    rw [u64_id (n := (A : Int) + 4294967296) (by omega) (by omega), u64_id (n := (A : Int) + 4294967296 - A') (by omega) (by omega), u64_id (n := (A : Int) + 4294967296 - A' - c) (by omega) (by omega), Int.tmod_eq_emod_of_nonneg (by omega), Int.tdiv_eq_ediv_of_nonneg (by omega),
      u64_id (n := ((A : Int) + 4294967296 - A' - c) / 4294967296) (by omega) (by omega), u64_id (by omega) (by omega), w64_id (by omega) (by omega)]
    rw [show ((A : Int) + 4294967296 - A' - c) % 4294967296 = (((A + 4294967296 - A' - c) % 4294967296 : Nat) : Int) by omega, show 1 - ((A : Int) + 4294967296 - A' - c) / 4294967296 = ((1 - (A + 4294967296 - A' - c) / 4294967296 : Nat) : Int) by omega, show (i : Int) + 1 = ((i + 1 : Nat) : Int) by omega]
    refine ih (x ++ [(((A + 4294967296 - A' - c) % 4294967296 : Nat) : Int)]) (1 - (A + 4294967296 - A' - c) / 4294967296) (i + 1) (hx.snoc (by omega)) (by simp [hl]) (by omega) (by omega) ?_ (by omega)
    rw [val_snoc, hl, s1, s2, Int.toNat_natCast, Nat.pow_succ]
    have h4 : c + (A + 4294967296 - A' - c) % 4294967296 + A' = A + 4294967296 * (1 - (A + 4294967296 - A' - c) / 4294967296) := by omega
    have h5 := congrArg (4294967296 ^ i * ·) h4
    simp only [Nat.mul_add] at h5
    rw [Nat.mul_comm (1 - _), Nat.mul_assoc]
    rw [Nat.mul_comm c] at hv
    omega
theorem sub_dg (m n : Nat) (hmn : n ≤ m) (hm : (dg m).length < 1000000000000) : Ev (fun k => r1_Sub.f k (dg m) (dg n)) (dg (m - n)) :=
  sub_loop m n hmn hm _ [] 0 0 Ok.nil rfl (by omega) (by omega) (by simp [val_nil, Nat.mod_one]) rfl

theorem shl_l2 (m q u : Nat) (hq : q < 1000000000) (hu : u ≤ 2147483648) (hu0 : 0 < u) (hm : (dg m).length < 1000000000000) (d : Nat) : ∀ (x : List Int) (c i : Nat), Ok x → x.length = q + i → c < u → i ≤ (dg m).length →
    val x + c * 4294967296 ^ (q + i) = (m % 4294967296 ^ i) * u * 4294967296 ^ q → (dg m).length - i = d →
    Ev (fun k => r1_Shl.l2 k x u c i (dg m)) (dg (m * u * 4294967296 ^ q)) := by
  induction d with
  | zero =>
    intro x c i hx hl hc hi hv hd
    have h1 := mod_len (n := m) (i := i) (by omega)
    rw [h1] at hv
    refine Ev.step (fun _ => r1_Shl.l2.eq_2 ..) ?_
    refine Ev.neg (by omega) (Ev.pos (by omega) (Ev.bind (trim_val _ (hx.snoc (by omega)) (by simp; omega)) (Ev.out ?_)))
    congr 1
    rw [val_snoc, hl, Int.toNat_natCast, Nat.mul_comm _ c]
    exact hv
  | succ d ih =>
    intro x c i hx hl hc hi hv hd
    refine Ev.step (fun _ => r1_Shl.l2.eq_2 ..) ?_
    have er : rd (dg m) (i : Int) = ((m / 4294967296 ^ i % 4294967296 : Nat) : Int) := by unfold rd; rw [Int.toNat_natCast, getD_dg]
    refine Ev.pos (by omega) (Ev.pos (by omega) (Ev.pos (by omega) ?_))
    rw [er]
    have h1 := word_lt m i
    have s1 := mod_succ m i
    generalize m / 4294967296 ^ i % 4294967296 = A at *
    have hau : A * u ≤ 4294967295 * u := Nat.mul_le_mul_right u (by omega)
    rw [← Int.natCast_mul, u64_id (n := ((A * u : Nat) : Int)) (by omega) (by omega), u64_id (by omega) (by omega), Int.tmod_eq_emod_of_nonneg (by omega), Int.tdiv_eq_ediv_of_nonneg (by omega), u64_id (by omega) (by omega), w64_id (by omega) (by omega)]
    rw [show (((A * u : Nat) : Int) + c) % 4294967296 = (((A * u + c) % 4294967296 : Nat) : Int) by omega, show (((A * u : Nat) : Int) + c) / 4294967296 = (((A * u + c) / 4294967296 : Nat) : Int) by omega, show (i : Int) + 1 = ((i + 1 : Nat) : Int) by omega]
    refine ih (x ++ [(((A * u + c) % 4294967296 : Nat) : Int)]) ((A * u + c) / 4294967296) (i + 1) (hx.snoc (by omega)) (by simp [hl]; omega) ?_ (by omega) ?_ (by omega)
    · rw [Nat.div_lt_iff_lt_mul (by decide)]; omega
    rw [val_snoc, hl, s1, Int.toNat_natCast, ← Nat.add_assoc, Nat.pow_succ]
    have h5 := Nat.mod_add_div (A * u + c) 4294967296
    have h6 := congrArg (4294967296 ^ (q + i) * ·) h5
    simp only [Nat.mul_add] at h6
    have h7 : 4294967296 ^ (q + i) * (A * u) = 4294967296 ^ i * A * u * 4294967296 ^ q := by
      rw [Nat.pow_add]; simp only [Nat.mul_comm, Nat.mul_left_comm, Nat.mul_assoc]
    have h8 : (m % 4294967296 ^ i + 4294967296 ^ i * A) * u * 4294967296 ^ q = (m % 4294967296 ^ i) * u * 4294967296 ^ q + 4294967296 ^ i * A * u * 4294967296 ^ q := by
      rw [Nat.add_mul, Nat.add_mul]
    rw [h8, ← h7, ← hv, Nat.mul_comm ((A * u + c) / 4294967296), Nat.mul_assoc, Nat.mul_comm c]
    omega
theorem shl_l1 (m n : Nat) (hn : n < 30000000000) (hm : (dg m).length < 1000000000000) (d : Nat) : ∀ (x : List Int) (j : Nat), Ok x → x.length = n / 32 → val x = 0 → j ≤ n % 32 → n % 32 - j = d →
    Ev (fun k => r1_Shl.l1 k n x (2 ^ j : Nat) j (dg m)) (dg (m * 2 ^ n)) := by
  have e : m * 2 ^ n = m * 2 ^ (n % 32) * 4294967296 ^ (n / 32) := by
    rw [show (4294967296 : Nat) = 2 ^ 32 by decide, ← Nat.pow_mul, Nat.mul_assoc, ← Nat.pow_add]
    congr 2; omega
  induction d with
  | zero =>
    intro x j hx hl hv hj hd
    obtain rfl : j = n % 32 := by omega
    refine Ev.step (fun _ => r1_Shl.l1.eq_2 ..) ?_
    rw [Int.tmod_eq_emod_of_nonneg (by omega)]
    refine Ev.neg (by omega) ?_
    rw [e]
    have hp : 2 ^ (n % 32) ≤ 2147483648 := by
      have : 2 ^ (n % 32) ≤ 2 ^ 31 := Nat.pow_le_pow_right (by decide) (by omega)
      simpa using this
    exact shl_l2 m (n / 32) (2 ^ (n % 32)) (by omega) hp (Nat.pow_pos (by decide)) hm _ x 0 0 hx (by simpa using hl) (Nat.pow_pos (by decide)) (by omega) (by simp [hv, Nat.mod_one]) rfl
  | succ d ih =>
    intro x j hx hl hv hj hd
    refine Ev.step (fun _ => r1_Shl.l1.eq_2 ..) ?_
    rw [Int.tmod_eq_emod_of_nonneg (by omega)]
    refine Ev.pos (by omega) ?_
    have hp : 2 ^ j ≤ 2147483648 := by
      have : 2 ^ j ≤ 2 ^ 31 := Nat.pow_le_pow_right (by decide) (by omega)
      simpa using this
    have h := ih x (j + 1) hx hl hv (by omega) (by omega)
    rw [Nat.pow_succ] at h
    generalize 2 ^ j = P at *
    rw [u64_id (by omega) (by omega), w64_id (by omega) (by omega)]
    rw [show (2 : Int) * (P : Int) = ((P * 2 : Nat) : Int) by omega, show (j : Int) + 1 = ((j + 1 : Nat) : Int) by omega]
    exact h
theorem shl_l0 (m n : Nat) (hn : n < 30000000000) (hm : (dg m).length < 1000000000000) (d : Nat) : ∀ (i : Nat), i ≤ n / 32 → n / 32 - i = d →
    Ev (fun k => r1_Shl.l0 k n (List.replicate i 0) i (dg m)) (dg (m * 2 ^ n)) := by
  induction d with
  | zero =>
    intro i hi hd
    refine Ev.step (fun _ => r1_Shl.l0.eq_2 ..) ?_
    rw [Int.tdiv_eq_ediv_of_nonneg (by omega), w64_id (by omega) (by omega)]
    refine Ev.neg (by omega) ?_
    exact shl_l1 m n hn hm _ _ 0 (ok_zeros _) (by simp; omega) (val_zeros _) (by omega) rfl
  | succ d ih =>
    intro i hi hd
    refine Ev.step (fun _ => r1_Shl.l0.eq_2 ..) ?_
    rw [Int.tdiv_eq_ediv_of_nonneg (by omega), w64_id (n := (n : Int) / 32) (by omega) (by omega), w64_id (by omega) (by omega)]
    refine Ev.pos (by omega) (Ev.pos (by simp; omega) ?_)
    have h := ih (i + 1) (by omega) (by omega)
    rw [← List.replicate_succ', show (i : Int) + 1 = ((i + 1 : Nat) : Int) by omega]
    exact h
theorem shl_dg (m n : Nat) (hn : n < 30000000000) (hm : (dg m).length < 1000000000000) : Ev (fun k => r1_Shl.f k (dg m) n) (dg (m * 2 ^ n)) :=
  shl_l0 m n hn hm _ 0 (by omega) rfl

def cmpN (m n : Nat) : Int := if m < n then -1 else if n < m then 1 else 0
theorem div_lt_of {m n p : Nat} (hp : 0 < p) (h : m / p < n / p) : m < n := by
  rcases Nat.lt_or_ge m n with h1 | h1
  · exact h1
  · have := Nat.div_le_div_right (c := p) h1; omega
theorem cmp_loop (m n : Nat) (i : Nat) : i < 1000000000000 → m / 4294967296 ^ i = n / 4294967296 ^ i → Ev (fun k => r1_Cmp.l0 k ((i : Int) - 1) (dg m) (dg n)) (cmpN m n) := by
  induction i with
  | zero =>
    intro hi h
    simp at h
    subst h
    refine Ev.step (fun _ => r1_Cmp.l0.eq_2 ..) ?_
    refine Ev.neg (by omega) (Ev.out ?_)
    simp [cmpN]
  | succ i ih =>
    intro hi h
    refine Ev.step (fun _ => r1_Cmp.l0.eq_2 ..) ?_
    rw [show ((i + 1 : Nat) : Int) - 1 = i by omega]
    refine Ev.pos (by omega) (Ev.bs (at_dg m i) (Ev.bs (at_dg n i) ?_))
    have s1 := div_step m i
    have s2 := div_step n i
    rw [h] at s1
    have hp : 0 < 4294967296 ^ i := Nat.pow_pos (by decide)
    by_cases h1 : m / 4294967296 ^ i % 4294967296 < n / 4294967296 ^ i % 4294967296
    · refine Ev.pos (Int.ofNat_lt.2 h1) (Ev.out ?_)
      rw [cmpN, if_pos (div_lt_of hp (by omega))]
    · refine Ev.neg (fun h' => h1 (Int.ofNat_lt.1 h')) ?_
      by_cases h2 : n / 4294967296 ^ i % 4294967296 < m / 4294967296 ^ i % 4294967296
      · refine Ev.pos (Int.ofNat_lt.2 h2) (Ev.out ?_)
        have := div_lt_of hp (show n / 4294967296 ^ i < m / 4294967296 ^ i by omega)
        rw [cmpN, if_neg (by omega), if_pos this]
      · refine Ev.neg (fun h' => h2 (Int.ofNat_lt.1 h')) ?_
        rw [w64_id (by omega) (by omega)]
        exact ih (by omega) (by omega)
theorem cmp_dg (m n : Nat) (hm : (dg m).length < 100000000000) (hn : (dg n).length < 100000000000) : Ev (fun k => r1_Cmp.f k (dg m) (dg n)) (cmpN m n) := by
  unfold r1_Cmp.f
  have hmx : mx ((dg m).length : Int) ((dg n).length : Int) = ((max (dg m).length (dg n).length : Nat) : Int) := by unfold mx; split <;> omega
  rw [hmx, w64_id (by omega) (by omega)]
  refine cmp_loop m n _ (by omega) ?_
  rw [Nat.div_eq_of_lt (lt_of_len (by omega)), Nat.div_eq_of_lt (lt_of_len (by omega))]

theorem uint_dg (n : Nat) : r1_Uint.f (dg n) = some ((n % 18446744073709551616 : Nat) : Int) := by
  unfold r1_Uint.f
  have h0 := at_dg n 0
  have h1 := at_dg n 1
  rw [show ((0 : Nat) : Int) = 0 from rfl] at h0
  rw [show ((1 : Nat) : Int) = 1 from rfl] at h1
  rw [h1, Option.bind_some, h0, Option.bind_some]
  simp only [Nat.pow_zero, Nat.div_one, Nat.pow_one]
  rw [u64_id (n := ((n / 4294967296 % 4294967296 : Nat) : Int) * 4294967296) (by omega) (by omega), u64_id (by omega) (by omega)]
  congr 1
  omega

def bl (n : Nat) : Nat := if n = 0 then 0 else n.log2 + 1
theorem bl_zero : bl 0 = 0 := rfl
theorem bl_half {n : Nat} (h : 0 < n) : bl n = bl (n / 2) + 1 := by
  unfold bl
  rw [if_neg (by omega)]
  by_cases h2 : n < 2
  · obtain rfl : n = 1 := by omega
    rfl
  · rw [if_neg (by omega), Nat.log2_def, if_pos (by omega)]
theorem bl_le {n k : Nat} : bl n ≤ k ↔ n < 2 ^ k := by
  unfold bl
  split
  · subst_vars; simp [Nat.pow_pos]
  · rw [← Nat.log2_lt ‹_›]; omega
theorem lt_bl {n k : Nat} : k < bl n ↔ 2 ^ k ≤ n := by
  have := @bl_le n k; omega
theorem bl_shift (n k : Nat) (h : 0 < n) : bl (n * 2 ^ k) = bl n + k := by
  refine Nat.le_antisymm ?_ ?_
  · rw [bl_le, Nat.pow_add]
    exact Nat.mul_lt_mul_of_pos_right (bl_le.1 (Nat.le_refl _)) (Nat.pow_pos (by decide))
  · have h1 : 2 ^ (bl n - 1) ≤ n := lt_bl.1 (by have := (lt_bl (n := n) (k := 0)).2 (by rw [Nat.pow_zero]; omega); omega)
    have h0 : 0 < bl n := (lt_bl (n := n) (k := 0)).2 (by rw [Nat.pow_zero]; omega)
    have h2 : bl n + k - 1 < bl (n * 2 ^ k) := by
      rw [lt_bl, show bl n + k - 1 = (bl n - 1) + k by omega, Nat.pow_add]
      exact Nat.mul_le_mul_right _ h1
    omega
theorem bl_add_low (a b k : Nat) (ha : 0 < a) (hb : b < 2 ^ k) : bl (a * 2 ^ k + b) = bl a + k := by
  refine Nat.le_antisymm ?_ ?_
  · rw [bl_le, Nat.pow_add]
    have h1 : a + 1 ≤ 2 ^ bl a := bl_le.1 (Nat.le_refl _)
    have h2 := Nat.mul_le_mul_right (2 ^ k) h1
    rw [Nat.add_mul] at h2
    omega
  · rw [← bl_shift a k ha]
    have h0 : 0 < bl (a * 2 ^ k) := (lt_bl (n := a * 2 ^ k) (k := 0)).2 (by rw [Nat.pow_zero]; exact Nat.mul_pos ha (Nat.pow_pos (by decide)))
    have h1 : bl (a * 2 ^ k) - 1 < bl (a * 2 ^ k + b) := by
      rw [lt_bl]
      have : 2 ^ (bl (a * 2 ^ k) - 1) ≤ a * 2 ^ k := lt_bl.1 (by omega)
      omega
    omega
theorem bl_mono {m n : Nat} (h : m ≤ n) : bl m ≤ bl n := by
  rw [bl_le]; exact Nat.lt_of_le_of_lt h (bl_le.1 (Nat.le_refl _))
theorem lt_two_bl (n : Nat) : n < 2 ^ bl n := bl_le.1 (Nat.le_refl _)
theorem bl_pos {n : Nat} : 0 < bl n ↔ 0 < n := by
  have := (lt_bl (n := n) (k := 0)); rw [Nat.pow_zero] at this; omega
theorem two_bl_le {n : Nat} (h : 0 < n) : 2 ^ (bl n - 1) ≤ n := lt_bl.1 (by have := bl_pos.2 h; omega)
theorem bl_shl (m k : Nat) : bl (m * 2 ^ k) ≤ bl m + k := by
  rw [bl_le, Nat.pow_add]
  exact Nat.mul_lt_mul_of_pos_right (lt_two_bl m) (Nat.pow_pos (by decide))
theorem bl_one : bl 1 = 1 := by decide
theorem pow32 (k : Nat) : (4294967296 : Nat) ^ k = 2 ^ (32 * k) := by
  rw [show (4294967296 : Nat) = 2 ^ 32 by decide, ← Nat.pow_mul]
theorem len_bl (n : Nat) : (dg n).length ≤ bl n / 32 + 1 := by
  refine len_le ?_
  rw [pow32]
  exact bl_le.1 (by omega)
theorem len_loop (t : Nat) : ∀ (s : Nat), t < 18446744073709551616 → s + bl t < 1000000000000 → Ev (fun k => r1_Len.l0 k s t) ((s + bl t : Nat) : Int) := by
  induction t using Nat.strongRecOn with
  | _ t ih =>
    intro s ht hs
    refine Ev.step (fun _ => r1_Len.l0.eq_2 ..) ?_
    rcases Nat.eq_zero_or_pos t with h | h
    · subst h
      exact Ev.neg (by omega) (Ev.out (by simp [bl_zero]))
    · refine Ev.pos (by omega) ?_
      rw [Int.tdiv_eq_ediv_of_nonneg (by omega), u64_id (by omega) (by omega), w64_id (by omega) (by omega), bl_half h]
      rw [show (t : Int) / 2 = ((t / 2 : Nat) : Int) by omega, show (s : Int) + 1 = ((s + 1 : Nat) : Int) by omega, show s + (bl (t / 2) + 1) = s + 1 + bl (t / 2) by omega]
      exact ih (t / 2) (by omega) (s + 1) (by omega) (by have := bl_half h; omega)
theorem len_dg (m : Nat) (hm : bl m < 1000000000) : Ev (fun k => r1_Len.f k (dg m)) ((bl m : Nat) : Int) := by
  have hL := len_bl m
  unfold r1_Len.f
  rcases Nat.eq_zero_or_pos m with h | h
  · subst h
    rw [dg_zero]
    exact Ev.pos rfl (Ev.out rfl)
  · have h0 := len_pos.2 h
    generalize hl : (dg m).length = L at *
    have e : wrap64 ((L : Int) - 1) = ((L - 1 : Nat) : Int) := by rw [w64_id (by omega) (by omega)]; omega
    rw [e, w64_id (n := 32 * ((L - 1 : Nat) : Int)) (by omega) (by omega)]
    refine Ev.neg (by omega) (Ev.pos (by omega) (Ev.pos (by omega) ?_))
    have er : rd (dg m) ((L - 1 : Nat) : Int) = ((m / 4294967296 ^ (L - 1) % 4294967296 : Nat) : Int) := by unfold rd; rw [Int.toNat_natCast, getD_dg]
    have hw := word_lt m (L - 1)
    have htop : m / 4294967296 ^ (L - 1) % 4294967296 = m / 4294967296 ^ (L - 1) := by
      refine Nat.mod_eq_of_lt ?_
      rw [Nat.div_lt_iff_lt_mul (Nat.pow_pos (by decide)), Nat.mul_comm, ← Nat.pow_succ]
      exact lt_of_len (by omega)
    have hpos : 0 < m / 4294967296 ^ (L - 1) := by
      refine Nat.div_pos ?_ (Nat.pow_pos (by decide))
      rcases Nat.lt_or_ge m (4294967296 ^ (L - 1)) with h1 | h1
      · have := len_le h1; omega
      · exact h1
    rw [er, htop]
    rw [htop] at hw
    have hm2 : bl m = bl (m / 4294967296 ^ (L - 1)) + 32 * (L - 1) := by
      have h1 := Nat.div_add_mod m (4294967296 ^ (L - 1))
      have h2 : m % 4294967296 ^ (L - 1) < 4294967296 ^ (L - 1) := Nat.mod_lt _ (Nat.pow_pos (by decide))
      rw [pow32] at h1 h2 ⊢
      have h3 := bl_add_low (m / 2 ^ (32 * (L - 1))) (m % 2 ^ (32 * (L - 1))) (32 * (L - 1)) (by rw [pow32] at hpos; exact hpos) h2
      rw [Nat.mul_comm, h1] at h3
      exact h3
    rw [hm2, Nat.add_comm, show (32 : Int) * ((L - 1 : Nat) : Int) = ((32 * (L - 1) : Nat) : Int) by omega]
    exact len_loop _ _ (Nat.lt_trans hw (by decide)) (by rw [Nat.add_comm, ← hm2]; clear hm2 htop er hw hpos; omega)

theorem add_bl (m n : Nat) (hm : bl m < 1000000000) (hn : bl n < 1000000000) : Ev (fun k => r1_Add.f k (dg m) (dg n)) (dg (m + n)) := add_dg m n (by have := len_bl m; omega) (by have := len_bl n; omega)
theorem sub_bl (m n : Nat) (hmn : n ≤ m) (hm : bl m < 1000000000) : Ev (fun k => r1_Sub.f k (dg m) (dg n)) (dg (m - n)) := sub_dg m n hmn (by have := len_bl m; omega)
theorem shl_bl (m n : Nat) (hn : n < 30000000000) (hm : bl m < 1000000000) : Ev (fun k => r1_Shl.f k (dg m) n) (dg (m * 2 ^ n)) := shl_dg m n hn (by have := len_bl m; omega)
theorem cmp_bl (m n : Nat) (hm : bl m < 1000000000) (hn : bl n < 1000000000) : Ev (fun k => r1_Cmp.f k (dg m) (dg n)) (cmpN m n) := cmp_dg m n (by have := len_bl m; omega) (by have := len_bl n; omega)
theorem bl64 {n : Nat} (h : n < 18446744073709551616) : bl n ≤ 64 := bl_le.2 h

end Go.Proofs.Ytjjehbedpgdhgaa.Th
end
section
set_option linter.unusedVariables false
set_option linter.unusedSimpArgs false
namespace Go.Proofs.Ytjjehbedpgdhgaa.Th
open Go.RowKit Go.Proofs.YtjjehbedpgdhgaaW.PrintWords Go.Proofs.YtjjehbedpgdhgaaW.PrintLast Go.Proofs.YtjjehbedpgdhgaaW.PrintMore Go.Proofs.Ytjjehbedpgdhgaa.PA Bit Flo Dig
theorem inf_pos (w : Int) (hw : w = 32 ∨ w = 64) : 0 < (fmt w).inf := by rcases hw with rfl | rfl <;> decide
theorem kinds (w : Int) (hw : w = 32 ∨ w = 64) (a : Nat) : (magN w a = 0 ∧ opn w a = (sgB w a, 0, 0, 0)) ∨ (0 < magN w a ∧ magN w a < (fmt w).inf ∧ opn w a = (sgB w a, 1, (fmt w).ex (magN w a), ((fmt w).sg (magN w a) : Int))) ∨ (magN w a = (fmt w).inf ∧ opn w a = (sgB w a, 2, 0, 0)) ∨ ((fmt w).inf < magN w a ∧ opn w a = (false, 3, 0, 0)) := by
  have h0 := inf_pos w hw
  unfold opn; simp only
  by_cases h1 : magN w a = 0
  · left; rw [if_pos h1]; exact ⟨h1, rfl⟩
  · right; rw [if_neg h1]
    by_cases h2 : magN w a < (fmt w).inf
    · left; rw [if_pos h2]; exact ⟨by omega, h2, rfl⟩
    · right; rw [if_neg h2]
      by_cases h3 : magN w a = (fmt w).inf
      · left; rw [if_pos h3]; exact ⟨h3, rfl⟩
      · right; rw [if_neg h3]; exact ⟨by omega, rfl⟩
theorem ex_bd (w : Int) (hw : w = 32 ∨ w = 64) (m : Nat) (h : m < (fmt w).inf) : -1074 ≤ (fmt w).ex m ∧ (fmt w).ex m ≤ 971 := by
  rcases hw with rfl | rfl
  · rw [fmt32, inf32] at h; rw [fmt32, ex32]; split <;> omega
  · rw [fmt64, inf64] at h; rw [fmt64, ex64]; split <;> omega
theorem sg_64 (w : Int) (hw : w = 32 ∨ w = 64) (m : Nat) : (fmt w).sg m < 9007199254740992 := by
  have h := (fmt w).sg_lt m
  rcases hw with rfl | rfl
  · rw [fmt32] at h ⊢; rw [show (2 : Nat) ^ (f32.f + 1) = 16777216 by decide] at h; omega
  · rw [fmt64] at h ⊢; rw [show (2 : Nat) ^ (f64.f + 1) = 9007199254740992 by decide] at h; omega
theorem mn_le (a b : Int) : mn a b ≤ a ∧ mn a b ≤ b := by unfold mn; split <;> omega
end Go.Proofs.Ytjjehbedpgdhgaa.Th
end
section
set_option linter.unusedVariables false
set_option linter.unusedSimpArgs false
namespace Go.Proofs.Ytjjehbedpgdhgaa.Th
open Go.RowKit Go.Proofs.YtjjehbedpgdhgaaW.PrintWords Go.Proofs.YtjjehbedpgdhgaaW.PrintLast Go.Proofs.YtjjehbedpgdhgaaW.PrintMore Go.Proofs.Ytjjehbedpgdhgaa.PA Bit Dig
def wn (h l : Nat) : Nat := h * 18446744073709551616 + l
theorem wn_hi {h l : Nat} (hl : l < 18446744073709551616) : wn h l / 18446744073709551616 = h := by unfold wn; omega
theorem wn_lo {h l : Nat} (hl : l < 18446744073709551616) : wn h l % 18446744073709551616 = l := by unfold wn; omega
theorem wn_div (V : Nat) : wn (V / 18446744073709551616) (V % 18446744073709551616) = V := by unfold wn; omega
theorem wn_lt {h l : Nat} (hh : h < 18446744073709551616) (hl : l < 18446744073709551616) : wn h l < 340282366920938463463374607431768211456 := by unfold wn; omega
theorem p128 : (340282366920938463463374607431768211456 : Nat) = 2 ^ 128 := by decide
theorem p64 : (18446744073709551616 : Nat) = 2 ^ 64 := by decide
theorem shlN (c n : Nat) (hn : n < 64) : shl .u64 (c : Int) (n : Int) = ((c * 2 ^ n % 18446744073709551616 : Nat) : Int) := by
  unfold shl
  rw [show min ((n : Int)).toNat IntKind.u64.bits = n by rw [show IntKind.u64.bits = 64 by decide]; omega, IntKind.wrap_u64]
  have hp : (2 : Int) ^ n = ((2 ^ n : Nat) : Int) := by rw [Int.natCast_pow]; rfl
  rw [hp, ← Int.natCast_mul]; omega
theorem shrN' (c n : Nat) (hn : n < 64) : shr .u64 (c : Int) (n : Int) = ((c / 2 ^ n : Nat) : Int) := by
  unfold shr
  rw [show min ((n : Int)).toNat IntKind.u64.bits = n by rw [show IntKind.u64.bits = 64 by decide]; omega]
  have hp : (2 : Int) ^ n = ((2 ^ n : Nat) : Int) := by rw [Int.natCast_pow]; rfl
  rw [hp]; omega
theorem or_add (x y n : Nat) (hn : n ≤ 64) (hx : 2 ^ n ∣ x) (hy : y < 2 ^ n) (h : x < 18446744073709551616) (h2 : y < 18446744073709551616) : Go.bits .or .u64 (x : Int) (y : Int) = ((x + y : Nat) : Int) := by
  rw [u64_or_nat x y h h2]
  congr 1
  obtain ⟨c, rfl⟩ := hx
  rw [Nat.or_comm, Nat.mul_comm, or_pow y c n hy]; omega
theorem left_arith (h l n : Nat) (h0 : 0 < n) (hn : n < 64) (hl : l < 2 ^ 64) :
    wn h l * 2 ^ n % 2 ^ 128 / 2 ^ 64 = h * 2 ^ n % 2 ^ 64 + l / 2 ^ (64 - n) ∧ wn h l * 2 ^ n % 2 ^ 128 % 2 ^ 64 = l * 2 ^ n % 2 ^ 64 ∧ 2 ^ n ∣ h * 2 ^ n % 2 ^ 64 ∧ l / 2 ^ (64 - n) < 2 ^ n := by
  have hd : l / 2 ^ (64 - n) < 2 ^ n := by
    rw [Nat.div_lt_iff_lt_mul (Nat.pow_pos (by decide)), ← Nat.pow_add, show n + (64 - n) = 64 by omega]; exact hl
  have e64 : 2 ^ 64 = 2 ^ n * 2 ^ (64 - n) := by rw [← Nat.pow_add]; congr 1; omega
  have hdv : 2 ^ n ∣ h * 2 ^ n % 2 ^ 64 := by
    rw [e64]; exact (Nat.dvd_mod_iff (Nat.dvd_mul_right _ _)).2 (Nat.dvd_mul_left _ _)
  have hq : l * 2 ^ n = l / 2 ^ (64 - n) * 2 ^ 64 + l * 2 ^ n % 2 ^ 64 := by
    have h1 := Nat.div_add_mod (l * 2 ^ n) (2 ^ 64)
    have h2 : l * 2 ^ n / 2 ^ 64 = l / 2 ^ (64 - n) := by
      rw [e64, Nat.mul_comm l, Nat.mul_div_mul_left _ _ (Nat.pow_pos (by decide))]
    rw [h2, Nat.mul_comm] at h1
    omega
  have hlow := Nat.mod_lt (l * 2 ^ n) (show 0 < 2 ^ 64 by decide)
  have hhi := Nat.mod_lt (h * 2 ^ n) (show 0 < 2 ^ 64 by decide)
  have hh := Nat.div_add_mod (h * 2 ^ n) (2 ^ 64)
  have hv : wn h l * 2 ^ n = 2 ^ 128 * (h * 2 ^ n / 2 ^ 64) + ((h * 2 ^ n % 2 ^ 64 + l / 2 ^ (64 - n)) * 2 ^ 64 + l * 2 ^ n % 2 ^ 64) := by
    unfold wn
    rw [Nat.add_mul, p64, Nat.mul_right_comm, hq]
    generalize h * 2 ^ n = u at *
    generalize l * 2 ^ n % 2 ^ 64 = v at *
    rw [show (2 : Nat) ^ 128 = 340282366920938463463374607431768211456 by decide]
    rw [show (2 : Nat) ^ 64 = 18446744073709551616 by decide] at *
    omega
  have hs : h * 2 ^ n % 2 ^ 64 + l / 2 ^ (64 - n) < 2 ^ 64 := by
    obtain ⟨c, hc⟩ := hdv
    have h3 : c < 2 ^ (64 - n) := by
      rw [hc, e64] at hhi
      exact Nat.lt_of_mul_lt_mul_left hhi
    have h4 : 2 ^ n * (c + 1) ≤ 2 ^ n * 2 ^ (64 - n) := Nat.mul_le_mul_left _ h3
    rw [← e64, Nat.mul_add, Nat.mul_one, ← hc] at h4
    omega
  have hm : wn h l * 2 ^ n % 2 ^ 128 = (h * 2 ^ n % 2 ^ 64 + l / 2 ^ (64 - n)) * 2 ^ 64 + l * 2 ^ n % 2 ^ 64 := by
    rw [hv, Nat.mul_add_mod, Nat.mod_eq_of_lt]
    generalize h * 2 ^ n % 2 ^ 64 + l / 2 ^ (64 - n) = s at *
    generalize l * 2 ^ n % 2 ^ 64 = v at *
    rw [show (2 : Nat) ^ 128 = 340282366920938463463374607431768211456 by decide]
    rw [show (2 : Nat) ^ 64 = 18446744073709551616 by decide] at *
    omega
  refine ⟨?_, ?_, hdv, hd⟩
  · rw [hm, Nat.mul_comm, Nat.mul_add_div (by decide), Nat.div_eq_of_lt hlow, Nat.add_zero]
  · rw [hm, Nat.mul_comm, Nat.mul_add_mod, Nat.mod_mod]
def lfV (a : Nat) (n : Int) : Nat := a * 2 ^ n.toNat % 340282366920938463463374607431768211456
theorem leftW (h l : Nat) (n : Int) (hh : h < 18446744073709551616) (hl : l < 18446744073709551616) (hn : n < 9223372036854775808) :
    wide_Left.f h l n = some (((lfV (wn h l) n / 18446744073709551616 : Nat) : Int), ((lfV (wn h l) n % 18446744073709551616 : Nat) : Int)) := by
  unfold wide_Left.f lfV
  have hw := wn_lt hh hl
  by_cases h0 : n ≤ 0
  · rw [if_pos h0, show n.toNat = 0 by omega, Nat.pow_zero, Nat.mul_one, Nat.mod_eq_of_lt hw, wn_hi hl, wn_lo hl]
  · rw [if_neg h0]
    obtain ⟨m, rfl⟩ := Int.eq_ofNat_of_zero_le (show 0 ≤ n by omega)
    rw [Int.toNat_natCast]
    by_cases h1 : (m : Int) ≥ 128
    · rw [if_pos h1, p128, show m = 128 + (m - 128) by omega, Nat.pow_add, Nat.mul_left_comm, Nat.mul_mod_right]; rfl
    · rw [if_neg h1]
      by_cases h2 : (m : Int) ≥ 64
      · rw [if_pos h2, w64_id (by omega) (by omega), if_pos (by omega), show (m : Int) - 64 = ((m - 64 : Nat) : Int) by omega, shlN _ _ (by omega)]
        have e : wn h l * 2 ^ m % 340282366920938463463374607431768211456 = l * 2 ^ (m - 64) % 18446744073709551616 * 18446744073709551616 := by
          rw [show 2 ^ m = 2 ^ (m - 64) * 18446744073709551616 by rw [p64, ← Nat.pow_add]; congr 1; omega, ← Nat.mul_assoc, show (340282366920938463463374607431768211456 : Nat) = 18446744073709551616 * 18446744073709551616 by decide, Nat.mul_mod_mul_right]
          congr 1
          unfold wn
          rw [Nat.add_mul, Nat.mul_right_comm, Nat.add_comm, Nat.add_mul_mod_self_right]
        rw [e, Nat.mul_div_cancel _ (by decide), Nat.mul_mod_left]; rfl
      · rw [if_neg h2, if_pos (by omega), w64_id (by omega) (by omega), if_pos (by omega), show (64 : Int) - m = ((64 - m : Nat) : Int) by omega, shlN _ _ (by omega), shlN _ _ (by omega), shrN' _ _ (by omega)]
        obtain ⟨k1, k2, k3, k4⟩ := left_arith h l m (by omega) (by omega) hl
        rw [← p64] at k1 k2 k3
        rw [← p128] at k1 k2
        have k5 := Nat.mod_lt (h * 2 ^ m) (show 0 < 18446744073709551616 by decide)
        have k6 := Nat.div_le_self l (2 ^ (64 - m))
        rw [or_add _ _ m (by omega) k3 k4 (by omega) (by omega), k1, k2]
theorem ofW (n : Nat) : wide_Of.f n = some (0, (n : Int)) := rfl
theorem wn_ne (V h l : Nat) (hV : V < 340282366920938463463374607431768211456) (hl : l < 18446744073709551616) :
    (!(((V / 18446744073709551616 : Nat) : Int) == (h : Int)) || !(((V % 18446744073709551616 : Nat) : Int) == (l : Int))) = decide (V ≠ wn h l) := by
  have e : (((V / 18446744073709551616 : Nat) : Int) == (h : Int)) = decide (V / 18446744073709551616 = h) := by
    rw [Bool.eq_iff_iff]; simp; omega
  have e2 : (((V % 18446744073709551616 : Nat) : Int) == (l : Int)) = decide (V % 18446744073709551616 = l) := by
    rw [Bool.eq_iff_iff]; simp; omega
  rw [e, e2]
  have h3 : V = wn h l ↔ V / 18446744073709551616 = h ∧ V % 18446744073709551616 = l := by
    unfold wn; omega
  by_cases h1 : V / 18446744073709551616 = h <;> by_cases h2 : V % 18446744073709551616 = l <;> simp [h1, h2, h3]
theorem or_add' (x y n : Nat) (hn : n ≤ 64) (hx : 2 ^ n ∣ x) (hy : y < 2 ^ n) (h : x < 18446744073709551616) (h2 : y < 18446744073709551616) : Go.bits .or .u64 (y : Int) (x : Int) = ((y + x : Nat) : Int) := by
  rw [u64_or_nat y x h2 h]
  congr 1
  obtain ⟨c, rfl⟩ := hx
  rw [Nat.mul_comm, or_pow y c n hy]
theorem gen_hi (B C h l : Nat) (hC : 0 < C) : (h * (B * C) + l) / C = h * B + l / C := by
  rw [← Nat.mul_assoc, Nat.mul_comm (h * B) C, Nat.mul_add_div hC]
theorem right_arith (h l n : Nat) (h0 : 0 < n) (hn : n < 64) (hh : h < 2 ^ 64) (hl : l < 2 ^ 64) :
    wn h l / 2 ^ n / 2 ^ 64 = h / 2 ^ n ∧ wn h l / 2 ^ n % 2 ^ 64 = l / 2 ^ n + h * 2 ^ (64 - n) % 2 ^ 64 ∧ 2 ^ (64 - n) ∣ h * 2 ^ (64 - n) % 2 ^ 64 ∧ l / 2 ^ n < 2 ^ (64 - n) := by
  have p0 : 0 < 2 ^ n := Nat.pow_pos (by decide)
  have p1 : 0 < 2 ^ (64 - n) := Nat.pow_pos (by decide)
  have e64 : 2 ^ 64 = 2 ^ (64 - n) * 2 ^ n := by rw [← Nat.pow_add]; congr 1; omega
  have hd : l / 2 ^ n < 2 ^ (64 - n) := by rw [Nat.div_lt_iff_lt_mul p0, ← e64]; exact hl
  have hdv : 2 ^ (64 - n) ∣ h * 2 ^ (64 - n) % 2 ^ 64 := by
    rw [e64]; exact (Nat.dvd_mod_iff (Nat.dvd_mul_right _ _)).2 (Nat.dvd_mul_left _ _)
  have hq : wn h l / 2 ^ n = h * 2 ^ (64 - n) + l / 2 ^ n := by
    unfold wn; rw [p64, e64]; exact gen_hi _ _ h l p0
  have hx : h * 2 ^ (64 - n) / 2 ^ 64 = h / 2 ^ n := by
    rw [e64, Nat.mul_comm (2 ^ (64 - n)), Nat.mul_div_mul_right _ _ p1]
  have hm := Nat.div_add_mod (h * 2 ^ (64 - n)) (2 ^ 64)
  have hlt := Nat.mod_lt (h * 2 ^ (64 - n)) (show 0 < 2 ^ 64 by decide)
  have hs : h * 2 ^ (64 - n) % 2 ^ 64 + l / 2 ^ n < 2 ^ 64 := by
    obtain ⟨c, hc⟩ := hdv
    have h3 : c < 2 ^ n := by
      rw [hc, e64] at hlt
      exact Nat.lt_of_mul_lt_mul_left hlt
    have h4 : 2 ^ (64 - n) * (c + 1) ≤ 2 ^ (64 - n) * 2 ^ n := Nat.mul_le_mul_left _ h3
    rw [← e64, Nat.mul_add, Nat.mul_one, ← hc] at h4
    omega
  rw [hx] at hm
  rw [hq]
  generalize h * 2 ^ (64 - n) % 2 ^ 64 = u at *
  generalize l / 2 ^ n = v at *
  rw [← hm, Nat.add_assoc]
  refine ⟨?_, ?_, hdv, hd⟩
  · rw [Nat.mul_add_div (by decide), Nat.div_eq_of_lt hs, Nat.add_zero]
  · rw [Nat.mul_add_mod, Nat.mod_eq_of_lt hs, Nat.add_comm]
theorem lost_iff (a p : Nat) (h : a < 340282366920938463463374607431768211456) : (a / p * p) % 340282366920938463463374607431768211456 ≠ a ↔ a % p ≠ 0 := by
  have h1 := Nat.div_add_mod a p
  rw [Nat.mul_comm] at h1
  have h2 : a / p * p < 340282366920938463463374607431768211456 := by omega
  rw [Nat.mod_eq_of_lt h2]
  omega
def rgV (a : Nat) (n : Int) : Nat := a / 2 ^ n.toNat
theorem rightW (h l : Nat) (n : Int) (hh : h < 18446744073709551616) (hl : l < 18446744073709551616) (hn : n < 9223372036854775808) :
    wide_Right.f h l n = some (((rgV (wn h l) n / 18446744073709551616 : Nat) : Int), ((rgV (wn h l) n % 18446744073709551616 : Nat) : Int), decide (wn h l % 2 ^ n.toNat ≠ 0)) := by
  unfold wide_Right.f rgV
  have hw := wn_lt hh hl
  by_cases h0 : n ≤ 0
  · rw [if_pos h0, show n.toNat = 0 by omega, Nat.pow_zero, Nat.div_one, Nat.mod_one, wn_hi hl, wn_lo hl]; rfl
  · rw [if_neg h0]
    obtain ⟨m, rfl⟩ := Int.eq_ofNat_of_zero_le (show 0 ≤ n by omega)
    rw [Int.toNat_natCast]
    have key : ∀ Q : Nat, Q = wn h l / 2 ^ m → (!(((lfV (wn (Q / 18446744073709551616) (Q % 18446744073709551616)) (m : Int) / 18446744073709551616 : Nat) : Int) == (h : Int)) || !(((lfV (wn (Q / 18446744073709551616) (Q % 18446744073709551616)) (m : Int) % 18446744073709551616 : Nat) : Int) == (l : Int))) = decide (wn h l % 2 ^ m ≠ 0) := by
      intro Q hQ
      rw [wn_div]
      unfold lfV
      rw [Int.toNat_natCast, hQ, wn_ne _ h l (Nat.mod_lt _ (by decide)) hl, decide_eq_decide]
      exact lost_iff _ _ hw
    by_cases h1 : (m : Int) ≥ 128
    · rw [if_pos h1]
      have hb : wn h l < 2 ^ m := Nat.lt_of_lt_of_le hw (by rw [p128]; exact Nat.pow_le_pow_right (by decide) (by omega))
      rw [Nat.div_eq_of_lt hb, Nat.mod_eq_of_lt hb]
      have e := wn_ne 0 h l (by decide) hl
      have e2 : (!((h : Int) == 0) || !((l : Int) == 0)) = decide (wn h l ≠ 0) := by
        rw [Bool.eq_iff_iff]; simp; unfold wn; omega
      rw [e2]; rfl
    · rw [if_neg h1]
      by_cases h2 : (m : Int) ≥ 64
      · rw [if_pos h2, w64_id (by omega) (by omega), show (m : Int) - 64 = ((m - 64 : Nat) : Int) by omega, shrN' _ _ (by omega)]
        have hQ : h / 2 ^ (m - 64) = wn h l / 2 ^ m := by
          rw [show 2 ^ m = 18446744073709551616 * 2 ^ (m - 64) by rw [p64, ← Nat.pow_add]; congr 1; omega, ← Nat.div_div_eq_div_mul, wn_hi hl]
        have hq1 := Nat.div_le_self h (2 ^ (m - 64))
        have k := key _ hQ
        rw [← hQ]
        generalize h / 2 ^ (m - 64) = q at *
        rw [Nat.div_eq_of_lt (show q < 18446744073709551616 by omega), Nat.mod_eq_of_lt (show q < 18446744073709551616 by omega)] at k ⊢
        have lw := leftW 0 q (m : Int) (by decide) (by omega) (by omega)
        rw [show ((0 : Nat) : Int) = 0 from rfl] at lw
        rw [lw, Option.bind_some]
        show some (0, (q : Int), _) = _
        rw [k]; rfl
      · rw [if_neg h2, w64_id (by omega) (by omega), show (64 : Int) - m = ((64 - m : Nat) : Int) by omega, shrN' _ _ (by omega), shrN' _ _ (by omega), shlN _ _ (by omega)]
        obtain ⟨k1, k2, k3, k4⟩ := right_arith h l m (by omega) (by omega) hh hl
        rw [← p64] at k1 k2 k3
        have k5 := Nat.mod_lt (h * 2 ^ (64 - m)) (show 0 < 18446744073709551616 by decide)
        have k6 := Nat.div_le_self l (2 ^ m)
        have k7 := Nat.div_le_self h (2 ^ m)
        rw [or_add' _ _ (64 - m) (by omega) k3 k4 (by omega) (by omega)]
        have k := key _ rfl
        rw [k1, k2] at k
        rw [k1, k2]
        have lw := leftW (h / 2 ^ m) (l / 2 ^ m + h * 2 ^ (64 - m) % 18446744073709551616) (m : Int) (by omega) (by rw [← k2]; exact Nat.mod_lt _ (by decide)) (by omega)
        rw [lw, Option.bind_some, k]
end Go.Proofs.Ytjjehbedpgdhgaa.Th
end
section
set_option linter.unusedVariables false
set_option linter.unusedSimpArgs false
namespace Go.Proofs.Ytjjehbedpgdhgaa.Th
open Go.RowKit Go.Proofs.YtjjehbedpgdhgaaW.PrintWords Go.Proofs.YtjjehbedpgdhgaaW.PrintLast Go.Proofs.YtjjehbedpgdhgaaW.PrintMore Go.Proofs.Ytjjehbedpgdhgaa.PA Bit Dig Flo
def amt (w : Int) (m : Nat) : Nat :=
  if (fmt w).inf ≤ m then 18446744073709551616 else
  if (fmt w).ex m ≤ 0 then (fmt w).sg m / 2 ^ (-(fmt w).ex m).toNat else
  if (fmt w).sg m * 2 ^ (mn ((fmt w).ex m) 70).toNat < 18446744073709551616 then (fmt w).sg m * 2 ^ (mn ((fmt w).ex m) 70).toNat else 18446744073709551616
def loN (tt : Int) (sd : Bool) : Nat := if sd then (if tt = 32 then 2147483648 else 9223372036854775808) else 0
def hiN (tt : Int) (sd : Bool) : Nat := if sd then (if tt = 32 then 2147483647 else 9223372036854775807) else (if tt = 32 then 4294967295 else 18446744073709551615)
theorem ends (tt : Int) (ht : tt = 32 ∨ tt = 64) (sd : Bool) : chop_Ends.f tt sd = some ((loN tt sd : Int), (hiN tt sd : Int)) := by
  rcases ht with rfl | rfl <;> cases sd <;> decide +kernel
theorem lo_lt (tt : Int) (sd : Bool) : loN tt sd ≤ 9223372036854775808 := by unfold loN; split <;> (try split) <;> omega
theorem hi_lt (tt : Int) (sd : Bool) : hiN tt sd ≤ 18446744073709551615 := by unfold hiN; split <;> split <;> omega
theorem cknown (w : Int) (hw : w = 32 ∨ w = 64) : chop_known.f w = some true := by rcases hw with rfl | rfl <;> rfl
def outc (tt : Int) (sd s : Bool) (A : Nat) : Int := if s then (if loN tt sd < A then 2 else 0) else if hiN tt sd < A then 3 else 0
theorem sizedS (tt : Int) (ht : tt = 32 ∨ tt = 64) (sd s : Bool) (A : Nat) : Ev (fun k => chop_sized.f k s A tt sd) (outc tt sd s A) := by
  unfold chop_sized.f outc
  refine Ev.bs (ends tt ht sd) ?_
  cases s
  · refine Ev.neg (by decide) (Ev.step (fun _ => chop_sized.j0.eq_2 ..) (Ev.neg (by decide) (Ev.neg (by decide) ?_)))
    by_cases h : hiN tt sd < A
    · exact Ev.pos (show (A : Int) > (hiN tt sd : Int) by omega) (Ev.out (if_pos h).symm)
    · exact Ev.neg (show ¬ ((A : Int) > (hiN tt sd : Int)) by omega) (Ev.out (if_neg h).symm)
  · refine Ev.pos rfl (Ev.step (fun _ => chop_sized.j0.eq_2 ..) ?_)
    by_cases h : loN tt sd < A
    · exact Ev.pos (decide_eq_true (show (A : Int) > (loN tt sd : Int) by omega)) (Ev.out (if_pos h).symm)
    · exact Ev.neg (fun h2 => absurd (of_decide_eq_true h2) (show ¬ ((A : Int) > (loN tt sd : Int)) by omega)) (Ev.pos rfl (Ev.out (if_neg h).symm))
theorem wnz (x : Nat) : wn 0 x = x := by unfold wn; omega
theorem amount_le (b : Bool) (g : Nat) (e : Int) (hg : g < 9007199254740992) (he : -1074 ≤ e) (h : e ≤ 0) : chop_amount.f b 1 e g = some (((g / 2 ^ (-e).toNat : Nat) : Int), true) := by
  unfold chop_amount.f
  have hq := Nat.div_le_self g (2 ^ (-e).toNat)
  rw [if_pos h, ofW g, Option.bind_some, w64_id (n := -e) (by omega) (by omega)]
  show (wide_Right.f ((0 : Nat) : Int) (g : Int) (-e)).bind (fun bt => some (bt.2.1, true)) = _
  rw [rightW 0 g (-e) (by decide) (by omega) (by omega), Option.bind_some]
  unfold rgV
  rw [wnz, Nat.mod_eq_of_lt (by omega)]
theorem amount_gt (b : Bool) (g : Nat) (e : Int) (hg : g < 9007199254740992) (he : e ≤ 971) (h : ¬ e ≤ 0) : chop_amount.f b 1 e g = some (((g * 2 ^ (mn e 70).toNat % 18446744073709551616 : Nat) : Int), decide (g * 2 ^ (mn e 70).toNat < 18446744073709551616)) := by
  unfold chop_amount.f
  have hm : mn e 70 ≤ 70 := (mn_le e 70).2
  have hp : 2 ^ (mn e 70).toNat ≤ 2 ^ 70 := Nat.pow_le_pow_right (by decide) (by omega)
  have hx : g * 2 ^ (mn e 70).toNat ≤ 9007199254740992 * 2 ^ 70 := Nat.mul_le_mul (by omega) hp
  rw [show (9007199254740992 : Nat) * 2 ^ 70 = 10633823966279326983230456482242756608 by decide] at hx
  rw [if_neg h, ofW g, Option.bind_some]
  show (wide_Left.f ((0 : Nat) : Int) (g : Int) (mn e 70)).bind (fun bt => some (bt.2, bt.1 == 0)) = _
  rw [leftW 0 g (mn e 70) (by decide) (by omega) (by omega), Option.bind_some]
  unfold lfV
  rw [wnz, Nat.mod_eq_of_lt (show g * 2 ^ (mn e 70).toNat < 340282366920938463463374607431768211456 by omega)]
  generalize g * 2 ^ (mn e 70).toNat = v at *
  congr 1
  have e1 : (((v / 18446744073709551616 : Nat) : Int) == 0) = decide (v < 18446744073709551616) := by
    by_cases h1 : v < 18446744073709551616
    · rw [decide_eq_true h1, beq_iff_eq]; omega
    · rw [decide_eq_false h1, beq_eq_false_iff_ne]; omega
  rw [e1]
def satR (tt : Int) (sd s : Bool) (A : Nat) : Nat := if s then (if loN tt sd < A then loN tt sd else cutN tt ((18446744073709551616 - A) % 18446744073709551616)) else (if hiN tt sd < A then hiN tt sd else A)
theorem cut_hi (tt : Int) (ht : tt = 32 ∨ tt = 64) (sd : Bool) (A : Nat) (h : ¬ hiN tt sd < A) : cutN tt A = A := by
  unfold hiN at h; unfold cutN
  rcases ht with rfl | rfl
  · rw [if_pos rfl]; cases sd <;> simp at h <;> omega
  · rw [if_neg (by decide), if_pos rfl]
theorem neg_wrap (A : Nat) (h : A < 18446744073709551616) : IntKind.u64.wrap (-(A : Int)) = (((18446744073709551616 - A) % 18446744073709551616 : Nat) : Int) := by
  rw [IntKind.wrap_u64]; omega
def pOf (tt : Int) (sd s : Bool) (A : Nat) : Int × Int := if A = 18446744073709551616 then (0, if s then 2 else 3) else (if s then ((cutN tt ((18446744073709551616 - A) % 18446744073709551616) : Nat) : Int) else ((cutN tt A : Nat) : Int), outc tt sd s A)
theorem sat_end (tt : Int) (ht : tt = 32 ∨ tt = 64) (sd s : Bool) (A : Nat) (hA : A ≤ 18446744073709551616) :
    (if (pOf tt sd s A).2 = 1 then some 0 else if (pOf tt sd s A).2 = 2 then some (loN tt sd : Int) else if (pOf tt sd s A).2 = 3 then some (hiN tt sd : Int) else some (pOf tt sd s A).1) = some ((satR tt sd s A : Nat) : Int) := by
  have h1 := lo_lt tt sd
  have h2 := hi_lt tt sd
  unfold pOf satR
  by_cases hh : A = 18446744073709551616
  · rw [if_pos hh]
    cases s
    · simp only [Bool.false_eq_true, if_false]
      rw [if_pos (show hiN tt sd < A by omega)]; rfl
    · simp only [if_true]
      rw [if_pos (show loN tt sd < A by omega)]; rfl
  · rw [if_neg hh]
    unfold outc
    cases s
    · simp only [Bool.false_eq_true, if_false]
      by_cases h : hiN tt sd < A
      · simp only [if_pos h]; rfl
      · simp only [if_neg h]; rw [cut_hi tt ht sd A h]; rfl
    · simp only [if_true]
      by_cases h : loN tt sd < A
      · simp only [if_pos h]; rfl
      · simp only [if_neg h]; rfl
theorem amt_le (w : Int) (m : Nat) (hs : (fmt w).sg m < 9007199254740992) : amt w m ≤ 18446744073709551616 := by
  unfold amt
  have := Nat.div_le_self ((fmt w).sg m) (2 ^ (-(fmt w).ex m).toNat)
  split
  · omega
  · split
    · omega
    · split <;> omega
theorem chop_tail (tt : Int) (ht : tt = 32 ∨ tt = 64) (sd s : Bool) (A : Nat) (hA : A < 18446744073709551616) (x11 : Int) :
    Ev (fun k => if ((A : Int), true).2 = true then (chop_sized.f k s ((A : Int), true).1 tt sd).bind fun t147 => (if s = true then ((shape_Cut.f tt (IntKind.u64.wrap (-((A : Int), true).1))).bind fun t148 => (some (t148, t147))) else ((shape_Cut.f tt ((A : Int), true).1).bind fun t149 => (some (t149, t147)))) else some (0, x11)) (pOf tt sd s A) := by
  unfold pOf
  rw [if_neg (by omega)]
  refine Ev.pos rfl (Ev.bind (sizedS tt ht sd s A) ?_)
  cases s
  · refine Ev.neg (by decide) (Ev.bs (shCut tt A hA) (Ev.out rfl))
  · refine Ev.pos rfl ?_
    rw [neg_wrap A hA]
    exact Ev.bs (shCut tt _ (Nat.mod_lt _ (by decide))) (Ev.out rfl)
theorem chop_fin (w : Int) (hw : w = 32 ∨ w = 64) (tt : Int) (ht : tt = 32 ∨ tt = 64) (sd s : Bool) (m : Nat) (hm : m < (fmt w).inf) :
    Ev (fun k => chop_chopped.j0 k tt sd (if s then 2 else 3) s 1 ((fmt w).ex m) ((fmt w).sg m : Int)) (pOf tt sd s (amt w m)) := by
  obtain ⟨b1, b2⟩ := ex_bd w hw m hm
  have b3 := sg_64 w hw m
  refine Ev.step (fun _ => chop_chopped.j0.eq_2 ..) (Ev.neg (by decide) (Ev.neg (by decide) (Ev.neg (by decide) ?_)))
  unfold amt
  rw [if_neg (show ¬ (fmt w).inf ≤ m by omega)]
  by_cases h : (fmt w).ex m ≤ 0
  · rw [if_pos h]
    have hq := Nat.div_le_self ((fmt w).sg m) (2 ^ (-(fmt w).ex m).toNat)
    exact Ev.bs (amount_le s _ _ b3 b1 h) (chop_tail tt ht sd s _ (by omega) _)
  · rw [if_neg h]
    have q := amount_gt s _ _ b3 b2 h
    by_cases h2 : (fmt w).sg m * 2 ^ (mn ((fmt w).ex m) 70).toNat < 18446744073709551616
    · rw [if_pos h2]
      rw [decide_eq_true h2, Nat.mod_eq_of_lt h2] at q
      exact Ev.bs q (chop_tail tt ht sd s _ h2 _)
    · rw [if_neg h2]
      rw [decide_eq_false h2] at q
      refine Ev.bs q (Ev.neg Bool.false_ne_true (Ev.out ?_))
      unfold pOf
      rw [if_pos rfl]
theorem chopS (w : Int) (hw : w = 32 ∨ w = 64) (tt : Int) (ht : tt = 32 ∨ tt = 64) (sd : Bool) (a : Nat) (ha : a < 18446744073709551616) (hn : nn w a = false) :
    Ev (fun k => chop_chopped.f k w tt a sd) (pOf tt sd (sgB w a) (amt w (magN w a))) := by
  unfold chop_chopped.f
  refine Ev.bind (openS w hw a ha) ?_
  have hi := inf_pos w hw
  rcases kinds w hw a with ⟨k1, k2⟩ | ⟨k0, k1, k2⟩ | ⟨k1, k2⟩ | ⟨k1, k2⟩
  · rw [k2, k1]
    have e : amt w 0 = 0 := by
      unfold amt
      have e0 : (fmt w).sg 0 = 0 := by rcases hw with rfl | rfl <;> decide
      have e1 : (fmt w).ex 0 ≤ 0 := by rcases hw with rfl | rfl <;> decide
      rw [if_neg (by omega), if_pos e1, e0, Nat.zero_div]
    rw [e]
    have ec : cutN tt 0 = 0 := by unfold cutN; split <;> (try split) <;> rfl
    have ep : ∀ s, pOf tt sd s 0 = (0, 0) := fun s => by
      unfold pOf outc
      rw [if_neg (by decide), Nat.sub_zero, Nat.mod_self, ec]
      cases s <;> rfl
    rw [ep]
    have jj : ∀ x s, Ev (fun k => chop_chopped.j0 k tt sd x s 0 0 0) ((0, 0) : Int × Int) := fun x s =>
      Ev.step (fun _ => chop_chopped.j0.eq_2 ..) (Ev.neg (by decide) (Ev.neg (by decide) (Ev.pos rfl (Ev.out rfl))))
    cases sgB w a
    · exact Ev.neg Bool.false_ne_true (jj _ _)
    · exact Ev.pos rfl (jj _ _)
  · rw [k2]
    have f := fun s => chop_fin w hw tt ht sd s (magN w a) k1
    cases sgB w a
    · exact Ev.neg Bool.false_ne_true (f false)
    · exact Ev.pos rfl (f true)
  · rw [k2]
    have e : amt w (magN w a) = 18446744073709551616 := by unfold amt; rw [if_pos (by omega)]
    rw [e]
    have jj : ∀ x s, Ev (fun k => chop_chopped.j0 k tt sd x s 2 0 0) (0, x) := fun x s =>
      Ev.step (fun _ => chop_chopped.j0.eq_2 ..) (Ev.neg (by decide) (Ev.pos rfl (Ev.out rfl)))
    unfold pOf
    rw [if_pos rfl]
    cases sgB w a
    · exact Ev.neg Bool.false_ne_true (jj _ _)
    · exact Ev.pos rfl (jj _ _)
  · have : nn w a = true := by unfold nn; rw [k2]; rfl
    rw [this] at hn; cases hn
theorem satS (w : Int) (hw : w = 32 ∨ w = 64) (tt : Int) (ht : tt = 32 ∨ tt = 64) (sd : Bool) (a : Nat) (ha : a < 18446744073709551616) (hn : nn w a = false) :
    Ev (fun k => chop_Sat.f k w tt a sd) ((satR tt sd (sgB w a) (amt w (magN w a)) : Nat) : Int) := by
  unfold chop_Sat.f
  refine Ev.bs (cknown w hw) (Ev.pos rfl (Ev.bs (cknown tt ht) (Ev.step (fun _ => chop_Sat.j0.eq_2 ..) (Ev.neg (by decide) (Ev.bs (ends tt ht sd) (Ev.bind (chopS w hw tt ht sd a ha hn) ?_))))))
  have h := sat_end tt ht sd (sgB w a) (amt w (magN w a)) (amt_le w _ (sg_64 w hw _))
  exact h ▸ Ev.out rfl
theorem ex_pos_sg (w : Int) (hw : w = 32 ∨ w = 64) (m : Nat) (h : 0 < (fmt w).ex m) : 0 < (fmt w).sg m := by
  rcases hw with rfl | rfl
  · rw [fmt32] at h ⊢
    rw [ex32] at h; rw [sg32]
    split at h
    · omega
    · rw [if_neg (by assumption)]; omega
  · rw [fmt64] at h ⊢
    rw [ex64] at h; rw [sg64]
    split at h
    · omega
    · rw [if_neg (by assumption)]; omega
theorem amt_zero (w : Int) (hw : w = 32 ∨ w = 64) : amt w 0 = 0 := by
  have hi := inf_pos w hw
  unfold amt
  have e0 : (fmt w).sg 0 = 0 := by rcases hw with rfl | rfl <;> decide
  have e1 : (fmt w).ex 0 ≤ 0 := by rcases hw with rfl | rfl <;> decide
  rw [if_neg (by omega), if_pos e1, e0, Nat.zero_div]
theorem trapS (w : Int) (hw : w = 32 ∨ w = 64) (tt : Int) (ht : tt = 32 ∨ tt = 64) (sd : Bool) (a : Nat) (ha : a < 18446744073709551616) (hn : nn w a = false) (r : Int × Int)
    (h : (if (pOf tt sd (sgB w a) (amt w (magN w a))).2 = 1 then some (0, 4) else if (pOf tt sd (sgB w a) (amt w (magN w a))).2 = 2 then some (0, 3) else if (pOf tt sd (sgB w a) (amt w (magN w a))).2 = 3 then some (0, 3) else some ((pOf tt sd (sgB w a) (amt w (magN w a))).1, 0)) = some r) :
    Ev (fun k => chop_Trap.f k w tt a sd) r := by
  unfold chop_Trap.f
  refine Ev.bs (cknown w hw) (Ev.pos rfl (Ev.bs (cknown tt ht) (Ev.step (fun _ => chop_Trap.j0.eq_2 ..) (Ev.neg (by decide) (Ev.bind (chopS w hw tt ht sd a ha hn) ?_)))))
  exact h ▸ Ev.out rfl
theorem awake12 : Ev (fun k => L12_awake.f k) true := by
  unfold L12_awake.f
  have t1 := trapS 64 (.inr rfl) 32 (.inl rfl) false 13829653735729319117 (by decide) (by decide +kernel) (0, 0) (by decide +kernel)
  have t2 := trapS 64 (.inr rfl) 32 (.inl rfl) false 13840687554816376832 (by decide) (by decide +kernel) (0, 3) (by decide +kernel)
  have s1 := satS 64 (.inr rfl) 32 (.inl rfl) false 13840687554816376832 (by decide) (by decide +kernel)
  have s2 := satS 64 (.inr rfl) 32 (.inl rfl) true 4617315517961601024 (by decide) (by decide +kernel)
  rw [show satR 32 false (sgB 64 13840687554816376832) (amt 64 (magN 64 13840687554816376832)) = 0 by decide +kernel] at s1
  rw [show satR 32 true (sgB 64 4617315517961601024) (amt 64 (magN 64 4617315517961601024)) = 5 by decide +kernel] at s2
  exact Ev.bind t1 (Ev.bind t2 (Ev.pos rfl (Ev.pos rfl (Ev.pos rfl (Ev.bind s1 (Ev.pos rfl (Ev.bind s2 (Ev.out rfl))))))))
end Go.Proofs.Ytjjehbedpgdhgaa.Th
end
set_option linter.unusedVariables false
set_option linter.unusedSimpArgs false
namespace Flo
namespace Fmt
variable (F : Fmt)
def fin (q n : Nat) : Nat :=
  if n = 2 ^ (F.f + 1) then (if F.top < q + 3 then F.inf else (q + 2) * 2 ^ F.f)
  else if F.top < q + 2 then F.inf else if n < 2 ^ F.f then n else (q + 1) * 2 ^ F.f + (n - 2 ^ F.f)
end Fmt
end Flo
set_option linter.unusedVariables false
set_option linter.unusedSimpArgs false
namespace Flo
namespace Fmt
variable (F : Fmt)
theorem Rnd.congr {U V : Nat → Prop} {r : Nat} (h : F.Rnd U r) (i : ∀ m, U m ↔ V m) : F.Rnd V r := ⟨h.1, fun m hm => (i m).1 (h.2.1 m hm), fun hr u => h.2.2 hr ((i r).2 u)⟩
end Fmt
end Flo
set_option linter.unusedVariables false
set_option linter.unusedSimpArgs false
namespace Flo
namespace Fmt
variable (F : Fmt)
theorem inf_pos : 0 < F.inf := Nat.mul_pos (by have := F.ht; omega) F.pow_pos
end Fmt
end Flo
section
set_option linter.unusedVariables false
set_option linter.unusedSimpArgs false
namespace Go.Proofs.Ytjjehbedpgdhgaa.Th
open Go.RowKit Go.Proofs.YtjjehbedpgdhgaaW.PrintWords Go.Proofs.YtjjehbedpgdhgaaW.PrintLast Go.Proofs.YtjjehbedpgdhgaaW.PrintMore Go.Proofs.Ytjjehbedpgdhgaa.PA Dig

theorem one_dg : Ev (fun k => r1_Of.f k 1) (dg 1) := of_dg 1 (by decide)
theorem cmp_nonneg (m n : Nat) : cmpN m n ≥ 0 ↔ n ≤ m := by unfold cmpN; split <;> (try split) <;> omega
theorem div_loop (A n : Nat) (hn0 : 0 < n) (hA : bl A < 100000000) (hn : bl n < 100000000) (s : Nat) : ∀ (q m : Nat), s < 100000000 → q * n + m = A → m < n * 2 ^ s →
    Ev (fun k => r1_Div.l0 k ((s : Int) - 1) (dg n) (dg q) (dg m)) (dg (A / n), dg (A % n)) := by
  induction s with
  | zero =>
    intro q m _ he hm
    refine Ev.step (fun _ => r1_Div.l0.eq_2 ..) ?_
    refine Ev.neg (by omega) (Ev.out ?_)
    rw [Nat.pow_zero, Nat.mul_one] at hm
    have h1 : A / n = q := by rw [← he, Nat.mul_comm, Nat.mul_add_div hn0, Nat.div_eq_of_lt hm, Nat.add_zero]
    have h2 : A % n = m := by rw [← he, Nat.mul_comm, Nat.mul_add_mod, Nat.mod_eq_of_lt hm]
    rw [h1, h2]
  | succ s ih =>
    intro q m hs he hm
    have e1 : (((s + 1 : Nat) : Int) - 1) = ((s : Nat) : Int) := by omega
    rw [e1]
    have hm2 : m ≤ A := by omega
    have hq2 : q ≤ A := Nat.le_trans (Nat.le_mul_of_pos_right q hn0) (by omega)
    have b1 := bl_mono hm2
    have b2 := bl_mono hq2
    have b3 := bl_shl n s
    have hw : wrap64 ((s : Int) - 1) = (s : Int) - 1 := w64_id (by omega) (by omega)
    refine Ev.step (fun _ => r1_Div.l0.eq_2 ..) ?_
    rw [hw]
    refine Ev.pos (by omega) (Ev.bind (shl_bl n s (by omega) (by omega)) (Ev.bind (cmp_bl m (n * 2 ^ s) (by omega) (by omega)) ?_))
    by_cases h : n * 2 ^ s ≤ m
    · refine Ev.pos ((cmp_nonneg _ _).2 h) (Ev.bind (sub_bl m (n * 2 ^ s) h (by omega)) (Ev.bind one_dg (Ev.bind (shl_bl 1 s (by omega) (by decide)) ?_)))
      have h3 : 2 ^ s ≤ A := Nat.le_trans (Nat.le_mul_of_pos_left _ hn0) (Nat.le_trans h hm2)
      have b4 := bl_mono h3
      rw [Nat.one_mul]
      refine Ev.bind (add_bl q (2 ^ s) (by omega) (by omega)) (ih (q + 2 ^ s) (m - n * 2 ^ s) (by omega) ?_ ?_)
      · rw [Nat.add_mul, Nat.mul_comm (2 ^ s) n]; omega
      · rw [Nat.pow_succ, ← Nat.mul_assoc] at hm; omega
    · exact Ev.neg (fun h' => h ((cmp_nonneg _ _).1 h')) (ih q m (by omega) he (by omega))
theorem div_dg (a b : Nat) (hb : 0 < b) (ha1 : bl a < 100000000) (hb1 : bl b < 100000000) : Ev (fun k => r1_Div.f k (dg a) (dg b)) (dg (a / b), dg (a % b)) := by
  unfold r1_Div.f
  refine Ev.bind (len_dg a (by omega)) (Ev.bind (len_dg b (by omega)) ?_)
  rw [w64_id (by omega) (by omega)]
  by_cases h : bl b ≤ bl a
  · rw [show ((bl a : Nat) : Int) - ((bl b : Nat) : Int) = (((bl a - bl b + 1 : Nat) : Int) - 1) by omega, ← dg_zero]
    have h4 := bl_pos.2 hb
    refine div_loop a b hb ha1 hb1 (bl a - bl b + 1) 0 a (by omega) (by simp) ?_
    have h1 := lt_two_bl a
    have h2 := two_bl_le hb
    have h3 : 2 ^ (bl b - 1) * 2 ^ (bl a - bl b + 1) ≤ b * 2 ^ (bl a - bl b + 1) := Nat.mul_le_mul_right _ h2
    rw [← Nat.pow_add, show bl b - 1 + (bl a - bl b + 1) = bl a by omega] at h3
    omega
  · refine Ev.step (fun _ => r1_Div.l0.eq_2 ..) ?_
    have h1 : a < b := by
      rcases Nat.lt_or_ge a b with h1 | h1
      · exact h1
      · exact absurd (bl_mono h1) h
    refine Ev.neg (by omega) (Ev.out ?_)
    rw [Nat.div_eq_of_lt h1, Nat.mod_eq_of_lt h1, dg_zero]
end Go.Proofs.Ytjjehbedpgdhgaa.Th
end
/- What the Go methods by which a number is rounded do to their receiver, for every receiver and every input in their bounds. -/
namespace Go.Proofs.Ytjjehbedpgdhgaa.PA
open Go.RowKit Go.Proofs.YtjjehbedpgdhgaaW.PrintWords Go.Proofs.YtjjehbedpgdhgaaW.PrintLast Go.Proofs.YtjjehbedpgdhgaaW.PrintMore
attribute [local go_sem] max2_int min2_int max_two min_two max_three min_three max_four min_four   -- for this text's walks alone
set_option linter.unusedVariables false
set_option linter.unusedSimpArgs false
structure rp_PK (b : Nat) (h l e : Int) (m : Bool) (w w' : World) : Prop where
  c0 : w'.cell? ⟨b, 0, none⟩ = some (.int .u64 h)
  c1 : w'.cell? ⟨b, 1, none⟩ = some (.int .u64 l)
  c2 : w'.cell? ⟨b, 2, none⟩ = some (.int .i64 e)
  c3 : w'.cell? ⟨b, 3, none⟩ = some (.bool m)
  cs : ∀ i, 4 ≤ i → w'.cell? ⟨b, i, none⟩ = w.cell? ⟨b, i, none⟩
  fs : ∀ i, w'.frozen? ⟨b, i, none⟩ = w.frozen? ⟨b, i, none⟩
  bl : Below b w w'
theorem rp_PK.lt {b : Nat} {h l e : Int} {m : Bool} {w w1 : World} (P : rp_PK b h l e m w w1) : b < w1.heap.size := World.block_lt_of_cell? w1 _ P.c0
theorem rp_PK.below {b : Nat} {h l e : Int} {m : Bool} {w w1 w2 : World} (P : rp_PK b h l e m w w1) (hb : Below w1.heap.size w1 w2) : rp_PK b h l e m w w2 :=
  ⟨((Nr.bcell hb).1 b 0 P.lt).trans P.c0, ((Nr.bcell hb).1 b 1 P.lt).trans P.c1, ((Nr.bcell hb).1 b 2 P.lt).trans P.c2, ((Nr.bcell hb).1 b 3 P.lt).trans P.c3, fun i hi => ((Nr.bcell hb).1 b i P.lt).trans (P.cs i hi), fun i => ((Nr.bcell hb).2 b i P.lt).trans (P.fs i), P.bl.trans (hb.mono (Nat.le_of_lt P.lt))⟩
theorem rp_PK.alloc {b : Nat} {h l e : Int} {m : Bool} {w w1 : World} (P : rp_PK b h l e m w w1) (x : Obj) : rp_PK b h l e m w (w1.alloc x) := P.below (below_alloc (Below.refl _ _) x)
theorem rp_PK.drew {b : Nat} {h l e : Int} {m : Bool} {w w1 : World} (P : rp_PK b h l e m w w1) : rp_PK b h l e m w w1.drew := P.below (below_drew1 (Below.refl _ _))
theorem rp_PK.trans {b : Nat} {h l e h' l' e' : Int} {m m' : Bool} {w w1 w2 : World} (P : rp_PK b h l e m w w1) (Q : rp_PK b h' l' e' m' w1 w2) : rp_PK b h' l' e' m' w w2 :=
  ⟨Q.c0, Q.c1, Q.c2, Q.c3, fun i hi => (Q.cs i hi).trans (P.cs i hi), fun i => (Q.fs i).trans (P.fs i), P.bl.trans Q.bl⟩
end Go.Proofs.Ytjjehbedpgdhgaa.PA
set_option linter.unusedVariables false
namespace Go.Proofs.Ytjjehbedpgdhgaa.Reg
open Go
section
variable {P : Program} {ops : Array Oper} {Q : Exit → Act → World → Prop} {S : World → Prop} {n : Nat}
def T (P : Program) (ops : Array Oper) (Q : Exit → Act → World → Prop) (S : World → Prop) (n : Nat) : Nat → Array Bool → Act → World → Prop
  | 0, l, a, w => Region.ready .any ops l = [] ∧ Q .normal a w
  | f + 1, l, a, w => (Region.ready .any ops l = [] → Q .normal a w) ∧ ∀ i ∈ Region.ready .any ops l, wpOp P ops Q i (fun a' w' => (i < n → S w') ∧ T P ops Q S n f (l.setIfInBounds i true) a' w') a w
theorem T.any : ∀ (f : Nat) (l : Array Bool) (a : Act) (w : World), T P ops Q S n f l a w → wpAny P .any ops Q f l a w
  | 0, _, _, _, h => h
  | f + 1, l, _, _, h => ⟨h.1, fun i hi => wpOp_mono (fun a' w' k => T.any f _ a' w' k.2) (h.2 i hi)⟩
def G (P : Program) (ops : Array Oper) (Q : Exit → Act → World → Prop) (S : World → Prop) (n f : Nat) (l : Array Bool) (a : Act) (w : World) : Prop := HeadInv .any ops n l → S w → T P ops Q S n f l a w
theorem T.first {i : Nat} {oi : Oper} {v : Value} (hi : ops[i]? = some oi) (hsel : ∀ (j : Nat) (o : Oper) cs b, ops[j]? = some o → o.op ≠ .select cs b)
    (hQ : ∀ c a w, Q (.panic c) (a.put oi.dst v) w → Q (.panic c) a w) (hs : Region.sinkB .any ops n = true) (hc : Region.chainB .any ops n = true) (hn : n < ops.size) (hin : i < n) :
    ∀ (f : Nat) (l : Array Bool) (a : Act) (w : World), HeadInv .any ops n l →
      (∀ j oj, ops[j]? = some oj → j ≠ i → l.getD j true = false → (∀ e ∈ oj.after, Region.binds .any e = true → e.on ≠ i) → oi.apart ops oj = true) →
      i ∈ Region.ready .any ops l → YieldsIf P ops S oi v a → S w → T P ops Q S n f (l.setIfInBounds i true) (a.put oi.dst v) w → T P ops Q S n (f + 1) l a w := by
  intro f
  induction f with
  | zero =>
    intro l a w _ _ hr hy hS H
    refine ⟨fun h => absurd hr (by rw [h]; simp), fun j hj => ?_⟩
    rcases Nat.decEq j i with hji | rfl
    · exact absurd (ready_mono hj hji) (by rw [H.1]; simp)
    · exact hy.wpOp hi hS ⟨fun _ => hS, H⟩
  | succ f ih =>
    intro l a w inv hfree hr hy hS H
    have hun := (mem_ready.1 hr).1
    refine ⟨fun h => absurd hr (by rw [h]; simp), fun j hj => ?_⟩
    rcases Nat.decEq j i with hji | rfl
    · have hjn : j < n := by
        rcases Nat.lt_or_ge j n with h | h
        · exact h
        · exact absurd hj (tail_waits hs hc hn inv _ i rfl hin hun j h)
      obtain ⟨hjun, oj, hoj, hall⟩ := mem_ready.1 hj
      have hno : ∀ e ∈ oj.after, Region.binds .any e = true → e.on ≠ i := fun e he hb k => by
        have := hall e he hb
        rw [k, getD_both hun] at this
        cases this
      have h2 := wpOp_putIf hoj (hfree j oj hoj hji hjun hno) (fun cs b => hsel i oi cs b hi) (fun cs b => hsel j oj cs b hoj) hQ hy (H.2 j (ready_mono hj hji))
      refine wpOp_mono (fun a' w' k => ⟨fun _ => k.2.1 hjn, ih (l.setIfInBounds j true) a' w' (inv.set hj hjn) (fun m om hm hmi hmun => hfree m om hm hmi ?_) (ready_mono hr (Ne.symm hji)) k.1 (k.2.1 hjn) ?_⟩) h2
      · rcases Nat.decEq j m with hjm | rfl
        · rwa [getD_set_ne true hjm] at hmun
        · exact hjun
      · rw [Array.setIfInBounds_comm _ _ hji]
        exact k.2.2
    · exact hy.wpOp hi hS ⟨fun _ => hS, H⟩
theorem take {i f : Nat} {oi : Oper} {v : Value} {l : Array Bool} {a : Act} {w : World} (hi : ops[i]? = some oi) (hb : (Region.noSelect ops && Region.free .any ops l i && (Region.ready .any ops l).contains i && Region.sinkB .any ops n && Region.chainB .any ops n && decide (n < ops.size) && decide (i < n)) = true)
    (hQ : ∀ c a w, Q (.panic c) (a.put oi.dst v) w → Q (.panic c) a w) (hy : YieldsIf P ops S oi v a)
    (h : G P ops Q S n f (l.setIfInBounds i true) (a.put oi.dst v) w) : G P ops Q S n (f + 1) l a w := by
  simp only [Bool.and_eq_true, decide_eq_true_eq] at hb
  obtain ⟨⟨⟨⟨⟨⟨h1, h2⟩, h3⟩, h4⟩, h5⟩, h6⟩, h7⟩ := hb
  have hr : i ∈ Region.ready .any ops l := by simpa using h3
  exact fun inv hS => T.first hi (Region.noSelect_spec h1) hQ h4 h5 h6 h7 f l a w inv (Region.free_spec hi h2) hr hy hS (h (inv.set hr h7) hS)
theorem one {i f : Nat} {oi : Oper} {l : Array Bool} {a : Act} {w : World} (hi : ops[i]? = some oi) (hb : (decide (Region.ready .any ops l = [i]) && decide (i < n)) = true)
    (h : ∀ K : Act → World → Prop, (∀ a' w', S w' → G P ops Q S n f (l.setIfInBounds i true) a' w' → K a' w') → if Region.wanted oi (yielded ops a.tmps) = true then Oper.wp P oi a w K Q else K (a.put oi.dst undef) w) : G P ops Q S n (f + 1) l a w := by
  simp only [Bool.and_eq_true, decide_eq_true_eq] at hb
  intro inv _
  refine ⟨fun k => (by rw [hb.1] at k; cases k), fun j hj => ?_⟩
  rw [hb.1] at hj
  obtain rfl := List.mem_singleton.1 hj
  exact wpOp_step hi fun K hK => h K fun a' w' s g => hK a' w' ⟨fun _ => s, g (inv.set (by rw [hb.1]; exact List.mem_singleton.2 rfl) hb.2) s⟩
theorem last {f : Nat} {oi : Oper} {l : Array Bool} {a : Act} {w : World} (hi : ops[n]? = some oi) (hb : (decide (Region.ready .any ops l = [n]) && decide (Region.ready .any ops (l.setIfInBounds n true) = [])) = true)
    (h : ∀ K : Act → World → Prop, (∀ a' w', Q .normal a' w' → K a' w') → if Region.wanted oi (yielded ops a.tmps) = true then Oper.wp P oi a w K Q else K (a.put oi.dst undef) w) : G P ops Q S n (f + 1) l a w := by
  simp only [Bool.and_eq_true, decide_eq_true_eq] at hb
  intro inv _
  refine ⟨fun k => (by rw [hb.1] at k; cases k), fun j hj => ?_⟩
  rw [hb.1] at hj
  obtain rfl := List.mem_singleton.1 hj
  refine wpOp_step hi fun K hK => h K fun a' w' q => hK a' w' ⟨fun k => absurd k (Nat.lt_irrefl _), ?_⟩
  cases f with
  | zero => exact ⟨hb.2, q⟩
  | succ f => exact ⟨fun _ => q, fun i hi => absurd hi (by rw [hb.2]; simp)⟩
end
end Go.Proofs.Ytjjehbedpgdhgaa.Reg
section
set_option linter.unusedVariables false
set_option linter.unusedSimpArgs false
namespace Go.Proofs.Ytjjehbedpgdhgaa.Th
open Go.RowKit Go.Proofs.YtjjehbedpgdhgaaW.PrintWords Go.Proofs.YtjjehbedpgdhgaaW.PrintLast Go.Proofs.YtjjehbedpgdhgaaW.PrintMore Go.Proofs.Ytjjehbedpgdhgaa.PA Bit Dig Flo
def fa (w : Int) (m : Nat) : Nat := if 0 ≤ (fmt w).ex m then (fmt w).sg m * 2 ^ ((fmt w).ex m).toNat else (fmt w).sg m / 2 ^ (-(fmt w).ex m).toNat
theorem fa_amt (w : Int) (hw : w = 32 ∨ w = 64) {m : Nat} (hm : m < (fmt w).inf) : (fa w m < 18446744073709551616 → amt w m = fa w m) ∧ (18446744073709551616 ≤ fa w m → amt w m = 18446744073709551616) := by
  have hs := sg_64 w hw m
  unfold fa amt
  rw [if_neg (show ¬ (fmt w).inf ≤ m by omega)]
  by_cases c : (fmt w).ex m ≤ 0
  · rw [if_pos c]
    by_cases c2 : 0 ≤ (fmt w).ex m
    · rw [if_pos c2, show (fmt w).ex m = 0 by omega]
      simp only [Int.neg_zero, Int.toNat_zero, Nat.pow_zero, Nat.mul_one, Nat.div_one]
      exact ⟨fun _ => trivial, fun h => by omega⟩
    · rw [if_neg c2]
      have := Nat.div_le_self ((fmt w).sg m) (2 ^ (-(fmt w).ex m).toNat)
      exact ⟨fun _ => rfl, fun h => by omega⟩
  · rw [if_neg c, if_pos (by omega)]
    have h0 := ex_pos_sg w hw m (by omega)
    by_cases c3 : (fmt w).ex m ≤ 70
    · have e : mn ((fmt w).ex m) 70 = (fmt w).ex m := by unfold mn; split <;> omega
      rw [e]
      constructor
      · intro h; rw [if_pos h]
      · intro h; rw [if_neg (by omega)]
    · have e : mn ((fmt w).ex m) 70 = 70 := by unfold mn; split <;> omega
      rw [e]
      have h1 : 2 ^ (70 : Int).toNat ≤ (fmt w).sg m * 2 ^ (70 : Int).toNat := Nat.le_mul_of_pos_left _ h0
      have h2 : (2 : Nat) ^ (70 : Int).toNat = 1180591620717411303424 := by decide
      have h3 : 2 ^ (70 : Int).toNat ≤ 2 ^ ((fmt w).ex m).toNat := Nat.pow_le_pow_right (by decide) (by omega)
      have h4 := Nat.le_mul_of_pos_left (2 ^ ((fmt w).ex m).toNat) h0
      rw [h2] at h1 h3
      rw [h2]
      constructor
      · intro h; omega
      · intro _; rw [if_neg (by omega)]
theorem bl53T {g : Nat} (h : g < 9007199254740992) : bl g ≤ 53 := bl_le.2 h
theorem downS (s : Bool) (kd : Int) {e : Int} {g : Nat} (hg : g < 9007199254740992) (he : -1100 ≤ e ∧ e ≤ 1000) : ∃ (c : Int) (l : Bool), Ev (fun k => r9_Down.f k s kd e g) (dg (if 0 ≤ e then g * 2 ^ e.toNat else g / 2 ^ (-e).toNat), c, l) := by
  have bg := bl53T hg
  unfold r9_Down.f
  by_cases c : 0 ≤ e
  · obtain ⟨n, rfl⟩ := Int.eq_ofNat_of_zero_le c
    refine ⟨-1, false, ?_⟩
    rw [if_pos c, Int.toNat_natCast]
    exact Ev.pos c (Ev.bind (of_dg g (by omega)) (Ev.bind (shl_bl g n (by omega) (by omega)) (Ev.out rfl)))
  · obtain ⟨n, hn⟩ := Int.eq_ofNat_of_zero_le (show 0 ≤ -e by omega)
    have b1 := bl_shl 1 n
    rw [bl_one] at b1
    have hp : 0 < 1 * 2 ^ n := by rw [Nat.one_mul]; exact Nat.pow_pos (by decide)
    have hm : bl (g % (1 * 2 ^ n)) ≤ bl g := bl_mono (Nat.mod_le _ _)
    have hs := bl_shl (g % (1 * 2 ^ n)) 1
    refine ⟨cmpN (g % (1 * 2 ^ n) * 2 ^ 1) (1 * 2 ^ n), decide (((dg (g % (1 * 2 ^ n))).length : Int) > 0), ?_⟩
    rw [if_neg c, hn, Int.toNat_natCast]
    rw [w64_id (n := (n : Int)) (by omega) (by omega)]
    refine Ev.neg c (Ev.bind (of_dg 1 (by decide)) (Ev.bind (shl_bl 1 n (by omega) (by decide)) (Ev.bind (of_dg g (by omega)) (Ev.bind (div_dg g (1 * 2 ^ n) hp (by omega) (by omega)) (Ev.bind (shl_bl _ 1 (by decide) (by omega)) (Ev.bind (cmp_bl _ _ (by omega) (by omega)) (Ev.out ?_)))))))
    rw [Nat.one_mul]
theorem lowR (tt : Int) (ht : tt = 32 ∨ tt = 64) (sd : Bool) : Ev (fun k => trunnionref12_Low.f k tt sd) ((loN tt sd : Nat) : Int) := by
  rcases ht with rfl | rfl <;> cases sd <;> exact Ev.of (fun k => trunnionref12_Low.mono _ _ k) (k := 90) (by decide +kernel)
theorem highR (tt : Int) (ht : tt = 32 ∨ tt = 64) (sd : Bool) : Ev (fun k => trunnionref12_High.f k tt sd) ((hiN tt sd : Nat) : Int) := by
  rcases ht with rfl | rfl <;> cases sd <;> exact Ev.of (fun k => trunnionref12_High.mono _ _ k) (k := 90) (by decide +kernel)
def chR (tt : Int) (sd s : Bool) (A : Nat) : Int × Int :=
  if s then (if loN tt sd < A then (2, 0) else (0, ((cutN tt ((18446744073709551616 - A) % 18446744073709551616) : Nat) : Int))) else (if hiN tt sd < A then (3, 0) else (0, ((cutN tt A : Nat) : Int)))
theorem cmp_gt (a b : Nat) : (cmpN a b > 0) ↔ b < a := by
  unfold cmpN
  by_cases h1 : a < b
  · rw [if_pos h1]; omega
  · rw [if_neg h1]
    by_cases h2 : b < a
    · rw [if_pos h2]; omega
    · rw [if_neg h2]; omega
theorem chopJ (tt : Int) (ht : tt = 32 ∨ tt = 64) (sd s : Bool) (kd e g : Int) (N A : Nat) (hN : bl N < 1000000) (hA : kd = 2 → A = 18446744073709551616) (h1 : kd ≠ 2 → (N < 18446744073709551616 → A = N) ∧ (18446744073709551616 ≤ N → A = 18446744073709551616)) :
    Ev (fun k => trunnionref12_Chop.j0 k tt sd s kd e g (dg N)) (chR tt sd s A) := by
  have l1 := lo_lt tt sd
  have l2 := hi_lt tt sd
  have bl1 := bl64 (show loN tt sd < 18446744073709551616 by omega)
  have bl2 := bl64 (show hiN tt sd < 18446744073709551616 by omega)
  have cl := cmp_bl N (loN tt sd) (by omega) (by omega)
  have ch := cmp_bl N (hiN tt sd) (by omega) (by omega)
  have j2 : ∀ h : N < 18446744073709551616, A = N → Ev (fun k => trunnionref12_Chop.j2 k tt false s kd e g (dg N)) (0, if s then ((cutN tt ((18446744073709551616 - A) % 18446744073709551616) : Nat) : Int) else ((cutN tt A : Nat) : Int)) := by
    intro h hAN
    subst hAN
    refine Ev.step (fun _ => trunnionref12_Chop.j2.eq_2 ..) (Ev.neg (by decide) (Ev.bs (uint_dg A) ?_))
    rw [Nat.mod_eq_of_lt h]
    cases s
    · exact Ev.neg (by decide) (Ev.bs (r2Cut tt A ht) (Ev.out rfl))
    · refine Ev.pos rfl ?_
      by_cases c : (A : Int) > 0
      · refine Ev.pos c ?_
        have e1 : IntKind.u64.wrap ((IntKind.u64.wrap (18446744073709551615 - (A : Int))) + 1) = (((18446744073709551616 - A) % 18446744073709551616 : Nat) : Int) := by
          rw [u64_id (n := 18446744073709551615 - (A : Int)) (by omega) (by omega), u64_id (by omega) (by omega)]; omega
        rw [e1]
        exact Ev.bs (r2Cut tt _ ht) (Ev.out rfl)
      · have : A = 0 := by omega
        subst this
        exact Ev.neg c (Ev.bs (r2Cut tt 0 ht) (Ev.out rfl))
  refine Ev.step (fun _ => trunnionref12_Chop.j0.eq_2 ..) ?_
  unfold chR
  cases s
  · -- without a sign
    refine Ev.neg (by decide) (Ev.step (fun _ => trunnionref12_Chop.j1.eq_2 ..) (Ev.neg (by decide) (Ev.neg (by decide) ?_)))
    simp only [Bool.false_eq_true, if_false]
    by_cases k2 : kd = 2
    · rw [hA k2, if_pos (by omega)]
      exact Ev.pos k2 (Ev.step (fun _ => trunnionref12_Chop.j2.eq_2 ..) (Ev.pos rfl (Ev.out rfl)))
    · refine Ev.neg k2 (Ev.bind (highR tt ht sd) (Ev.bind (of_dg _ (by omega)) (Ev.bind ch ?_)))
      obtain ⟨a1, a2⟩ := h1 k2
      by_cases c : hiN tt sd < N
      · rw [decide_eq_true ((cmp_gt _ _).2 c), if_pos (by rcases Nat.lt_or_ge N 18446744073709551616 with d | d; rw [a1 d]; exact c; rw [a2 d]; omega)]
        exact Ev.step (fun _ => trunnionref12_Chop.j2.eq_2 ..) (Ev.pos rfl (Ev.out rfl))
      · have d : N < 18446744073709551616 := by omega
        rw [decide_eq_false (fun x => c ((cmp_gt _ _).1 x)), if_neg (by rw [a1 d]; exact c)]
        have := j2 d (a1 d)
        simpa using this
  · refine Ev.pos rfl ?_
    simp only [if_true]
    by_cases k2 : kd = 2
    · rw [hA k2, if_pos (by omega)]
      exact Ev.pos k2 (Ev.step (fun _ => trunnionref12_Chop.j1.eq_2 ..) (Ev.pos rfl (Ev.out rfl)))
    · refine Ev.neg k2 (Ev.bind (lowR tt ht sd) (Ev.bind (of_dg _ (by omega)) (Ev.bind cl (Ev.step (fun _ => trunnionref12_Chop.j1.eq_2 ..) ?_))))
      obtain ⟨a1, a2⟩ := h1 k2
      by_cases c : loN tt sd < N
      · rw [decide_eq_true ((cmp_gt _ _).2 c), if_pos (by rcases Nat.lt_or_ge N 18446744073709551616 with d | d; rw [a1 d]; exact c; rw [a2 d]; omega)]
        exact Ev.pos rfl (Ev.out rfl)
      · have d : N < 18446744073709551616 := by omega
        rw [decide_eq_false (fun x => c ((cmp_gt _ _).1 x)), if_neg (by rw [a1 d]; exact c)]
        have := j2 d (a1 d)
        exact Ev.neg (by decide) (Ev.pos rfl (by simpa using this))
theorem chopR (w : Int) (hw : w = 32 ∨ w = 64) (tt : Int) (ht : tt = 32 ∨ tt = 64) (sd : Bool) (a : Nat) (ha : a < 18446744073709551616) (hn : nn w a = false) : Ev (fun k => trunnionref12_Chop.f k w tt a sd) (chR tt sd (sgB w a) (amt w (magN w a))) := by
  unfold trunnionref12_Chop.f
  refine Ev.bind (r2Open w hw a ha) ?_
  have hn' : (opn w a).2.1 ≠ 3 := by unfold nn at hn; simpa using hn
  refine Ev.neg hn' (Ev.bind (of_dg 0 (by decide)) ?_)
  rcases kinds w hw a with ⟨k1, k2⟩ | ⟨k0, k1, k2⟩ | ⟨k1, k2⟩ | ⟨k1, k2⟩
  · rw [k2, k1, amt_zero w hw]
    exact Ev.neg (by simp) (chopJ tt ht sd (sgB w a) 0 0 0 0 0 (by decide) (by decide) (fun _ => ⟨fun _ => rfl, fun h => by omega⟩))
  · have he := ex_bd w hw _ k1
    have hg := sg_64 w hw (magN w a)
    have ha' := fa_amt w hw k1
    rw [k2]
    simp only
    obtain ⟨c, l, hd⟩ := downS (sgB w a) 1 (e := (fmt w).ex (magN w a)) hg (by omega)
    have hb : bl (fa w (magN w a)) < 1000000 := by
      have b1 := bl53T hg
      unfold fa
      split
      · have := bl_shl ((fmt w).sg (magN w a)) ((fmt w).ex (magN w a)).toNat
        omega
      · have : bl ((fmt w).sg (magN w a) / 2 ^ (-(fmt w).ex (magN w a)).toNat) ≤ bl ((fmt w).sg (magN w a)) := bl_mono (Nat.div_le_self _ _)
        omega
    refine Ev.pos trivial (Ev.bind hd ?_)
    exact chopJ tt ht sd (sgB w a) 1 _ _ (fa w (magN w a)) _ hb (fun h => absurd h (by decide)) (fun _ => ha')
  · have e : amt w (magN w a) = 18446744073709551616 := by unfold amt; rw [if_pos (by omega)]
    rw [k2, e]
    exact Ev.neg (by simp) (chopJ tt ht sd (sgB w a) 2 0 0 0 _ (by decide) (fun _ => rfl) (fun h => absurd rfl h))
  · rw [k2] at hn'; exact absurd rfl hn'
theorem cknown_no {w : Int} (hw : ¬ (w = 32 ∨ w = 64)) : chop_known.f w = some false := by
  unfold chop_known.f
  rw [if_neg (by omega)]
  congr 1
  rw [beq_eq_false_iff_ne]; omega
theorem trap_no {w tt : Int} (h : ¬ ((w = 32 ∨ w = 64) ∧ (tt = 32 ∨ tt = 64))) (a : Int) (sd : Bool) : Ev (fun k => chop_Trap.f k w tt a sd) (0, 0) ∧ Ev (fun k => chop_Sat.f k w tt a sd) 0 := by
  have z1 : Ev (fun k => chop_Trap.j0 k w tt a sd true) (0, 0) := Ev.step (fun _ => chop_Trap.j0.eq_2 ..) (Ev.pos rfl (Ev.out rfl))
  have z2 : Ev (fun k => chop_Sat.j0 k w tt a sd true) 0 := Ev.step (fun _ => chop_Sat.j0.eq_2 ..) (Ev.pos rfl (Ev.out rfl))
  unfold chop_Trap.f chop_Sat.f
  by_cases hw : w = 32 ∨ w = 64
  · have ht : ¬ (tt = 32 ∨ tt = 64) := fun x => h ⟨hw, x⟩
    exact ⟨Ev.bs (cknown w hw) (Ev.pos rfl (Ev.bs (cknown_no ht) z1)), Ev.bs (cknown w hw) (Ev.pos rfl (Ev.bs (cknown_no ht) z2))⟩
  · exact ⟨Ev.bs (cknown_no hw) (Ev.neg (by decide) z1), Ev.bs (cknown_no hw) (Ev.neg (by decide) z2)⟩
theorem nan_chop (w : Int) (hw : w = 32 ∨ w = 64) (tt : Int) (ht : tt = 32 ∨ tt = 64) (sd : Bool) (a : Nat) (ha : a < 18446744073709551616) (hn : nn w a = true) :
    Ev (fun k => chop_Trap.f k w tt a sd) (0, 4) ∧ Ev (fun k => chop_Sat.f k w tt a sd) 0 ∧ Ev (fun k => trunnionref12_Chop.f k w tt a sd) (1, 0) := by
  have hn' : (opn w a).2.1 = 3 := by unfold nn at hn; simpa using hn
  have c : Ev (fun k => chop_chopped.f k w tt a sd) (0, 1) := by
    unfold chop_chopped.f
    refine Ev.bind (openS w hw a ha) ?_
    have j : ∀ x, Ev (fun k => chop_chopped.j0 k tt sd x (opn w a).1 (opn w a).2.1 (opn w a).2.2.1 (opn w a).2.2.2) (0, 1) := fun x => Ev.step (fun _ => chop_chopped.j0.eq_2 ..) (Ev.pos hn' (Ev.out rfl))
    by_cases s : (opn w a).1 = true
    · exact Ev.pos s (j 2)
    · exact Ev.neg s (j 3)
  refine ⟨?_, ?_, ?_⟩
  · unfold chop_Trap.f
    exact Ev.bs (cknown w hw) (Ev.pos rfl (Ev.bs (cknown tt ht) (Ev.step (fun _ => chop_Trap.j0.eq_2 ..) (Ev.neg (by decide) (Ev.bind c (Ev.pos rfl (Ev.out rfl)))))))
  · unfold chop_Sat.f
    exact Ev.bs (cknown w hw) (Ev.pos rfl (Ev.bs (cknown tt ht) (Ev.step (fun _ => chop_Sat.j0.eq_2 ..) (Ev.neg (by decide) (Ev.bs (ends tt ht sd) (Ev.bind c (Ev.pos rfl (Ev.out rfl))))))))
  · unfold trunnionref12_Chop.f
    exact Ev.bind (r2Open w hw a ha) (Ev.pos hn' (Ev.out rfl))
theorem ends_no {tt : Int} (ht : ¬ (tt = 32 ∨ tt = 64)) (sd : Bool) : chop_Ends.f tt sd = some (0, 0) := by
  unfold chop_Ends.f
  rw [cknown_no ht, Option.bind_some, if_neg (by decide)]
theorem ChopTrapsP : L12_ChopTraps.Pure := by
  intro w tt sd a hw0 ht0 ha0
  obtain ⟨ha1, ha2⟩ := wf_u64 ha0
  obtain ⟨a, rfl⟩ := Int.eq_ofNat_of_zero_le ha1
  have ha : a < 18446744073709551616 := by omega
  refine Ev.rounds ?_
  unfold L12_ChopTraps.f
  have no : ∀ (x y : Int), ¬ ((w = 32 ∨ w = 64) ∧ (tt = 32 ∨ tt = 64)) → Ev (fun k => L12_ChopTraps.j0 k a 0 0 0 x y w tt sd) true := by
    intro x y h
    have j1 : Ev (fun k => L12_ChopTraps.j1 k a 0 0 0 x y true w tt sd) true := Ev.step (fun _ => L12_ChopTraps.j1.eq_2 ..) (Ev.pos rfl (Ev.pos rfl (Ev.pos rfl (Ev.out rfl))))
    refine Ev.step (fun _ => L12_ChopTraps.j0.eq_2 ..) (Ev.bs (known_f w) ?_)
    by_cases hw : w = 32 ∨ w = 64
    · rw [decide_eq_true hw]
      refine Ev.pos rfl (Ev.bs (known_f tt) ?_)
      rw [decide_eq_false (fun z => h ⟨hw, z⟩)]
      exact j1
    · rw [decide_eq_false hw]
      exact Ev.neg (by decide) j1
  refine Ev.bind awake12 (Ev.pos rfl ?_)
  by_cases ht : tt = 32 ∨ tt = 64
  · have L := lo_lt tt sd
    have U := hi_lt tt sd
    have fin : ∀ (n t s : Int), Ev (fun k => chop_Trap.f k w tt a sd) (n, t) → Ev (fun k => chop_Sat.f k w tt a sd) s → Ev (fun k => L12_ChopTraps.j0 k a n t s (loN tt sd) (hiN tt sd) w tt sd) true →
        Ev (fun k => (chop_Trap.f k w tt a sd).bind fun bt568 => ((chop_Sat.f k w tt a sd).bind fun t570 => ((chop_Ends.f tt sd).bind fun bt571 => ((r2_Known.f tt).bind fun t573 => (if t573 = true then ((trunnionref12_Low.f k tt sd).bind fun t574 => (if sd = true then (if bt571.1 = t574 then ((trunnionref12_High.f k tt sd).bind fun t575 => (if bt571.2 = t575 then (L12_ChopTraps.j0 k a bt568.1 bt568.2 t570 bt571.1 bt571.2 w tt sd) else (some false))) else (some false)) else (if bt571.1 = 0 then ((trunnionref12_High.f k tt sd).bind fun t576 => (if bt571.2 = t576 then (L12_ChopTraps.j0 k a bt568.1 bt568.2 t570 bt571.1 bt571.2 w tt sd) else (some false))) else (some false)))) else (if bt571.1 = 0 then (if bt571.2 = 0 then (L12_ChopTraps.j0 k a bt568.1 bt568.2 t570 bt571.1 bt571.2 w tt sd) else (some false)) else (some false))))))) true := by
      intro n t s h1 h2 h3
      refine Ev.bind h1 (Ev.bind h2 (Ev.bs (ends tt ht sd) (Ev.bs (known_f tt) ?_)))
      rw [decide_eq_true ht]
      refine Ev.pos rfl (Ev.bind (lowR tt ht sd) ?_)
      cases sd
      · exact Ev.neg (by decide) (Ev.pos rfl (Ev.bind (highR tt ht false) (Ev.pos rfl h3)))
      · exact Ev.pos rfl (Ev.pos rfl (Ev.bind (highR tt ht true) (Ev.pos rfl h3)))
    by_cases hw : w = 32 ∨ w = 64
    · have go : ∀ (n t s : Int) (o : Int × Int), Ev (fun k => trunnionref12_Chop.f k w tt a sd) o → Ev (fun k => (if o.1 = 1 then (if n = 0 then (if t = 4 then (some (s == 0)) else (some false)) else (some false)) else (if o.1 = 2 then (if n = 0 then (if t = 3 then (some (s == ((loN tt sd : Nat) : Int))) else (some false)) else (some false)) else (if o.1 = 3 then (if n = 0 then (if t = 3 then (some (s == ((hiN tt sd : Nat) : Int))) else (some false)) else (some false)) else (if n = o.2 then (if t = 0 then (some (s == o.2)) else (some false)) else (some false)))))) true →
          Ev (fun k => L12_ChopTraps.j0 k a n t s (loN tt sd) (hiN tt sd) w tt sd) true := by
        intro n t s o h1 h2
        refine Ev.step (fun _ => L12_ChopTraps.j0.eq_2 ..) (Ev.bs (known_f w) ?_)
        rw [decide_eq_true hw]
        refine Ev.pos rfl (Ev.bs (known_f tt) ?_)
        rw [decide_eq_true ht]
        exact Ev.step (fun _ => L12_ChopTraps.j1.eq_2 ..) (Ev.neg (by decide) (Ev.bind h1 h2))
      by_cases hn : nn w a = true
      · obtain ⟨t1, t2, t3⟩ := nan_chop w hw tt ht sd a ha hn
        exact fin _ _ _ t1 t2 (go _ _ _ _ t3 (Ev.out rfl))
      · have hn' : nn w a = false := Bool.eq_false_iff.2 hn
        have cR := chopR w hw tt ht sd a ha hn'
        have sS := satS w hw tt ht sd a ha hn'
        have tS := fun r h => trapS w hw tt ht sd a ha hn' r h
        have hA := amt_le w (magN w a) (sg_64 w hw _)
        generalize amt w (magN w a) = A at *
        generalize sgB w a = s at *
        unfold pOf outc at tS
        unfold satR at sS
        unfold chR at cR
        cases s
        · simp only [Bool.false_eq_true, if_false] at tS sS cR
          by_cases c : hiN tt sd < A
          · rw [if_pos c] at sS cR
            have t1 := tS (0, 3) (by by_cases d : A = 18446744073709551616 <;> simp [d, c] <;> omega)
            exact fin _ _ _ t1 sS (go _ _ _ _ cR (Ev.out (by simp)))
          · rw [if_neg c] at sS cR
            have t1 := tS (((cutN tt A : Nat) : Int), 0) (by rw [if_neg (show ¬ A = 18446744073709551616 by omega)]; simp [c])
            refine fin _ _ _ t1 sS (go _ _ _ _ cR (Ev.neg (by simp) (Ev.neg (by simp) (Ev.neg (by simp) (Ev.pos rfl (Ev.pos rfl (Ev.out ?_)))))))
            rw [cut_hi tt ht sd A c]; simp
        · simp only [if_true] at tS sS cR
          by_cases c : loN tt sd < A
          · rw [if_pos c] at sS cR
            have t1 := tS (0, 3) (by by_cases d : A = 18446744073709551616 <;> simp [d, c] <;> omega)
            exact fin _ _ _ t1 sS (go _ _ _ _ cR (Ev.out (by simp)))
          · rw [if_neg c] at sS cR
            have t1 := tS (((cutN tt ((18446744073709551616 - A) % 18446744073709551616) : Nat) : Int), 0) (by rw [if_neg (show ¬ A = 18446744073709551616 by omega)]; simp [c])
            exact fin _ _ _ t1 sS (go _ _ _ _ cR (Ev.neg (by simp) (Ev.neg (by simp) (Ev.neg (by simp) (Ev.pos rfl (Ev.pos rfl (Ev.out (by simp))))))))
    · obtain ⟨t1, t2⟩ := trap_no (w := w) (tt := tt) (fun x => hw x.1) a sd
      exact fin _ _ _ t1 t2 (no _ _ (fun x => hw x.1))
  · obtain ⟨t1, t2⟩ := trap_no (w := w) (tt := tt) (fun x => ht x.2) a sd
    refine Ev.bind t1 (Ev.bind t2 (Ev.bs (ends_no ht sd) (Ev.bs (known_f tt) ?_)))
    rw [decide_eq_false ht]
    exact Ev.neg (by decide) (Ev.pos rfl (Ev.pos rfl (no 0 0 (fun x => ht x.2))))
end Go.Proofs.Ytjjehbedpgdhgaa.Th
end
namespace Go.Proofs.Ytjjehbedpgdhgaa.Pure
theorem ChopTraps : Go.Proofs.Ytjjehbedpgdhgaa.PA.L12_ChopTraps.Pure := Go.Proofs.Ytjjehbedpgdhgaa.Th.ChopTrapsP
end Go.Proofs.Ytjjehbedpgdhgaa.Pure
namespace Go.Proofs.Ytjjehbedpgdhgaa.Facts
abbrev ch (n : Nat) : Char := Char.ofNat n
theorem words_word (w : List Char) (r : List Char) (h : w.all (fun c => c != ch 32) = true) : wordsSigns (w ++ ch 32 :: r) = w :: wordsSigns r := by
  induction w with
  | nil => rfl
  | cons c w ih =>
    rw [List.all_cons, Bool.and_eq_true] at h
    have hc : c ≠ ch 32 := bne_iff_ne.1 h.1
    rw [List.cons_append]
    rw [wordsSigns.eq_3 c _ (fun e => hc e), ih h.2]
def w1 : List Char := [ch 104, ch 97, ch 114, ch 110, ch 101, ch 115, ch 115]
def w2 : List Char := [ch 51, ch 52, ch 101, ch 53, ch 102, ch 48, ch 55, ch 101, ch 100, ch 56, ch 100, ch 53, ch 49, ch 98, ch 54, ch 101, ch 48, ch 51, ch 57, ch 99, ch 100, ch 54, ch 51, ch 49, ch 100, ch 101, ch 55, ch 50, ch 100, ch 101, ch 48, ch 52, ch 53, ch 100, ch 99, ch 49, ch 49, ch 53, ch 100, ch 98, ch 56, ch 51, ch 51, ch 55, ch 52, ch 57, ch 98, ch 51, ch 101, ch 57, ch 50, ch 51, ch 54, ch 99, ch 56, ch 51, ch 100, ch 101, ch 54, ch 53, ch 57, ch 52, ch 101, ch 97]
def w3 : List Char := [ch 99, ch 117, ch 116]
set_option maxRecDepth 100000 in
def tailSigns : List Char := [ch 97, ch 116, ch 32, ch 116, ch 114, ch 117, ch 110, ch 110, ch 105, ch 111, ch 110, ch 47, ch 116, ch 114, ch 117, ch 110, ch 110, ch 105, ch 111, ch 110, ch 108, ch 97, ch 119, ch 48, ch 55, ch 46, ch 82, ch 97, ch 100, ch 105, ch 120, ch 82, ch 111, ch 111, ch 116, ch 115, ch 32, ch 116, ch 114, ch 117, ch 110, ch 110, ch 105, ch 111, ch 110, ch 47, ch 116, ch 114, ch 117, ch 110, ch 110, ch 105, ch 111, ch 110, ch 108, ch 97, ch 119, ch 48, ch 55, ch 46, ch 82, ch 97, ch 100, ch 105, ch 120, ch 75, ch 101, ch 101, ch 112, ch 115, ch 32, ch 116, ch 114, ch 117, ch 110, ch 110, ch 105, ch 111, ch 110, ch 47, ch 116, ch 114, ch 117, ch 110, ch 110, ch 105, ch 111, ch 110, ch 108, ch 97, ch 119, ch 48, ch 55, ch 46, ch 82, ch 97, ch 100, ch 105, ch 120, ch 83, ch 99, ch 97, ch 108, ch 101, ch 32, ch 116, ch 114, ch 117, ch 110, ch 110, ch 105, ch 111, ch 110, ch 47, ch 116, ch 114, ch 117, ch 110, ch 110, ch 105, ch 111, ch 110, ch 108, ch 97, ch 119, ch 49, ch 50, ch 46, ch 67, ch 104, ch 111, ch 112, ch 84, ch 114, ch 97, ch 112, ch 115, ch 32, ch 116, ch 114, ch 117, ch 110, ch 110, ch 105, ch 111, ch 110, ch 47, ch 116, ch 114, ch 117, ch 110, ch 110, ch 105, ch 111, ch 110, ch 108, ch 97, ch 119, ch 48, ch 49, ch 46, ch 87, ch 105, ch 100, ch 101, ch 83, ch 117, ch 109, ch 115]
set_option maxRecDepth 100000 in
theorem head_list : Try.prog.initOrder.toList = w1 ++ ch 32 :: (w2 ++ ch 32 :: (w3 ++ ch 32 :: tailSigns)) :=
  (congrArg String.toList (show Try.prog.initOrder = String.ofList (w1 ++ ch 32 :: (w2 ++ ch 32 :: (w3 ++ ch 32 :: tailSigns))) from rfl)).trans String.toList_ofList
theorem words : ∃ rest, behindMainWord (wordsSigns Try.prog.initOrder.toList) = w3 :: rest := by
  refine ⟨wordsSigns tailSigns, ?_⟩
  rw [head_list, words_word w1 _ (by kernel_rfl), words_word w2 _ (by kernel_rfl), words_word w3 _ (by kernel_rfl)]
  generalize wordsSigns tailSigns = rest
  have e : ((w1 == "harness".toList || w1 == "ownmain".toList) && isSumSigns w2) = true := by kernel_rfl
  show (if ((w1 == "harness".toList || w1 == "ownmain".toList) && isSumSigns w2) = true then w3 :: rest else w1 :: w2 :: w3 :: rest) = w3 :: rest
  rw [if_pos e]
theorem c3 : (w3 == "gc".toList) = false ∧ (w3 == "spec".toList) = false ∧ (w3 == "cut".toList) = true ∧ (w3 == "carried".toList) = false ∧ (w3 == "finals".toList) = false := ⟨by kernel_rfl, by kernel_rfl, by kernel_rfl, by kernel_rfl, by kernel_rfl⟩
theorem strip (rest : List (List Char)) : stripLifts liftWords (w3 :: rest) = ([], w3 :: rest) := by
  have key : ∀ l : List String, l.all (fun o => !(w3 == o.toList)) = true → stripLifts l (w3 :: rest) = ([], w3 :: rest) := by
    intro l
    induction l with
    | nil => intro _; rfl
    | cons o l ih =>
      intro h
      rw [List.all_cons, Bool.and_eq_true] at h
      unfold stripLifts
      rw [if_neg (fun e => by have h1 := h.1; rw [e] at h1; cases h1)]
      exact ih h.2
  exact key liftWords (by kernel_rfl)
theorem make_of (P : Program) (h : ∃ rest, behindMainWord (wordsSigns P.initOrder.toList) = w3 :: rest) : P.make = some .cut := by
  obtain ⟨rest, h⟩ := h
  unfold Program.make
  rw [h]
  show (if (w3 == "gc".toList || w3 == "spec".toList) = true then some Make.whole else if (w3 == "cut".toList || (w3 == "finals".toList && rest.head? == some "cut".toList)) = true then some Make.cut else _) = some Make.cut
  rw [if_neg (by rw [c3.1, c3.2.1]; decide), if_pos (by rw [c3.2.2.1, Bool.true_or])]
set_option maxRecDepth 100000 in
theorem liftsFact : Try.prog.liftsFinal = false := by
  unfold Program.liftsFinal Program.headLifts
  rw [head_list]
  kernel_rfl
theorem doorFact : (!Try.prog.laysLater && !Try.prog.bearsReflect && Try.prog.doorFits []) = true := by kernel_rfl
theorem makeFact : Try.prog.make = some .cut := make_of _ words
theorem enter_of (P : Program) (h : ∃ rest, behindMainWord (wordsSigns P.initOrder.toList) = w3 :: rest) (d : (!P.laysLater && !P.bearsReflect && P.doorFits []) = true) : P.mayEnter = true := by
  obtain ⟨rest, h⟩ := h
  rw [Bool.and_eq_true, Bool.and_eq_true] at d
  have e : ((some w3 == some "cut".toList) : Bool) = true := by kernel_rfl
  unfold Program.mayEnter
  rw [h]
  show ((_ || _) || ((stripLifts liftWords (w3 :: rest)).2.head? == some "cut".toList && ((stripLifts liftWords (w3 :: rest)).1.contains "finals" || !P.laysLater) && ((stripLifts liftWords (w3 :: rest)).1.contains "reflectrows" || !P.bearsReflect) &&
      ((stripLifts liftWords (w3 :: rest)).1.contains "reflectrows" || !(stripLifts liftWords (w3 :: rest)).1.contains "leanrows") && P.doorFits (stripLifts liftWords (w3 :: rest)).1)) = true
  rw [strip, Bool.or_eq_true]
  refine .inr ?_
  rw [Bool.and_eq_true, Bool.and_eq_true, Bool.and_eq_true, Bool.and_eq_true, Bool.or_eq_true, Bool.or_eq_true]
  exact ⟨⟨⟨⟨e, .inr d.1.1⟩, .inr d.1.2⟩, rfl⟩, d.2⟩
theorem enterFact : Try.prog.mayEnter = true := enter_of _ words doorFact
end Go.Proofs.Ytjjehbedpgdhgaa.Facts
