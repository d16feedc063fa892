/- What the Go functions that the statement QuotientDivs reaches compute, and the mathematics on it, in the order in which one leans on the other; for every input. -/
import Derived.Test.YtbpmnmceajmmcaaVQuotientDivs0
import Derived.Test.YtbpmnmceajmmcaaMQuotientDivs0
import Derived.Laws.BitsAllLaws
namespace Flo

def tw (k : Int) : Rat := (2 : Rat) ^ k
theorem tw_pos (k : Int) : 0 < tw k := Rat.zpow_pos (by decide)
theorem tw_add (a b : Int) : tw (a + b) = tw a * tw b := Rat.zpow_add (by decide) a b
theorem tw_zero : tw 0 = 1 := Rat.zpow_zero ..
theorem tw_one : tw 1 = 2 := Rat.zpow_one ..
theorem tw_succ (a : Int) : tw (a + 1) = 2 * tw a := by rw [tw_add, tw_one, Rat.mul_comm]
theorem tw_pred (a : Int) : tw a = 2 * tw (a - 1) := by
  have := tw_succ (a - 1); rwa [Int.sub_add_cancel] at this
theorem tw_nat (n : Nat) : tw n = ((2 ^ n : Nat) : Rat) := by
  unfold tw; rw [Rat.zpow_natCast]; simp
theorem tw_sub_nat (a b : Int) (h : b ≤ a) : tw a = ((2 ^ (a - b).toNat : Nat) : Rat) * tw b := by
  rw [← tw_nat, ← tw_add]; congr 1; omega
theorem tw_lt {a b : Int} (h : a < b) : tw a < tw b := by
  rw [tw_sub_nat b a (by omega)]
  have h2 : 2 ≤ 2 ^ (b - a).toNat := by
    have : 2 ^ 1 ≤ 2 ^ (b - a).toNat := Nat.pow_le_pow_right (by decide) (by omega)
    simpa using this
  have h3 : (2 : Rat) ≤ ((2 ^ (b - a).toNat : Nat) : Rat) := by exact_mod_cast h2
  have := Rat.mul_le_mul_of_nonneg_right h3 (Rat.le_of_lt (tw_pos a))
  have := tw_pos a
  grind
theorem tw_le {a b : Int} (h : a ≤ b) : tw a ≤ tw b := by
  rcases Int.lt_or_eq_of_le h with h | h
  · exact Rat.le_of_lt (tw_lt h)
  · subst h; exact Rat.le_refl
theorem mul_lt {a b t : Rat} (h : a < b) (ht : 0 < t) : a * t < b * t := Rat.mul_lt_mul_of_pos_right h ht
theorem mul_le {a b t : Rat} (h : a ≤ b) (ht : 0 < t) : a * t ≤ b * t := Rat.mul_le_mul_of_nonneg_right h (Rat.le_of_lt ht)
theorem lt_of_mul {a b t : Rat} (h : a * t < b * t) (ht : 0 < t) : a < b := Rat.lt_of_mul_lt_mul_right h (Rat.le_of_lt ht)
theorem le_of_mul {a b t : Rat} (h : a * t ≤ b * t) (ht : 0 < t) : a ≤ b := Rat.le_of_mul_le_mul_right h ht
theorem nat_lt {a b : Nat} : ((a : Nat) : Rat) < (b : Rat) ↔ a < b := Rat.natCast_lt_natCast
theorem nat_le {a b : Nat} : ((a : Nat) : Rat) ≤ (b : Rat) ↔ a ≤ b := Rat.natCast_le_natCast

structure Fmt where
  f : Nat
  low : Int
  top : Nat
  hf : 1 ≤ f
  ht : 2 ≤ top
namespace Fmt
variable (F : Fmt)
def inf : Nat := F.top * 2 ^ F.f
def sg (m : Nat) : Nat := if m < 2 ^ F.f then m else 2 ^ F.f + m % 2 ^ F.f
def ex (m : Nat) : Int := if m < 2 ^ F.f then F.low else (m / 2 ^ F.f : Nat) - 1 + F.low
def val (m : Nat) : Rat := (F.sg m : Rat) * tw (F.ex m)
def mid (m : Nat) : Rat := ((2 * F.sg m + 1 : Nat) : Rat) * tw (F.ex m - 1)
theorem pow_pos : 0 < 2 ^ F.f := Nat.pow_pos (by decide)
theorem sg_mk (q n : Nat) (h : n < 2 ^ (F.f + 1)) (hq : 0 < q → 2 ^ F.f ≤ n) : F.sg (q * 2 ^ F.f + n) = n ∧ F.ex (q * 2 ^ F.f + n) = q + F.low := by
  have hp := F.pow_pos
  rw [Nat.pow_succ] at h
  unfold sg ex
  by_cases h1 : n < 2 ^ F.f
  · have : q = 0 := by
      rcases Nat.eq_zero_or_pos q with h | h
      · exact h
      · have := hq h; omega
    subst this
    simp [h1]
  · have e : q * 2 ^ F.f + n = (n - 2 ^ F.f) + 2 ^ F.f * (q + 1) := by
      rw [Nat.mul_add, Nat.mul_comm q]; omega
    have h2 : ¬ (q * 2 ^ F.f + n < 2 ^ F.f) := by
      have := Nat.zero_le (q * 2 ^ F.f); omega
    rw [if_neg h2, if_neg h2, e, Nat.add_mul_mod_self_left, Nat.add_mul_div_left _ _ hp, Nat.mod_eq_of_lt (by omega), Nat.div_eq_of_lt (by omega)]
    constructor
    · omega
    · omega
theorem sg_ex (m : Nat) : ∃ q n, m = q * 2 ^ F.f + n ∧ n < 2 ^ (F.f + 1) ∧ (0 < q → 2 ^ F.f ≤ n) ∧ F.sg m = n ∧ F.ex m = q + F.low := by
  have hp := F.pow_pos
  by_cases h : m < 2 ^ F.f
  · refine ⟨0, m, by simp, by rw [Nat.pow_succ]; omega, by simp, ?_, ?_⟩ <;> simp [sg, ex, h]
  · have h3 := Nat.div_add_mod m (2 ^ F.f)
    have h4 : 1 ≤ m / 2 ^ F.f := (Nat.le_div_iff_mul_le hp).2 (by omega)
    have h5 := Nat.mod_lt m hp
    have h6 : m = (m / 2 ^ F.f - 1) * 2 ^ F.f + (2 ^ F.f + m % 2 ^ F.f) := by
      rw [Nat.sub_mul, Nat.one_mul, Nat.mul_comm (m / 2 ^ F.f)]
      have : 2 ^ F.f ≤ 2 ^ F.f * (m / 2 ^ F.f) := Nat.le_mul_of_pos_right _ h4
      omega
    have h7 : 2 ^ F.f + m % 2 ^ F.f < 2 ^ (F.f + 1) := by rw [Nat.pow_succ]; omega
    have := F.sg_mk (m / 2 ^ F.f - 1) (2 ^ F.f + m % 2 ^ F.f) h7 (by omega)
    rw [← h6] at this
    exact ⟨_, _, h6, h7, by omega, this.1, this.2⟩
theorem sg_lt (m : Nat) : F.sg m < 2 ^ (F.f + 1) := by
  obtain ⟨q, n, _, h, _, h1, _⟩ := F.sg_ex m
  rw [h1]; exact h
theorem val_succ (m : Nat) : F.val (m + 1) = F.val m + tw (F.ex m) := by
  obtain ⟨q, n, e, hn, hq, h1, h2⟩ := F.sg_ex m
  have hp := F.pow_pos
  by_cases h : n + 1 < 2 ^ (F.f + 1)
  · obtain ⟨h3, h4⟩ := F.sg_mk q (n + 1) h (fun h => by have := hq h; omega)
    unfold val
    rw [h1, h2, e, Nat.add_assoc, h3, h4]
    push_cast
    grind
  · have hn1 : n + 1 = 2 ^ F.f + 2 ^ F.f := by rw [Nat.pow_succ] at h hn; omega
    have e2 : m + 1 = (q + 1) * 2 ^ F.f + 2 ^ F.f := by rw [e, Nat.add_mul]; omega
    obtain ⟨h3, h4⟩ := F.sg_mk (q + 1) (2 ^ F.f) (by rw [Nat.pow_succ]; omega) (fun _ => Nat.le_refl _)
    unfold val
    rw [h1, h2, e2, h3, h4]
    have : (((q + 1 : Nat) : Int) + F.low) = (q + F.low) + 1 := by omega
    rw [this, tw_succ]
    have h5 : ((n : Nat) : Rat) + 1 = ((2 ^ F.f : Nat) : Rat) + ((2 ^ F.f : Nat) : Rat) := by exact_mod_cast hn1
    grind
theorem mid_eq (m : Nat) : F.mid m = F.val m + tw (F.ex m - 1) := by
  unfold mid val
  rw [tw_pred (F.ex m)]
  push_cast
  grind
theorem mid_lt_succ (m : Nat) : F.mid m < F.val (m + 1) := by
  rw [mid_eq, val_succ, tw_pred (F.ex m)]
  have := tw_pos (F.ex m - 1)
  grind
theorem lt_mid (m : Nat) : F.val m < F.mid m := by
  rw [mid_eq]
  have := tw_pos (F.ex m - 1)
  grind
theorem val_lt_succ (m : Nat) : F.val m < F.val (m + 1) := by
  rw [val_succ]
  have := tw_pos (F.ex m)
  grind
theorem val_mono {a b : Nat} (h : a ≤ b) : F.val a ≤ F.val b := by
  induction b with
  | zero => obtain rfl : a = 0 := by omega
            exact Rat.le_refl
  | succ b ih =>
    rcases Nat.lt_or_ge b a with h1 | h1
    · obtain rfl : a = b + 1 := by omega
      exact Rat.le_refl
    · have := ih h1
      have := F.val_lt_succ b
      grind
theorem val_lt {a b : Nat} (h : a < b) : F.val a < F.val b := by
  have := F.val_mono (show a + 1 ≤ b by omega)
  have := F.val_lt_succ a
  grind
theorem val_lt_iff {a b : Nat} : F.val a < F.val b ↔ a < b := by
  constructor
  · intro h
    rcases Nat.lt_or_ge a b with h1 | h1
    · exact h1
    · have := F.val_mono h1; grind
  · exact F.val_lt
theorem mid_lt {a b : Nat} (h : a < b) : F.mid a < F.mid b := by
  have h1 := F.mid_lt_succ a
  have h2 := F.val_mono (show a + 1 ≤ b by omega)
  have h3 := F.lt_mid b
  grind
theorem val_zero : F.val 0 = 0 := by
  have hp := F.pow_pos
  simp [val, sg, hp]
def Up (x : Rat) (m : Nat) : Prop := F.mid m < x ∨ F.mid m = x ∧ m % 2 = 1
def Rnd (U : Nat → Prop) (r : Nat) : Prop := r ≤ F.inf ∧ (∀ m, m < r → U m) ∧ (r < F.inf → ¬ U r)
theorem Rnd.mono' {U V : Nat → Prop} {r s : Nat} (h : F.Rnd U r) (k : F.Rnd V s) (i : ∀ m, U m → V m) : r ≤ s := by
  rcases Nat.lt_or_ge s r with h1 | h1
  · exact absurd (i s (h.2.1 s h1)) (k.2.2 (Nat.lt_of_lt_of_le h1 h.1))
  · exact h1
theorem Rnd.unique {U V : Nat → Prop} {r s : Nat} (h : F.Rnd U r) (k : F.Rnd V s) (i : ∀ m, U m ↔ V m) : r = s :=
  Nat.le_antisymm (Rnd.mono' F h k fun m => (i m).1) (Rnd.mono' F k h fun m => (i m).2)
theorem Up.mono' {x y : Rat} (h : x ≤ y) (m : Nat) (u : F.Up x m) : F.Up y m := by
  rcases u with u | ⟨u, v⟩
  · exact .inl (by grind)
  · rcases (Rat.le_iff_lt_or_eq).1 h with h | h
    · exact .inl (by grind)
    · exact .inr ⟨by grind, v⟩
theorem Rnd.eq {x : Rat} {r s : Nat} (h : F.Rnd (F.Up x) r) (k : F.Rnd (F.Up x) s) : r = s := Rnd.unique F h k fun _ => Iff.rfl
theorem Rnd.exact {m : Nat} (h : m ≤ F.inf) : F.Rnd (F.Up (F.val m)) m := by
  refine ⟨h, fun k hk => .inl ?_, fun _ u => ?_⟩
  · have h1 := F.mid_lt_succ k
    have h2 := F.val_mono (show k + 1 ≤ m by omega)
    grind
  · have h1 := F.lt_mid m
    rcases u with u | ⟨u, _⟩ <;> grind
theorem Rnd.exists (U : Nat → Prop) : ∃ r, F.Rnd U r := by
  have key : ∀ n, n ≤ F.inf → (∃ r, F.Rnd U r) ∨ ∀ m, m < n → U m := by
    intro n
    induction n with
    | zero => intro _; exact .inr (fun m h => by omega)
    | succ n ih =>
      intro h
      rcases ih (by omega) with h1 | h1
      · exact .inl h1
      · by_cases hu : U n
        · refine .inr fun m hm => ?_
          rcases Nat.lt_or_ge m n with h2 | h2
          · exact h1 m h2
          · obtain rfl : m = n := by omega
            exact hu
        · exact .inl ⟨n, by omega, h1, fun _ => hu⟩
  rcases key F.inf (Nat.le_refl _) with h | h
  · exact h
  · exact ⟨F.inf, Nat.le_refl _, h, fun h => by omega⟩
theorem Rnd.make {x : Rat} {q n : Nat} (hx : x < tw (q + F.low + F.f + 1)) (hq : 0 < q → tw (q + F.low + F.f) ≤ x)
    (hd : 0 < n → ((2 * n - 1 : Nat) : Rat) * tw (q + F.low - 1) < x ∨ ((2 * n - 1 : Nat) : Rat) * tw (q + F.low - 1) = x ∧ n % 2 = 0)
    (hu : x < ((2 * n + 1 : Nat) : Rat) * tw (q + F.low - 1) ∨ x = ((2 * n + 1 : Nat) : Rat) * tw (q + F.low - 1) ∧ n % 2 = 0) :
    F.Rnd (F.Up x) (min F.inf (q * 2 ^ F.f + n)) := by
  have hp := F.pow_pos
  have T := tw_pos (q + F.low - 1)
  -- n is at most 2^(f+1), and at least 2^f where q is not 0
  have e1 : tw (q + F.low + F.f + 1) = ((2 ^ (F.f + 2) : Nat) : Rat) * tw (q + F.low - 1) := by
    rw [← tw_nat, ← tw_add]; congr 1; omega
  have e2 : tw (q + F.low + F.f) = ((2 ^ (F.f + 1) : Nat) : Rat) * tw (q + F.low - 1) := by
    rw [← tw_nat, ← tw_add]; congr 1; omega
  have hn : n ≤ 2 ^ (F.f + 1) := by
    rcases Nat.eq_zero_or_pos n with h | h
    · omega
    · have h1 : ((2 * n - 1 : Nat) : Rat) * tw (q + F.low - 1) < ((2 ^ (F.f + 2) : Nat) : Rat) * tw (q + F.low - 1) := by
        rw [← e1]
        rcases hd h with h | ⟨h, _⟩ <;> grind
      have h2 := nat_lt.1 (lt_of_mul h1 T)
      rw [Nat.pow_succ] at h2
      omega
  have hl : 0 < q → 2 ^ F.f ≤ n := by
    intro h
    have h1 := hq h
    have h2 : ((2 ^ (F.f + 1) : Nat) : Rat) * tw (q + F.low - 1) ≤ ((2 * n + 1 : Nat) : Rat) * tw (q + F.low - 1) := by
      rw [← e2]
      rcases hu with h | ⟨h, _⟩ <;> grind
    have h3 := nat_le.1 (le_of_mul h2 T)
    rw [Nat.pow_succ] at h3
    omega
  have par : (q * 2 ^ F.f + n) % 2 = n % 2 := by
    obtain ⟨g, hg⟩ : ∃ g, F.f = g + 1 := ⟨F.f - 1, by have := F.hf; omega⟩
    rw [hg, Nat.pow_succ, ← Nat.mul_assoc]; omega
  -- what is below the answer is above its middle
  have hbelow : ∀ m, m < q * 2 ^ F.f + n → F.Up x m := by
    intro m hm
    have hlast : F.Up x (q * 2 ^ F.f + n - 1) := by
      by_cases h : n ≤ 2 ^ F.f ∧ 0 < q
      · obtain ⟨h, h0⟩ := h
        have h1 : n = 2 ^ F.f := Nat.le_antisymm h (hl h0)
        have e3 : q * 2 ^ F.f + n - 1 = (q - 1) * 2 ^ F.f + (2 ^ (F.f + 1) - 1) := by
          rw [h1, Nat.pow_succ]
          have : q * 2 ^ F.f = (q - 1) * 2 ^ F.f + 2 ^ F.f := by rw [← Nat.succ_mul]; congr 1; omega
          omega
        obtain ⟨h3, h4⟩ := F.sg_mk (q - 1) (2 ^ (F.f + 1) - 1) (by have := Nat.pow_pos (n := F.f + 1) (show 0 < 2 by decide); omega) (by intro _; rw [Nat.pow_succ]; omega)
        refine .inl ?_
        unfold mid
        rw [e3, h3, h4]
        have h5 := hq h0
        have e4 : tw (q + F.low + F.f) = ((2 ^ (F.f + 2) : Nat) : Rat) * tw ((q - 1 : Nat) + F.low - 1) := by
          rw [← tw_nat, ← tw_add]; congr 1; omega
        have h6 : 2 * (2 ^ (F.f + 1) - 1) + 1 < 2 ^ (F.f + 2) := by
          have h7 : 2 ^ (F.f + 2) = 2 ^ (F.f + 1) * 2 := Nat.pow_succ ..
          have h8 := Nat.pow_pos (n := F.f + 1) (show 0 < 2 by decide)
          omega
        have h7 := mul_lt (nat_lt.2 h6) (tw_pos ((q - 1 : Nat) + F.low - 1))
        grind
      · have hn0 : 0 < n := by
          rcases Nat.eq_zero_or_pos n with h0 | h0
          · subst h0
            rcases Nat.eq_zero_or_pos q with h1 | h1
            · subst h1; omega
            · exact absurd ⟨by omega, h1⟩ h
          · exact h0
        have h1 : 0 < q → 2 ^ F.f ≤ n - 1 := by
          intro h0
          have := hl h0
          have : ¬ n ≤ 2 ^ F.f := fun h' => h ⟨h', h0⟩
          omega
        obtain ⟨h3, h4⟩ := F.sg_mk q (n - 1) (by omega) h1
        have e3 : q * 2 ^ F.f + n - 1 = q * 2 ^ F.f + (n - 1) := by omega
        have e4 : 2 * (n - 1) + 1 = 2 * n - 1 := by omega
        unfold Up mid
        rw [e3, h3, h4, e4]
        rcases hd hn0 with h5 | ⟨h5, h6⟩
        · exact .inl h5
        · refine .inr ⟨h5, ?_⟩
          rw [← e3]; omega
    rcases Nat.lt_or_ge m (q * 2 ^ F.f + n - 1) with h1 | h1
    · have h2 := F.mid_lt h1
      rcases hlast with h3 | ⟨h3, _⟩ <;> exact .inl (by grind)
    · obtain rfl : m = q * 2 ^ F.f + n - 1 := by omega
      exact hlast
  refine ⟨Nat.min_le_left _ _, fun m hm => hbelow m (by omega), fun h => ?_⟩
  have hm : min F.inf (q * 2 ^ F.f + n) = q * 2 ^ F.f + n := by omega
  rw [hm]
  by_cases h1 : n < 2 ^ (F.f + 1)
  · obtain ⟨h3, h4⟩ := F.sg_mk q n h1 hl
    unfold Up mid
    rw [h3, h4, par]
    rintro (h5 | ⟨h5, h6⟩) <;> rcases hu with h7 | ⟨h7, h8⟩
    · grind
    · grind
    · grind
    · omega
  · have h1 : n = 2 ^ (F.f + 1) := by omega
    have e3 : q * 2 ^ F.f + n = (q + 1) * 2 ^ F.f + 2 ^ F.f := by rw [h1, Nat.pow_succ, Nat.add_mul]; omega
    obtain ⟨h3, h4⟩ := F.sg_mk (q + 1) (2 ^ F.f) (by rw [Nat.pow_succ]; omega) (fun _ => Nat.le_refl _)
    have h9 := F.lt_mid (q * 2 ^ F.f + n)
    have h10 : F.val (q * 2 ^ F.f + n) = tw (q + F.low + F.f + 1) := by
      unfold val
      rw [e3, h3, h4, ← tw_nat, ← tw_add]; congr 1; omega
    rintro (h5 | ⟨h5, h6⟩) <;> grind
end Fmt
end Flo
set_option linter.unusedVariables false
set_option linter.unusedSimpArgs false
namespace Flo
def rne (a b : Nat) : Nat := if b < 2 * (a % b) ∨ (2 * (a % b) = b ∧ a / b % 2 = 1) then a / b + 1 else a / b
theorem rne_lo (a b : Nat) (hb : 0 < b) (h : 0 < rne a b) : (2 * rne a b - 1) * b < 2 * a ∨ (2 * rne a b - 1) * b = 2 * a ∧ rne a b % 2 = 0 := by
  have h1 := Nat.div_add_mod a b
  have h2 := Nat.mod_lt a hb
  unfold rne at *
  generalize a / b = q at *
  generalize a % b = r at *
  subst h1
  have e1 : (2 * (q + 1) - 1) * b = 2 * (b * q) + b := by
    rw [show 2 * (q + 1) - 1 = 2 * q + 1 by omega, Nat.add_mul, Nat.one_mul, Nat.mul_assoc, Nat.mul_comm q b]
  have e2 : 0 < q → (2 * q - 1) * b + b = 2 * (b * q) := by
    intro h0
    rw [← Nat.succ_mul, show (2 * q - 1).succ = 2 * q by omega, Nat.mul_assoc, Nat.mul_comm q b]
  generalize b * q = t at *
  by_cases h3 : b < 2 * r ∨ 2 * r = b ∧ q % 2 = 1
  · rw [if_pos h3] at h ⊢
    rw [e1]
    omega
  · rw [if_neg h3] at h ⊢
    have := e2 h
    omega
theorem rne_hi (a b : Nat) (hb : 0 < b) : 2 * a < (2 * rne a b + 1) * b ∨ 2 * a = (2 * rne a b + 1) * b ∧ rne a b % 2 = 0 := by
  have h1 := Nat.div_add_mod a b
  have h2 := Nat.mod_lt a hb
  unfold rne
  generalize a / b = q at *
  generalize a % b = r at *
  subst h1
  have e1 : (2 * (q + 1) + 1) * b = 2 * (b * q) + 3 * b := by
    rw [show 2 * (q + 1) + 1 = 2 * q + 3 by omega, Nat.add_mul, Nat.mul_assoc, Nat.mul_comm q b]
  have e2 : (2 * q + 1) * b = 2 * (b * q) + b := by rw [Nat.add_mul, Nat.one_mul, Nat.mul_assoc, Nat.mul_comm q b]
  generalize b * q = t at *
  by_cases h3 : b < 2 * r ∨ 2 * r = b ∧ q % 2 = 1
  · rw [if_pos h3, e1]; omega
  · rw [if_neg h3, e2]; omega
theorem rne_exact (n b : Nat) (hb : 0 < b) : rne (n * b) b = n := by
  unfold rne
  rw [Nat.mul_mod_left, Nat.mul_div_cancel _ hb, if_neg (by omega)]
namespace Fmt
variable (F : Fmt)
theorem Rnd.near {A B q : Nat} (hB : 0 < B) {x : Rat} (hxe : x * (B : Rat) = (A : Rat) * tw (q + F.low)) (hx : x < tw (q + F.low + F.f + 1)) (hq : 0 < q → tw (q + F.low + F.f) ≤ x) :
    F.Rnd (F.Up x) (min F.inf (q * 2 ^ F.f + rne A B)) := by
  have T := tw_pos (q + F.low - 1)
  have hB' : (0 : Rat) < (B : Rat) := by exact_mod_cast hB
  have e := tw_pred (q + F.low)
  rw [e] at hxe
  refine Rnd.make F hx hq ?_ ?_
  · intro h
    have key := rne_lo A B hB h
    generalize 2 * rne A B - 1 = m at *
    rcases key with h1 | ⟨h1, h2⟩
    · left
      have h3 : ((m * B : Nat) : Rat) < ((2 * A : Nat) : Rat) := nat_lt.2 h1
      have h4 := mul_lt h3 T
      refine lt_of_mul (t := (B : Rat)) ?_ hB'
      push_cast at h4
      grind
    · right
      refine ⟨?_, h2⟩
      have h3 : ((m * B : Nat) : Rat) = ((2 * A : Nat) : Rat) := by exact_mod_cast h1
      push_cast at h3
      have h5 : ((m : Rat) * tw (q + F.low - 1)) * B = x * B := by grind
      have h6 : ¬ ((m : Rat) * tw (q + F.low - 1)) < x := fun h => by have := mul_lt h hB'; grind
      have h7 : ¬ x < ((m : Rat) * tw (q + F.low - 1)) := fun h => by have := mul_lt h hB'; grind
      grind
  · have key := rne_hi A B hB
    generalize 2 * rne A B + 1 = m at *
    rcases key with h1 | ⟨h1, h2⟩
    · left
      have h3 : ((2 * A : Nat) : Rat) < ((m * B : Nat) : Rat) := nat_lt.2 h1
      have h4 := mul_lt h3 T
      refine lt_of_mul (t := (B : Rat)) ?_ hB'
      push_cast at h4
      grind
    · right
      refine ⟨?_, h2⟩
      have h3 : ((2 * A : Nat) : Rat) = ((m * B : Nat) : Rat) := by exact_mod_cast h1
      push_cast at h3
      have h5 : ((m : Rat) * tw (q + F.low - 1)) * B = x * B := by grind
      have h6 : ¬ ((m : Rat) * tw (q + F.low - 1)) < x := fun h => by have := mul_lt h hB'; grind
      have h7 : ¬ x < ((m : Rat) * tw (q + F.low - 1)) := fun h => by have := mul_lt h hB'; grind
      grind
theorem Rnd.big {x : Rat} (h : ∀ m, m < F.inf → F.mid m < x) : F.Rnd (F.Up x) F.inf := ⟨Nat.le_refl _, fun m hm => .inl (h m hm), fun h => by omega⟩
theorem mid_big {m : Nat} (h : m < F.inf) : F.mid m < tw (F.top - 1 + F.low + F.f) := by
  have hp := F.pow_pos
  have ht := F.ht
  have h1 := F.mid_lt_succ m
  have h2 := F.val_mono (show m + 1 ≤ F.inf by omega)
  have h3 : F.val F.inf = tw (F.top - 1 + F.low + F.f) := by
    unfold inf val
    have e : F.top * 2 ^ F.f = (F.top - 1) * 2 ^ F.f + 2 ^ F.f := by
      rw [← Nat.succ_mul]; congr 1; omega
    obtain ⟨h3, h4⟩ := F.sg_mk (F.top - 1) (2 ^ F.f) (by rw [Nat.pow_succ]; omega) (fun _ => Nat.le_refl _)
    rw [e, h3, h4, ← tw_nat, ← tw_add]; congr 1; omega
  grind
theorem val_inf : F.val F.inf = tw (F.top - 1 + F.low + F.f) := by
  have hp := F.pow_pos
  have ht := F.ht
  unfold inf val
  have e : F.top * 2 ^ F.f = (F.top - 1) * 2 ^ F.f + 2 ^ F.f := by
    rw [← Nat.succ_mul]; congr 1; omega
  obtain ⟨h3, h4⟩ := F.sg_mk (F.top - 1) (2 ^ F.f) (by rw [Nat.pow_succ]; omega) (fun _ => Nat.le_refl _)
  rw [e, h3, h4, ← tw_nat, ← tw_add]; congr 1; omega
theorem Rnd.huge {x : Rat} (h : tw (F.top - 1 + F.low + F.f) ≤ x) : F.Rnd (F.Up x) F.inf := Rnd.big F fun m hm => by have := F.mid_big hm; grind
theorem mid_zero : F.mid 0 = tw (F.low - 1) := by
  have hp := F.pow_pos
  unfold mid sg ex
  rw [if_pos hp, if_pos hp]
  simp
theorem Rnd.tiny {x : Rat} (h : x < tw (F.low - 1)) : F.Rnd (F.Up x) 0 := by
  refine ⟨Nat.zero_le _, fun m hm => by omega, fun _ u => ?_⟩
  rcases u with u | ⟨_, u⟩
  · rw [mid_zero] at u; grind
  · omega
theorem Up.sticky {U : Nat → Prop} {S : Nat} {e : Int} (hd : ∀ m, F.mid m ≤ (S : Rat) * tw e → U m) (hu : ∀ m, ((S + 1 : Nat) : Rat) * tw e ≤ F.mid m → ¬ U m)
    (hS : 2 ^ (F.f + 1) ≤ S ∨ e ≤ F.low - 1) (m : Nat) : U m ↔ F.Up (((2 * S + 1 : Nat) : Rat) * tw (e - 1)) m := by
  have T := tw_pos e
  have T1 := tw_pos (e - 1)
  have e0 := tw_pred e
  -- a middle is so many of 2^e, or below S of it
  have key : F.mid m ≤ (S : Rat) * tw e ∨ ((S + 1 : Nat) : Rat) * tw e ≤ F.mid m := by
    by_cases h : e ≤ F.ex m - 1
    · have h1 : F.mid m = (((2 * F.sg m + 1) * 2 ^ (F.ex m - 1 - e).toNat : Nat) : Rat) * tw e := by
        unfold mid
        rw [tw_sub_nat (F.ex m - 1) e h]
        push_cast
        grind
      rw [h1]
      rcases Nat.lt_or_ge S ((2 * F.sg m + 1) * 2 ^ (F.ex m - 1 - e).toNat) with h2 | h2
      · exact .inr (mul_le (nat_le.2 h2) T)
      · exact .inl (mul_le (nat_le.2 h2) T)
    · rcases hS with hS | hS
      · left
        have h1 := F.sg_lt m
        have h2 : F.mid m = ((2 * F.sg m + 1 : Nat) : Rat) * tw (F.ex m - 1) := rfl
        have h3 : tw (F.ex m - 1) ≤ tw (e - 1) := tw_le (by omega)
        have h4 : ((2 * F.sg m + 1 : Nat) : Rat) * tw (F.ex m - 1) ≤ ((2 * F.sg m + 1 : Nat) : Rat) * tw (e - 1) := Rat.mul_le_mul_of_nonneg_left h3 (by exact_mod_cast Nat.zero_le _)
        have h5 : ((2 * F.sg m + 1 : Nat) : Rat) ≤ ((2 * S : Nat) : Rat) := nat_le.2 (by omega)
        have h6 := mul_le h5 T1
        push_cast at h4 h6 h2
        have h8 : (S : Rat) * tw e = 2 * S * tw (e - 1) := by rw [e0]; generalize tw (e - 1) = t; grind
        rw [h2, h8]
        exact Rat.le_trans h4 h6
      · exfalso
        have : F.low ≤ F.ex m := by
          obtain ⟨q, n, _, _, _, _, h⟩ := F.sg_ex m
          omega
        omega
  have hm : ((2 * S + 1 : Nat) : Rat) * tw (e - 1) = (S : Rat) * tw e + tw (e - 1) := by push_cast; grind
  have hm2 : ((S + 1 : Nat) : Rat) * tw e = (S : Rat) * tw e + tw (e - 1) + tw (e - 1) := by push_cast; grind
  rw [hm]
  rcases key with h | h
  · exact ⟨fun _ => .inl (by grind), fun _ => hd m h⟩
  · refine ⟨fun u => absurd u (hu m h), fun u => ?_⟩
    rw [hm2] at h
    rcases u with u | ⟨u, _⟩ <;> grind
end Fmt
end Flo
set_option linter.unusedVariables false
set_option linter.unusedSimpArgs false
namespace Flo
namespace Fmt
variable (F : Fmt)
theorem make_bd {x : Rat} {q n : Nat} (hx : x < tw (q + F.low + F.f + 1)) (hq : 0 < q → tw (q + F.low + F.f) ≤ x)
    (hd : 0 < n → ((2 * n - 1 : Nat) : Rat) * tw (q + F.low - 1) < x ∨ ((2 * n - 1 : Nat) : Rat) * tw (q + F.low - 1) = x ∧ n % 2 = 0)
    (hu : x < ((2 * n + 1 : Nat) : Rat) * tw (q + F.low - 1) ∨ x = ((2 * n + 1 : Nat) : Rat) * tw (q + F.low - 1) ∧ n % 2 = 0) :
    n ≤ 2 ^ (F.f + 1) ∧ (0 < q → 2 ^ F.f ≤ n) := by
  have T := tw_pos (q + F.low - 1)
  have e1 : tw (q + F.low + F.f + 1) = ((2 ^ (F.f + 2) : Nat) : Rat) * tw (q + F.low - 1) := by
    rw [← tw_nat, ← tw_add]; congr 1; omega
  have e2 : tw (q + F.low + F.f) = ((2 ^ (F.f + 1) : Nat) : Rat) * tw (q + F.low - 1) := by
    rw [← tw_nat, ← tw_add]; congr 1; omega
  constructor
  · rcases Nat.eq_zero_or_pos n with h | h
    · rw [h]; exact Nat.zero_le _
    · have h1 : ((2 * n - 1 : Nat) : Rat) * tw (q + F.low - 1) < ((2 ^ (F.f + 2) : Nat) : Rat) * tw (q + F.low - 1) := by
        rw [← e1]
        rcases hd h with h | ⟨h, _⟩ <;> grind
      have h2 := nat_lt.1 (lt_of_mul h1 T)
      rw [Nat.pow_succ] at h2
      omega
  · intro h
    have h1 := hq h
    have h2 : ((2 ^ (F.f + 1) : Nat) : Rat) * tw (q + F.low - 1) ≤ ((2 * n + 1 : Nat) : Rat) * tw (q + F.low - 1) := by
      rw [← e2]
      rcases hu with h | ⟨h, _⟩ <;> grind
    have h3 := nat_le.1 (le_of_mul h2 T)
    rw [Nat.pow_succ] at h3
    omega
theorem near_lo {A B q : Nat} (hB : 0 < B) {x : Rat} (hxe : x * (B : Rat) = (A : Rat) * tw (q + F.low)) (h : 0 < rne A B) :
    ((2 * rne A B - 1 : Nat) : Rat) * tw (q + F.low - 1) < x ∨ ((2 * rne A B - 1 : Nat) : Rat) * tw (q + F.low - 1) = x ∧ rne A B % 2 = 0 := by
  have T := tw_pos (q + F.low - 1)
  have hB' : (0 : Rat) < (B : Rat) := by exact_mod_cast hB
  have e := tw_pred (q + F.low)
  rw [e] at hxe
  have key := rne_lo A B hB h
  generalize 2 * rne A B - 1 = m at *
  rcases key with h1 | ⟨h1, h2⟩
  · left
    have h3 : ((m * B : Nat) : Rat) < ((2 * A : Nat) : Rat) := nat_lt.2 h1
    have h4 := mul_lt h3 T
    refine lt_of_mul (t := (B : Rat)) ?_ hB'
    push_cast at h4
    grind
  · right
    refine ⟨?_, h2⟩
    have h3 : ((m * B : Nat) : Rat) = ((2 * A : Nat) : Rat) := by exact_mod_cast h1
    push_cast at h3
    have h5 : ((m : Rat) * tw (q + F.low - 1)) * B = x * B := by generalize tw (q + F.low - 1) = t at *; grind
    have h6 : ¬ ((m : Rat) * tw (q + F.low - 1)) < x := fun h => by have := mul_lt h hB'; grind
    have h7 : ¬ x < ((m : Rat) * tw (q + F.low - 1)) := fun h => by have := mul_lt h hB'; grind
    grind
theorem near_hi {A B q : Nat} (hB : 0 < B) {x : Rat} (hxe : x * (B : Rat) = (A : Rat) * tw (q + F.low)) :
    x < ((2 * rne A B + 1 : Nat) : Rat) * tw (q + F.low - 1) ∨ x = ((2 * rne A B + 1 : Nat) : Rat) * tw (q + F.low - 1) ∧ rne A B % 2 = 0 := by
  have T := tw_pos (q + F.low - 1)
  have hB' : (0 : Rat) < (B : Rat) := by exact_mod_cast hB
  have e := tw_pred (q + F.low)
  rw [e] at hxe
  have key := rne_hi A B hB
  generalize 2 * rne A B + 1 = m at *
  rcases key with h1 | ⟨h1, h2⟩
  · left
    have h3 : ((2 * A : Nat) : Rat) < ((m * B : Nat) : Rat) := nat_lt.2 h1
    have h4 := mul_lt h3 T
    refine lt_of_mul (t := (B : Rat)) ?_ hB'
    push_cast at h4
    grind
  · right
    refine ⟨?_, h2⟩
    have h3 : ((2 * A : Nat) : Rat) = ((m * B : Nat) : Rat) := by exact_mod_cast h1
    push_cast at h3
    have h5 : ((m : Rat) * tw (q + F.low - 1)) * B = x * B := by generalize tw (q + F.low - 1) = t at *; grind
    have h6 : ¬ ((m : Rat) * tw (q + F.low - 1)) < x := fun h => by have := mul_lt h hB'; grind
    have h7 : ¬ x < ((m : Rat) * tw (q + F.low - 1)) := fun h => by have := mul_lt h hB'; grind
    grind
def fin (q n : Nat) : Nat :=
  if n = 2 ^ (F.f + 1) then (if F.top < q + 3 then F.inf else (q + 2) * 2 ^ F.f)
  else if F.top < q + 2 then F.inf else if n < 2 ^ F.f then n else (q + 1) * 2 ^ F.f + (n - 2 ^ F.f)
theorem fin_eq {q n : Nat} (hn : n ≤ 2 ^ (F.f + 1)) (hl : 0 < q → 2 ^ F.f ≤ n) : F.fin q n = min F.inf (q * 2 ^ F.f + n) := by
  have hp := F.pow_pos
  have ht := F.ht
  unfold fin inf
  rw [Nat.pow_succ] at hn ⊢
  have m1 : ∀ a b : Nat, a ≤ b → a * 2 ^ F.f ≤ b * 2 ^ F.f := fun a b h => Nat.mul_le_mul_right _ h
  have e2 : (q + 2) * 2 ^ F.f = q * 2 ^ F.f + 2 ^ F.f * 2 := by rw [Nat.add_mul, Nat.mul_comm 2]
  have e1 : (q + 1) * 2 ^ F.f = q * 2 ^ F.f + 2 ^ F.f := by rw [Nat.add_mul, Nat.one_mul]
  by_cases h : n = 2 ^ F.f * 2
  · rw [if_pos h, h, ← e2]
    split
    · rename_i h2
      have := m1 F.top (q + 2) (by omega)
      omega
    · rename_i h2
      have := m1 (q + 2) F.top (by omega)
      omega
  · rw [if_neg h]
    by_cases h3 : n < 2 ^ F.f
    · have hq : q = 0 := by
        rcases Nat.eq_zero_or_pos q with h4 | h4
        · exact h4
        · have := hl h4; omega
      subst hq
      have := m1 1 F.top (by omega)
      rw [if_neg (by omega), if_pos h3]
      omega
    · split
      · have := m1 F.top (q + 1) (by omega)
        omega
      · have := m1 (q + 2) F.top (by omega)
        omega
theorem Rnd.doc {a b la lb : Nat} {k : Int} {x : Rat} (ha1 : 2 ^ la ≤ 2 * a) (ha2 : a < 2 ^ la) (hb0 : 0 < b) (hb1 : 2 ^ lb ≤ 2 * b) (hb2 : b < 2 ^ lb) (hxe : x * (b : Rat) = (a : Rat) * tw k)
    {q0 q1 : Int} (hq0 : q0 = max ((la : Int) - lb + k - F.f) F.low) (hq1 : q1 = if F.low < q0 ∧ x < tw (q0 + F.f) then q0 - 1 else q0) :
    F.low ≤ q1 ∧ x < tw (q1 + F.f + 1) ∧ (F.low < q1 → tw (q1 + F.f) ≤ x) := by
  have B0 : (0 : Rat) < (b : Rat) := by exact_mod_cast hb0
  have K := tw_pos k
  have up : x < tw (la - lb + k + 1) := by
    refine lt_of_mul (t := (b : Rat)) ?_ B0
    rw [hxe]
    have h1 : (a : Rat) < ((2 ^ la : Nat) : Rat) := nat_lt.2 ha2
    have h2 : ((2 ^ lb : Nat) : Rat) ≤ ((2 * b : Nat) : Rat) := nat_le.2 hb1
    have h3 := mul_lt h1 K
    have h4 := mul_le h2 (tw_pos (la - lb + k))
    have h5 : ((2 ^ lb : Nat) : Rat) * tw (la - lb + k) = ((2 ^ la : Nat) : Rat) * tw k := by
      rw [← tw_nat, ← tw_nat, ← tw_add, ← tw_add]; congr 1; omega
    rw [tw_succ]
    push_cast at h4
    generalize tw (la - lb + k) = t at *
    grind
  have dn : tw (la - lb + k - 1) < x := by
    refine lt_of_mul (t := (b : Rat)) ?_ B0
    rw [hxe]
    have h1 : ((2 ^ la : Nat) : Rat) ≤ ((2 * a : Nat) : Rat) := nat_le.2 ha1
    have h2 : (b : Rat) < ((2 ^ lb : Nat) : Rat) := nat_lt.2 hb2
    have h3 := mul_le h1 (tw_pos (k - 1))
    have h4 := mul_lt h2 (tw_pos (la - lb + k - 1))
    have h5 : ((2 ^ lb : Nat) : Rat) * tw (la - lb + k - 1) = ((2 ^ la : Nat) : Rat) * tw (k - 1) := by
      rw [← tw_nat, ← tw_nat, ← tw_add, ← tw_add]; congr 1; omega
    have h6 := tw_pred k
    clear h1 ha1 ha2 hb1 hb2 h2 hq0 hq1 up
    generalize ((2 ^ la : Nat) : Rat) = z at h3 h5
    generalize ((2 ^ lb : Nat) : Rat) = y at h4 h5
    push_cast at h3
    rw [h6]
    generalize tw (la - lb + k - 1) = t at *
    generalize tw (k - 1) = s at *
    have e2 : (a : Rat) * (2 * s) = 2 * a * s := by grind
    rw [e2]
    grind
  by_cases h : F.low < q0 ∧ x < tw (q0 + F.f)
  · rw [if_pos h] at hq1
    subst hq1
    refine ⟨by omega, ?_, fun h2 => ?_⟩
    · rw [show q0 - 1 + (F.f : Int) + 1 = q0 + F.f by omega]; exact h.2
    · have h3 : q0 - 1 + (F.f : Int) = la - lb + k - 1 := by omega
      rw [h3]; exact Rat.le_of_lt dn
  · rw [if_neg h] at hq1
    subst hq1
    refine ⟨by omega, ?_, fun h2 => ?_⟩
    · have h3 : tw (la - lb + k + 1) ≤ tw (q1 + F.f + 1) := tw_le (by omega)
      grind
    · have : ¬ x < tw (q1 + F.f) := fun h3 => h ⟨h2, h3⟩
      grind
end Fmt
end Flo
set_option linter.unusedVariables false
set_option linter.unusedSimpArgs false
namespace Flo
theorem rne_bits (S j m : Nat) (hm : m ≤ 1) :
    rne (2 * S + m) (2 ^ (j + 2)) = if S / 2 ^ j % 2 = 1 ∧ (S % 2 ^ j ≠ 0 ∨ m = 1 ∨ S / 2 ^ j / 2 % 2 = 1) then S / 2 ^ j / 2 + 1 else S / 2 ^ j / 2 := by
  have hp : 0 < 2 ^ j := Nat.pow_pos (by decide)
  have h0 := Nat.div_add_mod S (2 ^ j)
  have h1 := Nat.mod_lt S hp
  generalize S / 2 ^ j = c at *
  generalize S % 2 ^ j = l at *
  generalize hP : 2 ^ j = P at *
  have e4 : 2 ^ (j + 2) = 4 * P := by rw [Nat.pow_add, hP, Nat.mul_comm]
  rw [e4]
  have hc := Nat.div_add_mod c 2
  have hc2 := Nat.mod_lt c (show 0 < 2 by decide)
  generalize c / 2 = n at *
  generalize c % 2 = h at *
  have eP : P * c = P * (2 * n) + P * h := by rw [← Nat.mul_add, hc]
  have e2 : P * (2 * n) = 2 * (P * n) := by rw [Nat.mul_left_comm]
  have e5 : 4 * P * n = 4 * (P * n) := Nat.mul_assoc ..
  have hPh : P * h = if h = 1 then P else 0 := by
    rcases (show h = 0 ∨ h = 1 by omega) with h3 | h3 <;> subst h3 <;> simp
  have hd : (2 * S + m) / (4 * P) = n := by
    rw [Nat.div_eq_iff (by omega)]
    rw [Nat.mul_comm n]
    split at hPh <;> omega
  have hr : (2 * S + m) % (4 * P) = 2 * (P * h) + 2 * l + m := by
    have := Nat.div_add_mod (2 * S + m) (4 * P)
    rw [hd, e5] at this
    omega
  unfold rne
  rw [hd, hr]
  have hmod : n % 2 < 2 := Nat.mod_lt _ (by decide)
  rcases (show h = 0 ∨ h = 1 by omega) with h3 | h3
  · subst h3
    rw [if_neg (by rw [Nat.mul_zero]; omega), if_neg (by omega)]
  · subst h3
    rw [Nat.mul_one]
    by_cases h4 : l ≠ 0 ∨ m = 1 ∨ n % 2 = 1
    · rw [if_pos (show 4 * P < 2 * (2 * P + 2 * l + m) ∨ 2 * (2 * P + 2 * l + m) = 4 * P ∧ n % 2 = 1 by omega), if_pos ⟨rfl, h4⟩]
    · rw [if_neg (show ¬ (4 * P < 2 * (2 * P + 2 * l + m) ∨ 2 * (2 * P + 2 * l + m) = 4 * P ∧ n % 2 = 1) by omega), if_neg (fun h => h4 h.2)]
namespace Fmt
variable (F : Fmt)
theorem Rnd.congr {U V : Nat → Prop} {r : Nat} (h : F.Rnd U r) (i : ∀ m, U m ↔ V m) : F.Rnd V r := ⟨h.1, fun m hm => (i m).1 (h.2.1 m hm), fun hr u => h.2.2 hr ((i r).2 u)⟩
theorem Rnd.sticky {U : Nat → Prop} {S r : Nat} {e : Int} (h : F.Rnd (F.Up (((2 * S + 1 : Nat) : Rat) * tw (e - 1))) r) (hd : ∀ m, F.mid m ≤ (S : Rat) * tw e → U m) (hu : ∀ m, ((S + 1 : Nat) : Rat) * tw e ≤ F.mid m → ¬ U m)
    (hS : 2 ^ (F.f + 1) ≤ S ∨ e ≤ F.low - 1) : F.Rnd U r := Rnd.congr F h fun m => (Up.sticky F hd hu hS m).symm
theorem Rnd.between {x : Rat} {S r : Nat} {e : Int} (h : F.Rnd (F.Up (((2 * S + 1 : Nat) : Rat) * tw (e - 1))) r) (h1 : (S : Rat) * tw e < x) (h2 : x < ((S + 1 : Nat) : Rat) * tw e)
    (hS : 2 ^ (F.f + 1) ≤ S ∨ e ≤ F.low - 1) : F.Rnd (F.Up x) r :=
  Rnd.sticky F h (fun m hm => .inl (by grind)) (fun m hm u => by rcases u with u | ⟨u, _⟩ <;> grind) hS
theorem Rnd.pack_dn {S la j m : Nat} {e : Int} {q : Nat} (hm : m ≤ 1) (h1 : 2 ^ la ≤ 2 * S) (h2 : S < 2 ^ la) (hj : ((j + 1 : Nat) : Int) = max ((la : Int) - F.f - 1) (F.low - e)) (hq : (q : Int) = e + (j + 1 : Nat) - F.low) :
    F.Rnd (F.Up (((2 * S + m : Nat) : Rat) * tw (e - 1))) (F.fin q (rne (2 * S + m) (2 ^ (j + 2)))) ∧ rne (2 * S + m) (2 ^ (j + 2)) ≤ 2 ^ (F.f + 1) ∧ (0 < q → 2 ^ F.f ≤ rne (2 * S + m) (2 ^ (j + 2))) := by
  have hB : 0 < 2 ^ (j + 2) := Nat.pow_pos (by decide)
  have T := tw_pos (e - 1)
  have hxe : ((2 * S + m : Nat) : Rat) * tw (e - 1) * ((2 ^ (j + 2) : Nat) : Rat) = ((2 * S + m : Nat) : Rat) * tw (q + F.low) := by
    rw [← tw_nat, Rat.mul_assoc, ← tw_add]; congr 2; omega
  have hx : ((2 * S + m : Nat) : Rat) * tw (e - 1) < tw (q + F.low + F.f + 1) := by
    have h3 : ((2 * S + m : Nat) : Rat) < ((2 ^ (la + 1) : Nat) : Rat) := nat_lt.2 (by rw [Nat.pow_succ]; omega)
    have h4 := mul_lt h3 T
    rw [← tw_nat, ← tw_add] at h4
    have h5 : tw ((la + 1 : Nat) + (e - 1)) ≤ tw (q + F.low + F.f + 1) := tw_le (by omega)
    grind
  have hl : 0 < q → tw (q + F.low + F.f) ≤ ((2 * S + m : Nat) : Rat) * tw (e - 1) := by
    intro h
    have h3 : ((2 ^ la : Nat) : Rat) ≤ ((2 * S + m : Nat) : Rat) := nat_le.2 (by omega)
    have h4 := mul_le h3 T
    rw [← tw_nat, ← tw_add] at h4
    have h5 : tw (q + F.low + F.f) ≤ tw (la + (e - 1)) := tw_le (by omega)
    grind
  have bd := F.make_bd hx hl (fun h => F.near_lo hB hxe h) (F.near_hi hB hxe)
  refine ⟨?_, bd⟩
  rw [F.fin_eq bd.1 bd.2]
  exact Rnd.near F hB hxe hx hl
theorem Rnd.pack_up {S la u : Nat} {e : Int} {q : Nat} (h1 : 2 ^ la ≤ 2 * S) (h2 : S < 2 ^ la) (hla : la ≤ F.f + 1) (he : F.low ≤ e) (hu : (u : Int) = min ((F.f : Int) + 1 - la) (e - F.low)) (hq : (q : Int) = e - u - F.low) :
    F.Rnd (F.Up ((S : Rat) * tw e)) (F.fin q (S * 2 ^ u)) ∧ S * 2 ^ u ≤ 2 ^ (F.f + 1) ∧ (0 < q → 2 ^ F.f ≤ S * 2 ^ u) := by
  have T := tw_pos e
  have e0 : rne (S * 2 ^ u) 1 = S * 2 ^ u := by have := rne_exact (S * 2 ^ u) 1 (by decide); rwa [Nat.mul_one] at this
  have hxe : (S : Rat) * tw e * ((1 : Nat) : Rat) = ((S * 2 ^ u : Nat) : Rat) * tw (q + F.low) := by
    rw [tw_sub_nat e (q + F.low) (by omega), show (e - (q + F.low)).toNat = u by omega]
    push_cast
    grind
  have hx : (S : Rat) * tw e < tw (q + F.low + F.f + 1) := by
    have h3 : (S : Rat) < ((2 ^ la : Nat) : Rat) := nat_lt.2 h2
    have h4 := mul_lt h3 T
    rw [← tw_nat, ← tw_add] at h4
    have h5 : tw (la + e) ≤ tw (q + F.low + F.f + 1) := tw_le (by omega)
    grind
  have hl : 0 < q → tw (q + F.low + F.f) ≤ (S : Rat) * tw e := by
    intro h
    have h3 : ((2 ^ la : Nat) : Rat) ≤ ((2 * S : Nat) : Rat) := nat_le.2 h1
    have h4 := mul_le h3 (tw_pos (e - 1))
    rw [← tw_nat, ← tw_add] at h4
    have h5 : tw (q + F.low + F.f) ≤ tw (la + (e - 1)) := tw_le (by omega)
    have h6 := tw_pred e
    push_cast at h4
    rw [h6]
    generalize tw (e - 1) = t at *
    grind
  have hB : 0 < 1 := by decide
  have bd := F.make_bd hx hl (fun h => F.near_lo hB hxe h) (F.near_hi hB hxe)
  have R := Rnd.near F hB hxe hx hl
  rw [e0] at bd R
  refine ⟨?_, bd⟩
  rw [F.fin_eq bd.1 bd.2]
  exact R
end Fmt
end Flo
set_option linter.unusedVariables false
set_option linter.unusedSimpArgs false
namespace Flo
namespace Fmt
variable (F : Fmt)
noncomputable def rnd (x : Rat) : Nat := Classical.choose (Rnd.exists F (F.Up x))
theorem rnd_spec (x : Rat) : F.Rnd (F.Up x) (F.rnd x) := Classical.choose_spec (Rnd.exists F (F.Up x))
theorem rnd_of {x : Rat} {r : Nat} (h : F.Rnd (F.Up x) r) : F.rnd x = r := Rnd.eq F (F.rnd_spec x) h
theorem rnd_val {m : Nat} (h : m ≤ F.inf) : F.rnd (F.val m) = m := F.rnd_of (Rnd.exact F h)
theorem rnd_zero : F.rnd 0 = 0 := by
  have := F.rnd_val (Nat.zero_le F.inf)
  rwa [val_zero] at this
theorem inf_pos : 0 < F.inf := Nat.mul_pos (by have := F.ht; omega) F.pow_pos
theorem val_one : F.val 1 = tw F.low := by
  have h := F.val_succ 0
  have hp := F.pow_pos
  rw [val_zero] at h
  have e : F.ex 0 = F.low := by unfold ex; rw [if_pos hp]
  rw [h, e]; grind
theorem val_pos {m : Nat} : 0 < F.val m ↔ 0 < m := by rw [← F.val_zero]; exact F.val_lt_iff
theorem rnd_inf {x : Rat} (h : F.val F.inf ≤ x) : F.rnd x = F.inf := F.rnd_of (Rnd.huge F (by rw [← val_inf]; exact h))
end Fmt
end Flo
namespace Bit
theorem or_pow (x c k : Nat) (hx : x < 2 ^ k) : x ||| c * 2 ^ k = x + c * 2 ^ k := by
  rw [Nat.mul_comm, Nat.or_comm, ← Nat.two_pow_add_eq_or_of_lt hx, Nat.add_comm]
theorem and_low (a k : Nat) : a &&& (2 ^ k - 1) = a % 2 ^ k := Nat.and_two_pow_sub_one_eq_mod a k
end Bit
namespace Go.Proofs.Ytbpmnmceajmmcaa.PA
open Go.RowKit Go.Proofs.YtbpmnmceajmmcaaW.PrintWords Go.Proofs.YtbpmnmceajmmcaaW.PrintLast Go.Proofs.YtbpmnmceajmmcaaW.PrintMore
attribute [local go_sem] max2_int min2_int max_two min_two max_three min_three max_four min_four   -- for this text's walks alone
set_option linter.unusedVariables false
set_option linter.unusedSimpArgs false
set_option maxHeartbeats 8000000
set_option maxRecDepth 100000
def r2_Cut.f (a0 : Int) (a1 : Int) : Option (Int) := if a0 = 32 then (some (Int.tmod a1 4294967296)) else (some a1)
theorem r2_Cut.calls (a0 : Int) (a1 : Int) (r : Int) (w : World) (h : r2_Cut.f a0 a1 = some r) :
  Calls Try.prog 49 #[.int .i64 a0, .int .u64 a1] w fun e w' => e = .returned (.int .u64 r) ∧ Drawn0 w w' := by
 have H : (if a0 = 32 then (some (Int.tmod a1 4294967296)) else (some a1)) = some r := h
 clear h
 by_cases c3 : a0 = 32
 ·rw [if_pos c3] at H
  have c3b0 : (a0 == 32) = true := beq_iff_eq.mpr c3
  have c3b1 : (a0 != 32) = false := bne_eq_false_iff_eq.mpr c3
  clear c3
  obtain rfl := Option.some.inj H
  go_enter Try.func49, Try.ntmps49
  go_wp2
  go_ret
  exact ⟨sm_, by repeat (first | exact Drawn0.refl _ | apply Drawn0.step)⟩
 ·rw [if_neg c3] at H
  have c3b0 : (a0 == 32) = false := beq_eq_false_iff_ne.mpr c3
  have c3b1 : (a0 != 32) = true := bne_iff_ne.mpr c3
  obtain rfl := Option.some.inj H
  go_enter Try.func49, Try.ntmps49
  go_wp2
  go_ret
  exact ⟨sm_, by repeat (first | exact Drawn0.refl _ | apply Drawn0.step)⟩
def r2_Known.f (a0 : Int) : Option (Bool) := if a0 = 32 then (some true) else (some (a0 == 64))
theorem r2_Known.calls (a0 : Int) (r : Bool) (w : World) (h : r2_Known.f a0 = some r) :
  Calls Try.prog 16 #[.int .i64 a0] w fun e w' => e = .returned (.bool r) ∧ Drawn0 w w' := by
 have H : (if a0 = 32 then (some true) else (some (a0 == 64))) = some r := h
 clear h
 by_cases c2 : a0 = 32
 ·rw [if_pos c2] at H
  have c2b0 : (a0 == 32) = true := beq_iff_eq.mpr c2
  have c2b1 : (a0 != 32) = false := bne_eq_false_iff_eq.mpr c2
  clear c2
  obtain rfl := Option.some.inj H
  go_enter Try.func16, Try.ntmps16
  go_wp2
  go_ret
  exact ⟨sm_, by repeat (first | exact Drawn0.refl _ | apply Drawn0.step)⟩
 ·rw [if_neg c2] at H
  have c2b0 : (a0 == 32) = false := beq_eq_false_iff_ne.mpr c2
  have c2b1 : (a0 != 32) = true := bne_iff_ne.mpr c2
  obtain rfl := Option.some.inj H
  go_enter Try.func16, Try.ntmps16
  go_wp2
  go_ret
  exact ⟨sm_, by repeat (first | exact Drawn0.refl _ | apply Drawn0.step)⟩
def r2_Two.l0 : Nat → Int → Int → Int → Option (Int)
 | 0, _, _, _ => none
 | k + 1, x0, x3, x4 => if x4 < x0 then (r2_Two.l0 k x0 (IntKind.u64.wrap (2 * x3)) (wrap64 (x4 + 1))) else (some x3)
def r2_Two.f (k : Nat) (a0 : Int) : Option (Int) := r2_Two.l0 k a0 1 0
theorem r2_Two.mono_l : ∀ k, (∀ y0 y1 y2, LeO (r2_Two.l0 k y0 y1 y2) (r2_Two.l0 (k + 1) y0 y1 y2))
 | 0 => fun _ _ _ r h => by simp [r2_Two.l0] at h
 | k + 1 => by
  have ih0 := r2_Two.mono_l k
  ·intro y0 y1 y2
   unfold r2_Two.l0
   repeat' first
   | (with_reducible exact ih0 _ _ _)
   | (with_reducible exact LeO.refl _)
   | (with_reducible exact LeO.none _)
   | (with_reducible refine LeO.ite ?_ ?_)
   | (with_reducible refine LeO.bind ?_ (fun _ => ?_))
   | exact ih0 _ _ _
   | exact LeO.none _
   | refine LeO.ite ?_ ?_
   | refine LeO.bind ?_ (fun _ => ?_)
theorem r2_Two.mono : ∀ a0 k, LeO (r2_Two.f k a0) (r2_Two.f (k + 1) a0) := by
 intro a0 k
 have ih0 := r2_Two.mono_l k
 unfold r2_Two.f
 repeat' first
   | (with_reducible exact ih0 _ _ _)
   | (with_reducible exact LeO.refl _)
   | (with_reducible exact LeO.none _)
   | (with_reducible refine LeO.ite ?_ ?_)
   | (with_reducible refine LeO.bind ?_ (fun _ => ?_))
   | exact ih0 _ _ _
   | exact LeO.none _
   | refine LeO.ite ?_ ?_
   | refine LeO.bind ?_ (fun _ => ?_)
theorem r2_Two.calls (k : Nat) (a0 : Int) (r : Int) (w : World) (h : r2_Two.f k a0 = some r) :
  Calls Try.prog 51 #[.int .i64 a0] w fun e w' => e = .returned (.int .u64 r) ∧ Drawn0 w w' := by
 have H : (r2_Two.l0 k a0 1 0) = some r := h
 clear h
 have H' := A_ H
 clear H
 go_enter Try.func51, Try.ntmps51
 go_wp2
 go_loopg [3, 4] k (fun kq v3 v4 w' => ∃ (x3_1 : Int) (x4_1 : Int), v3 = .int .u64 x3_1 ∧ v4 = .int .i64 x4_1 ∧ Aside0 (r2_Two.l0 kq a0 x3_1 x4_1 = some r) ∧ Aside0 (kq ≤ k) ∧ Drawn0 w w')
 case atStart => exact ⟨(1), (0), sm_, sm_, H', ⟨Nat.le_refl _⟩, by repeat (first | exact Drawn0.refl _ | apply Drawn0.step)⟩
 case round =>
  clear H'
  obtain ⟨x3_1, x4_1, rfl, rfl, HA, HK1, ⟨m1, rfl⟩⟩ := hrel
  cases gk with
  | zero => exact absurd HA.out (by simp [r2_Two.l0])
  | succ k1 =>
   have H := HA.out
   clear HA
   simp only [r2_Two.l0] at H
   by_cases c2 : x4_1 < a0
   ·rw [if_pos c2] at H
    have c2b0 : decide (x4_1 < a0) = true := decide_eq_true c2
    clear c2
    have H' := A_ H
    clear H
    go_wp2
    go_roundg k1
    case measure => have := HK1.out; omega
    case rel => exact ⟨(IntKind.u64.wrap (2 * x3_1)), (wrap64 (x4_1 + 1)), sm_, sm_, H', ⟨by have := HK1.out; omega⟩, by repeat (first | exact Drawn0.refl _ | apply Drawn0.step)⟩
   ·rw [if_neg c2] at H
    have c2b0 : decide (x4_1 < a0) = false := decide_eq_false c2
    clear c2
    obtain rfl := Option.some.inj H
    go_wp2
    go_ret
    exact ⟨sm_, by repeat (first | exact Drawn0.refl _ | apply Drawn0.step)⟩
def r2_Neg.f (k : Nat) (a0 : Int) (a1 : Int) : Option (Bool) := (r2_Cut.f a0 a1).bind fun t329 => ((r2_Two.f k (wrap64 (a0 - 1))).bind fun t330 => (if t330 = 0 then (none) else (some ((IntKind.u64.wrap (Int.tdiv t329 t330)) == 1))))
theorem r2_Neg.mono : ∀ a0 a1 k, LeO (r2_Neg.f k a0 a1) (r2_Neg.f (k + 1) a0 a1) := by
 intro a0 a1 k
 unfold r2_Neg.f
 repeat' first
   | (with_reducible exact r2_Two.mono _ _)
   | (with_reducible exact LeO.refl _)
   | (with_reducible exact LeO.none _)
   | (with_reducible refine LeO.ite ?_ ?_)
   | (with_reducible refine LeO.bind ?_ (fun _ => ?_))
   | exact r2_Two.mono _ _
   | exact LeO.none _
   | refine LeO.ite ?_ ?_
   | refine LeO.bind ?_ (fun _ => ?_)
theorem r2_Neg.calls (k : Nat) (a0 : Int) (a1 : Int) (r : Bool) (w : World) (h : r2_Neg.f k a0 a1 = some r) :
  Calls Try.prog 87 #[.int .i64 a0, .int .u64 a1] w fun e w' => e = .returned (.bool r) ∧ Drawn0 w w' := by
 have H : ((r2_Cut.f a0 a1).bind fun t329 => ((r2_Two.f k (wrap64 (a0 - 1))).bind fun t330 => (if t330 = 0 then (none) else (some ((IntKind.u64.wrap (Int.tdiv t329 t330)) == 1))))) = some r := h
 clear h
 replace H := ob_ H
 obtain ⟨t329, A30, H⟩ := H
 replace H : ((r2_Two.f k (wrap64 (a0 - 1))).bind fun t330 => (if t330 = 0 then (none) else (some ((IntKind.u64.wrap (Int.tdiv t329 t330)) == 1)))) = some r := H
 have A3 := A_ A30;clear A30
 replace H := ob_ H
 obtain ⟨t330, A40, H⟩ := H
 replace H : (if t330 = 0 then (none) else (some ((IntKind.u64.wrap (Int.tdiv t329 t330)) == 1))) = some r := H
 have A4 := A_ A40;clear A40
 by_cases c5 : t330 = 0
 ·rw [if_pos c5] at H
  exact absurd H (by simp)
 ·rw [if_neg c5] at H
  have c5b0 : (t330 == 0) = false := beq_eq_false_iff_ne.mpr c5
  have c5b1 : (t330 != 0) = true := bne_iff_ne.mpr c5
  obtain rfl := Option.some.inj H
  go_enter Try.func87, Try.ntmps87
  go_wp2_with (first | ((with_reducible refine gate_callee (f := 49) rfl ?_); refine gl_ (some 7) Try.func49 #[.int .i64 a0, .int .u64 a1] ?_; (with_reducible refine (r2_Cut.calls a0 a1 t329 _ A3.out).mono ?_); rintro e w' ⟨rfl, ⟨nd, rfl⟩⟩; refine ⟨_, rfl, ?_⟩) | ((with_reducible refine gate_callee (f := 51) rfl ?_); refine gl_ (some 10) Try.func51 #[.int .i64 (wrap64 (a0 - 1))] ?_; (with_reducible refine (r2_Two.calls k (wrap64 (a0 - 1)) t330 _ A4.out).mono ?_); rintro e w' ⟨rfl, ⟨nd, rfl⟩⟩; refine ⟨_, rfl, ?_⟩))
  go_ret
  exact ⟨sm_, by repeat (first | exact Drawn0.refl _ | apply Drawn0.step)⟩
end Go.Proofs.Ytbpmnmceajmmcaa.PA
section
set_option linter.unusedVariables false
set_option linter.unusedSimpArgs false
namespace Go.Proofs.Ytbpmnmceajmmcaa.Th
open Go.RowKit Go.Proofs.YtbpmnmceajmmcaaW.PrintWords Go.Proofs.YtbpmnmceajmmcaaW.PrintLast Go.Proofs.YtbpmnmceajmmcaaW.PrintMore Go.Proofs.Ytbpmnmceajmmcaa.PA Bit
theorem wf_u64 {a : Int} (h : (Lit.int .u64 a).wf = true) : 0 ≤ a ∧ a < 18446744073709551616 := by
  simp [Lit.wf, IntKind.min, IntKind.max, IntKind.signed, IntKind.bits] at h; omega
def cutN (w : Int) (a : Nat) : Nat := if w = 32 then a % 4294967296 else if w = 64 then a else 0
theorem r2Cut (w : Int) (a : Nat) (hw : w = 32 ∨ w = 64) : r2_Cut.f w a = some ((cutN w a : Nat) : Int) := by
  unfold r2_Cut.f cutN
  rcases hw with rfl | rfl
  · rw [if_pos rfl, if_pos rfl, Int.tmod_eq_emod_of_nonneg (by omega)]; congr 1
  · rw [if_neg (by decide), if_neg (by decide), if_pos rfl]
def sb (w : Int) : Nat := if w = 32 then 2147483648 else 9223372036854775808
def sgB (w : Int) (a : Nat) : Bool := decide (a / sb w % 2 = 1)
def magN (w : Int) (a : Nat) : Nat := a % sb w
theorem cutN_eq (w : Int) (hw : w = 32 ∨ w = 64) (a : Nat) (ha : a < 18446744073709551616) : cutN w a = magN w a + (if sgB w a then sb w else 0) := by
  unfold magN sgB
  rcases hw with rfl | rfl
  · simp only [cutN, sb, if_true, decide_eq_true_eq]; split <;> omega
  · simp only [cutN, sb, show ¬ ((64 : Int) = 32) by decide, if_false, if_true, decide_eq_true_eq]; split <;> omega
theorem magN_lt (w : Int) (hw : w = 32 ∨ w = 64) (a : Nat) : magN w a < sb w := by
  unfold magN sb; rcases hw with rfl | rfl <;> exact Nat.mod_lt _ (by decide)
def mkN (w : Int) (m : Nat) (s : Bool) : Nat := m + if s then sb w else 0
theorem sg_mk (w : Int) (hw : w = 32 ∨ w = 64) (m : Nat) (s : Bool) (h : m < sb w) : sgB w (mkN w m s) = s := by
  unfold sgB mkN; revert h; unfold sb; rcases hw with rfl | rfl <;> cases s <;> simp <;> omega
theorem known_f (w : Int) : r2_Known.f w = some (decide (w = 32 ∨ w = 64)) := by
  unfold r2_Known.f
  by_cases h : w = 32
  · rw [if_pos h]; simp [h]
  · rw [if_neg h]; congr 1; by_cases h2 : w = 64 <;> simp [h, h2]
theorem Ev.pos {α : Type} {c : Prop} [Decidable c] {f g : Nat → Option α} {r : α} (h : c) (k : Ev f r) : Ev (fun n => if c then f n else g n) r := Ev.congr (fun _ => if_pos h) k
theorem Ev.neg {α : Type} {c : Prop} [Decidable c] {f g : Nat → Option α} {r : α} (h : ¬ c) (k : Ev g r) : Ev (fun n => if c then f n else g n) r := Ev.congr (fun _ => if_neg h) k
theorem Ev.bs {α β : Type} {g : Option α} {a : α} {f : Nat → α → Option β} {r : β} (h : g = some a) (k : Ev (fun n => f n a) r) : Ev (fun n => g.bind (f n)) r := by subst h; exact k
theorem Ev.out {α : Type} {r s : α} (h : r = s) : Ev (fun _ => some r) s := by subst h; exact Ev.now _
theorem u64_id {n : Int} (h : 0 ≤ n) (h2 : n < 18446744073709551616) : IntKind.u64.wrap n = n := by rw [IntKind.wrap_u64]; omega
theorem w64_id {n : Int} (h : -9223372036854775808 ≤ n) (h2 : n < 9223372036854775808) : wrap64 n = n := by unfold wrap64; omega
theorem two_loop (n : Nat) (hn : n < 64) (d : Nat) : ∀ i : Nat, i ≤ n → n - i = d → Ev (fun k => r2_Two.l0 k n (2 ^ i : Nat) i) ((2 ^ n : Nat) : Int) := by
  induction d with
  | zero =>
    intro i hi hd
    obtain rfl : i = n := by omega
    refine Ev.step (fun _ => r2_Two.l0.eq_2 ..) ?_
    exact Ev.neg (by omega) (Ev.out rfl)
  | succ d ih =>
    intro i hi hd
    refine Ev.step (fun _ => r2_Two.l0.eq_2 ..) ?_
    refine Ev.pos (by omega) ?_
    have h := ih (i + 1) (by omega) (by omega)
    have hp : 2 ^ i ≤ 4611686018427387904 * 2 := by
      have : 2 ^ i ≤ 2 ^ 63 := Nat.pow_le_pow_right (by decide) (by omega)
      simpa using this
    have hp2 : 2 ^ (i + 1) ≤ 9223372036854775808 := by
      have : 2 ^ (i + 1) ≤ 2 ^ 63 := Nat.pow_le_pow_right (by decide) (by omega)
      simpa using this
    rw [Nat.pow_succ] at h hp2
    generalize 2 ^ i = P at *
    rw [u64_id (by omega) (by omega), w64_id (by omega) (by omega), show (2 : Int) * (P : Int) = ((P * 2 : Nat) : Int) by omega, show (i : Int) + 1 = ((i + 1 : Nat) : Int) by omega]
    exact h
theorem two_f (n : Nat) (hn : n < 64) : Ev (fun k => r2_Two.f k n) ((2 ^ n : Nat) : Int) := two_loop n hn _ 0 (by omega) rfl
theorem twoS (w : Int) (hw : w = 32 ∨ w = 64) : Ev (fun k => r2_Two.f k (wrap64 (w - 1))) ((sb w : Nat) : Int) := by
  rcases hw with rfl | rfl
  · rw [show wrap64 (32 - 1) = ((31 : Nat) : Int) by decide +kernel]; exact two_f 31 (by decide)
  · rw [show wrap64 (64 - 1) = ((63 : Nat) : Int) by decide +kernel]; exact two_f 63 (by decide)
theorem r2Neg (w : Int) (hw : w = 32 ∨ w = 64) (a : Nat) (ha : a < 18446744073709551616) : Ev (fun k => r2_Neg.f k w a) (sgB w a) := by
  unfold r2_Neg.f
  refine Ev.bs (r2Cut w a hw) (Ev.bind (twoS w hw) ?_)
  have hs : 0 < sb w := by unfold sb; split <;> decide
  refine Ev.neg (by omega) (Ev.out ?_)
  have hm := magN_lt w hw a
  rw [Int.tdiv_eq_ediv_of_nonneg (by omega), ← Int.natCast_ediv, cutN_eq w hw a ha]
  cases sgB w a
  · simp only [Bool.false_eq_true, if_false, Nat.add_zero]
    rw [Nat.div_eq_of_lt hm]; decide
  · simp only [if_true]
    rw [Nat.add_div_right _ hs, Nat.div_eq_of_lt hm]; decide
end Go.Proofs.Ytbpmnmceajmmcaa.Th
end
namespace Go.Proofs.Ytbpmnmceajmmcaa.PA
open Go.RowKit Go.Proofs.YtbpmnmceajmmcaaW.PrintWords Go.Proofs.YtbpmnmceajmmcaaW.PrintLast Go.Proofs.YtbpmnmceajmmcaaW.PrintMore
attribute [local go_sem] max2_int min2_int max_two min_two max_three min_three max_four min_four   -- for this text's walks alone
set_option linter.unusedVariables false
set_option linter.unusedSimpArgs false
set_option maxHeartbeats 8000000
set_option maxRecDepth 100000
def r1_at.f (l0 : List Int) (a1 : Int) : Option (Int) := if a1 < (l0.length : Int) then (if 0 ≤ a1 then (some (rd l0 a1)) else (none)) else (some 0)
theorem r1_at.calls (A0 : Option Addr) (c0 : Nat) (l0 : List Int) (a1 : Int) (r : Int) (w : World) (hr0 : Kd.C (Kd.int .u64) w A0 l0.length l0) (hc0 : l0.length ≤ c0) (h : r1_at.f l0 a1 = some r) :
  Calls Try.prog 93 #[.slice A0 l0.length c0, .int .i64 a1] w fun e w' => e = .returned (.int .u64 r) ∧ Drawn0 w w' := by
 have HR0 := A_ hr0;have HC0 := A_ hc0;clear hr0 hc0
 have H : (if a1 < (l0.length : Int) then (if 0 ≤ a1 then (some (rd l0 a1)) else (none)) else (some 0)) = some r := h
 clear h
 by_cases c3 : a1 < (l0.length : Int)
 ·rw [if_pos c3] at H
  have c3b0 : decide (a1 < (l0.length : Int)) = true := decide_eq_true c3
  clear c3
  by_cases c4 : 0 ≤ a1
  ·rw [if_pos c4] at H
   have c4b0 : decide (0 ≤ a1) = true := decide_eq_true c4
   clear c4
   obtain rfl := Option.some.inj H
   have p384 : 0 ≤ (a1 : Int) := of_decide_eq_true (by first | (with_reducible assumption) | assumption)
   have q384 : a1 < (l0.length : Int) := of_decide_eq_true (by first | (with_reducible assumption) | assumption)
   obtain ⟨ad384, e384, hx384_0⟩ := Kd.at_int HR0.out a1 p384 q384
   cases e384
   replace p384 := eq_true p384
   replace q384 := eq_true q384
   go_enter Try.func93, Try.ntmps93
   go_wp2
   go_ret
   exact ⟨sm_, by repeat (first | exact Drawn0.refl _ | apply Drawn0.step)⟩
  ·rw [if_neg c4] at H
   exact absurd H (by simp)
 ·rw [if_neg c3] at H
  have c3b0 : decide (a1 < (l0.length : Int)) = false := decide_eq_false c3
  clear c3
  obtain rfl := Option.some.inj H
  go_enter Try.func93, Try.ntmps93
  go_wp2
  go_ret
  exact ⟨sm_, by repeat (first | exact Drawn0.refl _ | apply Drawn0.step)⟩
def r1_trim.l0 : Nat → List Int → Int → Option (List Int)
 | 0, _, _ => none
 | k + 1, x0, x3 => if x3 > 0 then (if 0 ≤ (wrap64 (x3 - 1)) then (if (wrap64 (x3 - 1)) < (x0.length : Int) then (if (rd x0 (wrap64 (x3 - 1))) = 0 then (r1_trim.l0 k x0 (wrap64 (x3 - 1))) else (if 0 ≤ x3 then (if x3 ≤ (x0.length : Int) then (some (x0.take (x3 : Int).toNat)) else (none)) else (none))) else (none)) else (none)) else (if 0 ≤ x3 then (if x3 ≤ (x0.length : Int) then (some (x0.take (x3 : Int).toNat)) else (none)) else (none))
def r1_trim.f (k : Nat) (l0 : List Int) : Option (List Int) := r1_trim.l0 k l0 (l0.length : Int)
theorem r1_trim.mono_l : ∀ k, (∀ y0 y1, LeO (r1_trim.l0 k y0 y1) (r1_trim.l0 (k + 1) y0 y1))
 | 0 => fun _ _ r h => by simp [r1_trim.l0] at h
 | k + 1 => by
  have ih0 := r1_trim.mono_l k
  ·intro y0 y1
   unfold r1_trim.l0
   repeat' first
   | (with_reducible exact ih0 _ _)
   | (with_reducible exact LeO.refl _)
   | (with_reducible exact LeO.none _)
   | (with_reducible refine LeO.ite ?_ ?_)
   | (with_reducible refine LeO.bind ?_ (fun _ => ?_))
   | exact ih0 _ _
   | exact LeO.none _
   | refine LeO.ite ?_ ?_
   | refine LeO.bind ?_ (fun _ => ?_)
theorem r1_trim.mono : ∀ a0 k, LeO (r1_trim.f k a0) (r1_trim.f (k + 1) a0) := by
 intro a0 k
 have ih0 := r1_trim.mono_l k
 unfold r1_trim.f
 repeat' first
   | (with_reducible exact ih0 _ _)
   | (with_reducible exact LeO.refl _)
   | (with_reducible exact LeO.none _)
   | (with_reducible refine LeO.ite ?_ ?_)
   | (with_reducible refine LeO.bind ?_ (fun _ => ?_))
   | exact ih0 _ _
   | exact LeO.none _
   | refine LeO.ite ?_ ?_
   | refine LeO.bind ?_ (fun _ => ?_)
theorem r1_trim.calls (k : Nat) (P0_ : Nat → Prop) (u9000_ : Value) (l0 : List Int) (r : List Int) (w0 w : World) (hB : Below w0.heap.size w0 w) (ho0 : Kd.R (Kd.int .u64) 22 w w0.heap.size P0_ u9000_ l0) (h : r1_trim.f k l0 = some r) :
  Calls Try.prog 94 #[u9000_] w fun e w' => ∃ v0_ : Value, e = .returned (.agg #[v0_]) ∧ Kd.R (Kd.int .u64) 22 w' w0.heap.size (fun k_ => (P0_ k_ ∨ w.heap.size ≤ k_)) v0_ r ∧ Below w0.heap.size w0 w' ∧ Kept w w' (fun k_ => P0_ k_) := by
 have hu63 := Try.underlying63
 have HO0 := A_ (show Kd.R (Kd.int .u64) 22 w w0.heap.size (fun k_ => (P0_ k_ ∨ w.heap.size ≤ k_)) u9000_ l0 from Kd.R_mono ho0 (fun k_ hk => (.inl hk)))
 have HK := A_ (Kept.refl w (fun k_ => P0_ k_))
 have HW0 := A_ hB.size
 have HB := A_ hB;clear hB
 have H : (r1_trim.l0 k l0 (l0.length : Int)) = some r := h
 clear h
 have H' := A_ H
 clear H
 go_enter Try.func94, Try.ntmps94
 go_wp2_with (first | ((with_reducible refine gate_dst (N := 2) rfl ?_); refine be_ 2 #[.slice none 0 0] 63 ?_; intro gb350 hg w2 hbox hb; have n0_ := A_ (Kd.R_below (kr_ HO0.out) hb); have n1_ := A_ (Kept.below (S := (fun k_ => P0_ k_)) (by repeat (first | (with_reducible first | exact HK.out | apply Kept.alloc | apply Kept.drewN | apply Kept.drew) | exact HK.out)) hb); have n2_ := A_ (below_step (hb_ HB.out) hb); have n3_ := A_ (hbox); have n4_ := A_ ((by rw [hg]; exact (by first | exact HK.out.1 | exact (show Kept w _ (fun k_ => P0_ k_) from by repeat (first | (with_reducible first | exact HK.out | apply Kept.alloc | apply Kept.drewN | apply Kept.drew) | exact HK.out)).1) : w.heap.size ≤ gb350)); have n5_ := A_ ((by rw [hg]; exact (below_size (hb_ HB.out)) : w0.heap.size ≤ gb350)); clear HO0; clear HK; clear HB; have HO0 := n0_; have HK := n1_; have HB := n2_; have BK350 := n3_; have GW350 := n4_; have GE350 := n5_; clear n0_ n1_ n2_ n3_ n4_ n5_; clear hb hbox hg; obtain ⟨Ao3, co3, eo3⟩ := Kd.R_slice HO0.out; subst eo3))
 go_loopg [3] k (fun kq v3 w' => ∃ (x3_1 : Int), v3 = .int .i64 x3_1 ∧ Aside0 (r1_trim.l0 kq l0 x3_1 = some r) ∧ Aside0 (kq ≤ k) ∧ Aside0 (Kd.R (Kd.int .u64) 22 w' w0.heap.size (fun k_ => (P0_ k_ ∨ w.heap.size ≤ k_)) (.slice Ao3 l0.length co3) l0) ∧ Aside0 (w'.heap[gb350]? = some (.cells #[(.slice none 0 0)] 63 (0, 0))) ∧ Aside0 (Kept w w' (fun k_ => P0_ k_)) ∧ Aside0 (Below w0.heap.size w0 w'))
 case atStart => exact ⟨((l0.length : Int)), sm_, H', ⟨Nat.le_refl _⟩, ⟨by (with_reducible repeat (first | apply Kd.R_alloc | apply Kd.R_drewN | apply Kd.R_drew)); exact HO0.out⟩, ⟨bk_ BK350.out⟩, ⟨by repeat (first | (with_reducible first | exact HK.out | apply Kept.alloc | apply Kept.drewN | apply Kept.drew | refine Kept.setCell ?_ (.inr GW350.out) _) | exact HK.out)⟩, ⟨hb1_ HB.out GE350.out⟩⟩
 case round =>
  clear H'
  try clear p2
  obtain ⟨x3_1, rfl, HA, HK1, HO_0, BK350, HK, HB⟩ := hrel
  cases gk with
  | zero => exact absurd HA.out (by simp [r1_trim.l0])
  | succ k1 =>
   have H := HA.out
   clear HA
   simp only [r1_trim.l0] at H
   by_cases c4 : x3_1 > 0
   ·rw [if_pos c4] at H
    have c4b0 : decide (0 < x3_1) = true := decide_eq_true c4
    clear c4
    obtain ⟨ji5, hji5⟩ : ∃ j_ : Int, (wrap64 (x3_1 - 1)) = j_ := ⟨_, rfl⟩
    replace H : (if 0 ≤ (ji5) then (if (ji5) < (l0.length : Int) then (if (rd l0 (ji5)) = 0 then (r1_trim.l0 k1 l0 ji5) else (if 0 ≤ x3_1 then (if x3_1 ≤ (l0.length : Int) then (some (l0.take (x3_1 : Int).toNat)) else (none)) else (none))) else (none)) else (none)) = some r := by first | (rw [hji5] at H; exact H) | (simp only [hji5] at H ⊢; exact H)
    have hji5w : (IntKind.i64.wrap (x3_1 - 1)) = ji5 := (i64_w _).trans hji5
    by_cases c6 : 0 ≤ (ji5)
    ·rw [if_pos c6] at H
     have c6b0 : decide (0 ≤ (ji5)) = true := decide_eq_true c6
     clear c6
     by_cases c7 : (ji5) < (l0.length : Int)
     ·rw [if_pos c7] at H
      have c7b0 : decide ((ji5) < (l0.length : Int)) = true := decide_eq_true c7
      clear c7
      by_cases c8 : (rd l0 (ji5)) = 0
      ·rw [if_pos c8] at H
       have c8b0 : ((rd l0 (ji5)) == 0) = true := beq_iff_eq.mpr c8
       have c8b1 : ((rd l0 (ji5)) != 0) = false := bne_eq_false_iff_eq.mpr c8
       clear c8
       have H' := A_ H
       clear H
       have p351 : 0 ≤ ((ji5) : Int) := of_decide_eq_true (by first | (with_reducible assumption) | assumption)
       have q351 : (ji5) < (l0.length : Int) := of_decide_eq_true (by first | (with_reducible assumption) | assumption)
       obtain ⟨ad351, e351, hx351_0⟩ := Kd.at_int (Kd.R_reads' HO_0.out).2.2 (ji5) p351 q351
       cases e351
       replace p351 := eq_true p351
       replace q351 := eq_true q351
       go_wp2
       go_roundg k1
       case measure => have := HK1.out; omega
       case rel => exact ⟨(ji5), (by first | rfl | (simp; done) | (simp only [← hji5] <;> (first | rfl | simp)) | (simp [*]; done)), H', ⟨by have := HK1.out; omega⟩, ⟨by (with_reducible repeat (first | apply Kd.R_alloc | apply Kd.R_drewN | apply Kd.R_drew)); exact HO_0.out⟩, ⟨bk_ BK350.out⟩, ⟨by repeat (first | (with_reducible first | exact HK.out | apply Kept.alloc | apply Kept.drewN | apply Kept.drew | refine Kept.setCell ?_ (.inr GW350.out) _) | exact HK.out)⟩, ⟨hb1_ HB.out GE350.out⟩⟩
      ·rw [if_neg c8] at H
       have c8b0 : ((rd l0 (ji5)) == 0) = false := beq_eq_false_iff_ne.mpr c8
       have c8b1 : ((rd l0 (ji5)) != 0) = true := bne_iff_ne.mpr c8
       by_cases c9 : 0 ≤ x3_1
       ·rw [if_pos c9] at H
        have c9b0 := eq_true c9
        have c9b1 : decide (0 ≤ x3_1) = true := decide_eq_true c9
        clear c9
        by_cases c10 : x3_1 ≤ (l0.length : Int)
        ·rw [if_pos c10] at H
         have c10b0 := eq_true c10
         have c10b1 : decide (x3_1 ≤ (l0.length : Int)) = true := decide_eq_true c10
         clear c10
         obtain ⟨y352, hy352⟩ : ∃ y_ : List Int, y_ = (l0.take (x3_1 : Int).toNat) := ⟨_, rfl⟩
         replace H : (some y352) = some r := by first | (rw [hy352]; with_reducible exact H) | (have H2_ := (Option.bind_some _ _).symm.trans H; rw [hy352]; with_reducible exact H2_) | (have H2_ := (Option.bind_some _ _).symm.trans H; with_reducible exact H2_) | with_reducible exact H | (rw [hy352]; exact H) | exact H
         have Ny352 := A_ hy352;clear hy352
         obtain rfl := Option.some.inj H
         have p351 : 0 ≤ ((ji5) : Int) := of_decide_eq_true (by first | (with_reducible assumption) | assumption)
         have q351 : (ji5) < (l0.length : Int) := of_decide_eq_true (by first | (with_reducible assumption) | assumption)
         obtain ⟨ad351, e351, hx351_0⟩ := Kd.at_int (Kd.R_reads' HO_0.out).2.2 (ji5) p351 q351
         cases e351
         replace p351 := eq_true p351
         replace q351 := eq_true q351
         have q11 : (x3_1 : Int) ≤ ((l0.length : Int) : Int) := of_decide_eq_true (by first | (with_reducible assumption) | assumption)
         obtain ⟨i011, hi011, _, hsz11, _⟩ := info_parts info22
         have hcut11 := cut_to (P := Try.prog) 30 22 .i64 Try.underlying30 hi011 (some ad351) l0.length co3 x3_1 (of_decide_eq_true (by first | (with_reducible assumption) | assumption)) q11 (Kd.R_reads' HO_0.out).2.1
         have hr11 := Kd.R_take (m := (x3_1 : Int).toNat) HO_0.out (by omega)
         have hy11 : y352.length = (x3_1 : Int).toNat := (by rw [Ny352.out, List.length_take]; omega)
         rw [← Ny352.out] at hr11
         rw [← hy11] at hr11 hcut11
         clear hy11 hi011 hsz11 HO_0;have HO354 := A_ hr11;clear hr11
         replace q11 := eq_true q11
         have hcz12_0 : wr.cell? ⟨gb350, 0, none⟩ = some (.slice none 0 0) := bc_ BK350.out 0
         have hfz12_0 := blk_frozen BK350.out 0
         go_wp2
         refine bodyPost_ret (results_cell_row rfl _ _ gb350 63 #[.slice (some ad351) y352.length co3] (0, 0) _ rfl (by (with_reducible repeat (first | refine blk_drewN ?_ _ | refine blk_drew ?_ | refine blk_alloc ?_ _)); refine blk_put (cs := #[.slice none 0 0]) ?_ 0 _ rfl; (with_reducible repeat (first | refine blk_drewN ?_ _ | refine blk_drew ?_ | refine blk_alloc ?_ _)); exact BK350.out) Try.underlying63 rfl (by kernel_rfl)) rfl ?_
         exact ⟨_, by first | rfl | (simp [errW_none, errW_some] <;> rfl) | (simp only [← hji5]; first | rfl | (simp [errW_none, errW_some] <;> rfl)) | (simp [*, errW_none, errW_some] <;> rfl), by (with_reducible repeat (first | apply Kd.R_alloc | apply Kd.R_drewN | apply Kd.R_drew)); exact Kd.R_mono (Kd.R_far (p := ⟨gb350, 0, none⟩) (Kd.R_types HO354.out BK350.out (by decide)) (fun _ hk => hk.2) (.slice (some ad351) y352.length co3)) (fun _ hk => hk.1), by repeat (first | (with_reducible first | exact HB.out | apply below_alloc | apply pw_below_drewN | apply below_drew1 | refine below_set ?_ GE350.out) | exact HB.out), by repeat (first | (with_reducible first | exact HK.out | apply Kept.alloc | apply Kept.drewN | apply Kept.drew | refine Kept.setCell ?_ (.inr GW350.out) _) | exact HK.out)⟩
        ·rw [if_neg c10] at H
         exact absurd H (by simp)
       ·rw [if_neg c9] at H
        exact absurd H (by simp)
     ·rw [if_neg c7] at H
      exact absurd H (by simp)
    ·rw [if_neg c6] at H
     exact absurd H (by simp)
   ·rw [if_neg c4] at H
    have c4b0 : decide (0 < x3_1) = false := decide_eq_false c4
    clear c4
    by_cases c13 : 0 ≤ x3_1
    ·rw [if_pos c13] at H
     have c13b0 := eq_true c13
     have c13b1 : decide (0 ≤ x3_1) = true := decide_eq_true c13
     clear c13
     by_cases c14 : x3_1 ≤ (l0.length : Int)
     ·rw [if_pos c14] at H
      have c14b0 := eq_true c14
      have c14b1 : decide (x3_1 ≤ (l0.length : Int)) = true := decide_eq_true c14
      clear c14
      obtain ⟨y355, hy355⟩ : ∃ y_ : List Int, y_ = (l0.take (x3_1 : Int).toNat) := ⟨_, rfl⟩
      replace H : (some y355) = some r := by first | (rw [hy355]; with_reducible exact H) | (have H2_ := (Option.bind_some _ _).symm.trans H; rw [hy355]; with_reducible exact H2_) | (have H2_ := (Option.bind_some _ _).symm.trans H; with_reducible exact H2_) | with_reducible exact H | (rw [hy355]; exact H) | exact H
      have Ny355 := A_ hy355;clear hy355
      obtain rfl := Option.some.inj H
      have q15 : (x3_1 : Int) ≤ ((l0.length : Int) : Int) := of_decide_eq_true (by first | (with_reducible assumption) | assumption)
      obtain ⟨i015, hi015, _, hsz15, _⟩ := info_parts info22
      have hcut15 := cut_to (P := Try.prog) 30 22 .i64 Try.underlying30 hi015 Ao3 l0.length co3 x3_1 (of_decide_eq_true (by first | (with_reducible assumption) | assumption)) q15 (Kd.R_reads' HO_0.out).2.1
      have hr15 := Kd.R_take (m := (x3_1 : Int).toNat) HO_0.out (by omega)
      have hy15 : y355.length = (x3_1 : Int).toNat := (by rw [Ny355.out, List.length_take]; omega)
      rw [← Ny355.out] at hr15
      rw [← hy15] at hr15 hcut15
      clear hy15 hi015 hsz15 HO_0;have HO357 := A_ hr15;clear hr15
      replace q15 := eq_true q15
      have hcz16_0 : wr.cell? ⟨gb350, 0, none⟩ = some (.slice none 0 0) := bc_ BK350.out 0
      have hfz16_0 := blk_frozen BK350.out 0
      go_wp2
      refine bodyPost_ret (results_cell_row rfl _ _ gb350 63 #[.slice Ao3 y355.length co3] (0, 0) _ rfl (by (with_reducible repeat (first | refine blk_drewN ?_ _ | refine blk_drew ?_ | refine blk_alloc ?_ _)); refine blk_put (cs := #[.slice none 0 0]) ?_ 0 _ rfl; (with_reducible repeat (first | refine blk_drewN ?_ _ | refine blk_drew ?_ | refine blk_alloc ?_ _)); exact BK350.out) Try.underlying63 rfl (by kernel_rfl)) rfl ?_
      exact ⟨_, by first | rfl | (simp [errW_none, errW_some] <;> rfl) | (simp [*, errW_none, errW_some] <;> rfl), by (with_reducible repeat (first | apply Kd.R_alloc | apply Kd.R_drewN | apply Kd.R_drew)); exact Kd.R_mono (Kd.R_far (p := ⟨gb350, 0, none⟩) (Kd.R_types HO357.out BK350.out (by decide)) (fun _ hk => hk.2) (.slice Ao3 y355.length co3)) (fun _ hk => hk.1), by repeat (first | (with_reducible first | exact HB.out | apply below_alloc | apply pw_below_drewN | apply below_drew1 | refine below_set ?_ GE350.out) | exact HB.out), by repeat (first | (with_reducible first | exact HK.out | apply Kept.alloc | apply Kept.drewN | apply Kept.drew | refine Kept.setCell ?_ (.inr GW350.out) _) | exact HK.out)⟩
     ·rw [if_neg c14] at H
      exact absurd H (by simp)
    ·rw [if_neg c13] at H
     exact absurd H (by simp)
mutual
def r1_Add.l0 : Nat → List Int → Int → Int → List Int → List Int → Option (List Int)
 | 0, _, _, _, _, _ => none
 | k + 1, x5, x6, x7, x400000, x401000 => if x7 < (mx (x400000.length : Int) (x401000.length : Int)) then (r1_Add.j1 k x5 x6 x7 true x400000 x401000) else (r1_Add.j1 k x5 x6 x7 (decide (x6 > 0)) x400000 x401000)
def r1_Add.j1 : Nat → List Int → Int → Int → Bool → List Int → List Int → Option (List Int)
 | 0, _, _, _, _, _, _ => none
 | k + 1, x5, x6, x7, x21, x400000, x401000 => if x21 = true then ((r1_at.f x400000 x7).bind fun t402 => ((r1_at.f x401000 x7).bind fun t403 => (if x5.length < 17592186044416 then (r1_Add.l0 k (x5 ++ [Int.tmod (IntKind.u64.wrap ((IntKind.u64.wrap (t402 + t403)) + x6)) 4294967296]) (IntKind.u64.wrap (Int.tdiv (IntKind.u64.wrap ((IntKind.u64.wrap (t402 + t403)) + x6)) 4294967296)) (wrap64 (x7 + 1)) x400000 x401000) else (none)))) else ((r1_trim.f k x5).bind fun t407 => (some t407))
end
def r1_Add.f (k : Nat) (l0_0 : List Int) (l1_0 : List Int) : Option (List Int) := r1_Add.l0 k ([] : List Int) 0 0 l0_0 l1_0
theorem r1_Add.mono_l : ∀ k, (∀ y0 y1 y2 y3 y4, LeO (r1_Add.l0 k y0 y1 y2 y3 y4) (r1_Add.l0 (k + 1) y0 y1 y2 y3 y4)) ∧ (∀ y0 y1 y2 y3 y4 y5, LeO (r1_Add.j1 k y0 y1 y2 y3 y4 y5) (r1_Add.j1 (k + 1) y0 y1 y2 y3 y4 y5))
 | 0 => ⟨fun _ _ _ _ _ r h => by simp [r1_Add.l0] at h, fun _ _ _ _ _ _ r h => by simp [r1_Add.j1] at h⟩
 | k + 1 => by
  obtain ⟨ih0, ih1⟩ := r1_Add.mono_l k
  refine ⟨?_, ?_⟩
  ·intro y0 y1 y2 y3 y4
   unfold r1_Add.l0
   repeat' first
   | (with_reducible exact ih0 _ _ _ _ _)
   | (with_reducible exact ih1 _ _ _ _ _ _)
   | (with_reducible exact r1_trim.mono _ _)
   | (with_reducible exact LeO.refl _)
   | (with_reducible exact LeO.none _)
   | (with_reducible refine LeO.ite ?_ ?_)
   | (with_reducible refine LeO.bind ?_ (fun _ => ?_))
   | exact ih0 _ _ _ _ _
   | exact ih1 _ _ _ _ _ _
   | exact r1_trim.mono _ _
   | exact LeO.none _
   | refine LeO.ite ?_ ?_
   | refine LeO.bind ?_ (fun _ => ?_)
  ·intro y0 y1 y2 y3 y4 y5
   unfold r1_Add.j1
   repeat' first
   | (with_reducible exact ih0 _ _ _ _ _)
   | (with_reducible exact ih1 _ _ _ _ _ _)
   | (with_reducible exact r1_trim.mono _ _)
   | (with_reducible exact LeO.refl _)
   | (with_reducible exact LeO.none _)
   | (with_reducible refine LeO.ite ?_ ?_)
   | (with_reducible refine LeO.bind ?_ (fun _ => ?_))
   | exact ih0 _ _ _ _ _
   | exact ih1 _ _ _ _ _ _
   | exact r1_trim.mono _ _
   | exact LeO.none _
   | refine LeO.ite ?_ ?_
   | refine LeO.bind ?_ (fun _ => ?_)
theorem r1_Add.mono : ∀ a0 a1 k, LeO (r1_Add.f k a0 a1) (r1_Add.f (k + 1) a0 a1) := by
 intro a0 a1 k
 obtain ⟨ih0, ih1⟩ := r1_Add.mono_l k
 unfold r1_Add.f
 repeat' first
   | (with_reducible exact ih0 _ _ _ _ _)
   | (with_reducible exact ih1 _ _ _ _ _ _)
   | (with_reducible exact r1_trim.mono _ _)
   | (with_reducible exact LeO.refl _)
   | (with_reducible exact LeO.none _)
   | (with_reducible refine LeO.ite ?_ ?_)
   | (with_reducible refine LeO.bind ?_ (fun _ => ?_))
   | exact ih0 _ _ _ _ _
   | exact ih1 _ _ _ _ _ _
   | exact r1_trim.mono _ _
   | exact LeO.none _
   | refine LeO.ite ?_ ?_
   | refine LeO.bind ?_ (fun _ => ?_)
theorem r1_Add.calls (k : Nat) (A0_0 : Option Addr) (c0_0 : Nat) (l0_0 : List Int) (A1_0 : Option Addr) (c1_0 : Nat) (l1_0 : List Int) (r : List Int) (w : World) (hr0_0 : Kd.C (Kd.int .u64) w A0_0 l0_0.length l0_0) (hc0_0 : l0_0.length ≤ c0_0) (hr1_0 : Kd.C (Kd.int .u64) w A1_0 l1_0.length l1_0) (hc1_0 : l1_0.length ≤ c1_0) (h : r1_Add.f k l0_0 l1_0 = some r) :
  Calls Try.prog 80 #[.agg #[.slice A0_0 l0_0.length c0_0], .agg #[.slice A1_0 l1_0.length c1_0]] w fun e w' => ∃ v0_ : Value, e = .returned (.agg #[v0_]) ∧ Kd.R (Kd.int .u64) 22 w' w.heap.size (fun _ => True) v0_ r ∧ Below w.heap.size w w' := by
 have hu63 := Try.underlying63
 have HR0_0 := A_ hr0_0;have HC0_0 := A_ hc0_0;clear hr0_0 hc0_0;have HR1_0 := A_ hr1_0;have HC1_0 := A_ hc1_0;clear hr1_0 hc1_0
 have HB := A_ (Below.refl w.heap.size w)
 have H : (r1_Add.l0 k ([] : List Int) 0 0 l0_0 l1_0) = some r := h
 clear h
 have H' := A_ H
 clear H
 go_enter Try.func80, Try.ntmps80
 go_wp2_with (first | ((with_reducible refine gate_dst (N := 2) rfl ?_); refine be_ 2 #[.slice A0_0 l0_0.length c0_0] 63 ?_; intro gb399 hg w3 hbox hb; have n0_ := A_ (below_step (hb_ HB.out) hb); have n1_ := A_ (hbox); have n2_ := A_ (sz_ hg (hb_ HB.out)); have n3_ := A_ (sz_ hg (hb_ HB.out)); clear HB; have HB := n0_; have BK399 := n1_; have GW399 := n2_; have GE399 := n3_; clear n0_ n1_ n2_ n3_; clear hb hbox hg) | ((with_reducible refine gate_dst (N := 3) rfl ?_); refine be_ 3 #[.slice A1_0 l1_0.length c1_0] 63 ?_; intro gb400 hg w4 hbox hb; have n0_ := A_ (bb_ BK399.out hb); have n1_ := A_ (below_step (hb1_ HB.out GE399.out) hb); have n2_ := A_ (hbox); have n3_ := A_ (sz_ hg (hb1_ HB.out GE399.out)); have n4_ := A_ (sz_ hg (hb1_ HB.out GE399.out)); have n5_ := A_ (nl_ hg BK399.out); have n6_ := A_ (ng_ hg BK399.out); clear BK399; clear HB; have BK399 := n0_; have HB := n1_; have BK400 := n2_; have GW400 := n3_; have GE400 := n4_; have NB399_400 := n5_; have NB400_399 := n6_; clear n0_ n1_ n2_ n3_ n4_ n5_ n6_; clear hb hbox hg) | ((with_reducible refine gate_dst (N := 4) rfl ?_); refine be_ 4 #[.slice none 0 0] 63 ?_; intro gb401 hg w5 hbox hb; have n0_ := A_ (bb_ BK399.out hb); have n1_ := A_ (bb_ BK400.out hb); have n2_ := A_ (below_step (hb2_ HB.out GE399.out GE400.out) hb); have n3_ := A_ (hbox); have n4_ := A_ (sz_ hg (hb2_ HB.out GE399.out GE400.out)); have n5_ := A_ (sz_ hg (hb2_ HB.out GE399.out GE400.out)); have n6_ := A_ (nl_ hg BK399.out); have n7_ := A_ (ng_ hg BK399.out); have n8_ := A_ (nl_ hg BK400.out); have n9_ := A_ (ng_ hg BK400.out); clear BK399; clear BK400; clear HB; have BK399 := n0_; have BK400 := n1_; have HB := n2_; have BK401 := n3_; have GW401 := n4_; have GE401 := n5_; have NB399_401 := n6_; have NB401_399 := n7_; have NB400_401 := n8_; have NB401_400 := n9_; clear n0_ n1_ n2_ n3_ n4_ n5_ n6_ n7_ n8_ n9_; clear hb hbox hg))
 repeat (go_quiet (first | ((with_reducible refine gate_dst (N := 2) rfl ?_); refine be_ 2 #[.slice A0_0 l0_0.length c0_0] 63 ?_; intro gb399 hg w3 hbox hb; have n0_ := A_ (below_step (hb_ HB.out) hb); have n1_ := A_ (hbox); have n2_ := A_ (sz_ hg (hb_ HB.out)); have n3_ := A_ (sz_ hg (hb_ HB.out)); clear HB; have HB := n0_; have BK399 := n1_; have GW399 := n2_; have GE399 := n3_; clear n0_ n1_ n2_ n3_; clear hb hbox hg) | ((with_reducible refine gate_dst (N := 3) rfl ?_); refine be_ 3 #[.slice A1_0 l1_0.length c1_0] 63 ?_; intro gb400 hg w4 hbox hb; have n0_ := A_ (bb_ BK399.out hb); have n1_ := A_ (below_step (hb1_ HB.out GE399.out) hb); have n2_ := A_ (hbox); have n3_ := A_ (sz_ hg (hb1_ HB.out GE399.out)); have n4_ := A_ (sz_ hg (hb1_ HB.out GE399.out)); have n5_ := A_ (nl_ hg BK399.out); have n6_ := A_ (ng_ hg BK399.out); clear BK399; clear HB; have BK399 := n0_; have HB := n1_; have BK400 := n2_; have GW400 := n3_; have GE400 := n4_; have NB399_400 := n5_; have NB400_399 := n6_; clear n0_ n1_ n2_ n3_ n4_ n5_ n6_; clear hb hbox hg) | ((with_reducible refine gate_dst (N := 4) rfl ?_); refine be_ 4 #[.slice none 0 0] 63 ?_; intro gb401 hg w5 hbox hb; have n0_ := A_ (bb_ BK399.out hb); have n1_ := A_ (bb_ BK400.out hb); have n2_ := A_ (below_step (hb2_ HB.out GE399.out GE400.out) hb); have n3_ := A_ (hbox); have n4_ := A_ (sz_ hg (hb2_ HB.out GE399.out GE400.out)); have n5_ := A_ (sz_ hg (hb2_ HB.out GE399.out GE400.out)); have n6_ := A_ (nl_ hg BK399.out); have n7_ := A_ (ng_ hg BK399.out); have n8_ := A_ (nl_ hg BK400.out); have n9_ := A_ (ng_ hg BK400.out); clear BK399; clear BK400; clear HB; have BK399 := n0_; have BK400 := n1_; have HB := n2_; have BK401 := n3_; have GW401 := n4_; have GE401 := n5_; have NB399_401 := n6_; have NB401_399 := n7_; have NB400_401 := n8_; have NB401_400 := n9_; clear n0_ n1_ n2_ n3_ n4_ n5_ n6_ n7_ n8_ n9_; clear hb hbox hg)); try go_wp2_with (first | ((with_reducible refine gate_dst (N := 2) rfl ?_); refine be_ 2 #[.slice A0_0 l0_0.length c0_0] 63 ?_; intro gb399 hg w3 hbox hb; have n0_ := A_ (below_step (hb_ HB.out) hb); have n1_ := A_ (hbox); have n2_ := A_ (sz_ hg (hb_ HB.out)); have n3_ := A_ (sz_ hg (hb_ HB.out)); clear HB; have HB := n0_; have BK399 := n1_; have GW399 := n2_; have GE399 := n3_; clear n0_ n1_ n2_ n3_; clear hb hbox hg) | ((with_reducible refine gate_dst (N := 3) rfl ?_); refine be_ 3 #[.slice A1_0 l1_0.length c1_0] 63 ?_; intro gb400 hg w4 hbox hb; have n0_ := A_ (bb_ BK399.out hb); have n1_ := A_ (below_step (hb1_ HB.out GE399.out) hb); have n2_ := A_ (hbox); have n3_ := A_ (sz_ hg (hb1_ HB.out GE399.out)); have n4_ := A_ (sz_ hg (hb1_ HB.out GE399.out)); have n5_ := A_ (nl_ hg BK399.out); have n6_ := A_ (ng_ hg BK399.out); clear BK399; clear HB; have BK399 := n0_; have HB := n1_; have BK400 := n2_; have GW400 := n3_; have GE400 := n4_; have NB399_400 := n5_; have NB400_399 := n6_; clear n0_ n1_ n2_ n3_ n4_ n5_ n6_; clear hb hbox hg) | ((with_reducible refine gate_dst (N := 4) rfl ?_); refine be_ 4 #[.slice none 0 0] 63 ?_; intro gb401 hg w5 hbox hb; have n0_ := A_ (bb_ BK399.out hb); have n1_ := A_ (bb_ BK400.out hb); have n2_ := A_ (below_step (hb2_ HB.out GE399.out GE400.out) hb); have n3_ := A_ (hbox); have n4_ := A_ (sz_ hg (hb2_ HB.out GE399.out GE400.out)); have n5_ := A_ (sz_ hg (hb2_ HB.out GE399.out GE400.out)); have n6_ := A_ (nl_ hg BK399.out); have n7_ := A_ (ng_ hg BK399.out); have n8_ := A_ (nl_ hg BK400.out); have n9_ := A_ (ng_ hg BK400.out); clear BK399; clear BK400; clear HB; have BK399 := n0_; have BK400 := n1_; have HB := n2_; have BK401 := n3_; have GW401 := n4_; have GE401 := n5_; have NB399_401 := n6_; have NB401_399 := n7_; have NB400_401 := n8_; have NB401_400 := n9_; clear n0_ n1_ n2_ n3_ n4_ n5_ n6_ n7_ n8_ n9_; clear hb hbox hg)))
 go_loopg [5, 6, 7] k (fun kq v5 v6 v7 w' => ∃ (x5_1 : List Int) (x6_1 : Int) (x7_1 : Int), v6 = .int .u64 x6_1 ∧ v7 = .int .i64 x7_1 ∧ Aside0 (r1_Add.l0 kq x5_1 x6_1 x7_1 l0_0 l1_0 = some r) ∧ Aside0 (kq ≤ k) ∧ Aside0 (Kd.R (Kd.int .u64) 22 w' w.heap.size (fun _ => True) v5 x5_1) ∧ Aside0 (w'.heap[gb399]? = some (.cells #[(.slice A0_0 l0_0.length c0_0)] 63 (0, 0))) ∧ Aside0 (w'.heap[gb400]? = some (.cells #[(.slice A1_0 l1_0.length c1_0)] 63 (0, 0))) ∧ Aside0 (w'.heap[gb401]? = some (.cells #[(.slice none 0 0)] 63 (0, 0))) ∧ Aside0 (Below w.heap.size w w'))
 case atStart => exact ⟨(([] : List Int)), (0), (0), sm_, sm_, H', ⟨Nat.le_refl _⟩, ⟨by first | exact Kd.R_nil _ _ _ _ _ | exact Kd.N_nil _ _ _ _ _ | exact Kd.V_nil _ _ _ _ _ | exact Kd.Q_nil _ _ _ _ _ | exact Kd.S_nil _ _ _ _ _⟩, ⟨bk_ BK399.out⟩, ⟨bk_ BK400.out⟩, ⟨bk_ BK401.out⟩, ⟨hb3_ HB.out GE399.out GE400.out GE401.out⟩⟩
 case round =>
  clear H'
  try clear c1
  try clear p2
  obtain ⟨x5_1, x6_1, x7_1, rfl, rfl, HA, HK1, HO_5, BK399, BK400, BK401, HB⟩ := hrel
  cases gk with
  | zero => exact absurd HA.out (by simp [r1_Add.l0])
  | succ k1 =>
   have H := HA.out
   clear HA
   simp only [r1_Add.l0] at H
   have HC6 := A_ H;clear H
   go_upto_region 4 with (fail)
   repeat (go_quiet (fail); go_upto_region 4 with (fail))
   go_cut [21] (fun v21 wc => ∃ (kq : Nat) (x21_5 : Bool), v21 = .bool x21_5 ∧ Aside0 (r1_Add.j1 kq x5_1 x6_1 x7_1 x21_5 l0_0 l1_0 = some r) ∧ Aside0 (kq ≤ k1) ∧ Aside0 (Kd.R (Kd.int .u64) 22 wc w.heap.size (fun _ => True) u5 x5_1) ∧ Aside0 (wc.heap[gb399]? = some (.cells #[(.slice A0_0 l0_0.length c0_0)] 63 (0, 0))) ∧ Aside0 (wc.heap[gb400]? = some (.cells #[(.slice A1_0 l1_0.length c1_0)] 63 (0, 0))) ∧ Aside0 (wc.heap[gb401]? = some (.cells #[(.slice none 0 0)] 63 (0, 0))) ∧ Aside0 (Below w.heap.size w wc))
   case first =>
    have H := HC6.out
    clear HC6
    obtain ⟨ji7, hji7⟩ : ∃ j_ : Int, (mx (l0_0.length : Int) (l1_0.length : Int)) = j_ := ⟨_, rfl⟩
    replace H : (if x7_1 < (ji7) then (r1_Add.j1 k1 x5_1 x6_1 x7_1 true l0_0 l1_0) else (r1_Add.j1 k1 x5_1 x6_1 x7_1 (decide (x6_1 > 0)) l0_0 l1_0)) = some r := by first | (rw [hji7] at H; exact H) | (simp only [hji7] at H ⊢; exact H)
    (try (have hji7l : 0 ≤ ji7 := by (rw [← hji7]; unfold mx; (repeat' split) <;> omega)))
    (try (have hji7m : 0 ≤ ji7 := by omega))
    have hji7_ : (if (l0_0.length : Int) < (l1_0.length : Int) then (l1_0.length : Int) else (l0_0.length : Int)) = ji7 := hji7
    have hji7n_ : (if l0_0.length < l1_0.length then (l1_0.length : Int) else (l0_0.length : Int)) = ji7 := by have h_ := hji7_; simpa only [Int.ofNat_lt] using h_
    by_cases c8 : x7_1 < (ji7)
    ·rw [if_pos c8] at H
     have c8b0 : decide (x7_1 < (ji7)) = true := decide_eq_true c8
     clear c8
     (first | rw [c8b0] | (simp only [i64_w, i32_w]; rw [c8b0]) | skip)
     have H' := A_ H
     clear H
     have hnb9 := NB399_400.out
     have hnc9 := NB400_399.out
     have hnb10 := NB399_401.out
     have hnc10 := NB401_399.out
     have hcz11_0 : wr.cell? ⟨gb399, 0, none⟩ = some (.slice A0_0 l0_0.length c0_0) := bc_ BK399.out 0
     have hfz11_0 := blk_frozen BK399.out 0
     have hnb12 := NB400_401.out
     have hnc12 := NB401_400.out
     have hcz13_0 : wr.cell? ⟨gb400, 0, none⟩ = some (.slice A1_0 l1_0.length c1_0) := bc_ BK400.out 0
     have hfz13_0 := blk_frozen BK400.out 0
     go_wp2
     repeat (go_quiet (fail); try go_wp2)
     go_meet
     case rel => exact ⟨_, (true), sm_, H', ⟨by have := HK1.out; first | omega | exact Nat.le_refl _⟩, ⟨by (with_reducible repeat (first | apply Kd.R_alloc | apply Kd.R_drewN | apply Kd.R_drew)); exact HO_5.out⟩, ⟨bk_ BK399.out⟩, ⟨bk_ BK400.out⟩, ⟨bk_ BK401.out⟩, ⟨hb3_ HB.out GE399.out GE400.out GE401.out⟩⟩
    ·rw [if_neg c8] at H
     have c8b0 : decide (x7_1 < (ji7)) = false := decide_eq_false c8
     clear c8
     (first | rw [c8b0] | (simp only [i64_w, i32_w]; rw [c8b0]) | skip)
     have H' := A_ H
     clear H
     have hnb14 := NB399_400.out
     have hnc14 := NB400_399.out
     have hnb15 := NB399_401.out
     have hnc15 := NB401_399.out
     have hcz16_0 : wr.cell? ⟨gb399, 0, none⟩ = some (.slice A0_0 l0_0.length c0_0) := bc_ BK399.out 0
     have hfz16_0 := blk_frozen BK399.out 0
     have hnb17 := NB400_401.out
     have hnc17 := NB401_400.out
     have hcz18_0 : wr.cell? ⟨gb400, 0, none⟩ = some (.slice A1_0 l1_0.length c1_0) := bc_ BK400.out 0
     have hfz18_0 := blk_frozen BK400.out 0
     go_wp2
     repeat (go_quiet (fail); try go_wp2)
     go_meet
     case rel => exact ⟨_, (decide (x6_1 > 0)), sm_, H', ⟨by have := HK1.out; first | omega | exact Nat.le_refl _⟩, ⟨by (with_reducible repeat (first | apply Kd.R_alloc | apply Kd.R_drewN | apply Kd.R_drew)); exact HO_5.out⟩, ⟨bk_ BK399.out⟩, ⟨bk_ BK400.out⟩, ⟨bk_ BK401.out⟩, ⟨hb3_ HB.out GE399.out GE400.out GE401.out⟩⟩
   case rest =>
    clear HC6
    try clear c1
    try clear p2
    try clear c8
    try clear c8b0
    try clear c9
    try clear c10
    try clear c12
    try clear c14
    try clear c15
    try clear c17
    try clear hcz11_0
    try clear hcz13_0
    try clear hcz16_0
    try clear hcz18_0
    try clear hfz11_0
    try clear hfz13_0
    try clear hfz16_0
    try clear hfz18_0
    try clear p2
    obtain ⟨kq, x21_5, rfl, HA, HJ5, HO_5, BK399, BK400, BK401, HB⟩ := hcut
    cases kq with
    | zero => exact absurd HA.out (by simp [r1_Add.j1])
    | succ kj5 =>
     have H := HA.out
     clear HA
     simp only [r1_Add.j1] at H
     by_cases c19 : x21_5 = true
     ·subst c19
      have H1 : ((r1_at.f l0_0 x7_1).bind fun t402 => ((r1_at.f l1_0 x7_1).bind fun t403 => (if x5_1.length < 17592186044416 then (r1_Add.l0 kj5 (x5_1 ++ [Int.tmod (IntKind.u64.wrap ((IntKind.u64.wrap (t402 + t403)) + x6_1)) 4294967296]) (IntKind.u64.wrap (Int.tdiv (IntKind.u64.wrap ((IntKind.u64.wrap (t402 + t403)) + x6_1)) 4294967296)) (wrap64 (x7_1 + 1)) l0_0 l1_0) else (none)))) = some r := by rw [if_pos rfl] at H; exact H
      clear H;have H := H1;clear H1
      replace H := ob_ H
      obtain ⟨t402, A200, H⟩ := H
      replace H : ((r1_at.f l1_0 x7_1).bind fun t403 => (if x5_1.length < 17592186044416 then (r1_Add.l0 kj5 (x5_1 ++ [Int.tmod (IntKind.u64.wrap ((IntKind.u64.wrap (t402 + t403)) + x6_1)) 4294967296]) (IntKind.u64.wrap (Int.tdiv (IntKind.u64.wrap ((IntKind.u64.wrap (t402 + t403)) + x6_1)) 4294967296)) (wrap64 (x7_1 + 1)) l0_0 l1_0) else (none))) = some r := H
      have A20 := A_ A200;clear A200
      replace H := ob_ H
      obtain ⟨t403, A210, H⟩ := H
      replace H : (if x5_1.length < 17592186044416 then (r1_Add.l0 kj5 (x5_1 ++ [Int.tmod (IntKind.u64.wrap ((IntKind.u64.wrap (t402 + t403)) + x6_1)) 4294967296]) (IntKind.u64.wrap (Int.tdiv (IntKind.u64.wrap ((IntKind.u64.wrap (t402 + t403)) + x6_1)) 4294967296)) (wrap64 (x7_1 + 1)) l0_0 l1_0) else (none)) = some r := H
      have A21 := A_ A210;clear A210
      by_cases c22 : x5_1.length < 17592186044416
      ·rw [if_pos c22] at H
       have LMc22 := A_ c22;clear c22
       obtain ⟨y404, hy404⟩ : ∃ y_ : List Int, y_ = (x5_1 ++ [Int.tmod (IntKind.u64.wrap ((IntKind.u64.wrap (t402 + t403)) + x6_1)) 4294967296]) := ⟨_, rfl⟩
       replace H : (r1_Add.l0 kj5 y404 (IntKind.u64.wrap (Int.tdiv (IntKind.u64.wrap ((IntKind.u64.wrap (t402 + t403)) + x6_1)) 4294967296)) (wrap64 (x7_1 + 1)) l0_0 l1_0) = some r := by first | (rw [hy404]; with_reducible exact H) | (have H2_ := (Option.bind_some _ _).symm.trans H; rw [hy404]; with_reducible exact H2_) | (have H2_ := (Option.bind_some _ _).symm.trans H; with_reducible exact H2_) | with_reducible exact H | (rw [hy404]; exact H) | exact H
       have Ny404 := A_ hy404;clear hy404
       have H' := A_ H
       clear H
       have hnb23 := NB399_400.out
       have hnc23 := NB400_399.out
       have hnb24 := NB399_401.out
       have hnc24 := NB401_399.out
       have hcz25_0 : wc.cell? ⟨gb399, 0, none⟩ = some (.slice A0_0 l0_0.length c0_0) := bc_ BK399.out 0
       have hfz25_0 := blk_frozen BK399.out 0
       go_wp2_with (first | (go_at_call 93; (with_reducible refine (r1_at.calls _ _ l0_0 x7_1 t402 _ ?side1 ?side2 A20.out).mono ?_); (case side1 => repeat (first | exact (Kd.C_below HR0_0.out HB.out) | (with_reducible refine Kd.C_alloc ?_ _) | (with_reducible refine Kd.C_drewN ?_ _) | (with_reducible refine Kd.C_drew ?_))); (case side2 => exact HC0_0.out); rintro e w' ⟨rfl, ⟨nd, rfl⟩⟩; (try first | exact ⟨rfl, _, World.drewN_drewN _ _ _⟩ | exact ⟨rfl, _, Eq.trans (World.drewN_drewN _ _ _) (congrArg (World.drewN _) (Nat.add_assoc _ _ _))⟩); have hnb26 := NB400_401.out; have hnc26 := NB401_400.out; have hcz27_0 : wc.cell? ⟨gb400, 0, none⟩ = some (.slice A1_0 l1_0.length c1_0) := bc_ BK400.out 0; have hfz27_0 := blk_frozen BK400.out 0) | (go_at_call 93; (with_reducible refine (r1_at.calls _ _ l1_0 x7_1 t403 _ ?side1 ?side2 A21.out).mono ?_); (case side1 => repeat (first | exact (Kd.C_below HR1_0.out (hb3_ HB.out GE399.out GE400.out GE401.out)) | (with_reducible refine Kd.C_alloc ?_ _) | (with_reducible refine Kd.C_drewN ?_ _) | (with_reducible refine Kd.C_drew ?_))); (case side2 => exact HC1_0.out); rintro e w' ⟨rfl, ⟨nd, rfl⟩⟩; (try first | exact ⟨rfl, _, World.drewN_drewN _ _ _⟩ | exact ⟨rfl, _, Eq.trans (World.drewN_drewN _ _ _) (congrArg (World.drewN _) (Nat.add_assoc _ _ _))⟩)) | ((with_reducible refine gate_builtin (b := .append) (xs := #[.tmp 35, .tmp 38]) rfl ?_); at_builtin; refine Kd.R_append (Kd.int .u64) (w0 := w) w.heap.size rfl (.tmp 35) (.tmp 38) 30 22 (.int .u64 0) 8 rfl Try.underlying30 info22 rfl (by decide) (by omega) u5 x5_1 (Int.tmod (IntKind.u64.wrap ((IntKind.u64.wrap (t402 + t403)) + x6_1)) 4294967296) [.int .u64 (Int.tmod (IntKind.u64.wrap ((IntKind.u64.wrap (t402 + t403)) + x6_1)) 4294967296)] (fun _ => True) (fun _ => False) rfl rfl ?aP (fun _ hk => hk.elim) ?aF ?aO ?aB ?aS ?aL ?_; (case aP => exact rfl); (case aB => exact (hb3_ HB.out GE399.out GE400.out GE401.out)); (case aF => exact (fun _ _ => trivial)); (case aO => exact (kr_ HO_5.out)); (case aS => exact (below_size (hb3_ HB.out GE399.out GE400.out GE401.out))); (case aL => have := LMc22.out; omega); intro v405 w28 ho hb hg hat; rw [← Ny404.out] at ho; have n0_ := A_ (blk_grown (g := gb399) (o := .cells #[.slice A0_0 l0_0.length c0_0] 63 (0, 0)) (bk_ BK399.out) hg (Kd.R_ne HO_5.out BK399.out (by decide))); have n1_ := A_ (blk_grown (g := gb400) (o := .cells #[.slice A1_0 l1_0.length c1_0] 63 (0, 0)) (bk_ BK400.out) hg (Kd.R_ne HO_5.out BK400.out (by decide))); have n2_ := A_ (blk_grown (g := gb401) (o := .cells #[.slice none 0 0] 63 (0, 0)) (bk_ BK401.out) hg (Kd.R_ne HO_5.out BK401.out (by decide))); have n3_ := A_ (hb); have n4_ := A_ (ho); clear BK399; clear BK400; clear BK401; clear HB; clear HO_5; have BK399 := n0_; have BK400 := n1_; have BK401 := n2_; have HB := n3_; have HO406 := n4_; clear n0_ n1_ n2_ n3_ n4_; clear ho hb hg hat))
       repeat (go_quiet (first | (go_at_call 93; (with_reducible refine (r1_at.calls _ _ l0_0 x7_1 t402 _ ?side1 ?side2 A20.out).mono ?_); (case side1 => repeat (first | exact (Kd.C_below HR0_0.out HB.out) | (with_reducible refine Kd.C_alloc ?_ _) | (with_reducible refine Kd.C_drewN ?_ _) | (with_reducible refine Kd.C_drew ?_))); (case side2 => exact HC0_0.out); rintro e w' ⟨rfl, ⟨nd, rfl⟩⟩; (try first | exact ⟨rfl, _, World.drewN_drewN _ _ _⟩ | exact ⟨rfl, _, Eq.trans (World.drewN_drewN _ _ _) (congrArg (World.drewN _) (Nat.add_assoc _ _ _))⟩); have hnb26 := NB400_401.out; have hnc26 := NB401_400.out; have hcz27_0 : wc.cell? ⟨gb400, 0, none⟩ = some (.slice A1_0 l1_0.length c1_0) := bc_ BK400.out 0; have hfz27_0 := blk_frozen BK400.out 0) | (go_at_call 93; (with_reducible refine (r1_at.calls _ _ l1_0 x7_1 t403 _ ?side1 ?side2 A21.out).mono ?_); (case side1 => repeat (first | exact (Kd.C_below HR1_0.out (hb3_ HB.out GE399.out GE400.out GE401.out)) | (with_reducible refine Kd.C_alloc ?_ _) | (with_reducible refine Kd.C_drewN ?_ _) | (with_reducible refine Kd.C_drew ?_))); (case side2 => exact HC1_0.out); rintro e w' ⟨rfl, ⟨nd, rfl⟩⟩; (try first | exact ⟨rfl, _, World.drewN_drewN _ _ _⟩ | exact ⟨rfl, _, Eq.trans (World.drewN_drewN _ _ _) (congrArg (World.drewN _) (Nat.add_assoc _ _ _))⟩)) | ((with_reducible refine gate_builtin (b := .append) (xs := #[.tmp 35, .tmp 38]) rfl ?_); at_builtin; refine Kd.R_append (Kd.int .u64) (w0 := w) w.heap.size rfl (.tmp 35) (.tmp 38) 30 22 (.int .u64 0) 8 rfl Try.underlying30 info22 rfl (by decide) (by omega) u5 x5_1 (Int.tmod (IntKind.u64.wrap ((IntKind.u64.wrap (t402 + t403)) + x6_1)) 4294967296) [.int .u64 (Int.tmod (IntKind.u64.wrap ((IntKind.u64.wrap (t402 + t403)) + x6_1)) 4294967296)] (fun _ => True) (fun _ => False) rfl rfl ?aP (fun _ hk => hk.elim) ?aF ?aO ?aB ?aS ?aL ?_; (case aP => exact rfl); (case aB => exact (hb3_ HB.out GE399.out GE400.out GE401.out)); (case aF => exact (fun _ _ => trivial)); (case aO => exact (kr_ HO_5.out)); (case aS => exact (below_size (hb3_ HB.out GE399.out GE400.out GE401.out))); (case aL => have := LMc22.out; omega); intro v405 w28 ho hb hg hat; rw [← Ny404.out] at ho; have n0_ := A_ (blk_grown (g := gb399) (o := .cells #[.slice A0_0 l0_0.length c0_0] 63 (0, 0)) (bk_ BK399.out) hg (Kd.R_ne HO_5.out BK399.out (by decide))); have n1_ := A_ (blk_grown (g := gb400) (o := .cells #[.slice A1_0 l1_0.length c1_0] 63 (0, 0)) (bk_ BK400.out) hg (Kd.R_ne HO_5.out BK400.out (by decide))); have n2_ := A_ (blk_grown (g := gb401) (o := .cells #[.slice none 0 0] 63 (0, 0)) (bk_ BK401.out) hg (Kd.R_ne HO_5.out BK401.out (by decide))); have n3_ := A_ (hb); have n4_ := A_ (ho); clear BK399; clear BK400; clear BK401; clear HB; clear HO_5; have BK399 := n0_; have BK400 := n1_; have BK401 := n2_; have HB := n3_; have HO406 := n4_; clear n0_ n1_ n2_ n3_ n4_; clear ho hb hg hat)); try go_wp2_with (first | (go_at_call 93; (with_reducible refine (r1_at.calls _ _ l0_0 x7_1 t402 _ ?side1 ?side2 A20.out).mono ?_); (case side1 => repeat (first | exact (Kd.C_below HR0_0.out HB.out) | (with_reducible refine Kd.C_alloc ?_ _) | (with_reducible refine Kd.C_drewN ?_ _) | (with_reducible refine Kd.C_drew ?_))); (case side2 => exact HC0_0.out); rintro e w' ⟨rfl, ⟨nd, rfl⟩⟩; (try first | exact ⟨rfl, _, World.drewN_drewN _ _ _⟩ | exact ⟨rfl, _, Eq.trans (World.drewN_drewN _ _ _) (congrArg (World.drewN _) (Nat.add_assoc _ _ _))⟩); have hnb26 := NB400_401.out; have hnc26 := NB401_400.out; have hcz27_0 : wc.cell? ⟨gb400, 0, none⟩ = some (.slice A1_0 l1_0.length c1_0) := bc_ BK400.out 0; have hfz27_0 := blk_frozen BK400.out 0) | (go_at_call 93; (with_reducible refine (r1_at.calls _ _ l1_0 x7_1 t403 _ ?side1 ?side2 A21.out).mono ?_); (case side1 => repeat (first | exact (Kd.C_below HR1_0.out (hb3_ HB.out GE399.out GE400.out GE401.out)) | (with_reducible refine Kd.C_alloc ?_ _) | (with_reducible refine Kd.C_drewN ?_ _) | (with_reducible refine Kd.C_drew ?_))); (case side2 => exact HC1_0.out); rintro e w' ⟨rfl, ⟨nd, rfl⟩⟩; (try first | exact ⟨rfl, _, World.drewN_drewN _ _ _⟩ | exact ⟨rfl, _, Eq.trans (World.drewN_drewN _ _ _) (congrArg (World.drewN _) (Nat.add_assoc _ _ _))⟩)) | ((with_reducible refine gate_builtin (b := .append) (xs := #[.tmp 35, .tmp 38]) rfl ?_); at_builtin; refine Kd.R_append (Kd.int .u64) (w0 := w) w.heap.size rfl (.tmp 35) (.tmp 38) 30 22 (.int .u64 0) 8 rfl Try.underlying30 info22 rfl (by decide) (by omega) u5 x5_1 (Int.tmod (IntKind.u64.wrap ((IntKind.u64.wrap (t402 + t403)) + x6_1)) 4294967296) [.int .u64 (Int.tmod (IntKind.u64.wrap ((IntKind.u64.wrap (t402 + t403)) + x6_1)) 4294967296)] (fun _ => True) (fun _ => False) rfl rfl ?aP (fun _ hk => hk.elim) ?aF ?aO ?aB ?aS ?aL ?_; (case aP => exact rfl); (case aB => exact (hb3_ HB.out GE399.out GE400.out GE401.out)); (case aF => exact (fun _ _ => trivial)); (case aO => exact (kr_ HO_5.out)); (case aS => exact (below_size (hb3_ HB.out GE399.out GE400.out GE401.out))); (case aL => have := LMc22.out; omega); intro v405 w28 ho hb hg hat; rw [← Ny404.out] at ho; have n0_ := A_ (blk_grown (g := gb399) (o := .cells #[.slice A0_0 l0_0.length c0_0] 63 (0, 0)) (bk_ BK399.out) hg (Kd.R_ne HO_5.out BK399.out (by decide))); have n1_ := A_ (blk_grown (g := gb400) (o := .cells #[.slice A1_0 l1_0.length c1_0] 63 (0, 0)) (bk_ BK400.out) hg (Kd.R_ne HO_5.out BK400.out (by decide))); have n2_ := A_ (blk_grown (g := gb401) (o := .cells #[.slice none 0 0] 63 (0, 0)) (bk_ BK401.out) hg (Kd.R_ne HO_5.out BK401.out (by decide))); have n3_ := A_ (hb); have n4_ := A_ (ho); clear BK399; clear BK400; clear BK401; clear HB; clear HO_5; have BK399 := n0_; have BK400 := n1_; have BK401 := n2_; have HB := n3_; have HO406 := n4_; clear n0_ n1_ n2_ n3_ n4_; clear ho hb hg hat)))
       go_roundg kj5
       case measure => have := HK1.out; have := HJ5.out; omega
       case rel => exact ⟨(y404), (IntKind.u64.wrap (Int.tdiv (IntKind.u64.wrap ((IntKind.u64.wrap (t402 + t403)) + x6_1)) 4294967296)), (wrap64 (x7_1 + 1)), sm_, sm_, H', ⟨by have := HK1.out; have := HJ5.out; omega⟩, ⟨by (with_reducible repeat (first | apply Kd.R_alloc | apply Kd.R_drewN | apply Kd.R_drew)); exact HO406.out⟩, ⟨bk_ BK399.out⟩, ⟨bk_ BK400.out⟩, ⟨bk_ BK401.out⟩, ⟨hb3_ HB.out GE399.out GE400.out GE401.out⟩⟩
      ·rw [if_neg c22] at H
       exact absurd H (by simp)
     ·replace c19 := Bool.eq_false_iff.mpr c19
      subst c19
      have H1 : ((r1_trim.f kj5 x5_1).bind fun t407 => (some t407)) = some r := by rw [if_neg (show ¬ (false = true) by decide)] at H; exact H
      clear H;have H := H1;clear H1
      replace H := ob_ H
      obtain ⟨t407, A290, H⟩ := H
      replace H : (some t407) = some r := H
      have A29 := A_ A290;clear A290
      obtain rfl := Option.some.inj H
      obtain ⟨Ao30, co30, eo30⟩ := Kd.R_slice HO_5.out
      subst eo30
      go_wp2_with (first | (go_at_call 94; (with_reducible refine (r1_trim.calls kj5 (fun k_ => some k_ = (.slice Ao30 x5_1.length co30 : Value).ownBlock) (.slice Ao30 x5_1.length co30) x5_1 t407 w _ ?side1 ?side2 A29.out).mono ?_); (case side1 => exact hb3_ HB.out GE399.out GE400.out GE401.out); (case side2 => exact Kd.R_tight rfl HO_5.out); rintro e w31 ⟨v408, rfl, ho0, hb, hkp⟩; have n0_ := A_ (blk_kept (bk_ BK399.out) hkp (fun hs_ => (fun e_ => (Kd.R_ne HO_5.out BK399.out (by decide)) e_) hs_)); have n1_ := A_ (blk_kept (bk_ BK400.out) hkp (fun hs_ => (fun e_ => (Kd.R_ne HO_5.out BK400.out (by decide)) e_) hs_)); have n2_ := A_ (blk_kept (bk_ BK401.out) hkp (fun hs_ => (fun e_ => (Kd.R_ne HO_5.out BK401.out (by decide)) e_) hs_)); have n3_ := A_ (Kd.R_mono (ok' := fun k_ => True) ho0 (fun k_ hk_ => trivial)); have n4_ := A_ (hb); clear BK399; clear BK400; clear BK401; clear HB; clear HO_5; have BK399 := n0_; have BK400 := n1_; have BK401 := n2_; have HO409 := n3_; have HB := n4_; clear n0_ n1_ n2_ n3_ n4_; (try clear hb); (try clear hkp); (try clear ho0); obtain ⟨Ao32, co32, eo32⟩ := Kd.R_slice HO409.out; subst eo32; have hnb33 := NB401_399.out; have hnc33 := NB399_401.out; have hnb34 := NB401_400.out; have hnc34 := NB400_401.out; have hcz35_0 : w31.cell? ⟨gb401, 0, none⟩ = some (.slice none 0 0) := bc_ BK401.out 0; have hfz35_0 := blk_frozen BK401.out 0))
      repeat (go_quiet (first | (go_at_call 94; (with_reducible refine (r1_trim.calls kj5 (fun k_ => some k_ = (.slice Ao30 x5_1.length co30 : Value).ownBlock) (.slice Ao30 x5_1.length co30) x5_1 t407 w _ ?side1 ?side2 A29.out).mono ?_); (case side1 => exact hb3_ HB.out GE399.out GE400.out GE401.out); (case side2 => exact Kd.R_tight rfl HO_5.out); rintro e w31 ⟨v408, rfl, ho0, hb, hkp⟩; have n0_ := A_ (blk_kept (bk_ BK399.out) hkp (fun hs_ => (fun e_ => (Kd.R_ne HO_5.out BK399.out (by decide)) e_) hs_)); have n1_ := A_ (blk_kept (bk_ BK400.out) hkp (fun hs_ => (fun e_ => (Kd.R_ne HO_5.out BK400.out (by decide)) e_) hs_)); have n2_ := A_ (blk_kept (bk_ BK401.out) hkp (fun hs_ => (fun e_ => (Kd.R_ne HO_5.out BK401.out (by decide)) e_) hs_)); have n3_ := A_ (Kd.R_mono (ok' := fun k_ => True) ho0 (fun k_ hk_ => trivial)); have n4_ := A_ (hb); clear BK399; clear BK400; clear BK401; clear HB; clear HO_5; have BK399 := n0_; have BK400 := n1_; have BK401 := n2_; have HO409 := n3_; have HB := n4_; clear n0_ n1_ n2_ n3_ n4_; (try clear hb); (try clear hkp); (try clear ho0); obtain ⟨Ao32, co32, eo32⟩ := Kd.R_slice HO409.out; subst eo32; have hnb33 := NB401_399.out; have hnc33 := NB399_401.out; have hnb34 := NB401_400.out; have hnc34 := NB400_401.out; have hcz35_0 : w31.cell? ⟨gb401, 0, none⟩ = some (.slice none 0 0) := bc_ BK401.out 0; have hfz35_0 := blk_frozen BK401.out 0)); try go_wp2_with (first | (go_at_call 94; (with_reducible refine (r1_trim.calls kj5 (fun k_ => some k_ = (.slice Ao30 x5_1.length co30 : Value).ownBlock) (.slice Ao30 x5_1.length co30) x5_1 t407 w _ ?side1 ?side2 A29.out).mono ?_); (case side1 => exact hb3_ HB.out GE399.out GE400.out GE401.out); (case side2 => exact Kd.R_tight rfl HO_5.out); rintro e w31 ⟨v408, rfl, ho0, hb, hkp⟩; have n0_ := A_ (blk_kept (bk_ BK399.out) hkp (fun hs_ => (fun e_ => (Kd.R_ne HO_5.out BK399.out (by decide)) e_) hs_)); have n1_ := A_ (blk_kept (bk_ BK400.out) hkp (fun hs_ => (fun e_ => (Kd.R_ne HO_5.out BK400.out (by decide)) e_) hs_)); have n2_ := A_ (blk_kept (bk_ BK401.out) hkp (fun hs_ => (fun e_ => (Kd.R_ne HO_5.out BK401.out (by decide)) e_) hs_)); have n3_ := A_ (Kd.R_mono (ok' := fun k_ => True) ho0 (fun k_ hk_ => trivial)); have n4_ := A_ (hb); clear BK399; clear BK400; clear BK401; clear HB; clear HO_5; have BK399 := n0_; have BK400 := n1_; have BK401 := n2_; have HO409 := n3_; have HB := n4_; clear n0_ n1_ n2_ n3_ n4_; (try clear hb); (try clear hkp); (try clear ho0); obtain ⟨Ao32, co32, eo32⟩ := Kd.R_slice HO409.out; subst eo32; have hnb33 := NB401_399.out; have hnc33 := NB399_401.out; have hnb34 := NB401_400.out; have hnc34 := NB400_401.out; have hcz35_0 : w31.cell? ⟨gb401, 0, none⟩ = some (.slice none 0 0) := bc_ BK401.out 0; have hfz35_0 := blk_frozen BK401.out 0)))
      refine bodyPost_ret (results_cell_row rfl _ _ gb401 63 #[.slice Ao32 t407.length co32] (0, 0) _ rfl (by (with_reducible repeat (first | refine blk_drewN ?_ _ | refine blk_drew ?_ | refine blk_alloc ?_ _)); refine blk_put (cs := #[.slice none 0 0]) ?_ 0 _ rfl; (with_reducible repeat (first | refine blk_drewN ?_ _ | refine blk_drew ?_ | refine blk_alloc ?_ _)); exact BK401.out) Try.underlying63 rfl (by kernel_rfl)) rfl ?_
      exact ⟨_, by first | rfl | (simp [errW_none, errW_some] <;> rfl) | (simp [*, errW_none, errW_some] <;> rfl), by (with_reducible repeat (first | apply Kd.R_alloc | apply Kd.R_drewN | apply Kd.R_drew)); exact Kd.R_mono (Kd.R_far (p := ⟨gb401, 0, none⟩) (Kd.R_types HO409.out BK401.out (by decide)) (fun _ hk => hk.2) (.slice Ao32 t407.length co32)) (fun _ hk => trivial), hb3_ HB.out GE399.out GE400.out GE401.out⟩
end Go.Proofs.Ytbpmnmceajmmcaa.PA
