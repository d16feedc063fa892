/- What the Go functions that the statement RadixRoots reaches compute, and the mathematics on it, in the order in which one leans on the other; for every input. -/
import Derived.Test.YtjjehbedpgdhgaaVRadixRoots0
import Derived.Test.YtjjehbedpgdhgaaMRadixRoots2
import Derived.Test.YtjjehbedpgdhgaaMRadixRoots0
import Derived.Laws.BitsAllLaws
set_option linter.unusedVariables false
set_option linter.unusedSimpArgs false
namespace Flo
def rne (a b : Nat) : Nat := if b < 2 * (a % b) ∨ (2 * (a % b) = b ∧ a / b % 2 = 1) then a / b + 1 else a / b
theorem rne_lo (a b : Nat) (hb : 0 < b) (h : 0 < rne a b) : (2 * rne a b - 1) * b < 2 * a ∨ (2 * rne a b - 1) * b = 2 * a ∧ rne a b % 2 = 0 := by
  have h1 := Nat.div_add_mod a b
  have h2 := Nat.mod_lt a hb
  unfold rne at *
  generalize a / b = q at *
  generalize a % b = r at *
  subst h1
  have e1 : (2 * (q + 1) - 1) * b = 2 * (b * q) + b := by
    rw [show 2 * (q + 1) - 1 = 2 * q + 1 by omega, Nat.add_mul, Nat.one_mul, Nat.mul_assoc, Nat.mul_comm q b]
  have e2 : 0 < q → (2 * q - 1) * b + b = 2 * (b * q) := by
    intro h0
    rw [← Nat.succ_mul, show (2 * q - 1).succ = 2 * q by omega, Nat.mul_assoc, Nat.mul_comm q b]
  generalize b * q = t at *
  by_cases h3 : b < 2 * r ∨ 2 * r = b ∧ q % 2 = 1
  · rw [if_pos h3] at h ⊢
    rw [e1]
    omega
  · rw [if_neg h3] at h ⊢
    have := e2 h
    omega
theorem rne_hi (a b : Nat) (hb : 0 < b) : 2 * a < (2 * rne a b + 1) * b ∨ 2 * a = (2 * rne a b + 1) * b ∧ rne a b % 2 = 0 := by
  have h1 := Nat.div_add_mod a b
  have h2 := Nat.mod_lt a hb
  unfold rne
  generalize a / b = q at *
  generalize a % b = r at *
  subst h1
  have e1 : (2 * (q + 1) + 1) * b = 2 * (b * q) + 3 * b := by
    rw [show 2 * (q + 1) + 1 = 2 * q + 3 by omega, Nat.add_mul, Nat.mul_assoc, Nat.mul_comm q b]
  have e2 : (2 * q + 1) * b = 2 * (b * q) + b := by rw [Nat.add_mul, Nat.one_mul, Nat.mul_assoc, Nat.mul_comm q b]
  generalize b * q = t at *
  by_cases h3 : b < 2 * r ∨ 2 * r = b ∧ q % 2 = 1
  · rw [if_pos h3, e1]; omega
  · rw [if_neg h3, e2]; omega
theorem rne_exact (n b : Nat) (hb : 0 < b) : rne (n * b) b = n := by
  unfold rne
  rw [Nat.mul_mod_left, Nat.mul_div_cancel _ hb, if_neg (by omega)]
namespace Fmt
variable (F : Fmt)
theorem Rnd.near {A B q : Nat} (hB : 0 < B) {x : Rat} (hxe : x * (B : Rat) = (A : Rat) * tw (q + F.low)) (hx : x < tw (q + F.low + F.f + 1)) (hq : 0 < q → tw (q + F.low + F.f) ≤ x) :
    F.Rnd (F.Up x) (min F.inf (q * 2 ^ F.f + rne A B)) := by
  have T := tw_pos (q + F.low - 1)
  have hB' : (0 : Rat) < (B : Rat) := by exact_mod_cast hB
  have e := tw_pred (q + F.low)
  rw [e] at hxe
  refine Rnd.make F hx hq ?_ ?_
  · intro h
    have key := rne_lo A B hB h
    generalize 2 * rne A B - 1 = m at *
    rcases key with h1 | ⟨h1, h2⟩
    · left
      have h3 : ((m * B : Nat) : Rat) < ((2 * A : Nat) : Rat) := nat_lt.2 h1
      have h4 := mul_lt h3 T
      refine lt_of_mul (t := (B : Rat)) ?_ hB'
      push_cast at h4
      grind
    · right
      refine ⟨?_, h2⟩
      have h3 : ((m * B : Nat) : Rat) = ((2 * A : Nat) : Rat) := by exact_mod_cast h1
      push_cast at h3
      have h5 : ((m : Rat) * tw (q + F.low - 1)) * B = x * B := by grind
      have h6 : ¬ ((m : Rat) * tw (q + F.low - 1)) < x := fun h => by have := mul_lt h hB'; grind
      have h7 : ¬ x < ((m : Rat) * tw (q + F.low - 1)) := fun h => by have := mul_lt h hB'; grind
      grind
  · have key := rne_hi A B hB
    generalize 2 * rne A B + 1 = m at *
    rcases key with h1 | ⟨h1, h2⟩
    · left
      have h3 : ((2 * A : Nat) : Rat) < ((m * B : Nat) : Rat) := nat_lt.2 h1
      have h4 := mul_lt h3 T
      refine lt_of_mul (t := (B : Rat)) ?_ hB'
      push_cast at h4
      grind
    · right
      refine ⟨?_, h2⟩
      have h3 : ((2 * A : Nat) : Rat) = ((m * B : Nat) : Rat) := by exact_mod_cast h1
      push_cast at h3
      have h5 : ((m : Rat) * tw (q + F.low - 1)) * B = x * B := by grind
      have h6 : ¬ ((m : Rat) * tw (q + F.low - 1)) < x := fun h => by have := mul_lt h hB'; grind
      have h7 : ¬ x < ((m : Rat) * tw (q + F.low - 1)) := fun h => by have := mul_lt h hB'; grind
      grind
theorem Rnd.big {x : Rat} (h : ∀ m, m < F.inf → F.mid m < x) : F.Rnd (F.Up x) F.inf := ⟨Nat.le_refl _, fun m hm => .inl (h m hm), fun h => by omega⟩
theorem mid_big {m : Nat} (h : m < F.inf) : F.mid m < tw (F.top - 1 + F.low + F.f) := by
  have hp := F.pow_pos
  have ht := F.ht
  have h1 := F.mid_lt_succ m
  have h2 := F.val_mono (show m + 1 ≤ F.inf by omega)
  have h3 : F.val F.inf = tw (F.top - 1 + F.low + F.f) := by
    unfold inf val
    have e : F.top * 2 ^ F.f = (F.top - 1) * 2 ^ F.f + 2 ^ F.f := by
      rw [← Nat.succ_mul]; congr 1; omega
    obtain ⟨h3, h4⟩ := F.sg_mk (F.top - 1) (2 ^ F.f) (by rw [Nat.pow_succ]; omega) (fun _ => Nat.le_refl _)
    rw [e, h3, h4, ← tw_nat, ← tw_add]; congr 1; omega
  grind
theorem val_inf : F.val F.inf = tw (F.top - 1 + F.low + F.f) := by
  have hp := F.pow_pos
  have ht := F.ht
  unfold inf val
  have e : F.top * 2 ^ F.f = (F.top - 1) * 2 ^ F.f + 2 ^ F.f := by
    rw [← Nat.succ_mul]; congr 1; omega
  obtain ⟨h3, h4⟩ := F.sg_mk (F.top - 1) (2 ^ F.f) (by rw [Nat.pow_succ]; omega) (fun _ => Nat.le_refl _)
  rw [e, h3, h4, ← tw_nat, ← tw_add]; congr 1; omega
theorem Rnd.huge {x : Rat} (h : tw (F.top - 1 + F.low + F.f) ≤ x) : F.Rnd (F.Up x) F.inf := Rnd.big F fun m hm => by have := F.mid_big hm; grind
theorem mid_zero : F.mid 0 = tw (F.low - 1) := by
  have hp := F.pow_pos
  unfold mid sg ex
  rw [if_pos hp, if_pos hp]
  simp
theorem Rnd.tiny {x : Rat} (h : x < tw (F.low - 1)) : F.Rnd (F.Up x) 0 := by
  refine ⟨Nat.zero_le _, fun m hm => by omega, fun _ u => ?_⟩
  rcases u with u | ⟨_, u⟩
  · rw [mid_zero] at u; grind
  · omega
theorem Up.sticky {U : Nat → Prop} {S : Nat} {e : Int} (hd : ∀ m, F.mid m ≤ (S : Rat) * tw e → U m) (hu : ∀ m, ((S + 1 : Nat) : Rat) * tw e ≤ F.mid m → ¬ U m)
    (hS : 2 ^ (F.f + 1) ≤ S ∨ e ≤ F.low - 1) (m : Nat) : U m ↔ F.Up (((2 * S + 1 : Nat) : Rat) * tw (e - 1)) m := by
  have T := tw_pos e
  have T1 := tw_pos (e - 1)
  have e0 := tw_pred e
  -- a middle is so many of 2^e, or below S of it
  have key : F.mid m ≤ (S : Rat) * tw e ∨ ((S + 1 : Nat) : Rat) * tw e ≤ F.mid m := by
    by_cases h : e ≤ F.ex m - 1
    · have h1 : F.mid m = (((2 * F.sg m + 1) * 2 ^ (F.ex m - 1 - e).toNat : Nat) : Rat) * tw e := by
        unfold mid
        rw [tw_sub_nat (F.ex m - 1) e h]
        push_cast
        grind
      rw [h1]
      rcases Nat.lt_or_ge S ((2 * F.sg m + 1) * 2 ^ (F.ex m - 1 - e).toNat) with h2 | h2
      · exact .inr (mul_le (nat_le.2 h2) T)
      · exact .inl (mul_le (nat_le.2 h2) T)
    · rcases hS with hS | hS
      · left
        have h1 := F.sg_lt m
        have h2 : F.mid m = ((2 * F.sg m + 1 : Nat) : Rat) * tw (F.ex m - 1) := rfl
        have h3 : tw (F.ex m - 1) ≤ tw (e - 1) := tw_le (by omega)
        have h4 : ((2 * F.sg m + 1 : Nat) : Rat) * tw (F.ex m - 1) ≤ ((2 * F.sg m + 1 : Nat) : Rat) * tw (e - 1) := Rat.mul_le_mul_of_nonneg_left h3 (by exact_mod_cast Nat.zero_le _)
        have h5 : ((2 * F.sg m + 1 : Nat) : Rat) ≤ ((2 * S : Nat) : Rat) := nat_le.2 (by omega)
        have h6 := mul_le h5 T1
        push_cast at h4 h6 h2
        have h8 : (S : Rat) * tw e = 2 * S * tw (e - 1) := by rw [e0]; generalize tw (e - 1) = t; grind
        rw [h2, h8]
        exact Rat.le_trans h4 h6
      · exfalso
        have : F.low ≤ F.ex m := by
          obtain ⟨q, n, _, _, _, _, h⟩ := F.sg_ex m
          omega
        omega
  have hm : ((2 * S + 1 : Nat) : Rat) * tw (e - 1) = (S : Rat) * tw e + tw (e - 1) := by push_cast; grind
  have hm2 : ((S + 1 : Nat) : Rat) * tw e = (S : Rat) * tw e + tw (e - 1) + tw (e - 1) := by push_cast; grind
  rw [hm]
  rcases key with h | h
  · exact ⟨fun _ => .inl (by grind), fun _ => hd m h⟩
  · refine ⟨fun u => absurd u (hu m h), fun u => ?_⟩
    rw [hm2] at h
    rcases u with u | ⟨u, _⟩ <;> grind
end Fmt
end Flo
set_option linter.unusedVariables false
set_option linter.unusedSimpArgs false
namespace Flo
namespace Fmt
variable (F : Fmt)
theorem make_bd {x : Rat} {q n : Nat} (hx : x < tw (q + F.low + F.f + 1)) (hq : 0 < q → tw (q + F.low + F.f) ≤ x)
    (hd : 0 < n → ((2 * n - 1 : Nat) : Rat) * tw (q + F.low - 1) < x ∨ ((2 * n - 1 : Nat) : Rat) * tw (q + F.low - 1) = x ∧ n % 2 = 0)
    (hu : x < ((2 * n + 1 : Nat) : Rat) * tw (q + F.low - 1) ∨ x = ((2 * n + 1 : Nat) : Rat) * tw (q + F.low - 1) ∧ n % 2 = 0) :
    n ≤ 2 ^ (F.f + 1) ∧ (0 < q → 2 ^ F.f ≤ n) := by
  have T := tw_pos (q + F.low - 1)
  have e1 : tw (q + F.low + F.f + 1) = ((2 ^ (F.f + 2) : Nat) : Rat) * tw (q + F.low - 1) := by
    rw [← tw_nat, ← tw_add]; congr 1; omega
  have e2 : tw (q + F.low + F.f) = ((2 ^ (F.f + 1) : Nat) : Rat) * tw (q + F.low - 1) := by
    rw [← tw_nat, ← tw_add]; congr 1; omega
  constructor
  · rcases Nat.eq_zero_or_pos n with h | h
    · rw [h]; exact Nat.zero_le _
    · have h1 : ((2 * n - 1 : Nat) : Rat) * tw (q + F.low - 1) < ((2 ^ (F.f + 2) : Nat) : Rat) * tw (q + F.low - 1) := by
        rw [← e1]
        rcases hd h with h | ⟨h, _⟩ <;> grind
      have h2 := nat_lt.1 (lt_of_mul h1 T)
      rw [Nat.pow_succ] at h2
      omega
  · intro h
    have h1 := hq h
    have h2 : ((2 ^ (F.f + 1) : Nat) : Rat) * tw (q + F.low - 1) ≤ ((2 * n + 1 : Nat) : Rat) * tw (q + F.low - 1) := by
      rw [← e2]
      rcases hu with h | ⟨h, _⟩ <;> grind
    have h3 := nat_le.1 (le_of_mul h2 T)
    rw [Nat.pow_succ] at h3
    omega
theorem near_lo {A B q : Nat} (hB : 0 < B) {x : Rat} (hxe : x * (B : Rat) = (A : Rat) * tw (q + F.low)) (h : 0 < rne A B) :
    ((2 * rne A B - 1 : Nat) : Rat) * tw (q + F.low - 1) < x ∨ ((2 * rne A B - 1 : Nat) : Rat) * tw (q + F.low - 1) = x ∧ rne A B % 2 = 0 := by
  have T := tw_pos (q + F.low - 1)
  have hB' : (0 : Rat) < (B : Rat) := by exact_mod_cast hB
  have e := tw_pred (q + F.low)
  rw [e] at hxe
  have key := rne_lo A B hB h
  generalize 2 * rne A B - 1 = m at *
  rcases key with h1 | ⟨h1, h2⟩
  · left
    have h3 : ((m * B : Nat) : Rat) < ((2 * A : Nat) : Rat) := nat_lt.2 h1
    have h4 := mul_lt h3 T
    refine lt_of_mul (t := (B : Rat)) ?_ hB'
    push_cast at h4
    grind
  · right
    refine ⟨?_, h2⟩
    have h3 : ((m * B : Nat) : Rat) = ((2 * A : Nat) : Rat) := by exact_mod_cast h1
    push_cast at h3
    have h5 : ((m : Rat) * tw (q + F.low - 1)) * B = x * B := by generalize tw (q + F.low - 1) = t at *; grind
    have h6 : ¬ ((m : Rat) * tw (q + F.low - 1)) < x := fun h => by have := mul_lt h hB'; grind
    have h7 : ¬ x < ((m : Rat) * tw (q + F.low - 1)) := fun h => by have := mul_lt h hB'; grind
    grind
theorem near_hi {A B q : Nat} (hB : 0 < B) {x : Rat} (hxe : x * (B : Rat) = (A : Rat) * tw (q + F.low)) :
    x < ((2 * rne A B + 1 : Nat) : Rat) * tw (q + F.low - 1) ∨ x = ((2 * rne A B + 1 : Nat) : Rat) * tw (q + F.low - 1) ∧ rne A B % 2 = 0 := by
  have T := tw_pos (q + F.low - 1)
  have hB' : (0 : Rat) < (B : Rat) := by exact_mod_cast hB
  have e := tw_pred (q + F.low)
  rw [e] at hxe
  have key := rne_hi A B hB
  generalize 2 * rne A B + 1 = m at *
  rcases key with h1 | ⟨h1, h2⟩
  · left
    have h3 : ((2 * A : Nat) : Rat) < ((m * B : Nat) : Rat) := nat_lt.2 h1
    have h4 := mul_lt h3 T
    refine lt_of_mul (t := (B : Rat)) ?_ hB'
    push_cast at h4
    grind
  · right
    refine ⟨?_, h2⟩
    have h3 : ((2 * A : Nat) : Rat) = ((m * B : Nat) : Rat) := by exact_mod_cast h1
    push_cast at h3
    have h5 : ((m : Rat) * tw (q + F.low - 1)) * B = x * B := by generalize tw (q + F.low - 1) = t at *; grind
    have h6 : ¬ ((m : Rat) * tw (q + F.low - 1)) < x := fun h => by have := mul_lt h hB'; grind
    have h7 : ¬ x < ((m : Rat) * tw (q + F.low - 1)) := fun h => by have := mul_lt h hB'; grind
    grind
def fin (q n : Nat) : Nat :=
  if n = 2 ^ (F.f + 1) then (if F.top < q + 3 then F.inf else (q + 2) * 2 ^ F.f)
  else if F.top < q + 2 then F.inf else if n < 2 ^ F.f then n else (q + 1) * 2 ^ F.f + (n - 2 ^ F.f)
theorem fin_eq {q n : Nat} (hn : n ≤ 2 ^ (F.f + 1)) (hl : 0 < q → 2 ^ F.f ≤ n) : F.fin q n = min F.inf (q * 2 ^ F.f + n) := by
  have hp := F.pow_pos
  have ht := F.ht
  unfold fin inf
  rw [Nat.pow_succ] at hn ⊢
  have m1 : ∀ a b : Nat, a ≤ b → a * 2 ^ F.f ≤ b * 2 ^ F.f := fun a b h => Nat.mul_le_mul_right _ h
  have e2 : (q + 2) * 2 ^ F.f = q * 2 ^ F.f + 2 ^ F.f * 2 := by rw [Nat.add_mul, Nat.mul_comm 2]
  have e1 : (q + 1) * 2 ^ F.f = q * 2 ^ F.f + 2 ^ F.f := by rw [Nat.add_mul, Nat.one_mul]
  by_cases h : n = 2 ^ F.f * 2
  · rw [if_pos h, h, ← e2]
    split
    · rename_i h2
      have := m1 F.top (q + 2) (by omega)
      omega
    · rename_i h2
      have := m1 (q + 2) F.top (by omega)
      omega
  · rw [if_neg h]
    by_cases h3 : n < 2 ^ F.f
    · have hq : q = 0 := by
        rcases Nat.eq_zero_or_pos q with h4 | h4
        · exact h4
        · have := hl h4; omega
      subst hq
      have := m1 1 F.top (by omega)
      rw [if_neg (by omega), if_pos h3]
      omega
    · split
      · have := m1 F.top (q + 1) (by omega)
        omega
      · have := m1 (q + 2) F.top (by omega)
        omega
end Fmt
end Flo
set_option linter.unusedVariables false
set_option linter.unusedSimpArgs false
namespace Flo
theorem rne_bits (S j m : Nat) (hm : m ≤ 1) :
    rne (2 * S + m) (2 ^ (j + 2)) = if S / 2 ^ j % 2 = 1 ∧ (S % 2 ^ j ≠ 0 ∨ m = 1 ∨ S / 2 ^ j / 2 % 2 = 1) then S / 2 ^ j / 2 + 1 else S / 2 ^ j / 2 := by
  have hp : 0 < 2 ^ j := Nat.pow_pos (by decide)
  have h0 := Nat.div_add_mod S (2 ^ j)
  have h1 := Nat.mod_lt S hp
  generalize S / 2 ^ j = c at *
  generalize S % 2 ^ j = l at *
  generalize hP : 2 ^ j = P at *
  have e4 : 2 ^ (j + 2) = 4 * P := by rw [Nat.pow_add, hP, Nat.mul_comm]
  rw [e4]
  have hc := Nat.div_add_mod c 2
  have hc2 := Nat.mod_lt c (show 0 < 2 by decide)
  generalize c / 2 = n at *
  generalize c % 2 = h at *
  have eP : P * c = P * (2 * n) + P * h := by rw [← Nat.mul_add, hc]
  have e2 : P * (2 * n) = 2 * (P * n) := by rw [Nat.mul_left_comm]
  have e5 : 4 * P * n = 4 * (P * n) := Nat.mul_assoc ..
  have hPh : P * h = if h = 1 then P else 0 := by
    rcases (show h = 0 ∨ h = 1 by omega) with h3 | h3 <;> subst h3 <;> simp
  have hd : (2 * S + m) / (4 * P) = n := by
    rw [Nat.div_eq_iff (by omega)]
    rw [Nat.mul_comm n]
    split at hPh <;> omega
  have hr : (2 * S + m) % (4 * P) = 2 * (P * h) + 2 * l + m := by
    have := Nat.div_add_mod (2 * S + m) (4 * P)
    rw [hd, e5] at this
    omega
  unfold rne
  rw [hd, hr]
  have hmod : n % 2 < 2 := Nat.mod_lt _ (by decide)
  rcases (show h = 0 ∨ h = 1 by omega) with h3 | h3
  · subst h3
    rw [if_neg (by rw [Nat.mul_zero]; omega), if_neg (by omega)]
  · subst h3
    rw [Nat.mul_one]
    by_cases h4 : l ≠ 0 ∨ m = 1 ∨ n % 2 = 1
    · rw [if_pos (show 4 * P < 2 * (2 * P + 2 * l + m) ∨ 2 * (2 * P + 2 * l + m) = 4 * P ∧ n % 2 = 1 by omega), if_pos ⟨rfl, h4⟩]
    · rw [if_neg (show ¬ (4 * P < 2 * (2 * P + 2 * l + m) ∨ 2 * (2 * P + 2 * l + m) = 4 * P ∧ n % 2 = 1) by omega), if_neg (fun h => h4 h.2)]
namespace Fmt
variable (F : Fmt)
theorem Rnd.congr {U V : Nat → Prop} {r : Nat} (h : F.Rnd U r) (i : ∀ m, U m ↔ V m) : F.Rnd V r := ⟨h.1, fun m hm => (i m).1 (h.2.1 m hm), fun hr u => h.2.2 hr ((i r).2 u)⟩
theorem Rnd.sticky {U : Nat → Prop} {S r : Nat} {e : Int} (h : F.Rnd (F.Up (((2 * S + 1 : Nat) : Rat) * tw (e - 1))) r) (hd : ∀ m, F.mid m ≤ (S : Rat) * tw e → U m) (hu : ∀ m, ((S + 1 : Nat) : Rat) * tw e ≤ F.mid m → ¬ U m)
    (hS : 2 ^ (F.f + 1) ≤ S ∨ e ≤ F.low - 1) : F.Rnd U r := Rnd.congr F h fun m => (Up.sticky F hd hu hS m).symm
theorem Rnd.pack_dn {S la j m : Nat} {e : Int} {q : Nat} (hm : m ≤ 1) (h1 : 2 ^ la ≤ 2 * S) (h2 : S < 2 ^ la) (hj : ((j + 1 : Nat) : Int) = max ((la : Int) - F.f - 1) (F.low - e)) (hq : (q : Int) = e + (j + 1 : Nat) - F.low) :
    F.Rnd (F.Up (((2 * S + m : Nat) : Rat) * tw (e - 1))) (F.fin q (rne (2 * S + m) (2 ^ (j + 2)))) ∧ rne (2 * S + m) (2 ^ (j + 2)) ≤ 2 ^ (F.f + 1) ∧ (0 < q → 2 ^ F.f ≤ rne (2 * S + m) (2 ^ (j + 2))) := by
  have hB : 0 < 2 ^ (j + 2) := Nat.pow_pos (by decide)
  have T := tw_pos (e - 1)
  have hxe : ((2 * S + m : Nat) : Rat) * tw (e - 1) * ((2 ^ (j + 2) : Nat) : Rat) = ((2 * S + m : Nat) : Rat) * tw (q + F.low) := by
    rw [← tw_nat, Rat.mul_assoc, ← tw_add]; congr 2; omega
  have hx : ((2 * S + m : Nat) : Rat) * tw (e - 1) < tw (q + F.low + F.f + 1) := by
    have h3 : ((2 * S + m : Nat) : Rat) < ((2 ^ (la + 1) : Nat) : Rat) := nat_lt.2 (by rw [Nat.pow_succ]; omega)
    have h4 := mul_lt h3 T
    rw [← tw_nat, ← tw_add] at h4
    have h5 : tw ((la + 1 : Nat) + (e - 1)) ≤ tw (q + F.low + F.f + 1) := tw_le (by omega)
    grind
  have hl : 0 < q → tw (q + F.low + F.f) ≤ ((2 * S + m : Nat) : Rat) * tw (e - 1) := by
    intro h
    have h3 : ((2 ^ la : Nat) : Rat) ≤ ((2 * S + m : Nat) : Rat) := nat_le.2 (by omega)
    have h4 := mul_le h3 T
    rw [← tw_nat, ← tw_add] at h4
    have h5 : tw (q + F.low + F.f) ≤ tw (la + (e - 1)) := tw_le (by omega)
    grind
  have bd := F.make_bd hx hl (fun h => F.near_lo hB hxe h) (F.near_hi hB hxe)
  refine ⟨?_, bd⟩
  rw [F.fin_eq bd.1 bd.2]
  exact Rnd.near F hB hxe hx hl
theorem Rnd.pack_up {S la u : Nat} {e : Int} {q : Nat} (h1 : 2 ^ la ≤ 2 * S) (h2 : S < 2 ^ la) (hla : la ≤ F.f + 1) (he : F.low ≤ e) (hu : (u : Int) = min ((F.f : Int) + 1 - la) (e - F.low)) (hq : (q : Int) = e - u - F.low) :
    F.Rnd (F.Up ((S : Rat) * tw e)) (F.fin q (S * 2 ^ u)) ∧ S * 2 ^ u ≤ 2 ^ (F.f + 1) ∧ (0 < q → 2 ^ F.f ≤ S * 2 ^ u) := by
  have T := tw_pos e
  have e0 : rne (S * 2 ^ u) 1 = S * 2 ^ u := by have := rne_exact (S * 2 ^ u) 1 (by decide); rwa [Nat.mul_one] at this
  have hxe : (S : Rat) * tw e * ((1 : Nat) : Rat) = ((S * 2 ^ u : Nat) : Rat) * tw (q + F.low) := by
    rw [tw_sub_nat e (q + F.low) (by omega), show (e - (q + F.low)).toNat = u by omega]
    push_cast
    grind
  have hx : (S : Rat) * tw e < tw (q + F.low + F.f + 1) := by
    have h3 : (S : Rat) < ((2 ^ la : Nat) : Rat) := nat_lt.2 h2
    have h4 := mul_lt h3 T
    rw [← tw_nat, ← tw_add] at h4
    have h5 : tw (la + e) ≤ tw (q + F.low + F.f + 1) := tw_le (by omega)
    grind
  have hl : 0 < q → tw (q + F.low + F.f) ≤ (S : Rat) * tw e := by
    intro h
    have h3 : ((2 ^ la : Nat) : Rat) ≤ ((2 * S : Nat) : Rat) := nat_le.2 h1
    have h4 := mul_le h3 (tw_pos (e - 1))
    rw [← tw_nat, ← tw_add] at h4
    have h5 : tw (q + F.low + F.f) ≤ tw (la + (e - 1)) := tw_le (by omega)
    have h6 := tw_pred e
    push_cast at h4
    rw [h6]
    generalize tw (e - 1) = t at *
    grind
  have hB : 0 < 1 := by decide
  have bd := F.make_bd hx hl (fun h => F.near_lo hB hxe h) (F.near_hi hB hxe)
  have R := Rnd.near F hB hxe hx hl
  rw [e0] at bd R
  refine ⟨?_, bd⟩
  rw [F.fin_eq bd.1 bd.2]
  exact R
end Fmt
end Flo
set_option linter.unusedVariables false
set_option linter.unusedSimpArgs false
namespace Flo
namespace Fmt
variable (F : Fmt)
noncomputable def rnd (x : Rat) : Nat := Classical.choose (Rnd.exists F (F.Up x))
theorem rnd_spec (x : Rat) : F.Rnd (F.Up x) (F.rnd x) := Classical.choose_spec (Rnd.exists F (F.Up x))
theorem rnd_of {x : Rat} {r : Nat} (h : F.Rnd (F.Up x) r) : F.rnd x = r := Rnd.eq F (F.rnd_spec x) h
theorem rnd_val {m : Nat} (h : m ≤ F.inf) : F.rnd (F.val m) = m := F.rnd_of (Rnd.exact F h)
theorem rnd_zero : F.rnd 0 = 0 := by
  have := F.rnd_val (Nat.zero_le F.inf)
  rwa [val_zero] at this
theorem inf_pos : 0 < F.inf := Nat.mul_pos (by have := F.ht; omega) F.pow_pos
theorem val_one : F.val 1 = tw F.low := by
  have h := F.val_succ 0
  have hp := F.pow_pos
  rw [val_zero] at h
  have e : F.ex 0 = F.low := by unfold ex; rw [if_pos hp]
  rw [h, e]; grind
theorem val_pos {m : Nat} : 0 < F.val m ↔ 0 < m := by rw [← F.val_zero]; exact F.val_lt_iff
theorem rnd_inf {x : Rat} (h : F.val F.inf ≤ x) : F.rnd x = F.inf := F.rnd_of (Rnd.huge F (by rw [← val_inf]; exact h))
end Fmt
end Flo
namespace Bit
theorem or_pow (x c k : Nat) (hx : x < 2 ^ k) : x ||| c * 2 ^ k = x + c * 2 ^ k := by
  rw [Nat.mul_comm, Nat.or_comm, ← Nat.two_pow_add_eq_or_of_lt hx, Nat.add_comm]
theorem and_low (a k : Nat) : a &&& (2 ^ k - 1) = a % 2 ^ k := Nat.and_two_pow_sub_one_eq_mod a k
end Bit
namespace Go.Proofs.Ytjjehbedpgdhgaa.PA
open Go.RowKit Go.Proofs.YtjjehbedpgdhgaaW.PrintWords Go.Proofs.YtjjehbedpgdhgaaW.PrintLast Go.Proofs.YtjjehbedpgdhgaaW.PrintMore
attribute [local go_sem] max2_int min2_int max_two min_two max_three min_three max_four min_four   -- for this text's walks alone
set_option linter.unusedVariables false
set_option linter.unusedSimpArgs false
set_option maxHeartbeats 8000000
set_option maxRecDepth 100000
def r2_Cut.f (a0 : Int) (a1 : Int) : Option (Int) := if a0 = 32 then (some (Int.tmod a1 4294967296)) else (some a1)
theorem r2_Cut.calls (a0 : Int) (a1 : Int) (r : Int) (w : World) (h : r2_Cut.f a0 a1 = some r) :
  Calls Try.prog 57 #[.int .i64 a0, .int .u64 a1] w fun e w' => e = .returned (.int .u64 r) ∧ Drawn0 w w' := by
 have H : (if a0 = 32 then (some (Int.tmod a1 4294967296)) else (some a1)) = some r := h
 clear h
 by_cases c3 : a0 = 32
 ·rw [if_pos c3] at H
  have c3b0 : (a0 == 32) = true := beq_iff_eq.mpr c3
  have c3b1 : (a0 != 32) = false := bne_eq_false_iff_eq.mpr c3
  clear c3
  obtain rfl := Option.some.inj H
  go_enter Try.func57, Try.ntmps57
  go_wp2
  go_ret
  exact ⟨sm_, by repeat (first | exact Drawn0.refl _ | apply Drawn0.step)⟩
 ·rw [if_neg c3] at H
  have c3b0 : (a0 == 32) = false := beq_eq_false_iff_ne.mpr c3
  have c3b1 : (a0 != 32) = true := bne_iff_ne.mpr c3
  obtain rfl := Option.some.inj H
  go_enter Try.func57, Try.ntmps57
  go_wp2
  go_ret
  exact ⟨sm_, by repeat (first | exact Drawn0.refl _ | apply Drawn0.step)⟩
def r2_Known.f (a0 : Int) : Option (Bool) := if a0 = 32 then (some true) else (some (a0 == 64))
theorem r2_Known.calls (a0 : Int) (r : Bool) (w : World) (h : r2_Known.f a0 = some r) :
  Calls Try.prog 10 #[.int .i64 a0] w fun e w' => e = .returned (.bool r) ∧ Drawn0 w w' := by
 have H : (if a0 = 32 then (some true) else (some (a0 == 64))) = some r := h
 clear h
 by_cases c2 : a0 = 32
 ·rw [if_pos c2] at H
  have c2b0 : (a0 == 32) = true := beq_iff_eq.mpr c2
  have c2b1 : (a0 != 32) = false := bne_eq_false_iff_eq.mpr c2
  clear c2
  obtain rfl := Option.some.inj H
  go_enter Try.func10, Try.ntmps10
  go_wp2
  go_ret
  exact ⟨sm_, by repeat (first | exact Drawn0.refl _ | apply Drawn0.step)⟩
 ·rw [if_neg c2] at H
  have c2b0 : (a0 == 32) = false := beq_eq_false_iff_ne.mpr c2
  have c2b1 : (a0 != 32) = true := bne_iff_ne.mpr c2
  obtain rfl := Option.some.inj H
  go_enter Try.func10, Try.ntmps10
  go_wp2
  go_ret
  exact ⟨sm_, by repeat (first | exact Drawn0.refl _ | apply Drawn0.step)⟩
def r2_Two.l0 : Nat → Int → Int → Int → Option (Int)
 | 0, _, _, _ => none
 | k + 1, x0, x3, x4 => if x4 < x0 then (r2_Two.l0 k x0 (IntKind.u64.wrap (2 * x3)) (wrap64 (x4 + 1))) else (some x3)
def r2_Two.f (k : Nat) (a0 : Int) : Option (Int) := r2_Two.l0 k a0 1 0
theorem r2_Two.mono_l : ∀ k, (∀ y0 y1 y2, LeO (r2_Two.l0 k y0 y1 y2) (r2_Two.l0 (k + 1) y0 y1 y2))
 | 0 => fun _ _ _ r h => by simp [r2_Two.l0] at h
 | k + 1 => by
  have ih0 := r2_Two.mono_l k
  ·intro y0 y1 y2
   unfold r2_Two.l0
   repeat' first
   | (with_reducible exact ih0 _ _ _)
   | (with_reducible exact LeO.refl _)
   | (with_reducible exact LeO.none _)
   | (with_reducible refine LeO.ite ?_ ?_)
   | (with_reducible refine LeO.bind ?_ (fun _ => ?_))
   | exact ih0 _ _ _
   | exact LeO.none _
   | refine LeO.ite ?_ ?_
   | refine LeO.bind ?_ (fun _ => ?_)
theorem r2_Two.mono : ∀ a0 k, LeO (r2_Two.f k a0) (r2_Two.f (k + 1) a0) := by
 intro a0 k
 have ih0 := r2_Two.mono_l k
 unfold r2_Two.f
 repeat' first
   | (with_reducible exact ih0 _ _ _)
   | (with_reducible exact LeO.refl _)
   | (with_reducible exact LeO.none _)
   | (with_reducible refine LeO.ite ?_ ?_)
   | (with_reducible refine LeO.bind ?_ (fun _ => ?_))
   | exact ih0 _ _ _
   | exact LeO.none _
   | refine LeO.ite ?_ ?_
   | refine LeO.bind ?_ (fun _ => ?_)
theorem r2_Two.calls (k : Nat) (a0 : Int) (r : Int) (w : World) (h : r2_Two.f k a0 = some r) :
  Calls Try.prog 58 #[.int .i64 a0] w fun e w' => e = .returned (.int .u64 r) ∧ Drawn0 w w' := by
 have H : (r2_Two.l0 k a0 1 0) = some r := h
 clear h
 have H' := A_ H
 clear H
 go_enter Try.func58, Try.ntmps58
 go_wp2
 go_loopg [3, 4] k (fun kq v3 v4 w' => ∃ (x3_1 : Int) (x4_1 : Int), v3 = .int .u64 x3_1 ∧ v4 = .int .i64 x4_1 ∧ Aside0 (r2_Two.l0 kq a0 x3_1 x4_1 = some r) ∧ Aside0 (kq ≤ k) ∧ Drawn0 w w')
 case atStart => exact ⟨(1), (0), sm_, sm_, H', ⟨Nat.le_refl _⟩, by repeat (first | exact Drawn0.refl _ | apply Drawn0.step)⟩
 case round =>
  clear H'
  obtain ⟨x3_1, x4_1, rfl, rfl, HA, HK1, ⟨m1, rfl⟩⟩ := hrel
  cases gk with
  | zero => exact absurd HA.out (by simp [r2_Two.l0])
  | succ k1 =>
   have H := HA.out
   clear HA
   simp only [r2_Two.l0] at H
   by_cases c2 : x4_1 < a0
   ·rw [if_pos c2] at H
    have c2b0 : decide (x4_1 < a0) = true := decide_eq_true c2
    clear c2
    have H' := A_ H
    clear H
    go_wp2
    go_roundg k1
    case measure => have := HK1.out; omega
    case rel => exact ⟨(IntKind.u64.wrap (2 * x3_1)), (wrap64 (x4_1 + 1)), sm_, sm_, H', ⟨by have := HK1.out; omega⟩, by repeat (first | exact Drawn0.refl _ | apply Drawn0.step)⟩
   ·rw [if_neg c2] at H
    have c2b0 : decide (x4_1 < a0) = false := decide_eq_false c2
    clear c2
    obtain rfl := Option.some.inj H
    go_wp2
    go_ret
    exact ⟨sm_, by repeat (first | exact Drawn0.refl _ | apply Drawn0.step)⟩
def r2_Neg.f (k : Nat) (a0 : Int) (a1 : Int) : Option (Bool) := (r2_Cut.f a0 a1).bind fun t241 => ((r2_Two.f k (wrap64 (a0 - 1))).bind fun t242 => (if t242 = 0 then (none) else (some ((IntKind.u64.wrap (Int.tdiv t241 t242)) == 1))))
theorem r2_Neg.mono : ∀ a0 a1 k, LeO (r2_Neg.f k a0 a1) (r2_Neg.f (k + 1) a0 a1) := by
 intro a0 a1 k
 unfold r2_Neg.f
 repeat' first
   | (with_reducible exact r2_Two.mono _ _)
   | (with_reducible exact LeO.refl _)
   | (with_reducible exact LeO.none _)
   | (with_reducible refine LeO.ite ?_ ?_)
   | (with_reducible refine LeO.bind ?_ (fun _ => ?_))
   | exact r2_Two.mono _ _
   | exact LeO.none _
   | refine LeO.ite ?_ ?_
   | refine LeO.bind ?_ (fun _ => ?_)
theorem r2_Neg.calls (k : Nat) (a0 : Int) (a1 : Int) (r : Bool) (w : World) (h : r2_Neg.f k a0 a1 = some r) :
  Calls Try.prog 18 #[.int .i64 a0, .int .u64 a1] w fun e w' => e = .returned (.bool r) ∧ Drawn0 w w' := by
 have H : ((r2_Cut.f a0 a1).bind fun t241 => ((r2_Two.f k (wrap64 (a0 - 1))).bind fun t242 => (if t242 = 0 then (none) else (some ((IntKind.u64.wrap (Int.tdiv t241 t242)) == 1))))) = some r := h
 clear h
 replace H := ob_ H
 obtain ⟨t241, A30, H⟩ := H
 replace H : ((r2_Two.f k (wrap64 (a0 - 1))).bind fun t242 => (if t242 = 0 then (none) else (some ((IntKind.u64.wrap (Int.tdiv t241 t242)) == 1)))) = some r := H
 have A3 := A_ A30;clear A30
 replace H := ob_ H
 obtain ⟨t242, A40, H⟩ := H
 replace H : (if t242 = 0 then (none) else (some ((IntKind.u64.wrap (Int.tdiv t241 t242)) == 1))) = some r := H
 have A4 := A_ A40;clear A40
 by_cases c5 : t242 = 0
 ·rw [if_pos c5] at H
  exact absurd H (by simp)
 ·rw [if_neg c5] at H
  have c5b0 : (t242 == 0) = false := beq_eq_false_iff_ne.mpr c5
  have c5b1 : (t242 != 0) = true := bne_iff_ne.mpr c5
  obtain rfl := Option.some.inj H
  go_enter Try.func18, Try.ntmps18
  go_wp2_with (first | ((with_reducible refine gate_callee (f := 57) rfl ?_); refine gl_ (some 7) Try.func57 #[.int .i64 a0, .int .u64 a1] ?_; (with_reducible refine (r2_Cut.calls a0 a1 t241 _ A3.out).mono ?_); rintro e w' ⟨rfl, ⟨nd, rfl⟩⟩; refine ⟨_, rfl, ?_⟩) | ((with_reducible refine gate_callee (f := 58) rfl ?_); refine gl_ (some 10) Try.func58 #[.int .i64 (wrap64 (a0 - 1))] ?_; (with_reducible refine (r2_Two.calls k (wrap64 (a0 - 1)) t242 _ A4.out).mono ?_); rintro e w' ⟨rfl, ⟨nd, rfl⟩⟩; refine ⟨_, rfl, ?_⟩))
  go_ret
  exact ⟨sm_, by repeat (first | exact Drawn0.refl _ | apply Drawn0.step)⟩
end Go.Proofs.Ytjjehbedpgdhgaa.PA
section
set_option linter.unusedVariables false
set_option linter.unusedSimpArgs false
namespace Go.Proofs.Ytjjehbedpgdhgaa.Th
open Go.RowKit Go.Proofs.YtjjehbedpgdhgaaW.PrintWords Go.Proofs.YtjjehbedpgdhgaaW.PrintLast Go.Proofs.YtjjehbedpgdhgaaW.PrintMore Go.Proofs.Ytjjehbedpgdhgaa.PA Bit
theorem wf_u64 {a : Int} (h : (Lit.int .u64 a).wf = true) : 0 ≤ a ∧ a < 18446744073709551616 := by
  simp [Lit.wf, IntKind.min, IntKind.max, IntKind.signed, IntKind.bits] at h; omega
def cutN (w : Int) (a : Nat) : Nat := if w = 32 then a % 4294967296 else if w = 64 then a else 0
theorem r2Cut (w : Int) (a : Nat) (hw : w = 32 ∨ w = 64) : r2_Cut.f w a = some ((cutN w a : Nat) : Int) := by
  unfold r2_Cut.f cutN
  rcases hw with rfl | rfl
  · rw [if_pos rfl, if_pos rfl, Int.tmod_eq_emod_of_nonneg (by omega)]; congr 1
  · rw [if_neg (by decide), if_neg (by decide), if_pos rfl]
def sb (w : Int) : Nat := if w = 32 then 2147483648 else 9223372036854775808
def sgB (w : Int) (a : Nat) : Bool := decide (a / sb w % 2 = 1)
def magN (w : Int) (a : Nat) : Nat := a % sb w
theorem cutN_eq (w : Int) (hw : w = 32 ∨ w = 64) (a : Nat) (ha : a < 18446744073709551616) : cutN w a = magN w a + (if sgB w a then sb w else 0) := by
  unfold magN sgB
  rcases hw with rfl | rfl
  · simp only [cutN, sb, if_true, decide_eq_true_eq]; split <;> omega
  · simp only [cutN, sb, show ¬ ((64 : Int) = 32) by decide, if_false, if_true, decide_eq_true_eq]; split <;> omega
theorem magN_lt (w : Int) (hw : w = 32 ∨ w = 64) (a : Nat) : magN w a < sb w := by
  unfold magN sb; rcases hw with rfl | rfl <;> exact Nat.mod_lt _ (by decide)
def mkN (w : Int) (m : Nat) (s : Bool) : Nat := m + if s then sb w else 0
theorem sg_mk (w : Int) (hw : w = 32 ∨ w = 64) (m : Nat) (s : Bool) (h : m < sb w) : sgB w (mkN w m s) = s := by
  unfold sgB mkN; revert h; unfold sb; rcases hw with rfl | rfl <;> cases s <;> simp <;> omega
theorem mag_mk (w : Int) (hw : w = 32 ∨ w = 64) (m : Nat) (s : Bool) (h : m < sb w) : magN w (mkN w m s) = m := by
  unfold magN mkN; revert h; unfold sb; rcases hw with rfl | rfl <;> cases s <;> simp <;> omega
theorem known_f (w : Int) : r2_Known.f w = some (decide (w = 32 ∨ w = 64)) := by
  unfold r2_Known.f
  by_cases h : w = 32
  · rw [if_pos h]; simp [h]
  · rw [if_neg h]; congr 1; by_cases h2 : w = 64 <;> simp [h, h2]
theorem Ev.pos {α : Type} {c : Prop} [Decidable c] {f g : Nat → Option α} {r : α} (h : c) (k : Ev f r) : Ev (fun n => if c then f n else g n) r := Ev.congr (fun _ => if_pos h) k
theorem Ev.neg {α : Type} {c : Prop} [Decidable c] {f g : Nat → Option α} {r : α} (h : ¬ c) (k : Ev g r) : Ev (fun n => if c then f n else g n) r := Ev.congr (fun _ => if_neg h) k
theorem Ev.bs {α β : Type} {g : Option α} {a : α} {f : Nat → α → Option β} {r : β} (h : g = some a) (k : Ev (fun n => f n a) r) : Ev (fun n => g.bind (f n)) r := by subst h; exact k
theorem Ev.out {α : Type} {r s : α} (h : r = s) : Ev (fun _ => some r) s := by subst h; exact Ev.now _
theorem u64_id {n : Int} (h : 0 ≤ n) (h2 : n < 18446744073709551616) : IntKind.u64.wrap n = n := by rw [IntKind.wrap_u64]; omega
theorem w64_id {n : Int} (h : -9223372036854775808 ≤ n) (h2 : n < 9223372036854775808) : wrap64 n = n := by unfold wrap64; omega
theorem two_loop (n : Nat) (hn : n < 64) (d : Nat) : ∀ i : Nat, i ≤ n → n - i = d → Ev (fun k => r2_Two.l0 k n (2 ^ i : Nat) i) ((2 ^ n : Nat) : Int) := by
  induction d with
  | zero =>
    intro i hi hd
    obtain rfl : i = n := by omega
    refine Ev.step (fun _ => r2_Two.l0.eq_2 ..) ?_
    exact Ev.neg (by omega) (Ev.out rfl)
  | succ d ih =>
    intro i hi hd
    refine Ev.step (fun _ => r2_Two.l0.eq_2 ..) ?_
    refine Ev.pos (by omega) ?_
    have h := ih (i + 1) (by omega) (by omega)
    have hp : 2 ^ i ≤ 4611686018427387904 * 2 := by
      have : 2 ^ i ≤ 2 ^ 63 := Nat.pow_le_pow_right (by decide) (by omega)
      simpa using this
    have hp2 : 2 ^ (i + 1) ≤ 9223372036854775808 := by
      have : 2 ^ (i + 1) ≤ 2 ^ 63 := Nat.pow_le_pow_right (by decide) (by omega)
      simpa using this
    rw [Nat.pow_succ] at h hp2
    generalize 2 ^ i = P at *
    rw [u64_id (by omega) (by omega), w64_id (by omega) (by omega), show (2 : Int) * (P : Int) = ((P * 2 : Nat) : Int) by omega, show (i : Int) + 1 = ((i + 1 : Nat) : Int) by omega]
    exact h
theorem two_f (n : Nat) (hn : n < 64) : Ev (fun k => r2_Two.f k n) ((2 ^ n : Nat) : Int) := two_loop n hn _ 0 (by omega) rfl
theorem twoS (w : Int) (hw : w = 32 ∨ w = 64) : Ev (fun k => r2_Two.f k (wrap64 (w - 1))) ((sb w : Nat) : Int) := by
  rcases hw with rfl | rfl
  · rw [show wrap64 (32 - 1) = ((31 : Nat) : Int) by decide +kernel]; exact two_f 31 (by decide)
  · rw [show wrap64 (64 - 1) = ((63 : Nat) : Int) by decide +kernel]; exact two_f 63 (by decide)
theorem r2Neg (w : Int) (hw : w = 32 ∨ w = 64) (a : Nat) (ha : a < 18446744073709551616) : Ev (fun k => r2_Neg.f k w a) (sgB w a) := by
  unfold r2_Neg.f
  refine Ev.bs (r2Cut w a hw) (Ev.bind (twoS w hw) ?_)
  have hs : 0 < sb w := by unfold sb; split <;> decide
  refine Ev.neg (by omega) (Ev.out ?_)
  have hm := magN_lt w hw a
  rw [Int.tdiv_eq_ediv_of_nonneg (by omega), ← Int.natCast_ediv, cutN_eq w hw a ha]
  cases sgB w a
  · simp only [Bool.false_eq_true, if_false, Nat.add_zero]
    rw [Nat.div_eq_of_lt hm]; decide
  · simp only [if_true]
    rw [Nat.add_div_right _ hs, Nat.div_eq_of_lt hm]; decide
end Go.Proofs.Ytjjehbedpgdhgaa.Th
end
namespace Go.Proofs.Ytjjehbedpgdhgaa.PA
open Go.RowKit Go.Proofs.YtjjehbedpgdhgaaW.PrintWords Go.Proofs.YtjjehbedpgdhgaaW.PrintLast Go.Proofs.YtjjehbedpgdhgaaW.PrintMore
attribute [local go_sem] max2_int min2_int max_two min_two max_three min_three max_four min_four   -- for this text's walks alone
set_option linter.unusedVariables false
set_option linter.unusedSimpArgs false
set_option maxHeartbeats 8000000
set_option maxRecDepth 100000
def r1_at.f (l0 : List Int) (a1 : Int) : Option (Int) := if a1 < (l0.length : Int) then (if 0 ≤ a1 then (some (rd l0 a1)) else (none)) else (some 0)
theorem r1_at.calls (A0 : Option Addr) (c0 : Nat) (l0 : List Int) (a1 : Int) (r : Int) (w : World) (hr0 : Kd.C (Kd.int .u64) w A0 l0.length l0) (hc0 : l0.length ≤ c0) (h : r1_at.f l0 a1 = some r) :
  Calls Try.prog 70 #[.slice A0 l0.length c0, .int .i64 a1] w fun e w' => e = .returned (.int .u64 r) ∧ Drawn0 w w' := by
 have HR0 := A_ hr0;have HC0 := A_ hc0;clear hr0 hc0
 have H : (if a1 < (l0.length : Int) then (if 0 ≤ a1 then (some (rd l0 a1)) else (none)) else (some 0)) = some r := h
 clear h
 by_cases c3 : a1 < (l0.length : Int)
 ·rw [if_pos c3] at H
  have c3b0 : decide (a1 < (l0.length : Int)) = true := decide_eq_true c3
  clear c3
  by_cases c4 : 0 ≤ a1
  ·rw [if_pos c4] at H
   have c4b0 : decide (0 ≤ a1) = true := decide_eq_true c4
   clear c4
   obtain rfl := Option.some.inj H
   have p297 : 0 ≤ (a1 : Int) := of_decide_eq_true (by first | (with_reducible assumption) | assumption)
   have q297 : a1 < (l0.length : Int) := of_decide_eq_true (by first | (with_reducible assumption) | assumption)
   obtain ⟨ad297, e297, hx297_0⟩ := Kd.at_int HR0.out a1 p297 q297
   cases e297
   replace p297 := eq_true p297
   replace q297 := eq_true q297
   go_enter Try.func70, Try.ntmps70
   go_wp2
   go_ret
   exact ⟨sm_, by repeat (first | exact Drawn0.refl _ | apply Drawn0.step)⟩
  ·rw [if_neg c4] at H
   exact absurd H (by simp)
 ·rw [if_neg c3] at H
  have c3b0 : decide (a1 < (l0.length : Int)) = false := decide_eq_false c3
  clear c3
  obtain rfl := Option.some.inj H
  go_enter Try.func70, Try.ntmps70
  go_wp2
  go_ret
  exact ⟨sm_, by repeat (first | exact Drawn0.refl _ | apply Drawn0.step)⟩
def r1_trim.l0 : Nat → List Int → Int → Option (List Int)
 | 0, _, _ => none
 | k + 1, x0, x3 => if x3 > 0 then (if 0 ≤ (wrap64 (x3 - 1)) then (if (wrap64 (x3 - 1)) < (x0.length : Int) then (if (rd x0 (wrap64 (x3 - 1))) = 0 then (r1_trim.l0 k x0 (wrap64 (x3 - 1))) else (if 0 ≤ x3 then (if x3 ≤ (x0.length : Int) then (some (x0.take (x3 : Int).toNat)) else (none)) else (none))) else (none)) else (none)) else (if 0 ≤ x3 then (if x3 ≤ (x0.length : Int) then (some (x0.take (x3 : Int).toNat)) else (none)) else (none))
def r1_trim.f (k : Nat) (l0 : List Int) : Option (List Int) := r1_trim.l0 k l0 (l0.length : Int)
theorem r1_trim.mono_l : ∀ k, (∀ y0 y1, LeO (r1_trim.l0 k y0 y1) (r1_trim.l0 (k + 1) y0 y1))
 | 0 => fun _ _ r h => by simp [r1_trim.l0] at h
 | k + 1 => by
  have ih0 := r1_trim.mono_l k
  ·intro y0 y1
   unfold r1_trim.l0
   repeat' first
   | (with_reducible exact ih0 _ _)
   | (with_reducible exact LeO.refl _)
   | (with_reducible exact LeO.none _)
   | (with_reducible refine LeO.ite ?_ ?_)
   | (with_reducible refine LeO.bind ?_ (fun _ => ?_))
   | exact ih0 _ _
   | exact LeO.none _
   | refine LeO.ite ?_ ?_
   | refine LeO.bind ?_ (fun _ => ?_)
theorem r1_trim.mono : ∀ a0 k, LeO (r1_trim.f k a0) (r1_trim.f (k + 1) a0) := by
 intro a0 k
 have ih0 := r1_trim.mono_l k
 unfold r1_trim.f
 repeat' first
   | (with_reducible exact ih0 _ _)
   | (with_reducible exact LeO.refl _)
   | (with_reducible exact LeO.none _)
   | (with_reducible refine LeO.ite ?_ ?_)
   | (with_reducible refine LeO.bind ?_ (fun _ => ?_))
   | exact ih0 _ _
   | exact LeO.none _
   | refine LeO.ite ?_ ?_
   | refine LeO.bind ?_ (fun _ => ?_)
theorem r1_trim.calls (k : Nat) (P0_ : Nat → Prop) (u9000_ : Value) (l0 : List Int) (r : List Int) (w0 w : World) (hB : Below w0.heap.size w0 w) (ho0 : Kd.R (Kd.int .u64) 22 w w0.heap.size P0_ u9000_ l0) (h : r1_trim.f k l0 = some r) :
  Calls Try.prog 71 #[u9000_] w fun e w' => ∃ v0_ : Value, e = .returned (.agg #[v0_]) ∧ Kd.R (Kd.int .u64) 22 w' w0.heap.size (fun k_ => (P0_ k_ ∨ w.heap.size ≤ k_)) v0_ r ∧ Below w0.heap.size w0 w' ∧ Kept w w' (fun k_ => P0_ k_) := by
 have hu53 := Try.underlying53
 have HO0 := A_ (show Kd.R (Kd.int .u64) 22 w w0.heap.size (fun k_ => (P0_ k_ ∨ w.heap.size ≤ k_)) u9000_ l0 from Kd.R_mono ho0 (fun k_ hk => (.inl hk)))
 have HK := A_ (Kept.refl w (fun k_ => P0_ k_))
 have HW0 := A_ hB.size
 have HB := A_ hB;clear hB
 have H : (r1_trim.l0 k l0 (l0.length : Int)) = some r := h
 clear h
 have H' := A_ H
 clear H
 go_enter Try.func71, Try.ntmps71
 go_wp2_with (first | ((with_reducible refine gate_dst (N := 2) rfl ?_); refine be_ 2 #[.slice none 0 0] 53 ?_; intro gb267 hg w2 hbox hb; have BK267 := A_ (hbox); have GW267 := A_ ((by rw [hg]; exact (by first | exact HK.out.1 | exact (show Kept w _ (fun k_ => P0_ k_) from by repeat (first | (with_reducible first | exact HK.out | apply Kept.alloc | apply Kept.drewN | apply Kept.drew) | exact HK.out)).1) : w.heap.size ≤ gb267)); have GE267 := A_ ((by rw [hg]; exact (below_size (hb_ HB.out)) : w0.heap.size ≤ gb267)); replace HO0 := A_ (Kd.R_below (kr_ HO0.out) hb); replace HK := A_ (Kept.below (S := (fun k_ => P0_ k_)) (by repeat (first | (with_reducible first | exact HK.out | apply Kept.alloc | apply Kept.drewN | apply Kept.drew) | exact HK.out)) hb); replace HB := A_ (below_step (hb_ HB.out) hb); clear hb hbox hg; obtain ⟨Ao3, co3, eo3⟩ := Kd.R_slice HO0.out; subst eo3))
 go_loopg [3] k (fun kq v3 w' => ∃ (x3_1 : Int), v3 = .int .i64 x3_1 ∧ Aside0 (r1_trim.l0 kq l0 x3_1 = some r) ∧ Aside0 (kq ≤ k) ∧ Aside0 (Kd.R (Kd.int .u64) 22 w' w0.heap.size (fun k_ => (P0_ k_ ∨ w.heap.size ≤ k_)) (.slice Ao3 l0.length co3) l0) ∧ Aside0 (w'.heap[gb267]? = some (.cells #[(.slice none 0 0)] 53 (0, 0))) ∧ Aside0 (Kept w w' (fun k_ => P0_ k_)) ∧ Aside0 (Below w0.heap.size w0 w'))
 case atStart => exact ⟨((l0.length : Int)), sm_, H', ⟨Nat.le_refl _⟩, ⟨by (with_reducible repeat (first | apply Kd.R_alloc | apply Kd.R_drewN | apply Kd.R_drew)); exact HO0.out⟩, ⟨bk_ BK267.out⟩, ⟨by repeat (first | (with_reducible first | exact HK.out | apply Kept.alloc | apply Kept.drewN | apply Kept.drew | refine Kept.setCell ?_ (.inr GW267.out) _) | exact HK.out)⟩, ⟨hb1_ HB.out GE267.out⟩⟩
 case round =>
  clear H'
  try clear p2
  obtain ⟨x3_1, rfl, HA, HK1, HO_0, BK267, HK, HB⟩ := hrel
  cases gk with
  | zero => exact absurd HA.out (by simp [r1_trim.l0])
  | succ k1 =>
   have H := HA.out
   clear HA
   simp only [r1_trim.l0] at H
   by_cases c4 : x3_1 > 0
   ·rw [if_pos c4] at H
    have c4b0 : decide (0 < x3_1) = true := decide_eq_true c4
    clear c4
    obtain ⟨ji5, hji5⟩ : ∃ j_ : Int, (wrap64 (x3_1 - 1)) = j_ := ⟨_, rfl⟩
    replace H : (if 0 ≤ (ji5) then (if (ji5) < (l0.length : Int) then (if (rd l0 (ji5)) = 0 then (r1_trim.l0 k1 l0 ji5) else (if 0 ≤ x3_1 then (if x3_1 ≤ (l0.length : Int) then (some (l0.take (x3_1 : Int).toNat)) else (none)) else (none))) else (none)) else (none)) = some r := by first | (rw [hji5] at H; exact H) | (simp only [hji5] at H ⊢; exact H)
    have hji5w : (IntKind.i64.wrap (x3_1 - 1)) = ji5 := (i64_w _).trans hji5
    by_cases c6 : 0 ≤ (ji5)
    ·rw [if_pos c6] at H
     have c6b0 : decide (0 ≤ (ji5)) = true := decide_eq_true c6
     clear c6
     by_cases c7 : (ji5) < (l0.length : Int)
     ·rw [if_pos c7] at H
      have c7b0 : decide ((ji5) < (l0.length : Int)) = true := decide_eq_true c7
      clear c7
      by_cases c8 : (rd l0 (ji5)) = 0
      ·rw [if_pos c8] at H
       have c8b0 : ((rd l0 (ji5)) == 0) = true := beq_iff_eq.mpr c8
       have c8b1 : ((rd l0 (ji5)) != 0) = false := bne_eq_false_iff_eq.mpr c8
       clear c8
       have H' := A_ H
       clear H
       have p268 : 0 ≤ ((ji5) : Int) := of_decide_eq_true (by first | (with_reducible assumption) | assumption)
       have q268 : (ji5) < (l0.length : Int) := of_decide_eq_true (by first | (with_reducible assumption) | assumption)
       obtain ⟨ad268, e268, hx268_0⟩ := Kd.at_int (Kd.R_reads' HO_0.out).2.2 (ji5) p268 q268
       cases e268
       replace p268 := eq_true p268
       replace q268 := eq_true q268
       go_wp2
       go_roundg k1
       case measure => have := HK1.out; omega
       case rel => exact ⟨(ji5), (by first | rfl | (simp; done) | (simp only [← hji5] <;> (first | rfl | simp)) | (simp [*]; done)), H', ⟨by have := HK1.out; omega⟩, ⟨by (with_reducible repeat (first | apply Kd.R_alloc | apply Kd.R_drewN | apply Kd.R_drew)); exact HO_0.out⟩, ⟨bk_ BK267.out⟩, ⟨by repeat (first | (with_reducible first | exact HK.out | apply Kept.alloc | apply Kept.drewN | apply Kept.drew | refine Kept.setCell ?_ (.inr GW267.out) _) | exact HK.out)⟩, ⟨hb1_ HB.out GE267.out⟩⟩
      ·rw [if_neg c8] at H
       have c8b0 : ((rd l0 (ji5)) == 0) = false := beq_eq_false_iff_ne.mpr c8
       have c8b1 : ((rd l0 (ji5)) != 0) = true := bne_iff_ne.mpr c8
       by_cases c9 : 0 ≤ x3_1
       ·rw [if_pos c9] at H
        have c9b0 := eq_true c9
        have c9b1 : decide (0 ≤ x3_1) = true := decide_eq_true c9
        clear c9
        by_cases c10 : x3_1 ≤ (l0.length : Int)
        ·rw [if_pos c10] at H
         have c10b0 := eq_true c10
         have c10b1 : decide (x3_1 ≤ (l0.length : Int)) = true := decide_eq_true c10
         clear c10
         obtain ⟨y269, hy269⟩ : ∃ y_ : List Int, y_ = (l0.take (x3_1 : Int).toNat) := ⟨_, rfl⟩
         replace H : (some y269) = some r := by first | (rw [hy269]; with_reducible exact H) | (have H2_ := (Option.bind_some _ _).symm.trans H; rw [hy269]; with_reducible exact H2_) | (have H2_ := (Option.bind_some _ _).symm.trans H; with_reducible exact H2_) | with_reducible exact H | (rw [hy269]; exact H) | exact H
         have Ny269 := A_ hy269;clear hy269
         obtain rfl := Option.some.inj H
         have p268 : 0 ≤ ((ji5) : Int) := of_decide_eq_true (by first | (with_reducible assumption) | assumption)
         have q268 : (ji5) < (l0.length : Int) := of_decide_eq_true (by first | (with_reducible assumption) | assumption)
         obtain ⟨ad268, e268, hx268_0⟩ := Kd.at_int (Kd.R_reads' HO_0.out).2.2 (ji5) p268 q268
         cases e268
         replace p268 := eq_true p268
         replace q268 := eq_true q268
         have q11 : (x3_1 : Int) ≤ ((l0.length : Int) : Int) := of_decide_eq_true (by first | (with_reducible assumption) | assumption)
         obtain ⟨i011, hi011, _, hsz11, _⟩ := info_parts info22
         have hcut11 := cut_to (P := Try.prog) 51 22 .i64 Try.underlying51 hi011 (some ad268) l0.length co3 x3_1 (of_decide_eq_true (by first | (with_reducible assumption) | assumption)) q11 (Kd.R_reads' HO_0.out).2.1
         have hr11 := Kd.R_take (m := (x3_1 : Int).toNat) HO_0.out (by omega)
         have hy11 : y269.length = (x3_1 : Int).toNat := (by rw [Ny269.out, List.length_take]; omega)
         rw [← Ny269.out] at hr11
         rw [← hy11] at hr11 hcut11
         clear hy11 hi011 hsz11 HO_0;have HO271 := A_ hr11;clear hr11
         replace q11 := eq_true q11
         have hcz12_0 := bv_ BK267.out 0
         have hfz12_0 := blk_frozen BK267.out 0
         go_wp2
         refine bodyPost_ret (results_cell_row rfl _ _ gb267 53 #[.slice (some ad268) y269.length co3] (0, 0) _ rfl (by (with_reducible repeat (first | refine blk_drewN ?_ _ | refine blk_drew ?_ | refine blk_alloc ?_ _)); refine blk_put (cs := #[.slice none 0 0]) ?_ 0 _ rfl; (with_reducible repeat (first | refine blk_drewN ?_ _ | refine blk_drew ?_ | refine blk_alloc ?_ _)); exact BK267.out) Try.underlying53 rfl (by kernel_rfl)) rfl ?_
         exact ⟨_, by first | rfl | (simp [errW_none, errW_some] <;> rfl) | (simp only [← hji5]; first | rfl | (simp [errW_none, errW_some] <;> rfl)) | (simp [*, errW_none, errW_some] <;> rfl), by (with_reducible repeat (first | apply Kd.R_alloc | apply Kd.R_drewN | apply Kd.R_drew)); exact Kd.R_mono (Kd.R_far (p := ⟨gb267, 0, none⟩) (Kd.R_types HO271.out BK267.out (by decide)) (fun _ hk => hk.2) (.slice (some ad268) y269.length co3)) (fun _ hk => hk.1), by repeat (first | (with_reducible first | exact HB.out | apply below_alloc | apply pw_below_drewN | apply below_drew1 | refine below_set ?_ GE267.out) | exact HB.out), by repeat (first | (with_reducible first | exact HK.out | apply Kept.alloc | apply Kept.drewN | apply Kept.drew | refine Kept.setCell ?_ (.inr GW267.out) _) | exact HK.out)⟩
        ·rw [if_neg c10] at H
         exact absurd H (by simp)
       ·rw [if_neg c9] at H
        exact absurd H (by simp)
     ·rw [if_neg c7] at H
      exact absurd H (by simp)
    ·rw [if_neg c6] at H
     exact absurd H (by simp)
   ·rw [if_neg c4] at H
    have c4b0 : decide (0 < x3_1) = false := decide_eq_false c4
    clear c4
    by_cases c13 : 0 ≤ x3_1
    ·rw [if_pos c13] at H
     have c13b0 := eq_true c13
     have c13b1 : decide (0 ≤ x3_1) = true := decide_eq_true c13
     clear c13
     by_cases c14 : x3_1 ≤ (l0.length : Int)
     ·rw [if_pos c14] at H
      have c14b0 := eq_true c14
      have c14b1 : decide (x3_1 ≤ (l0.length : Int)) = true := decide_eq_true c14
      clear c14
      obtain ⟨y272, hy272⟩ : ∃ y_ : List Int, y_ = (l0.take (x3_1 : Int).toNat) := ⟨_, rfl⟩
      replace H : (some y272) = some r := by first | (rw [hy272]; with_reducible exact H) | (have H2_ := (Option.bind_some _ _).symm.trans H; rw [hy272]; with_reducible exact H2_) | (have H2_ := (Option.bind_some _ _).symm.trans H; with_reducible exact H2_) | with_reducible exact H | (rw [hy272]; exact H) | exact H
      have Ny272 := A_ hy272;clear hy272
      obtain rfl := Option.some.inj H
      have q15 : (x3_1 : Int) ≤ ((l0.length : Int) : Int) := of_decide_eq_true (by first | (with_reducible assumption) | assumption)
      obtain ⟨i015, hi015, _, hsz15, _⟩ := info_parts info22
      have hcut15 := cut_to (P := Try.prog) 51 22 .i64 Try.underlying51 hi015 Ao3 l0.length co3 x3_1 (of_decide_eq_true (by first | (with_reducible assumption) | assumption)) q15 (Kd.R_reads' HO_0.out).2.1
      have hr15 := Kd.R_take (m := (x3_1 : Int).toNat) HO_0.out (by omega)
      have hy15 : y272.length = (x3_1 : Int).toNat := (by rw [Ny272.out, List.length_take]; omega)
      rw [← Ny272.out] at hr15
      rw [← hy15] at hr15 hcut15
      clear hy15 hi015 hsz15 HO_0;have HO274 := A_ hr15;clear hr15
      replace q15 := eq_true q15
      have hcz16_0 := bv_ BK267.out 0
      have hfz16_0 := blk_frozen BK267.out 0
      go_wp2
      refine bodyPost_ret (results_cell_row rfl _ _ gb267 53 #[.slice Ao3 y272.length co3] (0, 0) _ rfl (by (with_reducible repeat (first | refine blk_drewN ?_ _ | refine blk_drew ?_ | refine blk_alloc ?_ _)); refine blk_put (cs := #[.slice none 0 0]) ?_ 0 _ rfl; (with_reducible repeat (first | refine blk_drewN ?_ _ | refine blk_drew ?_ | refine blk_alloc ?_ _)); exact BK267.out) Try.underlying53 rfl (by kernel_rfl)) rfl ?_
      exact ⟨_, by first | rfl | (simp [errW_none, errW_some] <;> rfl) | (simp [*, errW_none, errW_some] <;> rfl), by (with_reducible repeat (first | apply Kd.R_alloc | apply Kd.R_drewN | apply Kd.R_drew)); exact Kd.R_mono (Kd.R_far (p := ⟨gb267, 0, none⟩) (Kd.R_types HO274.out BK267.out (by decide)) (fun _ hk => hk.2) (.slice Ao3 y272.length co3)) (fun _ hk => hk.1), by repeat (first | (with_reducible first | exact HB.out | apply below_alloc | apply pw_below_drewN | apply below_drew1 | refine below_set ?_ GE267.out) | exact HB.out), by repeat (first | (with_reducible first | exact HK.out | apply Kept.alloc | apply Kept.drewN | apply Kept.drew | refine Kept.setCell ?_ (.inr GW267.out) _) | exact HK.out)⟩
     ·rw [if_neg c14] at H
      exact absurd H (by simp)
    ·rw [if_neg c13] at H
     exact absurd H (by simp)
def r1_Of.f (k : Nat) (a0 : Int) : Option (List Int) := (r1_trim.f k (([Int.tmod a0 4294967296, IntKind.u64.wrap (Int.tdiv a0 4294967296)] : List Int))).bind fun t294 => (some t294)
theorem r1_Of.mono : ∀ a0 k, LeO (r1_Of.f k a0) (r1_Of.f (k + 1) a0) := by
 intro a0 k
 unfold r1_Of.f
 repeat' first
   | (with_reducible exact r1_trim.mono _ _)
   | (with_reducible exact LeO.refl _)
   | (with_reducible exact LeO.none _)
   | (with_reducible refine LeO.ite ?_ ?_)
   | (with_reducible refine LeO.bind ?_ (fun _ => ?_))
   | exact r1_trim.mono _ _
   | exact LeO.none _
   | refine LeO.ite ?_ ?_
   | refine LeO.bind ?_ (fun _ => ?_)
theorem r1_Of.calls (k : Nat) (a0 : Int) (r : List Int) (w : World) (h : r1_Of.f k a0 = some r) :
  Calls Try.prog 33 #[.int .u64 a0] w fun e w' => ∃ v0_ : Value, e = .returned (.agg #[v0_]) ∧ Kd.R (Kd.int .u64) 22 w' w.heap.size (fun _ => True) v0_ r ∧ Below w.heap.size w w' := by
 have hu53 := Try.underlying53
 have HB := A_ (Below.refl w.heap.size w)
 have H : ((r1_trim.f k (([Int.tmod a0 4294967296, IntKind.u64.wrap (Int.tdiv a0 4294967296)] : List Int))).bind fun t294 => (some t294)) = some r := h
 clear h
 obtain ⟨y291, hy291⟩ : ∃ y_ : List Int, y_ = (([Int.tmod a0 4294967296, IntKind.u64.wrap (Int.tdiv a0 4294967296)] : List Int)) := ⟨_, rfl⟩
 replace H : ((r1_trim.f k y291).bind fun t294 => (some t294)) = some r := by first | (rw [hy291]; with_reducible exact H) | (have H2_ := (Option.bind_some _ _).symm.trans H; rw [hy291]; with_reducible exact H2_) | (have H2_ := (Option.bind_some _ _).symm.trans H; with_reducible exact H2_) | with_reducible exact H | (rw [hy291]; exact H) | exact H
 have Ny291 := A_ hy291;clear hy291
 replace H := ob_ H
 obtain ⟨t294, A20, H⟩ := H
 replace H : (some t294) = some r := H
 have A2 := A_ A20;clear A20
 obtain rfl := Option.some.inj H
 go_enter Try.func33, Try.ntmps33
 go_wp2_with (first | ((with_reducible refine gate_dst (N := 2) rfl ?_); refine be_ 2 #[.slice none 0 0] 53 ?_; intro gb290 hg w3 hbox hb; have BK290 := A_ (hbox); have GW290 := A_ (sz_ hg (hb_ HB.out)); have GE290 := A_ (sz_ hg (hb_ HB.out)); replace HB := A_ (below_step (hb_ HB.out) hb); clear hb hbox hg) | ((with_reducible refine gate_dst (N := 7) rfl ?_); refine Kd.R_lit (Kd.int .u64) _ 22 ?hg (N := 7) ?hd (xs := ([Int.tmod a0 4294967296, IntKind.u64.wrap (Int.tdiv a0 4294967296)] : List Int)) (inner := [.int .u64 (Int.tmod a0 4294967296), .int .u64 (IntKind.u64.wrap (Int.tdiv a0 4294967296))]) (ok := fun _ => True) (okp := fun _ => True) ?hr ?hp (fun _ hk => hk) trivial (Below.refl _ _) (Nat.le_refl _) (by simp) ?_; (case hd => rfl); (case hg => rfl); (case hr => first | (go_simp; done) | (go_simp; rfl)); (case hp => exact (Reps.one (show Kd.M (Kd.int .u64) _ _ _ (Int.tmod a0 4294967296) [.int .u64 (Int.tmod a0 4294967296)] from rfl) (Reps.one (show Kd.M (Kd.int .u64) _ _ _ (IntKind.u64.wrap (Int.tdiv a0 4294967296)) [.int .u64 (IntKind.u64.wrap (Int.tdiv a0 4294967296))] from rfl) (Reps.none _ _)))); intro v292 w4 ho5 hb hg_ hnew_; clear hg_ hnew_; (first | rw [← Ny291.out] at ho5 | (simp only [Int.reduceToNat] at ho5; rw [← Ny291.out] at ho5)); have HO293 := A_ (Kd.R_lower ho5 (below_size (hb1_ HB.out GE290.out))); replace BK290 := A_ (bb_ BK290.out hb); replace HB := A_ (below_step (hb1_ HB.out GE290.out) hb); clear hb ho5; obtain ⟨Ao6, co6, eo6⟩ := Kd.R_slice HO293.out; subst eo6) | ((with_reducible refine gate_callee (f := 71) rfl ?_); refine gl_ (some 8) Try.func71 #[.slice Ao6 y291.length co6] ?_; (with_reducible refine (r1_trim.calls k (fun k_ => some k_ = (.slice Ao6 y291.length co6 : Value).ownBlock) (.slice Ao6 y291.length co6) y291 t294 w _ ?side1 ?side2 A2.out).mono ?_); (case side1 => exact hb1_ HB.out GE290.out); (case side2 => exact Kd.R_tight rfl HO293.out); rintro e w7 ⟨v295, rfl, ho0, hb, hkp⟩; refine ⟨_, rfl, ?_⟩; have n0_ := A_ (blk_kept (bk_ BK290.out) hkp (fun hs_ => (fun e_ => (Kd.R_ne HO293.out BK290.out (by decide)) e_) hs_)); have n1_ := A_ (Kd.R_mono (ok' := fun k_ => True) ho0 (fun k_ hk_ => trivial)); have n2_ := A_ (hb); clear BK290; clear HB; clear HO293; have BK290 := n0_; have HO296 := n1_; have HB := n2_; clear n0_ n1_ n2_; (try clear hb); (try clear hkp); (try clear ho0); obtain ⟨Ao8, co8, eo8⟩ := Kd.R_slice HO296.out; subst eo8; have hcz9_0 := bv_ BK290.out 0; have hfz9_0 := blk_frozen BK290.out 0))
 refine bodyPost_ret (results_cell_row rfl _ _ gb290 53 #[.slice Ao8 t294.length co8] (0, 0) _ rfl (by (with_reducible repeat (first | refine blk_drewN ?_ _ | refine blk_drew ?_ | refine blk_alloc ?_ _)); refine blk_put (cs := #[.slice none 0 0]) ?_ 0 _ rfl; (with_reducible repeat (first | refine blk_drewN ?_ _ | refine blk_drew ?_ | refine blk_alloc ?_ _)); exact BK290.out) Try.underlying53 rfl (by kernel_rfl)) rfl ?_
 exact ⟨_, by first | rfl | (simp [errW_none, errW_some] <;> rfl) | (simp [*, errW_none, errW_some] <;> rfl), by (with_reducible repeat (first | apply Kd.R_alloc | apply Kd.R_drewN | apply Kd.R_drew)); exact Kd.R_mono (Kd.R_far (p := ⟨gb290, 0, none⟩) (Kd.R_types HO296.out BK290.out (by decide)) (fun _ hk => hk.2) (.slice Ao8 t294.length co8)) (fun _ hk => trivial), hb1_ HB.out GE290.out⟩
mutual
def r1_Shl.l0 : Nat → Int → List Int → Int → List Int → Option (List Int)
 | 0, _, _, _, _ => none
 | k + 1, x1, x5, x6, x276000 => if x6 < (wrap64 (Int.tdiv x1 32)) then (if x5.length < 17592186044416 then (r1_Shl.l0 k x1 (x5 ++ [0]) (wrap64 (x6 + 1)) x276000) else (none)) else (r1_Shl.l1 k x1 x5 1 0 x276000)
def r1_Shl.l1 : Nat → Int → List Int → Int → Int → List Int → Option (List Int)
 | 0, _, _, _, _, _ => none
 | k + 1, x1, x5, x7, x8, x276000 => if x8 < (Int.tmod x1 32) then (r1_Shl.l1 k x1 x5 (IntKind.u64.wrap (2 * x7)) (wrap64 (x8 + 1)) x276000) else (r1_Shl.l2 k x5 x7 0 0 x276000)
def r1_Shl.l2 : Nat → List Int → Int → Int → Int → List Int → Option (List Int)
 | 0, _, _, _, _, _ => none
 | k + 1, x5, x7, x9, x10, x276000 => if x10 < (x276000.length : Int) then (if 0 ≤ x10 then (if x5.length < 17592186044416 then (r1_Shl.l2 k (x5 ++ [Int.tmod (IntKind.u64.wrap ((IntKind.u64.wrap ((rd x276000 x10) * x7)) + x9)) 4294967296]) x7 (IntKind.u64.wrap (Int.tdiv (IntKind.u64.wrap ((IntKind.u64.wrap ((rd x276000 x10) * x7)) + x9)) 4294967296)) (wrap64 (x10 + 1)) x276000) else (none)) else (none)) else (if x5.length < 17592186044416 then ((r1_trim.f k (x5 ++ [x9])).bind fun t287 => (some t287)) else (none))
end
def r1_Shl.f (k : Nat) (l0_0 : List Int) (a1 : Int) : Option (List Int) := r1_Shl.l0 k a1 ([] : List Int) 0 l0_0
theorem r1_Shl.mono_l : ∀ k, (∀ y0 y1 y2 y3, LeO (r1_Shl.l0 k y0 y1 y2 y3) (r1_Shl.l0 (k + 1) y0 y1 y2 y3)) ∧ (∀ y0 y1 y2 y3 y4, LeO (r1_Shl.l1 k y0 y1 y2 y3 y4) (r1_Shl.l1 (k + 1) y0 y1 y2 y3 y4)) ∧ (∀ y0 y1 y2 y3 y4, LeO (r1_Shl.l2 k y0 y1 y2 y3 y4) (r1_Shl.l2 (k + 1) y0 y1 y2 y3 y4))
 | 0 => ⟨fun _ _ _ _ r h => by simp [r1_Shl.l0] at h, fun _ _ _ _ _ r h => by simp [r1_Shl.l1] at h, fun _ _ _ _ _ r h => by simp [r1_Shl.l2] at h⟩
 | k + 1 => by
  obtain ⟨ih0, ih1, ih2⟩ := r1_Shl.mono_l k
  refine ⟨?_, ?_, ?_⟩
  ·intro y0 y1 y2 y3
   unfold r1_Shl.l0
   repeat' first
   | (with_reducible exact ih0 _ _ _ _)
   | (with_reducible exact ih1 _ _ _ _ _)
   | (with_reducible exact ih2 _ _ _ _ _)
   | (with_reducible exact r1_trim.mono _ _)
   | (with_reducible exact LeO.refl _)
   | (with_reducible exact LeO.none _)
   | (with_reducible refine LeO.ite ?_ ?_)
   | (with_reducible refine LeO.bind ?_ (fun _ => ?_))
   | exact ih0 _ _ _ _
   | exact ih1 _ _ _ _ _
   | exact ih2 _ _ _ _ _
   | exact r1_trim.mono _ _
   | exact LeO.none _
   | refine LeO.ite ?_ ?_
   | refine LeO.bind ?_ (fun _ => ?_)
  ·intro y0 y1 y2 y3 y4
   unfold r1_Shl.l1
   repeat' first
   | (with_reducible exact ih0 _ _ _ _)
   | (with_reducible exact ih1 _ _ _ _ _)
   | (with_reducible exact ih2 _ _ _ _ _)
   | (with_reducible exact r1_trim.mono _ _)
   | (with_reducible exact LeO.refl _)
   | (with_reducible exact LeO.none _)
   | (with_reducible refine LeO.ite ?_ ?_)
   | (with_reducible refine LeO.bind ?_ (fun _ => ?_))
   | exact ih0 _ _ _ _
   | exact ih1 _ _ _ _ _
   | exact ih2 _ _ _ _ _
   | exact r1_trim.mono _ _
   | exact LeO.none _
   | refine LeO.ite ?_ ?_
   | refine LeO.bind ?_ (fun _ => ?_)
  ·intro y0 y1 y2 y3 y4
   unfold r1_Shl.l2
   repeat' first
   | (with_reducible exact ih0 _ _ _ _)
   | (with_reducible exact ih1 _ _ _ _ _)
   | (with_reducible exact ih2 _ _ _ _ _)
   | (with_reducible exact r1_trim.mono _ _)
   | (with_reducible exact LeO.refl _)
   | (with_reducible exact LeO.none _)
   | (with_reducible refine LeO.ite ?_ ?_)
   | (with_reducible refine LeO.bind ?_ (fun _ => ?_))
   | exact ih0 _ _ _ _
   | exact ih1 _ _ _ _ _
   | exact ih2 _ _ _ _ _
   | exact r1_trim.mono _ _
   | exact LeO.none _
   | refine LeO.ite ?_ ?_
   | refine LeO.bind ?_ (fun _ => ?_)
theorem r1_Shl.mono : ∀ a0 a1 k, LeO (r1_Shl.f k a0 a1) (r1_Shl.f (k + 1) a0 a1) := by
 intro a0 a1 k
 obtain ⟨ih0, ih1, ih2⟩ := r1_Shl.mono_l k
 unfold r1_Shl.f
 repeat' first
   | (with_reducible exact ih0 _ _ _ _)
   | (with_reducible exact ih1 _ _ _ _ _)
   | (with_reducible exact ih2 _ _ _ _ _)
   | (with_reducible exact r1_trim.mono _ _)
   | (with_reducible exact LeO.refl _)
   | (with_reducible exact LeO.none _)
   | (with_reducible refine LeO.ite ?_ ?_)
   | (with_reducible refine LeO.bind ?_ (fun _ => ?_))
   | exact ih0 _ _ _ _
   | exact ih1 _ _ _ _ _
   | exact ih2 _ _ _ _ _
   | exact r1_trim.mono _ _
   | exact LeO.none _
   | refine LeO.ite ?_ ?_
   | refine LeO.bind ?_ (fun _ => ?_)
theorem r1_Shl.calls (k : Nat) (A0_0 : Option Addr) (c0_0 : Nat) (l0_0 : List Int) (a1 : Int) (r : List Int) (w : World) (hr0_0 : Kd.C (Kd.int .u64) w A0_0 l0_0.length l0_0) (hc0_0 : l0_0.length ≤ c0_0) (h : r1_Shl.f k l0_0 a1 = some r) :
  Calls Try.prog 32 #[.agg #[.slice A0_0 l0_0.length c0_0], .int .i64 a1] w fun e w' => ∃ v0_ : Value, e = .returned (.agg #[v0_]) ∧ Kd.R (Kd.int .u64) 22 w' w.heap.size (fun _ => True) v0_ r ∧ Below w.heap.size w w' := by
 have hu53 := Try.underlying53
 have HR0_0 := A_ hr0_0;have HC0_0 := A_ hc0_0;clear hr0_0 hc0_0
 have HB := A_ (Below.refl w.heap.size w)
 have H : (r1_Shl.l0 k a1 ([] : List Int) 0 l0_0) = some r := h
 clear h
 have H' := A_ H
 clear H
 go_enter Try.func32, Try.ntmps32
 go_wp2_with (first | ((with_reducible refine gate_dst (N := 2) rfl ?_); refine be_ 2 #[.slice A0_0 l0_0.length c0_0] 53 ?_; intro gb275 hg w3 hbox hb; have BK275 := A_ (hbox); have GW275 := A_ (sz_ hg (hb_ HB.out)); have GE275 := A_ (sz_ hg (hb_ HB.out)); replace HB := A_ (below_step (hb_ HB.out) hb); clear hb hbox hg) | ((with_reducible refine gate_dst (N := 4) rfl ?_); refine be_ 4 #[.slice none 0 0] 53 ?_; intro gb276 hg w4 hbox hb; have BK276 := A_ (hbox); have GW276 := A_ (sz_ hg (hb1_ HB.out GE275.out)); have GE276 := A_ (sz_ hg (hb1_ HB.out GE275.out)); have NB275_276 := A_ (nl_ hg BK275.out); have NB276_275 := A_ (ng_ hg BK275.out); replace BK275 := A_ (bb_ BK275.out hb); replace HB := A_ (below_step (hb1_ HB.out GE275.out) hb); clear hb hbox hg))
 go_loopg [5, 6] k (fun kq v5 v6 w' => ∃ (x5_1 : List Int) (x6_1 : Int), v6 = .int .i64 x6_1 ∧ Aside0 (r1_Shl.l0 kq a1 x5_1 x6_1 l0_0 = some r) ∧ Aside0 (kq ≤ k) ∧ Aside0 (Kd.R (Kd.int .u64) 22 w' w.heap.size (fun _ => True) v5 x5_1) ∧ Aside0 (w'.heap[gb275]? = some (.cells #[(.slice A0_0 l0_0.length c0_0)] 53 (0, 0))) ∧ Aside0 (w'.heap[gb276]? = some (.cells #[(.slice none 0 0)] 53 (0, 0))) ∧ Aside0 (Below w.heap.size w w'))
 case atStart => exact ⟨(([] : List Int)), (0), sm_, H', ⟨Nat.le_refl _⟩, ⟨by first | exact Kd.R_nil _ _ _ _ _ | exact Kd.N_nil _ _ _ _ _ | exact Kd.V_nil _ _ _ _ _ | exact Kd.Q_nil _ _ _ _ _ | exact Kd.S_nil _ _ _ _ _⟩, ⟨bk_ BK275.out⟩, ⟨bk_ BK276.out⟩, ⟨hb2_ HB.out GE275.out GE276.out⟩⟩
 case round =>
  clear H'
  try clear p2
  try clear c3
  obtain ⟨x5_1, x6_1, rfl, HA, HK1, HO_5, BK275, BK276, HB⟩ := hrel
  cases gk with
  | zero => exact absurd HA.out (by simp [r1_Shl.l0])
  | succ k1 =>
   have H := HA.out
   clear HA
   simp only [r1_Shl.l0] at H
   by_cases c5 : x6_1 < (wrap64 (Int.tdiv a1 32))
   ·rw [if_pos c5] at H
    have c5b0 : decide (x6_1 < (wrap64 (Int.tdiv a1 32))) = true := decide_eq_true c5
    clear c5
    by_cases c6 : x5_1.length < 17592186044416
    ·rw [if_pos c6] at H
     have LMc6 := A_ c6;clear c6
     obtain ⟨y277, hy277⟩ : ∃ y_ : List Int, y_ = (x5_1 ++ [0]) := ⟨_, rfl⟩
     replace H : (r1_Shl.l0 k1 a1 y277 (wrap64 (x6_1 + 1)) l0_0) = some r := by first | (rw [hy277]; with_reducible exact H) | (have H2_ := (Option.bind_some _ _).symm.trans H; rw [hy277]; with_reducible exact H2_) | (have H2_ := (Option.bind_some _ _).symm.trans H; with_reducible exact H2_) | with_reducible exact H | (rw [hy277]; exact H) | exact H
     have Ny277 := A_ hy277;clear hy277
     have H' := A_ H
     clear H
     go_wp2_with (first | ((with_reducible refine gate_builtin (b := .append) (xs := #[.tmp 18, .tmp 19]) rfl ?_); at_builtin; refine Kd.R_append (Kd.int .u64) (w0 := w) w.heap.size rfl (.tmp 18) (.tmp 19) 51 22 (.int .u64 0) 8 rfl Try.underlying51 info22 rfl (by decide) (by omega) u5 x5_1 0 [.int .u64 0] (fun _ => True) (fun _ => False) rfl rfl ?aP (fun _ hk => hk.elim) ?aF ?aO ?aB ?aS ?aL ?_; (case aP => exact rfl); (case aB => exact (hb2_ HB.out GE275.out GE276.out)); (case aF => exact (fun _ _ => trivial)); (case aO => exact (kr_ HO_5.out)); (case aS => exact (below_size (hb2_ HB.out GE275.out GE276.out))); (case aL => have := LMc6.out; omega); intro v278 w7 ho hb hg hat; rw [← Ny277.out] at ho; have n0_ := A_ (blk_grown (g := gb275) (o := .cells #[.slice A0_0 l0_0.length c0_0] 53 (0, 0)) (bk_ BK275.out) hg (Kd.R_ne HO_5.out BK275.out (by decide))); have n1_ := A_ (blk_grown (g := gb276) (o := .cells #[.slice none 0 0] 53 (0, 0)) (bk_ BK276.out) hg (Kd.R_ne HO_5.out BK276.out (by decide))); have n2_ := A_ (hb); have n3_ := A_ (ho); clear BK275; clear BK276; clear HB; clear HO_5; have BK275 := n0_; have BK276 := n1_; have HB := n2_; have HO279 := n3_; clear n0_ n1_ n2_ n3_; clear ho hb hg hat))
     go_roundg k1
     case measure => have := HK1.out; omega
     case rel => exact ⟨(y277), (wrap64 (x6_1 + 1)), sm_, H', ⟨by have := HK1.out; omega⟩, ⟨by (with_reducible repeat (first | apply Kd.R_alloc | apply Kd.R_drewN | apply Kd.R_drew)); exact HO279.out⟩, ⟨bk_ BK275.out⟩, ⟨bk_ BK276.out⟩, ⟨hb2_ HB.out GE275.out GE276.out⟩⟩
    ·rw [if_neg c6] at H
     exact absurd H (by simp)
   ·rw [if_neg c5] at H
    have c5b0 : decide (x6_1 < (wrap64 (Int.tdiv a1 32))) = false := decide_eq_false c5
    clear c5
    have H' := A_ H
    clear H
    go_wp2
    go_loopg [7, 8] k1 (fun kq v7 v8 w' => ∃ (x7_2 : Int) (x8_2 : Int), v7 = .int .u64 x7_2 ∧ v8 = .int .i64 x8_2 ∧ Aside0 (r1_Shl.l1 kq a1 x5_1 x7_2 x8_2 l0_0 = some r) ∧ Aside0 (kq ≤ k1) ∧ Aside0 (Kd.R (Kd.int .u64) 22 w' w.heap.size (fun _ => True) u5 x5_1) ∧ Aside0 (w'.heap[gb275]? = some (.cells #[(.slice A0_0 l0_0.length c0_0)] 53 (0, 0))) ∧ Aside0 (w'.heap[gb276]? = some (.cells #[(.slice none 0 0)] 53 (0, 0))) ∧ Aside0 (Below w.heap.size w w'))
    case atStart => exact ⟨(1), (0), sm_, sm_, H', ⟨Nat.le_refl _⟩, ⟨by (with_reducible repeat (first | apply Kd.R_alloc | apply Kd.R_drewN | apply Kd.R_drew)); exact HO_5.out⟩, ⟨bk_ BK275.out⟩, ⟨bk_ BK276.out⟩, ⟨hb2_ HB.out GE275.out GE276.out⟩⟩
    case round =>
     clear H'
     try clear p2
     try clear c3
     try clear c5
     try clear c5b0
     try clear c6
     try clear p6
     try clear p2
     obtain ⟨x7_2, x8_2, rfl, rfl, HA, HK2, HO_5, BK275, BK276, HB⟩ := hrel
     cases gk with
     | zero => exact absurd HA.out (by simp [r1_Shl.l1])
     | succ k2 =>
      have H := HA.out
      clear HA
      simp only [r1_Shl.l1] at H
      by_cases c8 : x8_2 < (Int.tmod a1 32)
      ·rw [if_pos c8] at H
       have c8b0 : decide (x8_2 < (Int.tmod a1 32)) = true := decide_eq_true c8
       clear c8
       have H' := A_ H
       clear H
       go_wp2
       go_roundg k2
       case measure => have := HK1.out; have := HK2.out; omega
       case rel => exact ⟨(IntKind.u64.wrap (2 * x7_2)), (wrap64 (x8_2 + 1)), sm_, sm_, H', ⟨by have := HK1.out; have := HK2.out; omega⟩, ⟨by (with_reducible repeat (first | apply Kd.R_alloc | apply Kd.R_drewN | apply Kd.R_drew)); exact HO_5.out⟩, ⟨bk_ BK275.out⟩, ⟨bk_ BK276.out⟩, ⟨hb2_ HB.out GE275.out GE276.out⟩⟩
      ·rw [if_neg c8] at H
       have c8b0 : decide (x8_2 < (Int.tmod a1 32)) = false := decide_eq_false c8
       clear c8
       have H' := A_ H
       clear H
       go_wp2
       go_loopg [5, 9, 10] k2 (fun kq v5 v9 v10 w' => ∃ (x5_3 : List Int) (x9_3 : Int) (x10_3 : Int), v9 = .int .u64 x9_3 ∧ v10 = .int .i64 x10_3 ∧ Aside0 (r1_Shl.l2 kq x5_3 x7_2 x9_3 x10_3 l0_0 = some r) ∧ Aside0 (kq ≤ k2) ∧ Aside0 (Kd.R (Kd.int .u64) 22 w' w.heap.size (fun _ => True) v5 x5_3) ∧ Aside0 (w'.heap[gb275]? = some (.cells #[(.slice A0_0 l0_0.length c0_0)] 53 (0, 0))) ∧ Aside0 (w'.heap[gb276]? = some (.cells #[(.slice none 0 0)] 53 (0, 0))) ∧ Aside0 (Below w.heap.size w w'))
       case atStart => exact ⟨(x5_1), (0), (0), sm_, sm_, H', ⟨Nat.le_refl _⟩, ⟨by (with_reducible repeat (first | apply Kd.R_alloc | apply Kd.R_drewN | apply Kd.R_drew)); exact HO_5.out⟩, ⟨bk_ BK275.out⟩, ⟨bk_ BK276.out⟩, ⟨hb2_ HB.out GE275.out GE276.out⟩⟩
       case round =>
        clear H'
        try clear p2
        try clear c3
        try clear c5
        try clear c5b0
        try clear c6
        try clear p6
        try clear c8
        try clear c8b0
        try clear p2
        try clear p6
        obtain ⟨x5_3, x9_3, x10_3, rfl, rfl, HA, HK3, HO_5, BK275, BK276, HB⟩ := hrel
        cases gk with
        | zero => exact absurd HA.out (by simp [r1_Shl.l2])
        | succ k3 =>
         have H := HA.out
         clear HA
         simp only [r1_Shl.l2] at H
         by_cases c9 : x10_3 < (l0_0.length : Int)
         ·rw [if_pos c9] at H
          have c9b0 : decide (x10_3 < (l0_0.length : Int)) = true := decide_eq_true c9
          clear c9
          by_cases c10 : 0 ≤ x10_3
          ·rw [if_pos c10] at H
           have c10b0 : decide (0 ≤ x10_3) = true := decide_eq_true c10
           clear c10
           by_cases c11 : x5_3.length < 17592186044416
           ·rw [if_pos c11] at H
            have LMc11 := A_ c11;clear c11
            obtain ⟨y281, hy281⟩ : ∃ y_ : List Int, y_ = (x5_3 ++ [Int.tmod (IntKind.u64.wrap ((IntKind.u64.wrap ((rd l0_0 x10_3) * x7_2)) + x9_3)) 4294967296]) := ⟨_, rfl⟩
            replace H : (r1_Shl.l2 k3 y281 x7_2 (IntKind.u64.wrap (Int.tdiv (IntKind.u64.wrap ((IntKind.u64.wrap ((rd l0_0 x10_3) * x7_2)) + x9_3)) 4294967296)) (wrap64 (x10_3 + 1)) l0_0) = some r := by first | (rw [hy281]; with_reducible exact H) | (have H2_ := (Option.bind_some _ _).symm.trans H; rw [hy281]; with_reducible exact H2_) | (have H2_ := (Option.bind_some _ _).symm.trans H; with_reducible exact H2_) | with_reducible exact H | (rw [hy281]; exact H) | exact H
            have Ny281 := A_ hy281;clear hy281
            have H' := A_ H
            clear H
            have hnb12 := NB275_276.out
            have hnc12 := NB276_275.out
            have hcz13_0 := bv_ BK275.out 0
            have hfz13_0 := blk_frozen BK275.out 0
            have p280 : 0 ≤ (x10_3 : Int) := of_decide_eq_true (by first | (with_reducible assumption) | assumption)
            have q280 : x10_3 < (l0_0.length : Int) := of_decide_eq_true (by first | (with_reducible assumption) | assumption)
            obtain ⟨ad280, e280, hx280_0⟩ := Kd.at_int HR0_0.out x10_3 p280 q280
            cases e280
            replace hx280_0 := (HB.out.cell (World.block_lt_of_cell? w _ hx280_0)).trans hx280_0
            replace p280 := eq_true p280
            replace q280 := eq_true q280
            go_wp2_with (first | ((with_reducible refine gate_builtin (b := .append) (xs := #[.tmp 45, .tmp 48]) rfl ?_); at_builtin; refine Kd.R_append (Kd.int .u64) (w0 := w) w.heap.size rfl (.tmp 45) (.tmp 48) 51 22 (.int .u64 0) 8 rfl Try.underlying51 info22 rfl (by decide) (by omega) u5 x5_3 (Int.tmod (IntKind.u64.wrap ((IntKind.u64.wrap ((rd l0_0 x10_3) * x7_2)) + x9_3)) 4294967296) [.int .u64 (Int.tmod (IntKind.u64.wrap ((IntKind.u64.wrap ((rd l0_0 x10_3) * x7_2)) + x9_3)) 4294967296)] (fun _ => True) (fun _ => False) rfl rfl ?aP (fun _ hk => hk.elim) ?aF ?aO ?aB ?aS ?aL ?_; (case aP => exact rfl); (case aB => exact (hb2_ HB.out GE275.out GE276.out)); (case aF => exact (fun _ _ => trivial)); (case aO => exact (kr_ HO_5.out)); (case aS => exact (below_size (hb2_ HB.out GE275.out GE276.out))); (case aL => have := LMc11.out; omega); intro v282 w14 ho hb hg hat; rw [← Ny281.out] at ho; have n0_ := A_ (blk_grown (g := gb275) (o := .cells #[.slice (some ad280) l0_0.length c0_0] 53 (0, 0)) (bk_ BK275.out) hg (Kd.R_ne HO_5.out BK275.out (by decide))); have n1_ := A_ (blk_grown (g := gb276) (o := .cells #[.slice none 0 0] 53 (0, 0)) (bk_ BK276.out) hg (Kd.R_ne HO_5.out BK276.out (by decide))); have n2_ := A_ (hb); have n3_ := A_ (ho); clear BK275; clear BK276; clear HB; clear HO_5; have BK275 := n0_; have BK276 := n1_; have HB := n2_; have HO283 := n3_; clear n0_ n1_ n2_ n3_; clear ho hb hg hat))
            go_roundg k3
            case measure => have := HK1.out; have := HK2.out; have := HK3.out; omega
            case rel => exact ⟨(y281), (IntKind.u64.wrap (Int.tdiv (IntKind.u64.wrap ((IntKind.u64.wrap ((rd l0_0 x10_3) * x7_2)) + x9_3)) 4294967296)), (wrap64 (x10_3 + 1)), sm_, sm_, H', ⟨by have := HK1.out; have := HK2.out; have := HK3.out; omega⟩, ⟨by (with_reducible repeat (first | apply Kd.R_alloc | apply Kd.R_drewN | apply Kd.R_drew)); exact HO283.out⟩, ⟨bk_ BK275.out⟩, ⟨bk_ BK276.out⟩, ⟨hb2_ HB.out GE275.out GE276.out⟩⟩
           ·rw [if_neg c11] at H
            exact absurd H (by simp)
          ·rw [if_neg c10] at H
           exact absurd H (by simp)
         ·rw [if_neg c9] at H
          have c9b0 : decide (x10_3 < (l0_0.length : Int)) = false := decide_eq_false c9
          clear c9
          by_cases c15 : x5_3.length < 17592186044416
          ·rw [if_pos c15] at H
           have LMc15 := A_ c15;clear c15
           obtain ⟨y284, hy284⟩ : ∃ y_ : List Int, y_ = (x5_3 ++ [x9_3]) := ⟨_, rfl⟩
           replace H : ((r1_trim.f k3 y284).bind fun t287 => (some t287)) = some r := by first | (rw [hy284]; with_reducible exact H) | (have H2_ := (Option.bind_some _ _).symm.trans H; rw [hy284]; with_reducible exact H2_) | (have H2_ := (Option.bind_some _ _).symm.trans H; with_reducible exact H2_) | with_reducible exact H | (rw [hy284]; exact H) | exact H
           have Ny284 := A_ hy284;clear hy284
           replace H := ob_ H
           obtain ⟨t287, A160, H⟩ := H
           replace H : (some t287) = some r := H
           have A16 := A_ A160;clear A160
           obtain rfl := Option.some.inj H
           have hnb17 := NB275_276.out
           have hnc17 := NB276_275.out
           have hcz18_0 := bv_ BK275.out 0
           have hfz18_0 := blk_frozen BK275.out 0
           go_wp2_with (first | ((with_reducible refine gate_builtin (b := .append) (xs := #[.tmp 52, .tmp 54]) rfl ?_); at_builtin; refine Kd.R_append (Kd.int .u64) (w0 := w) w.heap.size rfl (.tmp 52) (.tmp 54) 51 22 (.int .u64 0) 8 rfl Try.underlying51 info22 rfl (by decide) (by omega) u5 x5_3 x9_3 [.int .u64 x9_3] (fun _ => True) (fun _ => False) rfl rfl ?aP (fun _ hk => hk.elim) ?aF ?aO ?aB ?aS ?aL ?_; (case aP => exact rfl); (case aB => exact (hb2_ HB.out GE275.out GE276.out)); (case aF => exact (fun _ _ => trivial)); (case aO => exact (kr_ HO_5.out)); (case aS => exact (below_size (hb2_ HB.out GE275.out GE276.out))); (case aL => have := LMc15.out; omega); intro v285 w19 ho hb hg hat; rw [← Ny284.out] at ho; have n0_ := A_ (blk_grown (g := gb275) (o := .cells #[.slice A0_0 l0_0.length c0_0] 53 (0, 0)) (bk_ BK275.out) hg (Kd.R_ne HO_5.out BK275.out (by decide))); have n1_ := A_ (blk_grown (g := gb276) (o := .cells #[.slice none 0 0] 53 (0, 0)) (bk_ BK276.out) hg (Kd.R_ne HO_5.out BK276.out (by decide))); have n2_ := A_ (hb); have n3_ := A_ (ho); clear BK275; clear BK276; clear HB; clear HO_5; have BK275 := n0_; have BK276 := n1_; have HB := n2_; have HO286 := n3_; clear n0_ n1_ n2_ n3_; clear ho hb hg hat; obtain ⟨Ao20, co20, eo20⟩ := Kd.R_slice HO286.out; subst eo20) | ((with_reducible refine gate_callee (f := 71) rfl ?_); refine gl_ (some 56) Try.func71 #[.slice Ao20 y284.length co20] ?_; (with_reducible refine (r1_trim.calls k3 (fun k_ => some k_ = (.slice Ao20 y284.length co20 : Value).ownBlock) (.slice Ao20 y284.length co20) y284 t287 w _ ?side1 ?side2 A16.out).mono ?_); (case side1 => exact hb2_ HB.out GE275.out GE276.out); (case side2 => exact Kd.R_tight rfl HO286.out); rintro e w21 ⟨v288, rfl, ho0, hb, hkp⟩; refine ⟨_, rfl, ?_⟩; have n0_ := A_ (blk_kept (bk_ BK275.out) hkp (fun hs_ => (fun e_ => (Kd.R_ne HO286.out BK275.out (by decide)) e_) hs_)); have n1_ := A_ (blk_kept (bk_ BK276.out) hkp (fun hs_ => (fun e_ => (Kd.R_ne HO286.out BK276.out (by decide)) e_) hs_)); have n2_ := A_ (Kd.R_mono (ok' := fun k_ => True) ho0 (fun k_ hk_ => trivial)); have n3_ := A_ (hb); clear BK275; clear BK276; clear HB; clear HO286; have BK275 := n0_; have BK276 := n1_; have HO289 := n2_; have HB := n3_; clear n0_ n1_ n2_ n3_; (try clear hb); (try clear hkp); (try clear ho0); obtain ⟨Ao22, co22, eo22⟩ := Kd.R_slice HO289.out; subst eo22; have hcz23_0 := bv_ BK276.out 0; have hfz23_0 := blk_frozen BK276.out 0))
           refine bodyPost_ret (results_cell_row rfl _ _ gb276 53 #[.slice Ao22 t287.length co22] (0, 0) _ rfl (by (with_reducible repeat (first | refine blk_drewN ?_ _ | refine blk_drew ?_ | refine blk_alloc ?_ _)); refine blk_put (cs := #[.slice none 0 0]) ?_ 0 _ rfl; (with_reducible repeat (first | refine blk_drewN ?_ _ | refine blk_drew ?_ | refine blk_alloc ?_ _)); exact BK276.out) Try.underlying53 rfl (by kernel_rfl)) rfl ?_
           exact ⟨_, by first | rfl | (simp [errW_none, errW_some] <;> rfl) | (simp [*, errW_none, errW_some] <;> rfl), by (with_reducible repeat (first | apply Kd.R_alloc | apply Kd.R_drewN | apply Kd.R_drew)); exact Kd.R_mono (Kd.R_far (p := ⟨gb276, 0, none⟩) (Kd.R_types HO289.out BK276.out (by decide)) (fun _ hk => hk.2) (.slice Ao22 t287.length co22)) (fun _ hk => trivial), hb2_ HB.out GE275.out GE276.out⟩
          ·rw [if_neg c15] at H
           exact absurd H (by simp)
end Go.Proofs.Ytjjehbedpgdhgaa.PA
