namespace Bit
theorem and_pow (a k : Nat) : a &&& 2 ^ k = a / 2 ^ k % 2 * 2 ^ k := by
  have hb : a.testBit k = decide (a / 2 ^ k % 2 = 1) := Nat.testBit_eq_decide_div_mod_eq
  apply Nat.eq_of_testBit_eq
  intro i
  rw [Nat.testBit_and, Nat.testBit_two_pow]
  rcases Nat.mod_two_eq_zero_or_one (a / 2 ^ k) with h | h
  · rw [h] at hb ⊢
    by_cases hi : k = i
    · subst hi; simp [hb]
    · simp [hi]
  · rw [h] at hb ⊢
    rw [Nat.one_mul, Nat.testBit_two_pow]
    by_cases hi : k = i
    · subst hi; simp [hb]
    · simp [hi]
theorem andnot_pow (a k : Nat) (hk : k < 64) (ha : a < 2 ^ (k + 1)) : a &&& (18446744073709551615 - 2 ^ k) = a % 2 ^ k := by
  have hp : 2 ^ k < 2 ^ 64 := Nat.pow_lt_pow_right (by decide) hk
  have e : 18446744073709551615 - 2 ^ k = 2 ^ 64 - (2 ^ k + 1) := by
    have : (2 : Nat) ^ 64 = 18446744073709551616 := by decide
    omega
  rw [e]
  apply Nat.eq_of_testBit_eq
  intro i
  rw [Nat.testBit_and, Nat.testBit_two_pow_sub_succ hp, Nat.testBit_mod_two_pow, Nat.testBit_two_pow]
  by_cases h : i < k
  · simp [h, show i < 64 by omega, show k ≠ i by omega]
  · by_cases h2 : i = k
    · subst h2; simp
    · have h3 : a.testBit i = false := Nat.testBit_lt_two_pow (Nat.lt_of_lt_of_le ha (Nat.pow_le_pow_right (by decide) (by omega)))
      simp [h, h3]
theorem xor_pow_lt (a k : Nat) (ha : a < 2 ^ k) : a ^^^ 2 ^ k = a + 2 ^ k := by
  apply Nat.eq_of_testBit_eq
  intro i
  rw [Nat.testBit_xor, Nat.testBit_two_pow, Nat.add_comm]
  by_cases h : i < k
  · rw [Nat.testBit_two_pow_add_gt h]; simp [show k ≠ i by omega]
  · have h3 : a.testBit i = false := Nat.testBit_lt_two_pow (Nat.lt_of_lt_of_le ha (Nat.pow_le_pow_right (by decide) (by omega)))
    by_cases h2 : i = k
    · subst h2; rw [Nat.testBit_two_pow_add_eq]; simp [h3]
    · have h4 : 2 ^ k + a < 2 ^ i := by
        have h5 : 2 ^ (k + 1) ≤ 2 ^ i := Nat.pow_le_pow_right (by decide) (by omega)
        rw [Nat.pow_succ] at h5
        omega
      rw [Nat.testBit_lt_two_pow h4, h3]; simp; omega
theorem xor_pow_ge (a k : Nat) (h : 2 ^ k ≤ a) (ha : a < 2 ^ (k + 1)) : a ^^^ 2 ^ k = a - 2 ^ k := by
  have h1 := xor_pow_lt (a - 2 ^ k) k (by rw [Nat.pow_succ] at ha; omega)
  rw [Nat.sub_add_cancel h] at h1
  have h2 := congrArg (· ^^^ 2 ^ k) h1
  simp only [Nat.xor_assoc, Nat.xor_self, Nat.xor_zero] at h2
  exact h2.symm
theorem or_pow (x c k : Nat) (hx : x < 2 ^ k) : x ||| c * 2 ^ k = x + c * 2 ^ k := by
  rw [Nat.mul_comm, Nat.or_comm, ← Nat.two_pow_add_eq_or_of_lt hx, Nat.add_comm]
theorem and_low (a k : Nat) : a &&& (2 ^ k - 1) = a % 2 ^ k := Nat.and_two_pow_sub_one_eq_mod a k
end Bit
