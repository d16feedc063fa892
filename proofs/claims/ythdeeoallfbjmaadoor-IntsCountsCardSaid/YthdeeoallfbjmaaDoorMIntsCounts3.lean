/- What the Go functions that the statement IntsCounts reaches compute, and the mathematics on it, in the order in which one leans on the other; for every input. -/
import Derived.Test.YthdeeoallfbjmaaDoorVIntsCounts0
import Derived.Test.YthdeeoallfbjmaaDoorMIntsCounts2
import Derived.Test.YthdeeoallfbjmaaDoorMIntsCounts0
import Derived.Test.YthdeeoallfbjmaaDoorMIntsCounts1
import Derived.Test.YthdeeoallfbjmaaDoorRows
import Derived.ProofKit
import Derived.JoinedOf
import Derived.KernelRfl
set_option linter.unusedVariables false
namespace Pop
def ds (B : Nat) : Nat → Nat → Nat
  | 0, _ => 0
  | n + 1, x => x % B + ds B n (x / B)
def mk (B : Nat) : Nat → Nat
  | 0 => 0
  | n + 1 => (B - 1) + B * B * mk B n
theorem and_rec (k x m : Nat) : x &&& ((2 ^ k - 1) + 2 ^ k * 2 ^ k * m) = x % 2 ^ k + 2 ^ k * 2 ^ k * (x / (2 ^ k * 2 ^ k) &&& m) := by
  have h1 : 2 ^ k - 1 < 2 ^ (k + k) := by
    have a : 0 < 2 ^ k := Nat.pow_pos (by decide)
    have b : 2 ^ k ≤ 2 ^ (k + k) := Nat.pow_le_pow_right (by decide) (by omega)
    omega
  have h2 : x % 2 ^ k < 2 ^ (k + k) := by
    have a : x % 2 ^ k < 2 ^ k := Nat.mod_lt _ (Nat.pow_pos (by decide))
    have b : 2 ^ k ≤ 2 ^ (k + k) := Nat.pow_le_pow_right (by decide) (by omega)
    omega
  rw [← Nat.pow_add]
  refine Nat.eq_of_testBit_eq fun j => ?_
  rw [Nat.testBit_and, Nat.add_comm (2 ^ k - 1), Nat.add_comm (x % 2 ^ k), Nat.testBit_two_pow_mul_add _ h1, Nat.testBit_two_pow_mul_add _ h2]
  by_cases h : j < k + k
  · rw [if_pos h, if_pos h, Nat.testBit_two_pow_sub_one, Nat.testBit_mod_two_pow, Bool.and_comm]
  · rw [if_neg h, if_neg h, Nat.testBit_and, Nat.testBit_div_two_pow, show j - (k + k) + (k + k) = j by omega]
theorem div2 (B x : Nat) : x / B / B = x / (B * B) := Nat.div_div_eq_div_mul ..
theorem step (k : Nat) (hk : 0 < k) (n : Nat) : ∀ x, ds (2 ^ k * 2 ^ k) n ((x / 2 ^ k &&& mk (2 ^ k) n) + (x &&& mk (2 ^ k) n)) = ds (2 ^ k) (n + n) x := by
  have hB : 2 ≤ 2 ^ k := by
    have : 2 ^ 1 ≤ 2 ^ k := Nat.pow_le_pow_right (by decide) hk
    simpa using this
  induction n with
  | zero => intro x; rfl
  | succ n ih =>
    intro x
    have e1 := and_rec k x (mk (2 ^ k) n)
    have e2 := and_rec k (x / 2 ^ k) (mk (2 ^ k) n)
    have hh := ih (x / (2 ^ k * 2 ^ k))
    generalize hBd : 2 ^ k = B at *
    have e3 : x / B / (B * B) = x / (B * B) / B := by rw [Nat.div_div_eq_div_mul, Nat.div_div_eq_div_mul, Nat.mul_comm]
    rw [e3] at e2
    show (_ + _) % (B * B) + ds (B * B) n ((_ + _) / (B * B)) = _
    rw [show mk B (n + 1) = (B - 1) + B * B * mk B n from rfl, e1, e2]
    have l0 := Nat.mod_lt x (show 0 < B by omega)
    have l1 := Nat.mod_lt (x / B) (show 0 < B by omega)
    have hBB : B * 2 ≤ B * B := Nat.mul_le_mul_left B hB
    generalize (x / (B * B) / B &&& mk B n) = u at *
    generalize (x / (B * B) &&& mk B n) = v at *
    have e4 : x / B % B + B * B * u + (x % B + B * B * v) = B * B * (u + v) + (x / B % B + x % B) := by rw [Nat.mul_add]; omega
    rw [e4, Nat.mul_add_mod, Nat.mul_add_div (by omega), Nat.mod_eq_of_lt (by omega), Nat.div_eq_of_lt (a := x / B % B + x % B) (by omega), Nat.add_zero, hh]
    rw [show n + 1 + (n + 1) = (n + n) + 1 + 1 by omega]
    show _ = x % B + (x / B % B + ds B (n + n) (x / B / B))
    rw [div2]; omega
def le (B c : Nat) : Nat → Nat → Prop
  | 0, _ => True
  | n + 1, x => x % B ≤ c ∧ le B c n (x / B)
theorem step_le (k : Nat) (hk : 0 < k) (c n : Nat) : ∀ x, le (2 ^ k) c (n + n) x → le (2 ^ k * 2 ^ k) (c + c) n ((x / 2 ^ k &&& mk (2 ^ k) n) + (x &&& mk (2 ^ k) n)) := by
  have hB : 2 ≤ 2 ^ k := by
    have : 2 ^ 1 ≤ 2 ^ k := Nat.pow_le_pow_right (by decide) hk
    simpa using this
  induction n with
  | zero => intro x _; trivial
  | succ n ih =>
    intro x h
    rw [show n + 1 + (n + 1) = (n + n) + 1 + 1 by omega] at h
    obtain ⟨h1, h2, h3⟩ := h
    rw [div2] at h3
    have e1 := and_rec k x (mk (2 ^ k) n)
    have e2 := and_rec k (x / 2 ^ k) (mk (2 ^ k) n)
    have hh := ih (x / (2 ^ k * 2 ^ k)) h3
    generalize hBd : 2 ^ k = B at *
    have e3 : x / B / (B * B) = x / (B * B) / B := by rw [Nat.div_div_eq_div_mul, Nat.div_div_eq_div_mul, Nat.mul_comm]
    rw [e3] at e2
    show (_ + _) % (B * B) ≤ c + c ∧ le (B * B) (c + c) n ((_ + _) / (B * B))
    rw [show mk B (n + 1) = (B - 1) + B * B * mk B n from rfl, e1, e2]
    have l0 := Nat.mod_lt x (show 0 < B by omega)
    have l1 := Nat.mod_lt (x / B) (show 0 < B by omega)
    have hBB : B * 2 ≤ B * B := Nat.mul_le_mul_left B hB
    generalize (x / (B * B) / B &&& mk B n) = u at *
    generalize (x / (B * B) &&& mk B n) = v at *
    have e4 : x / B % B + B * B * u + (x % B + B * B * v) = B * B * (u + v) + (x / B % B + x % B) := by rw [Nat.mul_add]; omega
    rw [e4, Nat.mul_add_mod, Nat.mul_add_div (by omega), Nat.mod_eq_of_lt (by omega), Nat.div_eq_of_lt (a := x / B % B + x % B) (by omega), Nat.add_zero]
    exact ⟨by omega, hh⟩
theorem add_first (n : Nat) : ∀ x, le 16 4 (n + n) x → ((x / 16 + x) &&& mk 16 n) = (x / 16 &&& mk 16 n) + (x &&& mk 16 n) := by
  induction n with
  | zero => intro x _; simp [mk]
  | succ n ih =>
    intro x h
    rw [show n + 1 + (n + 1) = (n + n) + 1 + 1 by omega] at h
    obtain ⟨h1, h2, h3⟩ := h
    rw [div2] at h3
    have e1 := and_rec 4 x (mk 16 n)
    have e2 := and_rec 4 (x / 16) (mk 16 n)
    have e3 := and_rec 4 (x / 16 + x) (mk 16 n)
    rw [show (2 : Nat) ^ 4 = 16 by decide] at e1 e2 e3
    have hh := ih (x / (16 * 16)) h3
    rw [show mk 16 (n + 1) = (16 - 1) + 16 * 16 * mk 16 n from rfl, e1, e2, e3]
    rcases n with _ | n
    · rw [show mk 16 0 = 0 from rfl, Nat.and_zero, Nat.and_zero, Nat.and_zero]; omega
    have hd : x / (16 * 16) % 16 ≤ 4 := by
      rw [show n + 1 + (n + 1) = (n + n) + 1 + 1 by omega] at h3
      exact h3.1
    have e4 : (x / 16 + x) / (16 * 16) = x / (16 * 16) / 16 + x / (16 * 16) := by omega
    have e5 : x / 16 / (16 * 16) = x / (16 * 16) / 16 := by omega
    rw [e4, e5, hh]
    omega
theorem le_bits (n : Nat) : ∀ x, le 2 1 n x := by
  induction n with
  | zero => intro x; trivial
  | succ n ih => intro x; exact ⟨by omega, ih _⟩
theorem le_ds8 (x : Nat) (h : le 256 8 8 x) (hx : x < 18446744073709551616) : ∃ b0 b1 b2 b3 b4 b5 b6 b7 : Nat, b0 ≤ 8 ∧ b1 ≤ 8 ∧ b2 ≤ 8 ∧ b3 ≤ 8 ∧ b4 ≤ 8 ∧ b5 ≤ 8 ∧ b6 ≤ 8 ∧ b7 ≤ 8 ∧
    x = b0 + 256 * (b1 + 256 * (b2 + 256 * (b3 + 256 * (b4 + 256 * (b5 + 256 * (b6 + 256 * b7)))))) ∧ ds 256 8 x = b0 + b1 + b2 + b3 + b4 + b5 + b6 + b7 := by
  obtain ⟨h0, h1, h2, h3, h4, h5, h6, h7, _⟩ := h
  refine ⟨_, _, _, _, _, _, _, _, h0, h1, h2, h3, h4, h5, h6, h7, by omega, ?_⟩
  simp only [ds]; omega
theorem last_sums (b0 b1 b2 b3 b4 b5 b6 b7 : Nat) (h0 : b0 ≤ 8) (h1 : b1 ≤ 8) (h2 : b2 ≤ 8) (h3 : b3 ≤ 8) (h4 : b4 ≤ 8) (h5 : b5 ≤ 8) (h6 : b6 ≤ 8) (h7 : b7 ≤ 8) (x y z : Nat)
    (hx : x = b0 + 256 * (b1 + 256 * (b2 + 256 * (b3 + 256 * (b4 + 256 * (b5 + 256 * (b6 + 256 * b7)))))))
    (hy : y = x + x / 256) (hz : z = y + y / 65536) : x < 1300000000000000000 ∧ y < 1400000000000000000 ∧ z < 1500000000000000000 ∧ (z + z / 4294967296) % 128 = b0 + b1 + b2 + b3 + b4 + b5 + b6 + b7 := by
  have ey : y = (b0 + b1) + 256 * ((b1 + b2) + 256 * ((b2 + b3) + 256 * ((b3 + b4) + 256 * ((b4 + b5) + 256 * ((b5 + b6) + 256 * ((b6 + b7) + 256 * b7)))))) := by omega
  have ez : z = (b0 + b1 + b2 + b3) + 256 * ((b1 + b2 + b3 + b4) + 256 * ((b2 + b3 + b4 + b5) + 256 * ((b3 + b4 + b5 + b6) + 256 * ((b4 + b5 + b6 + b7) + 256 * ((b5 + b6 + b7) + 256 * ((b6 + b7) + 256 * b7)))))) := by
    clear hx; omega
  refine ⟨by omega, by clear hx hy; omega, by clear hx hy hz ey; omega, ?_⟩
  clear hx hy hz ey
  have e : z / 4294967296 = (b4 + b5 + b6 + b7) + 256 * ((b5 + b6 + b7) + 256 * ((b6 + b7) + 256 * b7)) := by omega
  rw [e]
  clear e
  omega
theorem ds_more (n : Nat) : ∀ m x, x < 2 ^ n → ds 2 (n + m) x = ds 2 n x := by
  induction n with
  | zero =>
    intro m x h
    obtain rfl : x = 0 := by simpa using h
    rw [Nat.zero_add]
    induction m with
    | zero => rfl
    | succ m ih => show 0 % 2 + ds 2 m (0 / 2) = _; simpa using ih
  | succ n ih =>
    intro m x h
    rw [show n + 1 + m = (n + m) + 1 by omega]
    show x % 2 + ds 2 (n + m) (x / 2) = x % 2 + ds 2 n (x / 2)
    rw [ih m (x / 2) (by rw [Nat.pow_succ] at h; omega)]
end Pop
section
set_option linter.unusedVariables false
set_option linter.unusedSimpArgs false
namespace Go.Proofs.YthdeeoallfbjmaaDoor.Th
open Go.RowKit Go.Proofs.YthdeeoallfbjmaaDoorW.PrintWords Go.Proofs.YthdeeoallfbjmaaDoorW.PrintLast Go.Proofs.YthdeeoallfbjmaaDoorW.PrintMore Go.Proofs.YthdeeoallfbjmaaDoor.PA Bit Dig
def pc1 (x : Int) : Int := IntKind.u64.wrap ((Go.bits .and .u64 (x / 2) 6148914691236517205) + (Go.bits .and .u64 x 6148914691236517205))
def pc2 (x : Int) : Int := IntKind.u64.wrap ((Go.bits .and .u64 (x / 4) 3689348814741910323) + (Go.bits .and .u64 x 3689348814741910323))
def pc3 (x : Int) : Int := Go.bits .and .u64 (IntKind.u64.wrap ((x / 16) + x)) 1085102592571150095
def pc4 (x : Int) : Int := IntKind.u64.wrap (x + (x / 256))
def pc5 (x : Int) : Int := IntKind.u64.wrap (x + (x / 65536))
def pc6 (x : Int) : Int := IntKind.u64.wrap (x + (x / 4294967296))
theorem ones_eq (a : Int) : bits_OnesCount64.f a = some (Go.bits .and .i64 (wrap64 (pc6 (pc5 (pc4 (pc3 (pc2 (pc1 a))))))) 127) := rfl
theorem i64_and127 (a : Nat) (ha : a < 9223372036854775808) : Go.bits .and .i64 (a : Int) 127 = ((a % 128 : Nat) : Int) := by
  show IntKind.i64.wrap ((BitVec.ofInt 64 (a : Int) &&& BitVec.ofInt 64 (127 : Int)).toNat : Int) = _
  rw [BitVec.toNat_and, ofInt_u64 a (by omega), show (127 : Int) = ((127 : Nat) : Int) from rfl, ofInt_u64 127 (by decide), nat_mask7, i64_w, w64_id (by omega) (by omega)]
theorem and_lt (a m : Nat) : a &&& m ≤ m := Nat.and_le_right
theorem pc1N (a : Nat) (ha : a < 18446744073709551616) : pc1 a = (((a / 2 &&& 6148914691236517205) + (a &&& 6148914691236517205) : Nat) : Int) := by
  unfold pc1
  have h1 := and_lt (a / 2) 6148914691236517205
  have h2 := and_lt a 6148914691236517205
  rw [show (a : Int) / 2 = ((a / 2 : Nat) : Int) by omega, show (6148914691236517205 : Int) = ((6148914691236517205 : Nat) : Int) from rfl, u64_and_nat _ _ (by omega) (by decide), u64_and_nat _ _ ha (by decide), u64_id (by omega) (by omega)]
  omega
theorem pc2N (a : Nat) (ha : a < 18446744073709551616) : pc2 a = (((a / 4 &&& 3689348814741910323) + (a &&& 3689348814741910323) : Nat) : Int) := by
  unfold pc2
  have h1 := and_lt (a / 4) 3689348814741910323
  have h2 := and_lt a 3689348814741910323
  rw [show (a : Int) / 4 = ((a / 4 : Nat) : Int) by omega, show (3689348814741910323 : Int) = ((3689348814741910323 : Nat) : Int) from rfl, u64_and_nat _ _ (by omega) (by decide), u64_and_nat _ _ ha (by decide), u64_id (by omega) (by omega)]
  omega
theorem pc3N (a : Nat) (ha : a ≤ 7378697629483820646) : pc3 a = (((a / 16 + a) &&& 1085102592571150095 : Nat) : Int) := by
  unfold pc3
  rw [show (a : Int) / 16 + a = ((a / 16 + a : Nat) : Int) by omega, u64_id (by omega) (by omega), show (1085102592571150095 : Int) = ((1085102592571150095 : Nat) : Int) from rfl, u64_and_nat _ _ (by omega) (by decide)]
theorem onesS (a : Nat) (ha : a < 18446744073709551616) : bits_OnesCount64.f a = some ((Pop.ds 2 64 a : Nat) : Int) := by
  rw [ones_eq, pc1N a ha]
  have k1 := Pop.step 1 (by decide) 32 a
  have k2 := Pop.step_le 1 (by decide) 1 32 a (by rw [show (2 : Nat) ^ 1 = 2 by decide]; exact Pop.le_bits _ _)
  rw [show (2 : Nat) ^ 1 = 2 by decide, show Pop.mk 2 32 = 6148914691236517205 by decide +kernel] at k1 k2
  have b1 := and_lt (a / 2) 6148914691236517205
  have b2 := and_lt a 6148914691236517205
  have b2' : (a / 2 &&& 6148914691236517205) + (a &&& 6148914691236517205) < 18446744073709551616 := by omega
  generalize (a / 2 &&& 6148914691236517205) + (a &&& 6148914691236517205) = y at *
  clear b1 b2
  rw [pc2N y (by omega)]
  have k3 := Pop.step 2 (by decide) 16 y
  have k4 := Pop.step_le 2 (by decide) 2 16 y k2
  rw [show (2 : Nat) ^ 2 = 4 by decide, show Pop.mk 4 16 = 3689348814741910323 by decide +kernel] at k3 k4
  have b3 := and_lt (y / 4) 3689348814741910323
  have b4 := and_lt y 3689348814741910323
  have b4' : (y / 4 &&& 3689348814741910323) + (y &&& 3689348814741910323) ≤ 7378697629483820646 := by omega
  generalize (y / 4 &&& 3689348814741910323) + (y &&& 3689348814741910323) = z at *
  clear b3 b4
  rw [pc3N z (by omega)]
  have k5 := Pop.step 4 (by decide) 8 z
  have k6 := Pop.step_le 4 (by decide) 4 8 z k4
  have k7 := Pop.add_first 8 z k4
  rw [show (2 : Nat) ^ 4 = 16 by decide, ← k7, show Pop.mk 16 8 = 1085102592571150095 by decide +kernel] at k5 k6
  have b5 := and_lt (z / 16 + z) 1085102592571150095
  generalize (z / 16 + z) &&& 1085102592571150095 = u at *
  obtain ⟨c0, c1, c2, c3, c4, c5, c6, c7, h0, h1, h2, h3, h4, h5, h6, h7, hx, hs⟩ := Pop.le_ds8 u k6 (by omega)
  obtain ⟨l1, l2, l3, l4⟩ := Pop.last_sums c0 c1 c2 c3 c4 c5 c6 c7 h0 h1 h2 h3 h4 h5 h6 h7 u _ _ hx rfl rfl
  have k1' : Pop.ds 4 32 _ = Pop.ds 2 64 a := k1
  clear k1 k2 k4 k6 k7 b2' b4' b5
  have hs' : Pop.ds 256 8 u = Pop.ds 2 64 a := k5.trans (k3.trans k1')
  rw [hs'] at hs
  clear k3 k5 k1' hs' hx
  have e4 : pc4 u = ((u + u / 256 : Nat) : Int) := by unfold pc4; rw [u64_id (by omega) (by omega)]; omega
  generalize hv : u + u / 256 = v at *
  have e5 : pc5 v = ((v + v / 65536 : Nat) : Int) := by unfold pc5; rw [u64_id (by omega) (by omega)]; omega
  generalize hw : v + v / 65536 = w at *
  have e6 : pc6 w = ((w + w / 4294967296 : Nat) : Int) := by unfold pc6; rw [u64_id (by omega) (by omega)]; omega
  rw [e4, e5, e6, w64_id (by omega) (by omega)]
  rw [i64_and127 _ (by omega), l4, ← hs]
theorem popS (w : Int) (hw : w = 32 ∨ w = 64) (a : Nat) (ha : a < 18446744073709551616) : ints_Popcnt.f w a = some ((Pop.ds 2 64 (a % pw w) : Nat) : Int) := by
  unfold ints_Popcnt.f
  have h1 := Nat.mod_le a (pw w)
  rw [shCut w a ha, Option.bind_some, cutP w hw a ha, onesS _ (by omega), Option.bind_some]
  have hb : ∀ n x, Pop.ds 2 n x ≤ n := by
    intro n
    induction n with
    | zero => intro x; exact Nat.le_refl _
    | succ n ih => intro x; have := ih (x / 2); show x % 2 + Pop.ds 2 n (x / 2) ≤ n + 1; omega
  have h2 := hb 64 (a % pw w)
  rw [u64_id (by omega) (by omega)]
theorem bitLen_aux (f : Nat) : ∀ x, x < 2 ^ f → Lib.bitLenAux f x = bl x := by
  induction f with
  | zero => intro x h; obtain rfl : x = 0 := by simpa using h
            rfl
  | succ f ih =>
    intro x h
    unfold Lib.bitLenAux
    by_cases h0 : x = 0
    · rw [if_pos h0, h0, bl_zero]
    · rw [if_neg h0, ih _ (by rw [Nat.pow_succ] at h; omega), bl_half (show 0 < x by omega)]; omega
theorem bitLen_bl {x : Nat} (h : x < 18446744073709551616) : Lib.bitLen x = bl x := bitLen_aux 64 x h
theorem blP (w : Int) (hw : w = 32 ∨ w = 64) (c : Nat) (hc : c < pw w) : bl c ≤ w.toNat := by
  rw [pw_pow w hw] at hc
  exact bl_le.2 hc
theorem dClz (w : Int) (hw : w = 32 ∨ w = 64) (a : Nat) (ha : a < 18446744073709551616) : ints_Clz.f w a = some ((w.toNat - bl (a % pw w) : Nat) : Int) := by
  unfold ints_Clz.f bits_Len64.f
  have hc : a % pw w < pw w := Nat.mod_lt _ (pw_0 w)
  have h64 := pw_64 w
  have hb := blP w hw _ hc
  rw [known13, decide_eq_true hw, Option.bind_some, if_pos rfl, shCut w a ha, cutP w hw a ha, Option.bind_some, if_pos (by omega), Option.bind_some, Int.toNat_natCast, bitLen_bl (by omega)]
  have hw2 : 0 ≤ w ∧ w ≤ 64 := by omega
  rw [w64_id (by omega) (by omega), u64_id (by omega) (by omega)]
  congr 1; omega
theorem ctz_le (c : Nat) (hc : c < 18446744073709551616) : Lib.ctz 64 c ≤ 64 := by
  unfold Lib.ctz
  split
  · exact Nat.le_refl _
  · rename_i h
    obtain ⟨m, _, h2⟩ := Lib.ctzFrom_spec 64 c (by omega) (by simpa using hc)
    omega
theorem ctz_spec (w : Int) (hw : w = 32 ∨ w = 64) (c : Nat) (hc : c < pw w) (h0 : 0 < c) : ∃ m, c = 2 ^ Lib.ctz 64 c * (2 * m + 1) ∧ Lib.ctz 64 c < bl c := by
  have h64 := pw_64 w
  obtain ⟨m, h1, h2⟩ := Lib.ctzFrom_spec 64 c h0 (by have : c < 18446744073709551616 := by omega
                                                     simpa using this)
  have e : Lib.ctz 64 c = Lib.ctzFrom 64 c := by unfold Lib.ctz; rw [if_neg (by omega)]
  refine ⟨m, by rw [e]; exact h1, ?_⟩
  rw [e]
  rcases Nat.lt_or_ge (Lib.ctzFrom 64 c) (bl c) with h | h
  · exact h
  · exfalso
    have k := bl_le.1 h
    have : 2 ^ Lib.ctzFrom 64 c ≤ 2 ^ Lib.ctzFrom 64 c * (2 * m + 1) := Nat.le_mul_of_pos_right _ (by omega)
    omega
theorem dCtz (w : Int) (hw : w = 32 ∨ w = 64) (a : Nat) (ha : a < 18446744073709551616) : ints_Ctz.f w a = some ((min w.toNat (Lib.ctz 64 (a % pw w)) : Nat) : Int) := by
  unfold ints_Ctz.f bits_TrailingZeros64.f
  have hc : a % pw w < pw w := Nat.mod_lt _ (pw_0 w)
  have h64 := pw_64 w
  have hl := ctz_le (a % pw w) (by omega)
  rw [known13, decide_eq_true hw, Option.bind_some, if_pos rfl, shCut w a ha, cutP w hw a ha, Option.bind_some, if_pos (by omega), Option.bind_some, Int.toNat_natCast]
  have hw2 : 0 ≤ w ∧ w ≤ 64 := by omega
  have e : mn w ((Lib.ctz 64 (a % pw w) : Nat) : Int) = ((min w.toNat (Lib.ctz 64 (a % pw w)) : Nat) : Int) := by unfold mn; split <;> omega
  rw [e, u64_id (by omega) (by omega)]
def mg (w : Int) (a : Nat) : Nat := if sgB w a then pw w - a % pw w else a % pw w
theorem sgn_mg (w : Int) (a : Nat) : sgn w a = if sgB w a then -((mg w a : Nat) : Int) else ((mg w a : Nat) : Int) := by
  unfold sgn mg
  have := Nat.mod_lt a (pw_0 w)
  cases sgB w a
  · simp
  · simp only [if_true]; omega
theorem mg_bd (w : Int) (hw : w = 32 ∨ w = 64) (a : Nat) : mg w a ≤ sb w ∧ (sgB w a = false → mg w a < sb w) ∧ (sgB w a = true → 0 < mg w a) ∧ pw w = 2 * sb w := by
  rcases hw with rfl | rfl
  · simp only [mg, sgB, pw, sb, if_true]
    by_cases h : a / 2147483648 % 2 = 1
    · simp only [h, decide_true, if_true]; exact ⟨by omega, (fun h => by cases h), (fun _ => by omega), by first | trivial | omega⟩
    · simp only [h, decide_false, if_neg (show ¬ (false = true) by decide)]; exact ⟨by omega, (fun _ => by omega), (fun h => by cases h), by first | trivial | omega⟩
  · simp only [mg, sgB, pw, sb, show ¬ ((64 : Int) = 32) by decide, if_false]
    by_cases h : a / 9223372036854775808 % 2 = 1
    · simp only [h, decide_true, if_true]; exact ⟨by omega, (fun h => by cases h), (fun _ => by omega), by first | trivial | omega⟩
    · simp only [h, decide_false, if_neg (show ¬ (false = true) by decide)]; exact ⟨by omega, (fun _ => by omega), (fun h => by cases h), by first | trivial | omega⟩
theorem signed11 (w : Int) (hw : w = 32 ∨ w = 64) (a : Nat) (ha : a < 18446744073709551616) : Ev (fun k => trunnionref11_Signed.f k w a) (sgB w a, ((mg w a : Nat) : Int)) := by
  unfold trunnionref11_Signed.f
  refine Ev.bs (r2Cut w a hw) (Ev.bind (twoS w hw) ?_)
  rw [cutP w hw a ha]
  rcases hw with rfl | rfl
  · simp only [mg, sgB, pw, sb, if_true]
    by_cases h : a / 2147483648 % 2 = 1
    · refine Ev.neg (by omega) (Ev.out ?_)
      simp only [h, decide_true, if_true]
      rw [u64_id (by omega) (by omega)]
      congr 1; omega
    · refine Ev.pos (by omega) (Ev.out ?_)
      simp only [h, decide_false]; simp
  · simp only [mg, sgB, pw, sb, show ¬ ((64 : Int) = 32) by decide, if_false]
    by_cases h : a / 9223372036854775808 % 2 = 1
    · refine Ev.neg (by omega) (Ev.out ?_)
      simp only [h, decide_true, if_true]
      rw [u64_id (n := 18446744073709551615 - ((a % 18446744073709551616 : Nat) : Int)) (by omega) (by omega), u64_id (by omega) (by omega)]
      congr 1; omega
    · refine Ev.pos (by omega) (Ev.out ?_)
      simp only [h, decide_false]; simp
theorem lt_bit {c n : Nat} (h : c < 2 ^ (n + 1)) (hb : c.testBit n = false) : c < 2 ^ n := by
  rw [Nat.testBit_eq_decide_div_mod_eq] at hb
  have hp : 0 < 2 ^ n := Nat.pow_pos (by decide)
  have h2 : c / 2 ^ n < 2 := Nat.div_lt_of_lt_mul (by rw [Nat.pow_succ] at h; omega)
  have h3 := of_decide_eq_false hb
  have h4 := Nat.div_add_mod c (2 ^ n)
  have h5 := Nat.mod_lt c hp
  have h6 : c / 2 ^ n = 0 := by generalize c / 2 ^ n = q at h2 h3; omega
  rw [h6, Nat.mul_zero, Nat.zero_add] at h4
  rw [← h4]; exact h5
theorem bit_lt_bl {c n : Nat} (h : c.testBit n = true) : n < bl c := by
  rcases Nat.lt_or_ge n (bl c) with h1 | h1
  · exact h1
  · rw [Nat.testBit_lt_two_pow (bl_le.1 h1)] at h; cases h
theorem run_up (w : Int) (hw : w = 32 ∨ w = 64) (c : Nat) (hc : bl c ≤ w.toNat) (d : Nat) : ∀ i : Nat, i + d = w.toNat → bl c ≤ d → Ev (fun k => trunnionref13_Run.l0 k w true (bts c w.toNat) i i) ((w.toNat - bl c : Nat) : Int) := by
  induction d with
  | zero =>
    intro i h1 h2
    exact Ev.step (fun _ => trunnionref13_Run.l0.eq_2 ..) (Ev.neg (by omega) (Ev.out (by omega)))
  | succ d ih =>
    intro i h1 h2
    have hl : (bts c w.toNat).length = w.toNat := bts_len _ _
    have e : wrap64 (wrap64 (w - 1) - i) = (d : Int) := by rw [w64_id (n := w - 1) (by omega) (by omega), w64_id (by omega) (by omega)]; omega
    refine Ev.step (fun _ => trunnionref13_Run.l0.eq_2 ..) (Ev.pos (by omega) (Ev.pos rfl ?_))
    rw [e]
    have er : rdOf false (bts c w.toNat) (d : Int) = c.testBit d := by unfold rdOf; rw [Int.toNat_natCast, bts_get _ _ _ (by omega)]
    refine Ev.pos (by omega) (Ev.pos (by rw [hl]; omega) ?_)
    rw [er]
    cases hb : c.testBit d with
    | true =>
      have := bit_lt_bl hb
      exact Ev.pos rfl (Ev.out (by omega))
    | false =>
      have h3 := bl_le.2 (lt_bit (bl_le.1 h2) hb)
      refine Ev.neg (by decide) ?_
      rw [u64_id (by omega) (by omega), w64_id (by omega) (by omega)]
      exact ih (i + 1) (by omega) h3
theorem ctz_bits {c t m : Nat} (h : c = 2 ^ t * (2 * m + 1)) : (∀ i, i < t → c.testBit i = false) ∧ c.testBit t = true := by
  subst h
  constructor
  · intro i hi
    rw [Nat.testBit_eq_decide_div_mod_eq, show 2 ^ t * (2 * m + 1) = 2 ^ i * (2 * (2 ^ (t - i - 1) * (2 * m + 1))) by
      rw [show t = i + (1 + (t - i - 1)) by omega, Nat.pow_add, Nat.pow_add, show i + (1 + (t - i - 1)) - i - 1 = t - i - 1 by omega]; simp [Nat.mul_assoc], Nat.mul_div_cancel_left _ (Nat.pow_pos (by decide))]
    simp
  · rw [Nat.testBit_eq_decide_div_mod_eq, Nat.mul_div_cancel_left _ (Nat.pow_pos (by decide))]
    simp
theorem run_dn (w : Int) (hw : w = 32 ∨ w = 64) (c T : Nat) (h1 : T ≤ w.toNat) (h2 : ∀ i, i < T → c.testBit i = false) (h3 : T < w.toNat → c.testBit T = true) (d : Nat) : ∀ i : Nat, i + d = w.toNat → i ≤ T → Ev (fun k => trunnionref13_Run.l0 k w false (bts c w.toNat) i i) ((T : Nat) : Int) := by
  induction d with
  | zero =>
    intro i h4 h5
    exact Ev.step (fun _ => trunnionref13_Run.l0.eq_2 ..) (Ev.neg (by omega) (Ev.out (by omega)))
  | succ d ih =>
    intro i h4 h5
    have hl : (bts c w.toNat).length = w.toNat := bts_len _ _
    refine Ev.step (fun _ => trunnionref13_Run.l0.eq_2 ..) (Ev.pos (by omega) (Ev.neg (by decide) ?_))
    have er : rdOf false (bts c w.toNat) (i : Int) = c.testBit i := by unfold rdOf; rw [Int.toNat_natCast, bts_get _ _ _ (by omega)]
    refine Ev.pos (by omega) (Ev.pos (by rw [hl]; omega) ?_)
    rw [er]
    rcases Nat.lt_or_eq_of_le h5 with h | h
    · refine Ev.neg (by rw [h2 i h]; decide) ?_
      rw [u64_id (by omega) (by omega), w64_id (by omega) (by omega)]
      exact ih (i + 1) (by omega) h
    · subst h
      exact Ev.pos (h3 (by omega)) (Ev.out rfl)
theorem run13 (w : Int) (hw : w = 32 ∨ w = 64) (a : Nat) (ha : a < 18446744073709551616) (u : Bool) : Ev (fun k => trunnionref13_Run.f k w a u) (if u then ((w.toNat - bl (a % pw w) : Nat) : Int) else ((min w.toNat (Lib.ctz 64 (a % pw w)) : Nat) : Int)) := by
  unfold trunnionref13_Run.f
  have hc : a % pw w < pw w := Nat.mod_lt _ (pw_0 w)
  refine Ev.bind (bitsB w hw a ha) ?_
  cases u with
  | true => exact run_up w hw _ (blP w hw _ hc) w.toNat 0 (by omega) (blP w hw _ hc)
  | false =>
    by_cases z : a % pw w = 0
    · have e : min w.toNat (Lib.ctz 64 (a % pw w)) = w.toNat := by
        rw [z, show Lib.ctz 64 0 = 64 from rfl]; omega
      have := run_dn w hw (a % pw w) w.toNat (Nat.le_refl _) (fun i _ => by rw [z]; simp) (fun h => absurd h (Nat.lt_irrefl _)) w.toNat 0 (by omega) (by omega)
      rw [← e] at this
      simpa [e] using this
    · obtain ⟨m, h1, h2⟩ := ctz_spec w hw _ hc (by omega)
      have h3 := blP w hw _ hc
      obtain ⟨h4, h5⟩ := ctz_bits h1
      have e : min w.toNat (Lib.ctz 64 (a % pw w)) = Lib.ctz 64 (a % pw w) := by omega
      rw [if_neg (by decide), e]
      exact run_dn w hw (a % pw w) _ (by omega) h4 (fun _ => h5) w.toNat 0 (by omega) (by omega)
theorem count_loop (w : Int) (hw : w = 32 ∨ w = 64) (c P : Nat) (d : Nat) : ∀ i n : Nat, i + d = w.toNat → n ≤ i → n + Pop.ds 2 d (c / 2 ^ i) = P → Ev (fun k => trunnionref13_Count.l0 k w (bts c w.toNat) n i) ((P : Nat) : Int) := by
  induction d with
  | zero =>
    intro i n h1 h2 h3
    exact Ev.step (fun _ => trunnionref13_Count.l0.eq_2 ..) (Ev.neg (by omega) (Ev.out (by rw [← h3]; rfl)))
  | succ d ih =>
    intro i n h1 h2 h3
    have hl : (bts c w.toNat).length = w.toNat := bts_len _ _
    have er : rdOf false (bts c w.toNat) (i : Int) = c.testBit i := by unfold rdOf; rw [Int.toNat_natCast, bts_get _ _ _ (by omega)]
    have hs : n + (c / 2 ^ i % 2 + Pop.ds 2 d (c / 2 ^ i / 2)) = P := h3
    have e1 : c / 2 ^ i / 2 = c / 2 ^ (i + 1) := by rw [Nat.pow_succ, ← Nat.div_div_eq_div_mul]
    rw [e1] at hs
    refine Ev.step (fun _ => trunnionref13_Count.l0.eq_2 ..) (Ev.pos (by omega) (Ev.pos (by omega) (Ev.pos (by rw [hl]; omega) ?_)))
    rw [er, Nat.testBit_eq_decide_div_mod_eq, w64_id (by omega) (by omega)]
    by_cases b : c / 2 ^ i % 2 = 1
    · refine Ev.pos (decide_eq_true b) ?_
      rw [u64_id (by omega) (by omega)]
      exact ih (i + 1) (n + 1) (by omega) (by omega) (by omega)
    · refine Ev.neg (by simp [b]) ?_
      exact ih (i + 1) n (by omega) (by omega) (by omega)
theorem count13 (w : Int) (hw : w = 32 ∨ w = 64) (a : Nat) (ha : a < 18446744073709551616) : Ev (fun k => trunnionref13_Count.f k w a) ((Pop.ds 2 64 (a % pw w) : Nat) : Int) := by
  unfold trunnionref13_Count.f
  have hc : a % pw w < pw w := Nat.mod_lt _ (pw_0 w)
  have e : Pop.ds 2 64 (a % pw w) = Pop.ds 2 w.toNat (a % pw w) := by
    rcases hw with rfl | rfl
    · exact Pop.ds_more 32 32 _ (by simpa [pw] using hc)
    · rfl
  refine Ev.bind (bitsB w hw a ha) ?_
  rw [e]
  exact count_loop w hw _ _ w.toNat 0 0 (by omega) (by omega) (by simp)
theorem ltS13 (w : Int) (hw : w = 32 ∨ w = 64) (a b : Nat) (ha : a < 18446744073709551616) (hb : b < 18446744073709551616) : Ev (fun k => trunnionref13_LtS.f k w a b) (decide (sgn w a < sgn w b)) := by
  unfold trunnionref13_LtS.f
  refine Ev.bind (signed11 w hw a ha) (Ev.bind (signed11 w hw b hb) ?_)
  have h1 := mg_bd w hw a
  have h2 := mg_bd w hw b
  have s1 := sgn_mg w a
  have s2 := sgn_mg w b
  generalize mg w a = x at *
  generalize mg w b = y at *
  cases p : sgB w a <;> cases q : sgB w b <;> rw [p] at s1 h1 <;> rw [q] at s2 h2
  · refine Ev.neg (by simp) (Ev.neg (by simp) (Ev.out ?_))
    rw [s1, s2]; simp
  · refine Ev.pos rfl (Ev.out ?_)
    have := h2.2.2.1 rfl
    rw [s1, s2]; simp <;> omega
  · refine Ev.pos rfl (Ev.out ?_)
    have := h1.2.2.1 rfl
    rw [s1, s2]; simp <;> omega
  · refine Ev.neg (by simp) (Ev.pos rfl (Ev.out ?_))
    rw [s1, s2]; simp
theorem vb_append (l m : List Bool) : vb (l ++ m) = vb l + 2 ^ l.length * vb m := by
  induction l with
  | nil => simp [vb]
  | cons b l ih => simp only [List.cons_append, vb, ih, List.length_cons, Nat.pow_succ]; rw [Nat.mul_add]; have : 2 * (2 ^ l.length * vb m) = 2 ^ l.length * 2 * vb m := by rw [Nat.mul_comm (2 ^ l.length) 2, Nat.mul_assoc]
                   omega
theorem vb_bts (a n : Nat) : vb (bts a n) = a % 2 ^ n := by
  refine Nat.eq_of_testBit_eq fun i => ?_
  rw [vb_bit, Nat.testBit_mod_two_pow]
  by_cases h : i < n
  · rw [bts_get _ _ _ h, decide_eq_true h, Bool.true_and]
  · rw [getD_out _ _ _ (by rw [bts_len]; omega), decide_eq_false h, Bool.false_and]
theorem vb_rep (k : Nat) (b : Bool) : vb (List.replicate k b) = if b then 2 ^ k - 1 else 0 := by
  induction k with
  | zero => cases b <;> rfl
  | succ k ih =>
    rw [List.replicate_succ, vb, ih]
    have : 0 < 2 ^ k := Nat.pow_pos (by decide)
    cases b <;> simp [Nat.pow_succ]
    omega
def xtN (w f : Nat) (a : Nat) (s : Bool) : Nat := a % 2 ^ f + 2 ^ f * (if s && a.testBit (f - 1) then 2 ^ (w - f) - 1 else 0)
theorem ext_loop (w : Int) (hw : w = 32 ∨ w = 64) (f : Nat) (hf : 0 < f) (hfw : f ≤ w.toNat) (s : Bool) (l : List Bool) (hl : l.length = f) (a : Nat) (hla : l.getD (f - 1) false = a.testBit (f - 1)) (d : Nat) :
    ∀ i : Nat, i + d = w.toNat → f ≤ i → Ev (fun k => trunnionref13_Extend.l0 k w f s l (l ++ List.replicate (i - f) (s && a.testBit (f - 1))) i) ((vb (l ++ List.replicate (w.toNat - f) (s && a.testBit (f - 1))) : Nat) : Int) := by
  induction d with
  | zero =>
    intro i h1 h2
    rw [show w.toNat = i by omega]
    refine Ev.step (fun _ => trunnionref13_Extend.l0.eq_2 ..) (Ev.neg (by omega) (Ev.bind (ofB _ ?_) (Ev.out rfl)))
    simp; omega
  | succ d ih =>
    intro i h1 h2
    have hn := ih (i + 1) (by omega) (by omega)
    rw [show i + 1 - f = (i - f) + 1 by omega, List.replicate_succ', ← List.append_assoc] at hn
    have e : wrap64 ((f : Int) - 1) = ((f - 1 : Nat) : Int) := by rw [w64_id (by omega) (by omega)]; omega
    refine Ev.step (fun _ => trunnionref13_Extend.l0.eq_2 ..) (Ev.pos (by omega) ?_)
    rw [e, w64_id (n := (i : Int) + 1) (by omega) (by omega)]
    have hL : (l ++ List.replicate (i - f) (s && a.testBit (f - 1))).length < 140737488355328 := by simp; omega
    cases s with
    | true =>
      refine Ev.pos rfl (Ev.pos (by omega) (Ev.pos (by rw [hl]; omega) (Ev.pos hL ?_)))
      have er : rdOf false l ((f - 1 : Nat) : Int) = (true && a.testBit (f - 1)) := by unfold rdOf; rw [Int.toNat_natCast, hla, Bool.true_and]
      rw [er]
      exact hn
    | false =>
      exact Ev.neg (by decide) (Ev.pos hL hn)
theorem ext13 (w : Int) (hw : w = 32 ∨ w = 64) (f : Nat) (hf : f = 8 ∨ f = 16 ∨ f = 32 ∨ f = 64) (a : Nat) (ha : a < 18446744073709551616) (s : Bool) :
    Ev (fun k => trunnionref13_Extend.f k w f a s) (if f ≤ w.toNat then ((xtN w.toNat f a s : Nat) : Int) else 0) := by
  have main : Ev (fun k => trunnionref13_Extend.j0 k w f a s (decide ((f : Int) > w))) (if f ≤ w.toNat then ((xtN w.toNat f a s : Nat) : Int) else 0) := by
    refine Ev.step (fun _ => trunnionref13_Extend.j0.eq_2 ..) ?_
    by_cases h : f ≤ w.toNat
    · rw [if_pos h, decide_eq_false (by omega)]
      have b := bitsB 64 (.inr rfl) a ha
      have e64 : a % pw 64 = a := Nat.mod_eq_of_lt ha
      rw [e64] at b
      have hl : (bts a (64 : Int).toNat).length = 64 := bts_len _ _
      have tk : (bts a (64 : Int).toNat).take f = bts a f := by
        unfold bts; rw [← List.map_take, List.take_range, show min f (64 : Int).toNat = f by rcases hf with rfl | rfl | rfl | rfl <;> decide]
      refine Ev.neg (by decide) (Ev.bind b (Ev.pos (by omega) (Ev.pos (by rw [hl]; omega) ?_)))
      rw [Int.toNat_natCast, tk]
      refine Ev.bs rfl (Ev.pos (by rw [bts_len]; simp; omega) ?_)
      rw [List.nil_append]
      have k := ext_loop w hw f (by omega) h s (bts a f) (bts_len _ _) a (bts_get _ _ _ (by omega)) (w.toNat - f) f (by omega) (Nat.le_refl _)
      rw [vb_append, vb_rep, vb_bts, bts_len, Nat.sub_self, List.replicate_zero, List.append_nil] at k
      exact k
    · rw [if_neg h, decide_eq_true (by omega)]
      exact Ev.pos rfl (Ev.out rfl)
  unfold trunnionref13_Extend.f
  rcases hf with rfl | rfl | rfl | rfl
  · exact Ev.pos rfl main
  · exact Ev.neg (by decide) (Ev.pos rfl main)
  · exact Ev.neg (by decide) (Ev.neg (by decide) (Ev.pos rfl main))
  · exact Ev.neg (by decide) (Ev.neg (by decide) (Ev.neg (by decide) (Ev.pos rfl main)))
theorem extN (w f : Int) (h : ¬ (f = 8 ∨ f = 16 ∨ f = 32 ∨ f = 64)) (a : Int) (s : Bool) : Ev (fun k => trunnionref13_Extend.f k w f a s) 0 ∧ Ev (fun k => ints_Extend.f k w f a s) 0 := by
  constructor
  · unfold trunnionref13_Extend.f
    exact Ev.neg (by omega) (Ev.neg (by omega) (Ev.neg (by omega) (Ev.neg (by omega) (Ev.step (fun _ => trunnionref13_Extend.j0.eq_2 ..) (Ev.pos rfl (Ev.out rfl))))))
  · unfold ints_Extend.f
    exact Ev.neg (by omega) (Ev.neg (by omega) (Ev.neg (by omega) (Ev.neg (by omega) (Ev.out rfl))))
theorem shlU (a n : Nat) (hn : n < 64) : shl .u64 (a : Int) (n : Int) = ((a * 2 ^ n % 18446744073709551616 : Nat) : Int) := by
  unfold shl
  rw [show min ((n : Int)).toNat IntKind.u64.bits = n by rw [show IntKind.u64.bits = 64 by decide]; omega, show (a : Int) * 2 ^ n = ((a * 2 ^ n : Nat) : Int) by rw [Int.natCast_mul, Int.natCast_pow]; rfl, u64_nat]
theorem shrI (c : Int) (n : Nat) (hn : n < 64) : shr .i64 c (n : Int) = c / 2 ^ n := by
  unfold shr
  rw [show min ((n : Int)).toNat IntKind.i64.bits = n by rw [show IntKind.i64.bits = 64 by decide]; omega]
theorem extS (w : Int) (hw : w = 32 ∨ w = 64) (f : Nat) (hf : f = 8 ∨ f = 16 ∨ f = 32 ∨ f = 64) (a : Nat) (ha : a < 18446744073709551616) (s : Bool) :
    Ev (fun k => ints_Extend.f k w f a s) (if f ≤ w.toNat then ((xtN w.toNat f a s : Nat) : Int) else 0) := by
  have main : Ev (fun k => ints_Extend.j0 k w f a s) (if f ≤ w.toNat then ((xtN w.toNat f a s : Nat) : Int) else 0) := by
    refine Ev.step (fun _ => ints_Extend.j0.eq_2 ..) (Ev.bs (known13 w) (Ev.pos (decide_eq_true hw) (Ev.step (fun _ => ints_Extend.j1.eq_2 ..) ?_)))
    by_cases h : f ≤ w.toNat
    · rw [if_pos h, decide_eq_false (by omega)]
      have e : wrap64 (64 - (f : Int)) = ((64 - f : Nat) : Int) := by rw [w64_id (by omega) (by omega)]; omega
      refine Ev.neg (by decide) ?_
      rw [e, shlU a _ (by omega)]
      refine Ev.pos (by omega) ?_
      have hx : a * 2 ^ (64 - f) % 18446744073709551616 = a % 2 ^ f * 2 ^ (64 - f) := by
        rw [show (18446744073709551616 : Nat) = 2 ^ f * 2 ^ (64 - f) by rw [← Nat.pow_add, show f + (64 - f) = 64 by omega], Nat.mul_mod_mul_right]
      rw [hx]
      cases s with
      | false =>
        refine Ev.neg (by decide) (Ev.out ?_)
        rw [shrN _ _ (by omega), Nat.mul_div_cancel _ (Nat.pow_pos (by decide))]
        simp [xtN]
      | true =>
        refine Ev.pos rfl ?_
        rw [shrI _ _ (by omega)]
        have hc := Nat.mod_lt a (show 0 < 2 ^ f from Nat.pow_pos (by decide))
        have hb : a.testBit (f - 1) = decide (2 ^ (f - 1) ≤ a % 2 ^ f) := by
          have hp : 2 ^ f = 2 ^ (f - 1) * 2 := by rw [← Nat.pow_succ, show (f - 1).succ = f by omega]
          have h0 : a.testBit (f - 1) = (a % 2 ^ f).testBit (f - 1) := by rw [Nat.testBit_mod_two_pow, decide_eq_true (by omega : f - 1 < f), Bool.true_and]
          rw [h0, Nat.testBit_eq_decide_div_mod_eq, decide_eq_decide]
          generalize a % 2 ^ f = c at *
          have hq : 0 < 2 ^ (f - 1) := Nat.pow_pos (by decide)
          have h1 : c / 2 ^ (f - 1) < 2 := Nat.div_lt_of_lt_mul (by omega)
          have h2 := Nat.le_div_iff_mul_le hq (x := 1) (y := c)
          rw [Nat.one_mul] at h2
          rw [← h2]
          generalize c / 2 ^ (f - 1) = q at h1 ⊢
          omega
        have key : ∃ r : Nat, IntKind.u64.wrap (wrap64 (((a % 2 ^ f * 2 ^ (64 - f) : Nat) : Int)) / 2 ^ (64 - f)) = (r : Int) ∧ r < 18446744073709551616 ∧ r % pw w = xtN w.toNat f a true := by
          unfold xtN
          rw [Bool.true_and, hb]
          generalize a % 2 ^ f = c at *
          refine ⟨(IntKind.u64.wrap (wrap64 (((c * 2 ^ (64 - f) : Nat) : Int)) / 2 ^ (64 - f))).toNat, ?_⟩
          rw [IntKind.wrap_u64]
          unfold pw wrap64
          by_cases hh : 2 ^ (f - 1) ≤ c
          · rw [decide_eq_true hh, if_pos (rfl : true = true)]
            rcases hw with rfl | rfl <;> rcases hf with rfl | rfl | rfl | rfl <;> first | (exfalso; revert h; decide) | skip
            all_goals
              simp only [Int.reduceToNat, Nat.reduceSub, Nat.reducePow, Int.reducePow, if_true, show ¬ ((64 : Int) = 32) by decide, if_false] at hc hh ⊢
              refine ⟨?_, ?_, ?_⟩ <;> omega
          · rw [decide_eq_false hh, if_neg (show ¬ (false = true) by decide)]
            rcases hw with rfl | rfl <;> rcases hf with rfl | rfl | rfl | rfl <;> first | (exfalso; revert h; decide) | skip
            all_goals
              simp only [Int.reduceToNat, Nat.reduceSub, Nat.reducePow, Int.reducePow, if_true, show ¬ ((64 : Int) = 32) by decide, if_false] at hc hh ⊢
              refine ⟨?_, ?_, ?_⟩ <;> omega
        obtain ⟨r, k1, k2, k3⟩ := key
        rw [k1]
        refine Ev.bs (shCut w r k2) (Ev.out ?_)
        rw [cutP w hw r k2, k3]
    · rw [if_neg h, decide_eq_true (by omega)]
      exact Ev.pos rfl (Ev.out rfl)
  unfold ints_Extend.f
  rcases hf with rfl | rfl | rfl | rfl
  · exact Ev.pos rfl main
  · exact Ev.neg (by decide) (Ev.pos rfl main)
  · exact Ev.neg (by decide) (Ev.neg (by decide) (Ev.pos rfl main))
  · exact Ev.neg (by decide) (Ev.neg (by decide) (Ev.neg (by decide) (Ev.pos rfl main)))
theorem extB (w : Int) (hw : w = 32 ∨ w = 64) (f : Int) (a : Nat) (ha : a < 18446744073709551616) (s : Bool) : ∃ r : Int, Ev (fun k => ints_Extend.f k w f a s) r ∧ Ev (fun k => trunnionref13_Extend.f k w f a s) r := by
  by_cases h : f = 8 ∨ f = 16 ∨ f = 32 ∨ f = 64
  · obtain ⟨n, rfl⟩ := Int.eq_ofNat_of_zero_le (show 0 ≤ f by omega)
    exact ⟨_, extS w hw n (by omega) a ha s, ext13 w hw n (by omega) a ha s⟩
  · exact ⟨_, (extN w f h a s).2, (extN w f h a s).1⟩
theorem ext_no (w : Int) (hw : ¬ (w = 32 ∨ w = 64)) (f a : Int) (s : Bool) : Ev (fun k => ints_Extend.f k w f a s) 0 := by
  have main : Ev (fun k => ints_Extend.j0 k w f a s) 0 :=
    Ev.step (fun _ => ints_Extend.j0.eq_2 ..) (Ev.bs (known13 w) (Ev.neg (by simp [hw]) (Ev.step (fun _ => ints_Extend.j1.eq_2 ..) (Ev.pos rfl (Ev.out rfl)))))
  unfold ints_Extend.f
  by_cases h1 : f = 8
  · exact Ev.pos h1 main
  refine Ev.neg h1 ?_
  by_cases h2 : f = 16
  · exact Ev.pos h2 main
  refine Ev.neg h2 ?_
  by_cases h3 : f = 32
  · exact Ev.pos h3 main
  refine Ev.neg h3 ?_
  by_cases h4 : f = 64
  · exact Ev.pos h4 main
  exact Ev.neg h4 (Ev.out rfl)
theorem IntsCountsP : L13_IntsCounts.Pure := by
  intro w a b f hw0 ha0 hb0 hf0
  obtain ⟨ha1, ha2⟩ := wf_u64 ha0
  obtain ⟨a, rfl⟩ := Int.eq_ofNat_of_zero_le ha1
  obtain ⟨hb1, hb2⟩ := wf_u64 hb0
  obtain ⟨b, rfl⟩ := Int.eq_ofNat_of_zero_le hb1
  have ha : a < 18446744073709551616 := by omega
  have hb : b < 18446744073709551616 := by omega
  refine Ev.rounds ?_
  unfold L13_IntsCounts.f
  refine Ev.bs awake13 (Ev.pos rfl ?_)
  by_cases hw : w = 32 ∨ w = 64
  · obtain ⟨x, x1, x2⟩ := extB w hw f a ha true
    obtain ⟨y, y1, y2⟩ := extB w hw f a ha false
    have lt : ints_LtS.f w a b = some (decide (sgn w a < sgn w b)) := by
      unfold ints_LtS.f
      rw [known13, Option.bind_some, if_pos (decide_eq_true hw), signedS w hw a ha, Option.bind_some, signedS w hw b hb, Option.bind_some]
    have lu : ints_LtU.f w a b = some (decide (((cutN w a : Nat) : Int) < ((cutN w b : Nat) : Int))) := by
      unfold ints_LtU.f
      rw [shCut w a ha, Option.bind_some, shCut w b hb, Option.bind_some]
    refine Ev.bs (dClz w hw a ha) (Ev.bs (dCtz w hw a ha) (Ev.bs (popS w hw a ha) (Ev.bs lt (Ev.bs lu (Ev.bind x1 (Ev.bind y1 (Ev.bs (a := true) (by rcases hw with rfl | rfl <;> rfl) (Ev.pos rfl ?_))))))))
    refine Ev.bind (run13 w hw a ha true) (Ev.pos rfl (Ev.bind (run13 w hw a ha false) (Ev.pos (by rw [if_neg (by decide)]) (Ev.bind (count13 w hw a ha) (Ev.pos rfl (Ev.bind (ltS13 w hw a b ha hb) (Ev.pos (by simp) ?_)))))))
    refine Ev.bs (r2Cut w a hw) (Ev.bs (r2Cut w b hw) (Ev.pos (by simp) (Ev.bind x2 (Ev.pos rfl (Ev.bind y2 (Ev.out (by simp)))))))
  · have kn : ints_known.f w = some false := by rw [known13]; simp [hw]
    have c0 : cutN w a = 0 := by unfold cutN; rw [if_neg (by omega), if_neg (by omega)]
    have c1 : cutN w b = 0 := by unfold cutN; rw [if_neg (by omega), if_neg (by omega)]
    have z1 : ints_Clz.f w a = some 0 := by unfold ints_Clz.f; rw [kn, Option.bind_some, if_neg (by decide)]
    have z2 : ints_Ctz.f w a = some 0 := by unfold ints_Ctz.f; rw [kn, Option.bind_some, if_neg (by decide)]
    have z3 : ints_Popcnt.f w a = some 0 := by unfold ints_Popcnt.f; rw [shCut w a ha, c0, Option.bind_some]; decide +kernel
    have lt : ints_LtS.f w a b = some false := by unfold ints_LtS.f; rw [kn, Option.bind_some, if_neg (by decide)]
    have lu : ints_LtU.f w a b = some false := by
      unfold ints_LtU.f
      rw [shCut w a ha, Option.bind_some, shCut w b hb, Option.bind_some, c0, c1]; rfl
    refine Ev.bs z1 (Ev.bs z2 (Ev.bs z3 (Ev.bs lt (Ev.bs lu (Ev.bind (ext_no w hw f a true) (Ev.bind (ext_no w hw f a false) (Ev.bs (known_f w) (Ev.neg (by simp [hw]) ?_))))))))
    exact Ev.pos (by decide +kernel) (Ev.neg (by decide) (Ev.out rfl))
end Go.Proofs.YthdeeoallfbjmaaDoor.Th
end
namespace Go.Proofs.YthdeeoallfbjmaaDoor.Pure
theorem IntsCounts : Go.Proofs.YthdeeoallfbjmaaDoor.PA.L13_IntsCounts.Pure := Go.Proofs.YthdeeoallfbjmaaDoor.Th.IntsCountsP
end Go.Proofs.YthdeeoallfbjmaaDoor.Pure
namespace Go.Proofs.YthdeeoallfbjmaaDoor.Facts
abbrev ch (n : Nat) : Char := Char.ofNat n
theorem words_word (w : List Char) (r : List Char) (h : w.all (fun c => c != ch 32) = true) : wordsSigns (w ++ ch 32 :: r) = w :: wordsSigns r := by
  induction w with
  | nil => rfl
  | cons c w ih =>
    rw [List.all_cons, Bool.and_eq_true] at h
    have hc : c ≠ ch 32 := bne_iff_ne.1 h.1
    rw [List.cons_append]
    rw [wordsSigns.eq_3 c _ (fun e => hc e), ih h.2]
def w1 : List Char := [ch 104, ch 97, ch 114, ch 110, ch 101, ch 115, ch 115]
def w2 : List Char := [ch 98, ch 57, ch 54, ch 51, ch 49, ch 48, ch 49, ch 55, ch 56, ch 57, ch 57, ch 48, ch 102, ch 51, ch 56, ch 101, ch 50, ch 100, ch 48, ch 100, ch 54, ch 53, ch 99, ch 52, ch 55, ch 101, ch 100, ch 50, ch 53, ch 102, ch 54, ch 98, ch 98, ch 52, ch 57, ch 102, ch 54, ch 48, ch 55, ch 48, ch 52, ch 51, ch 99, ch 50, ch 101, ch 56, ch 100, ch 98, ch 55, ch 102, ch 56, ch 97, ch 102, ch 48, ch 55, ch 97, ch 55, ch 49, ch 100, ch 56, ch 50, ch 54, ch 99, ch 48]
def w3 : List Char := [ch 99, ch 117, ch 116]
set_option maxRecDepth 100000 in
def tailSigns : List Char := [ch 97, ch 116, ch 32, ch 116, ch 114, ch 117, ch 110, ch 110, ch 105, ch 111, ch 110, ch 47, ch 116, ch 114, ch 117, ch 110, ch 110, ch 105, ch 111, ch 110, ch 108, ch 97, ch 119, ch 49, ch 51, ch 46, ch 73, ch 110, ch 116, ch 115, ch 82, ch 117, ch 110, ch 115, ch 32, ch 116, ch 114, ch 117, ch 110, ch 110, ch 105, ch 111, ch 110, ch 47, ch 116, ch 114, ch 117, ch 110, ch 110, ch 105, ch 111, ch 110, ch 108, ch 97, ch 119, ch 49, ch 51, ch 46, ch 73, ch 110, ch 116, ch 115, ch 67, ch 111, ch 117, ch 110, ch 116, ch 115, ch 32, ch 116, ch 114, ch 117, ch 110, ch 110, ch 105, ch 111, ch 110, ch 47, ch 116, ch 114, ch 117, ch 110, ch 110, ch 105, ch 111, ch 110, ch 108, ch 97, ch 119, ch 49, ch 49, ch 46, ch 67, ch 97, ch 115, ch 116, ch 77, ch 97, ch 107, ch 101, ch 115, ch 32, ch 116, ch 114, ch 117, ch 110, ch 110, ch 105, ch 111, ch 110, ch 47, ch 116, ch 114, ch 117, ch 110, ch 110, ch 105, ch 111, ch 110, ch 108, ch 97, ch 119, ch 49, ch 49, ch 46, ch 67, ch 97, ch 115, ch 116, ch 66, ch 97, ch 99, ch 107, ch 32, ch 116, ch 114, ch 117, ch 110, ch 110, ch 105, ch 111, ch 110, ch 47, ch 116, ch 114, ch 117, ch 110, ch 110, ch 105, ch 111, ch 110, ch 108, ch 97, ch 119, ch 49, ch 50, ch 46, ch 67, ch 104, ch 111, ch 112, ch 66, ch 97, ch 99, ch 107]
set_option maxRecDepth 100000 in
theorem head_list : Tryd.prog.initOrder.toList = w1 ++ ch 32 :: (w2 ++ ch 32 :: (w3 ++ ch 32 :: tailSigns)) :=
  (congrArg String.toList (show Tryd.prog.initOrder = String.ofList (w1 ++ ch 32 :: (w2 ++ ch 32 :: (w3 ++ ch 32 :: tailSigns))) from rfl)).trans String.toList_ofList
theorem words : ∃ rest, behindMainWord (wordsSigns Tryd.prog.initOrder.toList) = w3 :: rest := by
  refine ⟨wordsSigns tailSigns, ?_⟩
  rw [head_list, words_word w1 _ (by kernel_rfl), words_word w2 _ (by kernel_rfl), words_word w3 _ (by kernel_rfl)]
  generalize wordsSigns tailSigns = rest
  have e : ((w1 == "harness".toList || w1 == "ownmain".toList) && isSumSigns w2) = true := by kernel_rfl
  show (if ((w1 == "harness".toList || w1 == "ownmain".toList) && isSumSigns w2) = true then w3 :: rest else w1 :: w2 :: w3 :: rest) = w3 :: rest
  rw [if_pos e]
theorem c3 : (w3 == "gc".toList) = false ∧ (w3 == "spec".toList) = false ∧ (w3 == "cut".toList) = true ∧ (w3 == "carried".toList) = false ∧ (w3 == "finals".toList) = false := ⟨by kernel_rfl, by kernel_rfl, by kernel_rfl, by kernel_rfl, by kernel_rfl⟩
theorem strip (rest : List (List Char)) : stripLifts liftWords (w3 :: rest) = ([], w3 :: rest) := by
  have key : ∀ l : List String, l.all (fun o => !(w3 == o.toList)) = true → stripLifts l (w3 :: rest) = ([], w3 :: rest) := by
    intro l
    induction l with
    | nil => intro _; rfl
    | cons o l ih =>
      intro h
      rw [List.all_cons, Bool.and_eq_true] at h
      unfold stripLifts
      rw [if_neg (fun e => by have h1 := h.1; rw [e] at h1; cases h1)]
      exact ih h.2
  exact key liftWords (by kernel_rfl)
theorem make_of (P : Program) (h : ∃ rest, behindMainWord (wordsSigns P.initOrder.toList) = w3 :: rest) : P.make = some .cut := by
  obtain ⟨rest, h⟩ := h
  unfold Program.make
  rw [h]
  show (if (w3 == "gc".toList || w3 == "spec".toList) = true then some Make.whole else if (w3 == "cut".toList || (w3 == "finals".toList && rest.head? == some "cut".toList)) = true then some Make.cut else _) = some Make.cut
  rw [if_neg (by rw [c3.1, c3.2.1]; decide), if_pos (by rw [c3.2.2.1, Bool.true_or])]
set_option maxRecDepth 100000 in
theorem liftsFact : Tryd.prog.liftsFinal = false := by
  unfold Program.liftsFinal Program.headLifts
  rw [head_list]
  kernel_rfl
theorem doorFact : (!Tryd.prog.laysLater && !Tryd.prog.bearsReflect && Tryd.prog.doorFits []) = true := by kernel_rfl
theorem makeFact : Tryd.prog.make = some .cut := make_of _ words
theorem enter_of (P : Program) (h : ∃ rest, behindMainWord (wordsSigns P.initOrder.toList) = w3 :: rest) (d : (!P.laysLater && !P.bearsReflect && P.doorFits []) = true) : P.mayEnter = true := by
  obtain ⟨rest, h⟩ := h
  rw [Bool.and_eq_true, Bool.and_eq_true] at d
  have e : ((some w3 == some "cut".toList) : Bool) = true := by kernel_rfl
  unfold Program.mayEnter
  rw [h]
  show ((_ || _) || ((stripLifts liftWords (w3 :: rest)).2.head? == some "cut".toList && ((stripLifts liftWords (w3 :: rest)).1.contains "finals" || !P.laysLater) && ((stripLifts liftWords (w3 :: rest)).1.contains "reflectrows" || !P.bearsReflect) &&
      ((stripLifts liftWords (w3 :: rest)).1.contains "reflectrows" || !(stripLifts liftWords (w3 :: rest)).1.contains "leanrows") && P.doorFits (stripLifts liftWords (w3 :: rest)).1)) = true
  rw [strip, Bool.or_eq_true]
  refine .inr ?_
  rw [Bool.and_eq_true, Bool.and_eq_true, Bool.and_eq_true, Bool.and_eq_true, Bool.or_eq_true, Bool.or_eq_true]
  exact ⟨⟨⟨⟨e, .inr d.1.1⟩, .inr d.1.2⟩, rfl⟩, d.2⟩
theorem enterFact : Tryd.prog.mayEnter = true := enter_of _ words doorFact
end Go.Proofs.YthdeeoallfbjmaaDoor.Facts
