/- What the Go functions that the statement IntsRuns reaches compute, and the mathematics on it, in the order in which one leans on the other; for every input. -/
import Derived.Test.YthdeeoallfbjmaaDoorVIntsRuns0
import Derived.Test.YthdeeoallfbjmaaDoorMIntsRuns0
import Derived.Test.YthdeeoallfbjmaaDoorRows
import Derived.ProofKit
import Derived.JoinedOf
import Derived.KernelRfl
set_option linter.unusedVariables false
namespace Pop
def ds (B : Nat) : Nat → Nat → Nat
  | 0, _ => 0
  | n + 1, x => x % B + ds B n (x / B)
def mk (B : Nat) : Nat → Nat
  | 0 => 0
  | n + 1 => (B - 1) + B * B * mk B n
theorem and_rec (k x m : Nat) : x &&& ((2 ^ k - 1) + 2 ^ k * 2 ^ k * m) = x % 2 ^ k + 2 ^ k * 2 ^ k * (x / (2 ^ k * 2 ^ k) &&& m) := by
  have h1 : 2 ^ k - 1 < 2 ^ (k + k) := by
    have a : 0 < 2 ^ k := Nat.pow_pos (by decide)
    have b : 2 ^ k ≤ 2 ^ (k + k) := Nat.pow_le_pow_right (by decide) (by omega)
    omega
  have h2 : x % 2 ^ k < 2 ^ (k + k) := by
    have a : x % 2 ^ k < 2 ^ k := Nat.mod_lt _ (Nat.pow_pos (by decide))
    have b : 2 ^ k ≤ 2 ^ (k + k) := Nat.pow_le_pow_right (by decide) (by omega)
    omega
  rw [← Nat.pow_add]
  refine Nat.eq_of_testBit_eq fun j => ?_
  rw [Nat.testBit_and, Nat.add_comm (2 ^ k - 1), Nat.add_comm (x % 2 ^ k), Nat.testBit_two_pow_mul_add _ h1, Nat.testBit_two_pow_mul_add _ h2]
  by_cases h : j < k + k
  · rw [if_pos h, if_pos h, Nat.testBit_two_pow_sub_one, Nat.testBit_mod_two_pow, Bool.and_comm]
  · rw [if_neg h, if_neg h, Nat.testBit_and, Nat.testBit_div_two_pow, show j - (k + k) + (k + k) = j by omega]
theorem div2 (B x : Nat) : x / B / B = x / (B * B) := Nat.div_div_eq_div_mul ..
theorem step (k : Nat) (hk : 0 < k) (n : Nat) : ∀ x, ds (2 ^ k * 2 ^ k) n ((x / 2 ^ k &&& mk (2 ^ k) n) + (x &&& mk (2 ^ k) n)) = ds (2 ^ k) (n + n) x := by
  have hB : 2 ≤ 2 ^ k := by
    have : 2 ^ 1 ≤ 2 ^ k := Nat.pow_le_pow_right (by decide) hk
    simpa using this
  induction n with
  | zero => intro x; rfl
  | succ n ih =>
    intro x
    have e1 := and_rec k x (mk (2 ^ k) n)
    have e2 := and_rec k (x / 2 ^ k) (mk (2 ^ k) n)
    have hh := ih (x / (2 ^ k * 2 ^ k))
    generalize hBd : 2 ^ k = B at *
    have e3 : x / B / (B * B) = x / (B * B) / B := by rw [Nat.div_div_eq_div_mul, Nat.div_div_eq_div_mul, Nat.mul_comm]
    rw [e3] at e2
    show (_ + _) % (B * B) + ds (B * B) n ((_ + _) / (B * B)) = _
    rw [show mk B (n + 1) = (B - 1) + B * B * mk B n from rfl, e1, e2]
    have l0 := Nat.mod_lt x (show 0 < B by omega)
    have l1 := Nat.mod_lt (x / B) (show 0 < B by omega)
    have hBB : B * 2 ≤ B * B := Nat.mul_le_mul_left B hB
    generalize (x / (B * B) / B &&& mk B n) = u at *
    generalize (x / (B * B) &&& mk B n) = v at *
    have e4 : x / B % B + B * B * u + (x % B + B * B * v) = B * B * (u + v) + (x / B % B + x % B) := by rw [Nat.mul_add]; omega
    rw [e4, Nat.mul_add_mod, Nat.mul_add_div (by omega), Nat.mod_eq_of_lt (by omega), Nat.div_eq_of_lt (a := x / B % B + x % B) (by omega), Nat.add_zero, hh]
    rw [show n + 1 + (n + 1) = (n + n) + 1 + 1 by omega]
    show _ = x % B + (x / B % B + ds B (n + n) (x / B / B))
    rw [div2]; omega
def le (B c : Nat) : Nat → Nat → Prop
  | 0, _ => True
  | n + 1, x => x % B ≤ c ∧ le B c n (x / B)
theorem step_le (k : Nat) (hk : 0 < k) (c n : Nat) : ∀ x, le (2 ^ k) c (n + n) x → le (2 ^ k * 2 ^ k) (c + c) n ((x / 2 ^ k &&& mk (2 ^ k) n) + (x &&& mk (2 ^ k) n)) := by
  have hB : 2 ≤ 2 ^ k := by
    have : 2 ^ 1 ≤ 2 ^ k := Nat.pow_le_pow_right (by decide) hk
    simpa using this
  induction n with
  | zero => intro x _; trivial
  | succ n ih =>
    intro x h
    rw [show n + 1 + (n + 1) = (n + n) + 1 + 1 by omega] at h
    obtain ⟨h1, h2, h3⟩ := h
    rw [div2] at h3
    have e1 := and_rec k x (mk (2 ^ k) n)
    have e2 := and_rec k (x / 2 ^ k) (mk (2 ^ k) n)
    have hh := ih (x / (2 ^ k * 2 ^ k)) h3
    generalize hBd : 2 ^ k = B at *
    have e3 : x / B / (B * B) = x / (B * B) / B := by rw [Nat.div_div_eq_div_mul, Nat.div_div_eq_div_mul, Nat.mul_comm]
    rw [e3] at e2
    show (_ + _) % (B * B) ≤ c + c ∧ le (B * B) (c + c) n ((_ + _) / (B * B))
    rw [show mk B (n + 1) = (B - 1) + B * B * mk B n from rfl, e1, e2]
    have l0 := Nat.mod_lt x (show 0 < B by omega)
    have l1 := Nat.mod_lt (x / B) (show 0 < B by omega)
    have hBB : B * 2 ≤ B * B := Nat.mul_le_mul_left B hB
    generalize (x / (B * B) / B &&& mk B n) = u at *
    generalize (x / (B * B) &&& mk B n) = v at *
    have e4 : x / B % B + B * B * u + (x % B + B * B * v) = B * B * (u + v) + (x / B % B + x % B) := by rw [Nat.mul_add]; omega
    rw [e4, Nat.mul_add_mod, Nat.mul_add_div (by omega), Nat.mod_eq_of_lt (by omega), Nat.div_eq_of_lt (a := x / B % B + x % B) (by omega), Nat.add_zero]
    exact ⟨by omega, hh⟩
theorem add_first (n : Nat) : ∀ x, le 16 4 (n + n) x → ((x / 16 + x) &&& mk 16 n) = (x / 16 &&& mk 16 n) + (x &&& mk 16 n) := by
  induction n with
  | zero => intro x _; simp [mk]
  | succ n ih =>
    intro x h
    rw [show n + 1 + (n + 1) = (n + n) + 1 + 1 by omega] at h
    obtain ⟨h1, h2, h3⟩ := h
    rw [div2] at h3
    have e1 := and_rec 4 x (mk 16 n)
    have e2 := and_rec 4 (x / 16) (mk 16 n)
    have e3 := and_rec 4 (x / 16 + x) (mk 16 n)
    rw [show (2 : Nat) ^ 4 = 16 by decide] at e1 e2 e3
    have hh := ih (x / (16 * 16)) h3
    rw [show mk 16 (n + 1) = (16 - 1) + 16 * 16 * mk 16 n from rfl, e1, e2, e3]
    rcases n with _ | n
    · rw [show mk 16 0 = 0 from rfl, Nat.and_zero, Nat.and_zero, Nat.and_zero]; omega
    have hd : x / (16 * 16) % 16 ≤ 4 := by
      rw [show n + 1 + (n + 1) = (n + n) + 1 + 1 by omega] at h3
      exact h3.1
    have e4 : (x / 16 + x) / (16 * 16) = x / (16 * 16) / 16 + x / (16 * 16) := by omega
    have e5 : x / 16 / (16 * 16) = x / (16 * 16) / 16 := by omega
    rw [e4, e5, hh]
    omega
theorem le_bits (n : Nat) : ∀ x, le 2 1 n x := by
  induction n with
  | zero => intro x; trivial
  | succ n ih => intro x; exact ⟨by omega, ih _⟩
theorem le_ds8 (x : Nat) (h : le 256 8 8 x) (hx : x < 18446744073709551616) : ∃ b0 b1 b2 b3 b4 b5 b6 b7 : Nat, b0 ≤ 8 ∧ b1 ≤ 8 ∧ b2 ≤ 8 ∧ b3 ≤ 8 ∧ b4 ≤ 8 ∧ b5 ≤ 8 ∧ b6 ≤ 8 ∧ b7 ≤ 8 ∧
    x = b0 + 256 * (b1 + 256 * (b2 + 256 * (b3 + 256 * (b4 + 256 * (b5 + 256 * (b6 + 256 * b7)))))) ∧ ds 256 8 x = b0 + b1 + b2 + b3 + b4 + b5 + b6 + b7 := by
  obtain ⟨h0, h1, h2, h3, h4, h5, h6, h7, _⟩ := h
  refine ⟨_, _, _, _, _, _, _, _, h0, h1, h2, h3, h4, h5, h6, h7, by omega, ?_⟩
  simp only [ds]; omega
theorem last_sums (b0 b1 b2 b3 b4 b5 b6 b7 : Nat) (h0 : b0 ≤ 8) (h1 : b1 ≤ 8) (h2 : b2 ≤ 8) (h3 : b3 ≤ 8) (h4 : b4 ≤ 8) (h5 : b5 ≤ 8) (h6 : b6 ≤ 8) (h7 : b7 ≤ 8) (x y z : Nat)
    (hx : x = b0 + 256 * (b1 + 256 * (b2 + 256 * (b3 + 256 * (b4 + 256 * (b5 + 256 * (b6 + 256 * b7)))))))
    (hy : y = x + x / 256) (hz : z = y + y / 65536) : x < 1300000000000000000 ∧ y < 1400000000000000000 ∧ z < 1500000000000000000 ∧ (z + z / 4294967296) % 128 = b0 + b1 + b2 + b3 + b4 + b5 + b6 + b7 := by
  have ey : y = (b0 + b1) + 256 * ((b1 + b2) + 256 * ((b2 + b3) + 256 * ((b3 + b4) + 256 * ((b4 + b5) + 256 * ((b5 + b6) + 256 * ((b6 + b7) + 256 * b7)))))) := by omega
  have ez : z = (b0 + b1 + b2 + b3) + 256 * ((b1 + b2 + b3 + b4) + 256 * ((b2 + b3 + b4 + b5) + 256 * ((b3 + b4 + b5 + b6) + 256 * ((b4 + b5 + b6 + b7) + 256 * ((b5 + b6 + b7) + 256 * ((b6 + b7) + 256 * b7)))))) := by
    clear hx; omega
  refine ⟨by omega, by clear hx hy; omega, by clear hx hy hz ey; omega, ?_⟩
  clear hx hy hz ey
  have e : z / 4294967296 = (b4 + b5 + b6 + b7) + 256 * ((b5 + b6 + b7) + 256 * ((b6 + b7) + 256 * b7)) := by omega
  rw [e]
  clear e
  omega
end Pop
section
set_option linter.unusedVariables false
set_option linter.unusedSimpArgs false
namespace Go.Proofs.YthdeeoallfbjmaaDoor.Th
open Go.RowKit Go.Proofs.YthdeeoallfbjmaaDoorW.PrintWords Go.Proofs.YthdeeoallfbjmaaDoorW.PrintLast Go.Proofs.YthdeeoallfbjmaaDoorW.PrintMore Go.Proofs.YthdeeoallfbjmaaDoor.PA Bit Dig
def pc1 (x : Int) : Int := IntKind.u64.wrap ((Go.bits .and .u64 (x / 2) 6148914691236517205) + (Go.bits .and .u64 x 6148914691236517205))
def pc2 (x : Int) : Int := IntKind.u64.wrap ((Go.bits .and .u64 (x / 4) 3689348814741910323) + (Go.bits .and .u64 x 3689348814741910323))
def pc3 (x : Int) : Int := Go.bits .and .u64 (IntKind.u64.wrap ((x / 16) + x)) 1085102592571150095
def pc4 (x : Int) : Int := IntKind.u64.wrap (x + (x / 256))
def pc5 (x : Int) : Int := IntKind.u64.wrap (x + (x / 65536))
def pc6 (x : Int) : Int := IntKind.u64.wrap (x + (x / 4294967296))
theorem ones_eq (a : Int) : bits_OnesCount64.f a = some (Go.bits .and .i64 (wrap64 (pc6 (pc5 (pc4 (pc3 (pc2 (pc1 a))))))) 127) := rfl
theorem i64_and127 (a : Nat) (ha : a < 9223372036854775808) : Go.bits .and .i64 (a : Int) 127 = ((a % 128 : Nat) : Int) := by
  show IntKind.i64.wrap ((BitVec.ofInt 64 (a : Int) &&& BitVec.ofInt 64 (127 : Int)).toNat : Int) = _
  rw [BitVec.toNat_and, ofInt_u64 a (by omega), show (127 : Int) = ((127 : Nat) : Int) from rfl, ofInt_u64 127 (by decide), nat_mask7, i64_w, w64_id (by omega) (by omega)]
theorem and_lt (a m : Nat) : a &&& m ≤ m := Nat.and_le_right
theorem pc1N (a : Nat) (ha : a < 18446744073709551616) : pc1 a = (((a / 2 &&& 6148914691236517205) + (a &&& 6148914691236517205) : Nat) : Int) := by
  unfold pc1
  have h1 := and_lt (a / 2) 6148914691236517205
  have h2 := and_lt a 6148914691236517205
  rw [show (a : Int) / 2 = ((a / 2 : Nat) : Int) by omega, show (6148914691236517205 : Int) = ((6148914691236517205 : Nat) : Int) from rfl, u64_and_nat _ _ (by omega) (by decide), u64_and_nat _ _ ha (by decide), u64_id (by omega) (by omega)]
  omega
theorem pc2N (a : Nat) (ha : a < 18446744073709551616) : pc2 a = (((a / 4 &&& 3689348814741910323) + (a &&& 3689348814741910323) : Nat) : Int) := by
  unfold pc2
  have h1 := and_lt (a / 4) 3689348814741910323
  have h2 := and_lt a 3689348814741910323
  rw [show (a : Int) / 4 = ((a / 4 : Nat) : Int) by omega, show (3689348814741910323 : Int) = ((3689348814741910323 : Nat) : Int) from rfl, u64_and_nat _ _ (by omega) (by decide), u64_and_nat _ _ ha (by decide), u64_id (by omega) (by omega)]
  omega
theorem pc3N (a : Nat) (ha : a ≤ 7378697629483820646) : pc3 a = (((a / 16 + a) &&& 1085102592571150095 : Nat) : Int) := by
  unfold pc3
  rw [show (a : Int) / 16 + a = ((a / 16 + a : Nat) : Int) by omega, u64_id (by omega) (by omega), show (1085102592571150095 : Int) = ((1085102592571150095 : Nat) : Int) from rfl, u64_and_nat _ _ (by omega) (by decide)]
theorem onesS (a : Nat) (ha : a < 18446744073709551616) : bits_OnesCount64.f a = some ((Pop.ds 2 64 a : Nat) : Int) := by
  rw [ones_eq, pc1N a ha]
  have k1 := Pop.step 1 (by decide) 32 a
  have k2 := Pop.step_le 1 (by decide) 1 32 a (by rw [show (2 : Nat) ^ 1 = 2 by decide]; exact Pop.le_bits _ _)
  rw [show (2 : Nat) ^ 1 = 2 by decide, show Pop.mk 2 32 = 6148914691236517205 by decide +kernel] at k1 k2
  have b1 := and_lt (a / 2) 6148914691236517205
  have b2 := and_lt a 6148914691236517205
  have b2' : (a / 2 &&& 6148914691236517205) + (a &&& 6148914691236517205) < 18446744073709551616 := by omega
  generalize (a / 2 &&& 6148914691236517205) + (a &&& 6148914691236517205) = y at *
  clear b1 b2
  rw [pc2N y (by omega)]
  have k3 := Pop.step 2 (by decide) 16 y
  have k4 := Pop.step_le 2 (by decide) 2 16 y k2
  rw [show (2 : Nat) ^ 2 = 4 by decide, show Pop.mk 4 16 = 3689348814741910323 by decide +kernel] at k3 k4
  have b3 := and_lt (y / 4) 3689348814741910323
  have b4 := and_lt y 3689348814741910323
  have b4' : (y / 4 &&& 3689348814741910323) + (y &&& 3689348814741910323) ≤ 7378697629483820646 := by omega
  generalize (y / 4 &&& 3689348814741910323) + (y &&& 3689348814741910323) = z at *
  clear b3 b4
  rw [pc3N z (by omega)]
  have k5 := Pop.step 4 (by decide) 8 z
  have k6 := Pop.step_le 4 (by decide) 4 8 z k4
  have k7 := Pop.add_first 8 z k4
  rw [show (2 : Nat) ^ 4 = 16 by decide, ← k7, show Pop.mk 16 8 = 1085102592571150095 by decide +kernel] at k5 k6
  have b5 := and_lt (z / 16 + z) 1085102592571150095
  generalize (z / 16 + z) &&& 1085102592571150095 = u at *
  obtain ⟨c0, c1, c2, c3, c4, c5, c6, c7, h0, h1, h2, h3, h4, h5, h6, h7, hx, hs⟩ := Pop.le_ds8 u k6 (by omega)
  obtain ⟨l1, l2, l3, l4⟩ := Pop.last_sums c0 c1 c2 c3 c4 c5 c6 c7 h0 h1 h2 h3 h4 h5 h6 h7 u _ _ hx rfl rfl
  have k1' : Pop.ds 4 32 _ = Pop.ds 2 64 a := k1
  clear k1 k2 k4 k6 k7 b2' b4' b5
  have hs' : Pop.ds 256 8 u = Pop.ds 2 64 a := k5.trans (k3.trans k1')
  rw [hs'] at hs
  clear k3 k5 k1' hs' hx
  have e4 : pc4 u = ((u + u / 256 : Nat) : Int) := by unfold pc4; rw [u64_id (by omega) (by omega)]; omega
  generalize hv : u + u / 256 = v at *
  have e5 : pc5 v = ((v + v / 65536 : Nat) : Int) := by unfold pc5; rw [u64_id (by omega) (by omega)]; omega
  generalize hw : v + v / 65536 = w at *
  have e6 : pc6 w = ((w + w / 4294967296 : Nat) : Int) := by unfold pc6; rw [u64_id (by omega) (by omega)]; omega
  rw [e4, e5, e6, w64_id (by omega) (by omega)]
  rw [i64_and127 _ (by omega), l4, ← hs]
theorem popS (w : Int) (hw : w = 32 ∨ w = 64) (a : Nat) (ha : a < 18446744073709551616) : ints_Popcnt.f w a = some ((Pop.ds 2 64 (a % pw w) : Nat) : Int) := by
  unfold ints_Popcnt.f
  have h1 := Nat.mod_le a (pw w)
  rw [shCut w a ha, Option.bind_some, cutP w hw a ha, onesS _ (by omega), Option.bind_some]
  have hb : ∀ n x, Pop.ds 2 n x ≤ n := by
    intro n
    induction n with
    | zero => intro x; exact Nat.le_refl _
    | succ n ih => intro x; have := ih (x / 2); show x % 2 + Pop.ds 2 n (x / 2) ≤ n + 1; omega
  have h2 := hb 64 (a % pw w)
  rw [u64_id (by omega) (by omega)]
theorem bitLen_aux (f : Nat) : ∀ x, x < 2 ^ f → Lib.bitLenAux f x = bl x := by
  induction f with
  | zero => intro x h; obtain rfl : x = 0 := by simpa using h
            rfl
  | succ f ih =>
    intro x h
    unfold Lib.bitLenAux
    by_cases h0 : x = 0
    · rw [if_pos h0, h0, bl_zero]
    · rw [if_neg h0, ih _ (by rw [Nat.pow_succ] at h; omega), bl_half (show 0 < x by omega)]; omega
theorem bitLen_bl {x : Nat} (h : x < 18446744073709551616) : Lib.bitLen x = bl x := bitLen_aux 64 x h
theorem blP (w : Int) (hw : w = 32 ∨ w = 64) (c : Nat) (hc : c < pw w) : bl c ≤ w.toNat := by
  rw [pw_pow w hw] at hc
  exact bl_le.2 hc
theorem dClz (w : Int) (hw : w = 32 ∨ w = 64) (a : Nat) (ha : a < 18446744073709551616) : ints_Clz.f w a = some ((w.toNat - bl (a % pw w) : Nat) : Int) := by
  unfold ints_Clz.f bits_Len64.f
  have hc : a % pw w < pw w := Nat.mod_lt _ (pw_0 w)
  have h64 := pw_64 w
  have hb := blP w hw _ hc
  rw [known13, decide_eq_true hw, Option.bind_some, if_pos rfl, shCut w a ha, cutP w hw a ha, Option.bind_some, if_pos (by omega), Option.bind_some, Int.toNat_natCast, bitLen_bl (by omega)]
  have hw2 : 0 ≤ w ∧ w ≤ 64 := by omega
  rw [w64_id (by omega) (by omega), u64_id (by omega) (by omega)]
  congr 1; omega
theorem ctz_le (c : Nat) (hc : c < 18446744073709551616) : Lib.ctz 64 c ≤ 64 := by
  unfold Lib.ctz
  split
  · exact Nat.le_refl _
  · rename_i h
    obtain ⟨m, _, h2⟩ := Lib.ctzFrom_spec 64 c (by omega) (by simpa using hc)
    omega
theorem ctz_spec (w : Int) (hw : w = 32 ∨ w = 64) (c : Nat) (hc : c < pw w) (h0 : 0 < c) : ∃ m, c = 2 ^ Lib.ctz 64 c * (2 * m + 1) ∧ Lib.ctz 64 c < bl c := by
  have h64 := pw_64 w
  obtain ⟨m, h1, h2⟩ := Lib.ctzFrom_spec 64 c h0 (by have : c < 18446744073709551616 := by omega
                                                     simpa using this)
  have e : Lib.ctz 64 c = Lib.ctzFrom 64 c := by unfold Lib.ctz; rw [if_neg (by omega)]
  refine ⟨m, by rw [e]; exact h1, ?_⟩
  rw [e]
  rcases Nat.lt_or_ge (Lib.ctzFrom 64 c) (bl c) with h | h
  · exact h
  · exfalso
    have k := bl_le.1 h
    have : 2 ^ Lib.ctzFrom 64 c ≤ 2 ^ Lib.ctzFrom 64 c * (2 * m + 1) := Nat.le_mul_of_pos_right _ (by omega)
    omega
theorem dCtz (w : Int) (hw : w = 32 ∨ w = 64) (a : Nat) (ha : a < 18446744073709551616) : ints_Ctz.f w a = some ((min w.toNat (Lib.ctz 64 (a % pw w)) : Nat) : Int) := by
  unfold ints_Ctz.f bits_TrailingZeros64.f
  have hc : a % pw w < pw w := Nat.mod_lt _ (pw_0 w)
  have h64 := pw_64 w
  have hl := ctz_le (a % pw w) (by omega)
  rw [known13, decide_eq_true hw, Option.bind_some, if_pos rfl, shCut w a ha, cutP w hw a ha, Option.bind_some, if_pos (by omega), Option.bind_some, Int.toNat_natCast]
  have hw2 : 0 ≤ w ∧ w ≤ 64 := by omega
  have e : mn w ((Lib.ctz 64 (a % pw w) : Nat) : Int) = ((min w.toNat (Lib.ctz 64 (a % pw w)) : Nat) : Int) := by unfold mn; split <;> omega
  rw [e, u64_id (by omega) (by omega)]
theorem ds_zero (n : Nat) : ∀ x, x < 2 ^ n → (Pop.ds 2 n x = 0 ↔ x = 0) := by
  induction n with
  | zero => intro x h; simp at h; subst h; simp [Pop.ds]
  | succ n ih =>
    intro x h
    rw [Nat.pow_succ] at h
    have := ih (x / 2) (by omega)
    show x % 2 + Pop.ds 2 n (x / 2) = 0 ↔ _
    omega
theorem bl_lo (c : Nat) (h0 : 0 < c) : 2 ^ (bl c - 1) ≤ c := by
  rcases Nat.lt_or_ge c (2 ^ (bl c - 1)) with h | h
  · exfalso
    have := bl_le.2 h
    have h1 : 0 < bl c := by
      rcases Nat.eq_zero_or_pos (bl c) with e | e
      · have := bl_le.1 (Nat.le_of_eq e); simp at this; omega
      · exact e
    omega
  · exact h
theorem bl_pos' (c : Nat) (h0 : 0 < c) : 0 < bl c := by
  rcases Nat.eq_zero_or_pos (bl c) with e | e
  · have := bl_le.1 (Nat.le_of_eq e); simp at this; omega
  · exact e
theorem and_one (x : Nat) (h : x < 18446744073709551616) : Go.bits .and .u64 (x : Int) 1 = ((x % 2 : Nat) : Int) := by
  rw [show (1 : Int) = ((1 : Nat) : Int) from rfl, u64_and_nat _ _ h (by decide), Nat.and_one_is_mod]
theorem IntsRunsP : L13_IntsRuns.Pure := by
  intro w a hw0 ha0
  obtain ⟨ha1, ha2⟩ := wf_u64 ha0
  obtain ⟨a, rfl⟩ := Int.eq_ofNat_of_zero_le ha1
  have ha : a < 18446744073709551616 := by omega
  refine Ev.rounds ?_
  unfold L13_IntsRuns.f
  refine Ev.bs awake13 (Ev.pos rfl ?_)
  by_cases hw : w = 32 ∨ w = 64
  · have main : Ev (fun k => L13_IntsRuns.j0 k w a false) true := by
      refine Ev.step (fun _ => L13_IntsRuns.j0.eq_2 ..) (Ev.neg (by decide) (Ev.bs (dClz w hw a ha) (Ev.bs (dCtz w hw a ha) (Ev.bs (popS w hw a ha) ?_))))
      have hc : a % pw w < pw w := Nat.mod_lt _ (pw_0 w)
      have h64 := pw_64 w
      have hw2 : w.toNat = 32 ∨ w.toNat = 64 := by rcases hw with rfl | rfl <;> simp
      have hwi : (w.toNat : Int) = w := by omega
      have hp := pw_pow w hw
      have hz := ds_zero 64 (a % pw w) (by have : a % pw w < 18446744073709551616 := by omega
                                           simpa using this)
      by_cases z : a % pw w = 0
      · refine Ev.pos (by rw [hz.2 z]; rfl) (Ev.pos ?_ (Ev.out ?_))
        · rw [z, u64_id (by omega) (by omega)]
          have : bl 0 = 0 := by decide
          rw [this]; omega
        · rw [z]
          have h1 : Lib.ctz 64 0 = 64 := rfl
          have h2 : bl 0 = 0 := by decide
          rw [h1, h2, beq_iff_eq]; omega
      · have c0 : 0 < a % pw w := by omega
        refine Ev.neg (by have := hz.1; omega) ?_
        obtain ⟨m, hm, hk⟩ := ctz_spec w hw (a % pw w) hc c0
        have hb := blP w hw _ hc
        have hbp := bl_pos' _ c0
        have hlo := bl_lo _ c0
        have hhi := bl_le.1 (Nat.le_refl (bl (a % pw w)))
        rw [Nat.min_eq_right (show Lib.ctz 64 (a % pw w) ≤ w.toNat by omega)]
        have hS : ∀ u, u < w.toNat → a * 2 ^ u % pw w = a % pw w * 2 ^ u % pw w := fun u _ => by rw [Nat.mod_mul_mod]
        generalize hcc : a % pw w = c at *
        generalize hkk : Lib.ctz 64 c = t at *
        have hu : w.toNat - bl c < w.toNat := by omega
        generalize huu : w.toNat - bl c = u at *
        have eu : u % w.toNat = u := Nat.mod_eq_of_lt hu
        have et : t % w.toNat = t := Nat.mod_eq_of_lt (by omega)
        have p1 : 2 ^ (bl c) * 2 ^ u = 2 ^ w.toNat := by rw [← Nat.pow_add, show bl c + u = w.toNat by omega]
        have p2 : 2 ^ (bl c - 1) * 2 ^ u = 2 ^ (w.toNat - 1) := by rw [← Nat.pow_add, show bl c - 1 + u = w.toNat - 1 by omega]
        have p3 : 2 ^ w.toNat = 2 * 2 ^ (w.toNat - 1) := by rw [← Nat.pow_succ', show (w.toNat - 1).succ = w.toNat by omega]
        have pu : 0 < 2 ^ u := Nat.pow_pos (by decide)
        have l1 : c * 2 ^ u < 2 ^ w.toNat := by rw [← p1]; exact Nat.mul_lt_mul_of_pos_right hhi pu
        have l2 : 2 ^ (w.toNat - 1) ≤ c * 2 ^ u := by rw [← p2]; exact Nat.mul_le_mul_right _ hlo
        have s1 := shlS w hw a u ha (by omega)
        rw [eu, hS u hu, Nat.mod_eq_of_lt (by rw [hp]; exact l1)] at s1
        refine Ev.bs s1 (Ev.pos (by rw [w64_id (by omega) (by omega)]; omega) (Ev.pos ?_ ?_))
        · rw [w64_id (by omega) (by omega), show w - 1 = ((w.toNat - 1 : Nat) : Int) by omega, shrN _ _ (by omega)]
          have : c * 2 ^ u / 2 ^ (w.toNat - 1) = 1 := by
            refine Nat.div_eq_of_lt_le ?_ ?_ <;> omega
          rw [this]; rfl
        · have r1 := shrUS w hw a t ha (by omega)
          rw [et, hcc] at r1
          have q1 : c / 2 ^ t = 2 * m + 1 := by rw [hm, Nat.mul_div_cancel_left _ (Nat.pow_pos (by decide))]
          rw [q1] at r1
          have lm : 2 * m + 1 ≤ c := by rw [← q1]; exact Nat.div_le_self _ _
          refine Ev.bs r1 (Ev.pos ?_ (Ev.bs s1 ?_))
          · rw [and_one _ (by omega)]; omega
          · have r2 := shrUS w hw (c * 2 ^ u) u (by omega) (by omega)
            rw [eu, Nat.mod_eq_of_lt (show c * 2 ^ u < pw w by rw [hp]; exact l1), Nat.mul_div_cancel _ pu] at r2
            refine Ev.bs r2 ?_
            have a1 := addS w hw a 0 ha (by decide)
            rw [Nat.add_zero, hcc] at a1
            refine Ev.bs a1 (Ev.pos rfl (Ev.out ?_))
            rw [decide_eq_true_iff, u64_id (by omega) (by omega), u64_id (by omega) (by omega)]
            omega
    rcases hw with rfl | rfl
    · exact Ev.pos rfl main
    · exact Ev.neg (by decide) main
  · refine Ev.neg (by omega) (Ev.step (fun _ => L13_IntsRuns.j0.eq_2 ..) (Ev.pos ?_ (Ev.out rfl)))
    rw [bne_iff_ne]; omega
end Go.Proofs.YthdeeoallfbjmaaDoor.Th
end
namespace Go.Proofs.YthdeeoallfbjmaaDoor.Pure
theorem IntsRuns : Go.Proofs.YthdeeoallfbjmaaDoor.PA.L13_IntsRuns.Pure := Go.Proofs.YthdeeoallfbjmaaDoor.Th.IntsRunsP
end Go.Proofs.YthdeeoallfbjmaaDoor.Pure
namespace Go.Proofs.YthdeeoallfbjmaaDoor.Facts
abbrev ch (n : Nat) : Char := Char.ofNat n
theorem words_word (w : List Char) (r : List Char) (h : w.all (fun c => c != ch 32) = true) : wordsSigns (w ++ ch 32 :: r) = w :: wordsSigns r := by
  induction w with
  | nil => rfl
  | cons c w ih =>
    rw [List.all_cons, Bool.and_eq_true] at h
    have hc : c ≠ ch 32 := bne_iff_ne.1 h.1
    rw [List.cons_append]
    rw [wordsSigns.eq_3 c _ (fun e => hc e), ih h.2]
def w1 : List Char := [ch 104, ch 97, ch 114, ch 110, ch 101, ch 115, ch 115]
def w2 : List Char := [ch 98, ch 57, ch 54, ch 51, ch 49, ch 48, ch 49, ch 55, ch 56, ch 57, ch 57, ch 48, ch 102, ch 51, ch 56, ch 101, ch 50, ch 100, ch 48, ch 100, ch 54, ch 53, ch 99, ch 52, ch 55, ch 101, ch 100, ch 50, ch 53, ch 102, ch 54, ch 98, ch 98, ch 52, ch 57, ch 102, ch 54, ch 48, ch 55, ch 48, ch 52, ch 51, ch 99, ch 50, ch 101, ch 56, ch 100, ch 98, ch 55, ch 102, ch 56, ch 97, ch 102, ch 48, ch 55, ch 97, ch 55, ch 49, ch 100, ch 56, ch 50, ch 54, ch 99, ch 48]
def w3 : List Char := [ch 99, ch 117, ch 116]
set_option maxRecDepth 100000 in
def tailSigns : List Char := [ch 97, ch 116, ch 32, ch 116, ch 114, ch 117, ch 110, ch 110, ch 105, ch 111, ch 110, ch 47, ch 116, ch 114, ch 117, ch 110, ch 110, ch 105, ch 111, ch 110, ch 108, ch 97, ch 119, ch 49, ch 51, ch 46, ch 73, ch 110, ch 116, ch 115, ch 82, ch 117, ch 110, ch 115, ch 32, ch 116, ch 114, ch 117, ch 110, ch 110, ch 105, ch 111, ch 110, ch 47, ch 116, ch 114, ch 117, ch 110, ch 110, ch 105, ch 111, ch 110, ch 108, ch 97, ch 119, ch 49, ch 51, ch 46, ch 73, ch 110, ch 116, ch 115, ch 67, ch 111, ch 117, ch 110, ch 116, ch 115, ch 32, ch 116, ch 114, ch 117, ch 110, ch 110, ch 105, ch 111, ch 110, ch 47, ch 116, ch 114, ch 117, ch 110, ch 110, ch 105, ch 111, ch 110, ch 108, ch 97, ch 119, ch 49, ch 49, ch 46, ch 67, ch 97, ch 115, ch 116, ch 77, ch 97, ch 107, ch 101, ch 115, ch 32, ch 116, ch 114, ch 117, ch 110, ch 110, ch 105, ch 111, ch 110, ch 47, ch 116, ch 114, ch 117, ch 110, ch 110, ch 105, ch 111, ch 110, ch 108, ch 97, ch 119, ch 49, ch 49, ch 46, ch 67, ch 97, ch 115, ch 116, ch 66, ch 97, ch 99, ch 107, ch 32, ch 116, ch 114, ch 117, ch 110, ch 110, ch 105, ch 111, ch 110, ch 47, ch 116, ch 114, ch 117, ch 110, ch 110, ch 105, ch 111, ch 110, ch 108, ch 97, ch 119, ch 49, ch 50, ch 46, ch 67, ch 104, ch 111, ch 112, ch 66, ch 97, ch 99, ch 107]
set_option maxRecDepth 100000 in
theorem head_list : Tryd.prog.initOrder.toList = w1 ++ ch 32 :: (w2 ++ ch 32 :: (w3 ++ ch 32 :: tailSigns)) :=
  (congrArg String.toList (show Tryd.prog.initOrder = String.ofList (w1 ++ ch 32 :: (w2 ++ ch 32 :: (w3 ++ ch 32 :: tailSigns))) from rfl)).trans String.toList_ofList
theorem words : ∃ rest, behindMainWord (wordsSigns Tryd.prog.initOrder.toList) = w3 :: rest := by
  refine ⟨wordsSigns tailSigns, ?_⟩
  rw [head_list, words_word w1 _ (by kernel_rfl), words_word w2 _ (by kernel_rfl), words_word w3 _ (by kernel_rfl)]
  generalize wordsSigns tailSigns = rest
  have e : ((w1 == "harness".toList || w1 == "ownmain".toList) && isSumSigns w2) = true := by kernel_rfl
  show (if ((w1 == "harness".toList || w1 == "ownmain".toList) && isSumSigns w2) = true then w3 :: rest else w1 :: w2 :: w3 :: rest) = w3 :: rest
  rw [if_pos e]
theorem c3 : (w3 == "gc".toList) = false ∧ (w3 == "spec".toList) = false ∧ (w3 == "cut".toList) = true ∧ (w3 == "carried".toList) = false ∧ (w3 == "finals".toList) = false := ⟨by kernel_rfl, by kernel_rfl, by kernel_rfl, by kernel_rfl, by kernel_rfl⟩
theorem strip (rest : List (List Char)) : stripLifts liftWords (w3 :: rest) = ([], w3 :: rest) := by
  have key : ∀ l : List String, l.all (fun o => !(w3 == o.toList)) = true → stripLifts l (w3 :: rest) = ([], w3 :: rest) := by
    intro l
    induction l with
    | nil => intro _; rfl
    | cons o l ih =>
      intro h
      rw [List.all_cons, Bool.and_eq_true] at h
      unfold stripLifts
      rw [if_neg (fun e => by have h1 := h.1; rw [e] at h1; cases h1)]
      exact ih h.2
  exact key liftWords (by kernel_rfl)
theorem make_of (P : Program) (h : ∃ rest, behindMainWord (wordsSigns P.initOrder.toList) = w3 :: rest) : P.make = some .cut := by
  obtain ⟨rest, h⟩ := h
  unfold Program.make
  rw [h]
  show (if (w3 == "gc".toList || w3 == "spec".toList) = true then some Make.whole else if (w3 == "cut".toList || (w3 == "finals".toList && rest.head? == some "cut".toList)) = true then some Make.cut else _) = some Make.cut
  rw [if_neg (by rw [c3.1, c3.2.1]; decide), if_pos (by rw [c3.2.2.1, Bool.true_or])]
set_option maxRecDepth 100000 in
theorem liftsFact : Tryd.prog.liftsFinal = false := by
  unfold Program.liftsFinal Program.headLifts
  rw [head_list]
  kernel_rfl
theorem doorFact : (!Tryd.prog.laysLater && !Tryd.prog.bearsReflect && Tryd.prog.doorFits []) = true := by kernel_rfl
theorem makeFact : Tryd.prog.make = some .cut := make_of _ words
theorem enter_of (P : Program) (h : ∃ rest, behindMainWord (wordsSigns P.initOrder.toList) = w3 :: rest) (d : (!P.laysLater && !P.bearsReflect && P.doorFits []) = true) : P.mayEnter = true := by
  obtain ⟨rest, h⟩ := h
  rw [Bool.and_eq_true, Bool.and_eq_true] at d
  have e : ((some w3 == some "cut".toList) : Bool) = true := by kernel_rfl
  unfold Program.mayEnter
  rw [h]
  show ((_ || _) || ((stripLifts liftWords (w3 :: rest)).2.head? == some "cut".toList && ((stripLifts liftWords (w3 :: rest)).1.contains "finals" || !P.laysLater) && ((stripLifts liftWords (w3 :: rest)).1.contains "reflectrows" || !P.bearsReflect) &&
      ((stripLifts liftWords (w3 :: rest)).1.contains "reflectrows" || !(stripLifts liftWords (w3 :: rest)).1.contains "leanrows") && P.doorFits (stripLifts liftWords (w3 :: rest)).1)) = true
  rw [strip, Bool.or_eq_true]
  refine .inr ?_
  rw [Bool.and_eq_true, Bool.and_eq_true, Bool.and_eq_true, Bool.and_eq_true, Bool.or_eq_true, Bool.or_eq_true]
  exact ⟨⟨⟨⟨e, .inr d.1.1⟩, .inr d.1.2⟩, rfl⟩, d.2⟩
theorem enterFact : Tryd.prog.mayEnter = true := enter_of _ words doorFact
end Go.Proofs.YthdeeoallfbjmaaDoor.Facts
