/- What the Go functions that the statement TopRoots reaches compute, and the mathematics on it, in the order in which one leans on the other; for every input. -/
import Derived.Test.YtnmlmgmljoncoaaGreatDoorVTopRoots1
import Derived.Test.YtnmlmgmljoncoaaGreatDoorMTopRoots6
import Derived.Test.YtnmlmgmljoncoaaGreatDoorMTopRoots7
import Derived.Test.YtnmlmgmljoncoaaGreatDoorMTopRoots1
import Derived.Test.YtnmlmgmljoncoaaGreatDoorMTopRoots2
import Derived.Test.YtnmlmgmljoncoaaGreatDoorMTopRoots0
import Derived.Test.YtnmlmgmljoncoaaGreatDoorMTopRoots5
import Derived.Deep.RegionHeld3
import Derived.Shelf.Spec.BitsCarry
import Derived.Deep.DeepCutAuto
import Derived.Test.YtnmlmgmljoncoaaGreatDoorMTopRoots4
import Derived.Test.YtnmlmgmljoncoaaGreatDoorMTopRoots3
section
set_option linter.unusedVariables false
set_option linter.unusedSimpArgs false
namespace Go.Proofs.YtnmlmgmljoncoaaGreatDoor.Th
open Go.RowKit Go.Proofs.YtnmlmgmljoncoaaGreatDoorW.PrintWords Go.Proofs.YtnmlmgmljoncoaaGreatDoorW.PrintLast Go.Proofs.YtnmlmgmljoncoaaGreatDoorW.PrintMore Go.Proofs.YtnmlmgmljoncoaaGreatDoor.PA Bit Dig
def wn (h l : Nat) : Nat := h * 18446744073709551616 + l
theorem wn_hi {h l : Nat} (hl : l < 18446744073709551616) : wn h l / 18446744073709551616 = h := by unfold wn; omega
theorem wn_lo {h l : Nat} (hl : l < 18446744073709551616) : wn h l % 18446744073709551616 = l := by unfold wn; omega
theorem wn_div (V : Nat) : wn (V / 18446744073709551616) (V % 18446744073709551616) = V := by unfold wn; omega
theorem wn_lt {h l : Nat} (hh : h < 18446744073709551616) (hl : l < 18446744073709551616) : wn h l < 340282366920938463463374607431768211456 := by unfold wn; omega
theorem p128 : (340282366920938463463374607431768211456 : Nat) = 2 ^ 128 := by decide
theorem p64 : (18446744073709551616 : Nat) = 2 ^ 64 := by decide
theorem bl_128 {n : Nat} (h : n < 340282366920938463463374607431768211456) : bl n ≤ 128 := bl_le.2 h
theorem bitLen_aux (f : Nat) : ∀ x, x < 2 ^ f → Lib.bitLenAux f x = bl x := by
  induction f with
  | zero => intro x h; obtain rfl : x = 0 := by simpa using h
            rfl
  | succ f ih =>
    intro x h
    unfold Lib.bitLenAux
    by_cases h0 : x = 0
    · rw [if_pos h0, h0, bl_zero]
    · rw [if_neg h0, ih _ (by rw [Nat.pow_succ] at h; omega), bl_half (show 0 < x by omega)]; omega
theorem bitLen_bl {x : Nat} (h : x < 18446744073709551616) : Lib.bitLen x = bl x := bitLen_aux 64 x h
theorem mulW (x y : Nat) (hx : x < 18446744073709551616) (hy : y < 18446744073709551616) : wide_Mul.f x y = some (((x * y / 18446744073709551616 : Nat) : Int), ((x * y % 18446744073709551616 : Nat) : Int)) := by
  unfold wide_Mul.f bits_Mul64.f
  rw [if_pos (by omega)]; rfl
theorem cmpW (a b c d : Nat) (hb : b < 18446744073709551616) (hd : d < 18446744073709551616) : wide_Cmp.f a b c d = some (cmpN (wn a b) (wn c d)) := by
  unfold wide_Cmp.f wide_order.f cmpN wn
  by_cases h : (a : Int) = c
  · have h : a = c := by omega
    subst h
    rw [if_pos rfl]
    by_cases h1 : (b : Int) < d
    · rw [if_pos h1, if_pos (by omega)]; rfl
    · rw [if_neg h1]
      by_cases h2 : (b : Int) > d
      · rw [if_pos h2, if_neg (by omega), if_pos (by omega)]; rfl
      · rw [if_neg h2, if_neg (by omega), if_neg (by omega)]; rfl
  · rw [if_neg h]
    by_cases h1 : (a : Int) < c
    · rw [if_pos h1, if_pos (by omega)]; rfl
    · rw [if_neg h1]
      have h2 : (a : Int) > c := by omega
      rw [if_pos h2, if_neg (by omega), if_pos (by omega)]; rfl
theorem lenW (a b : Nat) (ha : a < 18446744073709551616) (hb : b < 18446744073709551616) : wide_Len.f a b = some ((bl (wn a b) : Nat) : Int) := by
  unfold wide_Len.f bits_Len64.f
  rw [if_pos (show 0 ≤ (a : Int) ∧ (a : Int) ≤ 18446744073709551615 by omega), if_pos (show 0 ≤ (b : Int) ∧ (b : Int) ≤ 18446744073709551615 by omega)]
  by_cases h : (a : Int) > 0
  · rw [if_pos h, Option.bind_some, Int.toNat_natCast, bitLen_bl ha]
    have h1 := bl64 ha
    have h2 := bl_add_low a b 64 (by omega) hb
    rw [w64_id (by omega) (by omega)]
    unfold wn
    rw [p64, h2]; congr 1; omega
  · rw [if_neg h, Option.bind_some, Int.toNat_natCast, bitLen_bl hb]
    have : a = 0 := by omega
    subst this
    unfold wn; rw [Nat.zero_mul, Nat.zero_add]
theorem shlN (c n : Nat) (hn : n < 64) : shl .u64 (c : Int) (n : Int) = ((c * 2 ^ n % 18446744073709551616 : Nat) : Int) := by
  unfold shl
  rw [show min ((n : Int)).toNat IntKind.u64.bits = n by rw [show IntKind.u64.bits = 64 by decide]; omega, IntKind.wrap_u64]
  have hp : (2 : Int) ^ n = ((2 ^ n : Nat) : Int) := by rw [Int.natCast_pow]; rfl
  rw [hp, ← Int.natCast_mul]; omega
theorem shrN' (c n : Nat) (hn : n < 64) : shr .u64 (c : Int) (n : Int) = ((c / 2 ^ n : Nat) : Int) := by
  unfold shr
  rw [show min ((n : Int)).toNat IntKind.u64.bits = n by rw [show IntKind.u64.bits = 64 by decide]; omega]
  have hp : (2 : Int) ^ n = ((2 ^ n : Nat) : Int) := by rw [Int.natCast_pow]; rfl
  rw [hp]; omega
theorem or_add (x y n : Nat) (hn : n ≤ 64) (hx : 2 ^ n ∣ x) (hy : y < 2 ^ n) (h : x < 18446744073709551616) (h2 : y < 18446744073709551616) : Go.bits .or .u64 (x : Int) (y : Int) = ((x + y : Nat) : Int) := by
  rw [u64_or_nat x y h h2]
  congr 1
  obtain ⟨c, rfl⟩ := hx
  rw [Nat.or_comm, Nat.mul_comm, or_pow y c n hy]; omega
theorem left_arith (h l n : Nat) (h0 : 0 < n) (hn : n < 64) (hl : l < 2 ^ 64) :
    wn h l * 2 ^ n % 2 ^ 128 / 2 ^ 64 = h * 2 ^ n % 2 ^ 64 + l / 2 ^ (64 - n) ∧ wn h l * 2 ^ n % 2 ^ 128 % 2 ^ 64 = l * 2 ^ n % 2 ^ 64 ∧ 2 ^ n ∣ h * 2 ^ n % 2 ^ 64 ∧ l / 2 ^ (64 - n) < 2 ^ n := by
  have hd : l / 2 ^ (64 - n) < 2 ^ n := by
    rw [Nat.div_lt_iff_lt_mul (Nat.pow_pos (by decide)), ← Nat.pow_add, show n + (64 - n) = 64 by omega]; exact hl
  have e64 : 2 ^ 64 = 2 ^ n * 2 ^ (64 - n) := by rw [← Nat.pow_add]; congr 1; omega
  have hdv : 2 ^ n ∣ h * 2 ^ n % 2 ^ 64 := by
    rw [e64]; exact (Nat.dvd_mod_iff (Nat.dvd_mul_right _ _)).2 (Nat.dvd_mul_left _ _)
  have hq : l * 2 ^ n = l / 2 ^ (64 - n) * 2 ^ 64 + l * 2 ^ n % 2 ^ 64 := by
    have h1 := Nat.div_add_mod (l * 2 ^ n) (2 ^ 64)
    have h2 : l * 2 ^ n / 2 ^ 64 = l / 2 ^ (64 - n) := by
      rw [e64, Nat.mul_comm l, Nat.mul_div_mul_left _ _ (Nat.pow_pos (by decide))]
    rw [h2, Nat.mul_comm] at h1
    omega
  have hlow := Nat.mod_lt (l * 2 ^ n) (show 0 < 2 ^ 64 by decide)
  have hhi := Nat.mod_lt (h * 2 ^ n) (show 0 < 2 ^ 64 by decide)
  have hh := Nat.div_add_mod (h * 2 ^ n) (2 ^ 64)
  have hv : wn h l * 2 ^ n = 2 ^ 128 * (h * 2 ^ n / 2 ^ 64) + ((h * 2 ^ n % 2 ^ 64 + l / 2 ^ (64 - n)) * 2 ^ 64 + l * 2 ^ n % 2 ^ 64) := by
    unfold wn
    rw [Nat.add_mul, p64, Nat.mul_right_comm, hq]
    generalize h * 2 ^ n = u at *
    generalize l * 2 ^ n % 2 ^ 64 = v at *
    rw [show (2 : Nat) ^ 128 = 340282366920938463463374607431768211456 by decide]
    rw [show (2 : Nat) ^ 64 = 18446744073709551616 by decide] at *
    omega
  have hs : h * 2 ^ n % 2 ^ 64 + l / 2 ^ (64 - n) < 2 ^ 64 := by
    obtain ⟨c, hc⟩ := hdv
    have h3 : c < 2 ^ (64 - n) := by
      rw [hc, e64] at hhi
      exact Nat.lt_of_mul_lt_mul_left hhi
    have h4 : 2 ^ n * (c + 1) ≤ 2 ^ n * 2 ^ (64 - n) := Nat.mul_le_mul_left _ h3
    rw [← e64, Nat.mul_add, Nat.mul_one, ← hc] at h4
    omega
  have hm : wn h l * 2 ^ n % 2 ^ 128 = (h * 2 ^ n % 2 ^ 64 + l / 2 ^ (64 - n)) * 2 ^ 64 + l * 2 ^ n % 2 ^ 64 := by
    rw [hv, Nat.mul_add_mod, Nat.mod_eq_of_lt]
    generalize h * 2 ^ n % 2 ^ 64 + l / 2 ^ (64 - n) = s at *
    generalize l * 2 ^ n % 2 ^ 64 = v at *
    rw [show (2 : Nat) ^ 128 = 340282366920938463463374607431768211456 by decide]
    rw [show (2 : Nat) ^ 64 = 18446744073709551616 by decide] at *
    omega
  refine ⟨?_, ?_, hdv, hd⟩
  · rw [hm, Nat.mul_comm, Nat.mul_add_div (by decide), Nat.div_eq_of_lt hlow, Nat.add_zero]
  · rw [hm, Nat.mul_comm, Nat.mul_add_mod, Nat.mod_mod]
def lfV (a : Nat) (n : Int) : Nat := a * 2 ^ n.toNat % 340282366920938463463374607431768211456
theorem leftW (h l : Nat) (n : Int) (hh : h < 18446744073709551616) (hl : l < 18446744073709551616) (hn : n < 9223372036854775808) :
    wide_Left.f h l n = some (((lfV (wn h l) n / 18446744073709551616 : Nat) : Int), ((lfV (wn h l) n % 18446744073709551616 : Nat) : Int)) := by
  unfold wide_Left.f lfV
  have hw := wn_lt hh hl
  by_cases h0 : n ≤ 0
  · rw [if_pos h0, show n.toNat = 0 by omega, Nat.pow_zero, Nat.mul_one, Nat.mod_eq_of_lt hw, wn_hi hl, wn_lo hl]
  · rw [if_neg h0]
    obtain ⟨m, rfl⟩ := Int.eq_ofNat_of_zero_le (show 0 ≤ n by omega)
    rw [Int.toNat_natCast]
    by_cases h1 : (m : Int) ≥ 128
    · rw [if_pos h1, p128, show m = 128 + (m - 128) by omega, Nat.pow_add, Nat.mul_left_comm, Nat.mul_mod_right]; rfl
    · rw [if_neg h1]
      by_cases h2 : (m : Int) ≥ 64
      · rw [if_pos h2, w64_id (by omega) (by omega), if_pos (by omega), show (m : Int) - 64 = ((m - 64 : Nat) : Int) by omega, shlN _ _ (by omega)]
        have e : wn h l * 2 ^ m % 340282366920938463463374607431768211456 = l * 2 ^ (m - 64) % 18446744073709551616 * 18446744073709551616 := by
          rw [show 2 ^ m = 2 ^ (m - 64) * 18446744073709551616 by rw [p64, ← Nat.pow_add]; congr 1; omega, ← Nat.mul_assoc, show (340282366920938463463374607431768211456 : Nat) = 18446744073709551616 * 18446744073709551616 by decide, Nat.mul_mod_mul_right]
          congr 1
          unfold wn
          rw [Nat.add_mul, Nat.mul_right_comm, Nat.add_comm, Nat.add_mul_mod_self_right]
        rw [e, Nat.mul_div_cancel _ (by decide), Nat.mul_mod_left]; rfl
      · rw [if_neg h2, if_pos (by omega), w64_id (by omega) (by omega), if_pos (by omega), show (64 : Int) - m = ((64 - m : Nat) : Int) by omega, shlN _ _ (by omega), shlN _ _ (by omega), shrN' _ _ (by omega)]
        obtain ⟨k1, k2, k3, k4⟩ := left_arith h l m (by omega) (by omega) hl
        rw [← p64] at k1 k2 k3
        rw [← p128] at k1 k2
        have k5 := Nat.mod_lt (h * 2 ^ m) (show 0 < 18446744073709551616 by decide)
        have k6 := Nat.div_le_self l (2 ^ (64 - m))
        rw [or_add _ _ m (by omega) k3 k4 (by omega) (by omega), k1, k2]
theorem ofW (n : Nat) : wide_Of.f n = some (0, (n : Int)) := rfl
end Go.Proofs.YtnmlmgmljoncoaaGreatDoor.Th
end
section
set_option linter.unusedVariables false
set_option linter.unusedSimpArgs false
namespace Go.Proofs.YtnmlmgmljoncoaaGreatDoor.Th
open Go.RowKit Go.Proofs.YtnmlmgmljoncoaaGreatDoorW.PrintWords Go.Proofs.YtnmlmgmljoncoaaGreatDoorW.PrintLast Go.Proofs.YtnmlmgmljoncoaaGreatDoorW.PrintMore Go.Proofs.YtnmlmgmljoncoaaGreatDoor.PA Dig
theorem cmp_le (m n : Nat) : cmpN m n ≤ 0 ↔ m ≤ n := by unfold cmpN; split <;> (try split) <;> omega
end Go.Proofs.YtnmlmgmljoncoaaGreatDoor.Th
end
namespace Go.Proofs.YtnmlmgmljoncoaaGreatDoor.PA
open Go.RowKit Go.Proofs.YtnmlmgmljoncoaaGreatDoorW.PrintWords Go.Proofs.YtnmlmgmljoncoaaGreatDoorW.PrintLast Go.Proofs.YtnmlmgmljoncoaaGreatDoorW.PrintMore
attribute [local go_sem] max2_int min2_int max_two min_two max_three min_three max_four min_four   -- for this text's walks alone
set_option linter.unusedVariables false
set_option linter.unusedSimpArgs false
set_option maxHeartbeats 8000000
set_option maxRecDepth 100000
attribute [local go_sem high] eqA166
def wide_Root.l0 : Nat → Int → Int → Int → Int → Option (Int × Bool)
 | 0, _, _, _, _ => none
 | k + 1, x2, x4, x332000, x332001 => if x4 > 0 then ((wide_Mul.f (Go.bits .or .u64 x2 x4) (Go.bits .or .u64 x2 x4)).bind fun bt334 => ((wide_Cmp.f bt334.1 bt334.2 x332000 x332001).bind fun t336 => (if t336 ≤ 0 then (wide_Root.l0 k (Go.bits .or .u64 x2 x4) (x4 / 2) x332000 x332001) else (wide_Root.l0 k x2 (x4 / 2) x332000 x332001)))) else ((wide_Mul.f x2 x2).bind fun bt332 => (some (x2, (!(bt332.1 == x332000) || (!(bt332.2 == x332001))))))
def wide_Root.f (k : Nat) (a0_0 : Int) (a0_1 : Int) : Option (Int × Bool) := wide_Root.l0 k 0 9223372036854775808 a0_0 a0_1
theorem wide_Root.mono_l : ∀ k, (∀ y0 y1 y2 y3, LeO (wide_Root.l0 k y0 y1 y2 y3) (wide_Root.l0 (k + 1) y0 y1 y2 y3))
 | 0 => fun _ _ _ _ r h => by simp [wide_Root.l0] at h
 | k + 1 => by
  have ih0 := wide_Root.mono_l k
  ·intro y0 y1 y2 y3
   unfold wide_Root.l0
   repeat' first
   | (with_reducible exact ih0 _ _ _ _)
   | (with_reducible exact LeO.refl _)
   | (with_reducible exact LeO.none _)
   | (with_reducible refine LeO.ite ?_ ?_)
   | (with_reducible refine LeO.bind ?_ (fun _ => ?_))
   | exact ih0 _ _ _ _
   | exact LeO.none _
   | refine LeO.ite ?_ ?_
   | refine LeO.bind ?_ (fun _ => ?_)
theorem wide_Root.mono : ∀ a0 a1 k, LeO (wide_Root.f k a0 a1) (wide_Root.f (k + 1) a0 a1) := by
 intro a0 a1 k
 have ih0 := wide_Root.mono_l k
 unfold wide_Root.f
 repeat' first
   | (with_reducible exact ih0 _ _ _ _)
   | (with_reducible exact LeO.refl _)
   | (with_reducible exact LeO.none _)
   | (with_reducible refine LeO.ite ?_ ?_)
   | (with_reducible refine LeO.bind ?_ (fun _ => ?_))
   | exact ih0 _ _ _ _
   | exact LeO.none _
   | refine LeO.ite ?_ ?_
   | refine LeO.bind ?_ (fun _ => ?_)
def wide_Root.T7 : Bool × List (List Nat × List Nat) := (true, [([], []), ([], []), ([], []), ([1, 2], [1, 2]), ([], []), ([3, 4], [3, 4]), ([0, 3, 0, 1, 2], [0, 1, 2]), ([5, 6, 0, 1, 2, 3, 4, 5, 6], [5])])
def wide_Root.B7 : List Nat := [0, 0, 0, 6, 0, 30, 15, 127]
theorem wide_Root.tab7 : rtab .any (opsOf Tryz.f217 7) = wide_Root.T7 := by kernel_rfl
theorem wide_Root.bits7 : waitsOk wide_Root.T7.2 wide_Root.B7 = true := by kernel_rfl
theorem wide_Root.calls (k : Nat) (a0_0 : Int) (a0_1 : Int) (r1 : Int) (r2 : Bool) (w : World) (h : wide_Root.f k a0_0 a0_1 = some (r1, r2)) :
  Calls Tryz.prog 217 #[.agg #[.int .u64 a0_0, .int .u64 a0_1]] w fun e w' => e = .returned (.tuple #[.int .u64 r1, .bool r2]) ∧ Below w.heap.size w w' := by
 have hu166 := Tryz.underlying166
 have HB := A_ (Below.refl w.heap.size w)
 have H : (wide_Root.l0 k 0 9223372036854775808 a0_0 a0_1) = some (r1, r2) := h
 clear h
 have H' := A_ H
 clear H
 go_enter Tryz.func217, Tryz.ntmps217
 go_wp2_with (first | ((with_reducible refine gate_dst (N := 1) rfl ?_); refine be_ 1 #[.int .u64 a0_0, .int .u64 a0_1] 166 ?_; intro gb331 hg w2 hbox hb; have BK331 := A_ (hbox); have GW331 := A_ (sz_ hg (hb_ HB.out)); have GE331 := A_ (sz_ hg (hb_ HB.out)); replace HB := A_ (below_step (hb_ HB.out) hb); clear hb hbox hg))
 go_loopg [2, 4] k (fun kq v2 v4 w' => ∃ (x2_1 : Int) (x4_1 : Int), v2 = .int .u64 x2_1 ∧ v4 = .int .u64 x4_1 ∧ Aside0 (wide_Root.l0 kq x2_1 x4_1 a0_0 a0_1 = some (r1, r2)) ∧ Aside0 (kq ≤ k) ∧ Aside0 (w'.heap[gb331]? = some (.cells #[.int .u64 a0_0, .int .u64 a0_1] 166 (0, 0))) ∧ Aside0 (Below w.heap.size w w'))
 case atStart => exact ⟨(0), (9223372036854775808), sm_, sm_, H', ⟨Nat.le_refl _⟩, ⟨bk_ BK331.out⟩, ⟨hb1_ HB.out GE331.out⟩⟩
 case round =>
  clear H'
  try clear c2
  try clear p2
  obtain ⟨x2_1, x4_1, rfl, rfl, HA, HK1, BK331, HB⟩ := hrel
  cases gk with
  | zero => exact absurd HA.out (by simp [wide_Root.l0])
  | succ k1 =>
   have H := HA.out
   clear HA
   simp only [wide_Root.l0] at H
   by_cases c3 : x4_1 > 0
   ·rw [if_pos c3] at H
    have c3b0 : decide (0 < x4_1) = true := decide_eq_true c3
    clear c3
    replace H := ob_ H
    obtain ⟨⟨t334, t335⟩, A40, H⟩ := H
    replace H : ((wide_Cmp.f t334 t335 a0_0 a0_1).bind fun t336 => (if t336 ≤ 0 then (wide_Root.l0 k1 (Go.bits .or .u64 x2_1 x4_1) (x4_1 / 2) a0_0 a0_1) else (wide_Root.l0 k1 x2_1 (x4_1 / 2) a0_0 a0_1))) = some (r1, r2) := H
    have A4 := A_ A40;clear A40
    replace H := ob_ H
    obtain ⟨t336, A50, H⟩ := H
    replace H : (if t336 ≤ 0 then (wide_Root.l0 k1 (Go.bits .or .u64 x2_1 x4_1) (x4_1 / 2) a0_0 a0_1) else (wide_Root.l0 k1 x2_1 (x4_1 / 2) a0_0 a0_1)) = some (r1, r2) := H
    have A5 := A_ A50;clear A50
    by_cases c6 : t336 ≤ 0
    ·rw [if_pos c6] at H
     have c6b0 : decide (t336 ≤ 0) = true := decide_eq_true c6
     clear c6
     have H' := A_ H
     clear H
     try go_wp2
     replace BK331 := A_ (blk_drew BK331.out)
     replace HB := A_ (below_drew1 HB.out)
     refine start_ (n := 6) (S := fun w' => w'.cell? ⟨gb331, 0, none⟩ = some (.int .u64 a0_0) ∧ w'.cell? ⟨gb331, 1, none⟩ = some (.int .u64 a0_1)) (ds := []) #[false, false, false, false, false, false] (by kernel_rfl) rfl rfl ⟨bc_ BK331.out 0, bc_ BK331.out 1⟩ (fun hHeld => ?_)
     generalize wr.drew = w7 at BK331 HB hHeld ⊢
     refine pu_ 0 (some 13) #[true, false, false, false, false, false] rfl rfl (by kernel_rfl) ?_
     refine pu_ 1 (some 14) #[true, true, false, false, false, false] rfl rfl (by kernel_rfl) ?_
     refine tk2_ 3 (some 16) #[true, true, false, true, false, false] rfl rfl (by kernel_rfl) hHeld ?_
     refine one_ (i := 2) (N := some 15) #[true, true, true, true, false, false] rfl rfl (by kernel_rfl) (by decide) (fun K hK => ?_)
     refine goes_ Tryz.func220 (by kernel_rfl) rfl #[.int .u64 (Go.bits .or .u64 x2_1 x4_1), .int .u64 (Go.bits .or .u64 x2_1 x4_1)] (by rfl) rfl rfl mp_ ?_
     with_reducible refine (wide_Mul.calls (Go.bits .or .u64 x2_1 x4_1) (Go.bits .or .u64 x2_1 x4_1) t334 t335 _ A4.out).mono ?_
     rintro e w8 ⟨rfl, hb⟩
     refine ⟨_, rfl, ?_⟩
     replace BK331 := A_ (bb_ BK331.out hb)
     replace HB := A_ (below_step (hb1_ HB.out GE331.out) hb);(try clear hb);(try clear hb2);(try clear hk);(try clear hi)
     refine hK.out _ _ ⟨bc_ BK331.out 0, bc_ BK331.out 1⟩ (fun hHeld => ?_)
     clear hK K
     refine norm_ (a' := ?_) ?_ ?_
     rotate_left
     ·show Act.put _ (some 15) _ = _
      simp only [Act.put, lI_, l0_, lS_, i64_w, i32_w]
      rfl
     refine one_ (i := 4) (N := some 17) #[true, true, true, true, true, false] rfl rfl (by kernel_rfl) (by decide) (fun K hK => ?_)
     refine goes_ Tryz.func246 (by kernel_rfl) rfl #[.agg #[.int .u64 t334, .int .u64 t335], .agg #[.int .u64 a0_0, .int .u64 a0_1]] (by rfl) rfl rfl mp_ ?_
     with_reducible refine (wide_Cmp.calls t334 t335 a0_0 a0_1 t336 _ A5.out).mono ?_
     rintro e w9 ⟨rfl, hb⟩
     refine ⟨_, rfl, ?_⟩
     replace BK331 := A_ (bb_ BK331.out hb)
     replace HB := A_ (below_step (hb1_ HB.out GE331.out) hb);(try clear hb);(try clear hb2);(try clear hk);(try clear hi)
     refine hK.out _ _ ⟨bc_ BK331.out 0, bc_ BK331.out 1⟩ (fun hHeld => ?_)
     clear hK K
     refine norm_ (a' := ?_) ?_ ?_
     rotate_left
     ·show Act.put _ (some 17) _ = _
      simp only [Act.put, lI_, l0_, lS_, i64_w, i32_w]
      rfl
     refine pu_ 5 (some 18) #[true, true, true, true, true, true] rfl rfl (by kernel_rfl) ?_
     refine done_ (by kernel_rfl) ?_
     try go_wp2
     go_roundg k1
     case measure => have := HK1.out; omega
     case rel => exact ⟨(Go.bits .or .u64 x2_1 x4_1), (x4_1 / 2), sm_, sm_, H', ⟨by have := HK1.out; omega⟩, ⟨bk_ BK331.out⟩, ⟨hb1_ HB.out GE331.out⟩⟩
    ·rw [if_neg c6] at H
     have c6b0 : decide (t336 ≤ 0) = false := decide_eq_false c6
     clear c6
     have H' := A_ H
     clear H
     try go_wp2
     replace BK331 := A_ (blk_drew BK331.out)
     replace HB := A_ (below_drew1 HB.out)
     refine start_ (n := 6) (S := fun w' => w'.cell? ⟨gb331, 0, none⟩ = some (.int .u64 a0_0) ∧ w'.cell? ⟨gb331, 1, none⟩ = some (.int .u64 a0_1)) (ds := []) #[false, false, false, false, false, false] (by kernel_rfl) rfl rfl ⟨bc_ BK331.out 0, bc_ BK331.out 1⟩ (fun hHeld => ?_)
     generalize wr.drew = w10 at BK331 HB hHeld ⊢
     refine pu_ 0 (some 13) #[true, false, false, false, false, false] rfl rfl (by kernel_rfl) ?_
     refine pu_ 1 (some 14) #[true, true, false, false, false, false] rfl rfl (by kernel_rfl) ?_
     refine tk2_ 3 (some 16) #[true, true, false, true, false, false] rfl rfl (by kernel_rfl) hHeld ?_
     refine one_ (i := 2) (N := some 15) #[true, true, true, true, false, false] rfl rfl (by kernel_rfl) (by decide) (fun K hK => ?_)
     refine goes_ Tryz.func220 (by kernel_rfl) rfl #[.int .u64 (Go.bits .or .u64 x2_1 x4_1), .int .u64 (Go.bits .or .u64 x2_1 x4_1)] (by rfl) rfl rfl mp_ ?_
     with_reducible refine (wide_Mul.calls (Go.bits .or .u64 x2_1 x4_1) (Go.bits .or .u64 x2_1 x4_1) t334 t335 _ A4.out).mono ?_
     rintro e w11 ⟨rfl, hb⟩
     refine ⟨_, rfl, ?_⟩
     replace BK331 := A_ (bb_ BK331.out hb)
     replace HB := A_ (below_step (hb1_ HB.out GE331.out) hb);(try clear hb);(try clear hb2);(try clear hk);(try clear hi)
     refine hK.out _ _ ⟨bc_ BK331.out 0, bc_ BK331.out 1⟩ (fun hHeld => ?_)
     clear hK K
     refine norm_ (a' := ?_) ?_ ?_
     rotate_left
     ·show Act.put _ (some 15) _ = _
      simp only [Act.put, lI_, l0_, lS_, i64_w, i32_w]
      rfl
     refine one_ (i := 4) (N := some 17) #[true, true, true, true, true, false] rfl rfl (by kernel_rfl) (by decide) (fun K hK => ?_)
     refine goes_ Tryz.func246 (by kernel_rfl) rfl #[.agg #[.int .u64 t334, .int .u64 t335], .agg #[.int .u64 a0_0, .int .u64 a0_1]] (by rfl) rfl rfl mp_ ?_
     with_reducible refine (wide_Cmp.calls t334 t335 a0_0 a0_1 t336 _ A5.out).mono ?_
     rintro e w12 ⟨rfl, hb⟩
     refine ⟨_, rfl, ?_⟩
     replace BK331 := A_ (bb_ BK331.out hb)
     replace HB := A_ (below_step (hb1_ HB.out GE331.out) hb);(try clear hb);(try clear hb2);(try clear hk);(try clear hi)
     refine hK.out _ _ ⟨bc_ BK331.out 0, bc_ BK331.out 1⟩ (fun hHeld => ?_)
     clear hK K
     refine norm_ (a' := ?_) ?_ ?_
     rotate_left
     ·show Act.put _ (some 17) _ = _
      simp only [Act.put, lI_, l0_, lS_, i64_w, i32_w]
      rfl
     refine pu_ 5 (some 18) #[true, true, true, true, true, true] rfl rfl (by kernel_rfl) ?_
     refine done_ (by kernel_rfl) ?_
     try go_wp2
     go_roundg k1
     case measure => have := HK1.out; omega
     case rel => exact ⟨(x2_1), (x4_1 / 2), sm_, sm_, H', ⟨by have := HK1.out; omega⟩, ⟨bk_ BK331.out⟩, ⟨hb1_ HB.out GE331.out⟩⟩
   ·rw [if_neg c3] at H
    have c3b0 : decide (0 < x4_1) = false := decide_eq_false c3
    clear c3
    replace H := ob_ H
    obtain ⟨⟨t332, t333⟩, A130, H⟩ := H
    replace H : (some (x2_1, (!(t332 == a0_0) || (!(t333 == a0_1))))) = some (r1, r2) := H
    have A13 := A_ A130;clear A130
    simp only [Option.some.injEq, Prod.mk.injEq] at H
    obtain ⟨rfl, rfl⟩ := H
    try go_wp2
    replace BK331 := A_ (blk_drew BK331.out)
    replace HB := A_ (below_drew1 HB.out)
    refine start_ (n := 8) (S := fun w' => w'.cell? ⟨gb331, 0, none⟩ = some (.int .u64 a0_0) ∧ w'.cell? ⟨gb331, 1, none⟩ = some (.int .u64 a0_1)) (ds := []) #[false, false, false, false, false, false, false, false] (by kernel_rfl) rfl rfl ⟨bc_ BK331.out 0, bc_ BK331.out 1⟩ (fun hHeld => ?_); refine with_tabW wide_Root.tab7 wide_Root.bits7 (fun HT_ HW_ => ?_)
    generalize wr.drew = w14 at BK331 HB hHeld ⊢
    refine pu_ 0 (some 20) #[true, false, false, false, false, false, false, false] rfl rfl (any_of HT_.out (by kernel_rfl)) ?_
    refine pu_ 1 (some 21) #[true, true, false, false, false, false, false, false] rfl rfl (any_of HT_.out (by kernel_rfl)) ?_
    refine pu_ 2 (some 22) #[true, true, true, false, false, false, false, false] rfl rfl (any_of HT_.out (by kernel_rfl)) ?_
    refine tk2_ 4 (some 24) #[true, true, true, false, true, false, false, false] rfl rfl (take_ofW HT_.out HW_.out (by kernel_rfl)) hHeld ?_
    refine one_ (i := 3) (N := some 23) #[true, true, true, true, true, false, false, false] rfl rfl (one_of HT_.out (by kernel_rfl)) (by decide) (fun K hK => ?_)
    refine goes_ Tryz.func220 (by kernel_rfl) rfl #[.int .u64 x2_1, .int .u64 x2_1] (by rfl) rfl rfl mp_ ?_
    with_reducible refine (wide_Mul.calls x2_1 x2_1 t332 t333 _ A13.out).mono ?_
    rintro e w15 ⟨rfl, hb⟩
    refine ⟨_, rfl, ?_⟩
    replace BK331 := A_ (bb_ BK331.out hb)
    replace HB := A_ (below_step (hb1_ HB.out GE331.out) hb);(try clear hb);(try clear hb2);(try clear hk);(try clear hi)
    refine hK.out _ _ ⟨bc_ BK331.out 0, bc_ BK331.out 1⟩ (fun hHeld => ?_)
    clear hK K
    refine norm_ (a' := ?_) ?_ ?_
    rotate_left
    ·show Act.put _ (some 23) _ = _
     simp only [Act.put, lI_, l0_, lS_, i64_w, i32_w]
     rfl
    refine pu_ 5 (some 25) #[true, true, true, true, true, true, false, false] rfl rfl (any_of HT_.out (by kernel_rfl)) ?_
    refine pu_ 6 (some 2) #[true, true, true, true, true, true, true, false] rfl rfl (any_of HT_.out (by kernel_rfl)) ?_
    refine pu_ 7 (some 3) #[true, true, true, true, true, true, true, true] rfl rfl (any_of HT_.out (by kernel_rfl)) ?_
    refine done_ (done_of HT_.out (by kernel_rfl)) ?_
    try go_wp2
    go_ret2
    exact ⟨er_, hb1_ HB.out GE331.out⟩
end Go.Proofs.YtnmlmgmljoncoaaGreatDoor.PA
section
set_option linter.unusedVariables false
set_option linter.unusedSimpArgs false
namespace Go.Proofs.YtnmlmgmljoncoaaGreatDoor.Th
open Go.RowKit Go.Proofs.YtnmlmgmljoncoaaGreatDoorW.PrintWords Go.Proofs.YtnmlmgmljoncoaaGreatDoorW.PrintLast Go.Proofs.YtnmlmgmljoncoaaGreatDoorW.PrintMore Go.Proofs.YtnmlmgmljoncoaaGreatDoor.PA Bit Dig
theorem wn_ne (V h l : Nat) (hV : V < 340282366920938463463374607431768211456) (hl : l < 18446744073709551616) :
    (!(((V / 18446744073709551616 : Nat) : Int) == (h : Int)) || !(((V % 18446744073709551616 : Nat) : Int) == (l : Int))) = decide (V ≠ wn h l) := by
  have e : (((V / 18446744073709551616 : Nat) : Int) == (h : Int)) = decide (V / 18446744073709551616 = h) := by
    rw [Bool.eq_iff_iff]; simp; omega
  have e2 : (((V % 18446744073709551616 : Nat) : Int) == (l : Int)) = decide (V % 18446744073709551616 = l) := by
    rw [Bool.eq_iff_iff]; simp; omega
  rw [e, e2]
  have h3 : V = wn h l ↔ V / 18446744073709551616 = h ∧ V % 18446744073709551616 = l := by
    unfold wn; omega
  by_cases h1 : V / 18446744073709551616 = h <;> by_cases h2 : V % 18446744073709551616 = l <;> simp [h1, h2, h3]
theorem rootW_loop (h l : Nat) (hh : h < 18446744073709551616) (hl : l < 18446744073709551616) (s : Nat) : ∀ (r : Nat), s ≤ 64 → 2 ^ s ∣ r → r + 2 ^ s ≤ 18446744073709551616 → r * r ≤ wn h l → wn h l < (r + 2 ^ s) * (r + 2 ^ s) →
    ∃ x, x * x ≤ wn h l ∧ wn h l < (x + 1) * (x + 1) ∧ x < 18446744073709551616 ∧ Ev (fun k => wide_Root.l0 k r ((2 ^ s / 2 : Nat) : Int) h l) ((x : Int), decide (x * x ≠ wn h l)) := by
  have hsq : ∀ x : Nat, x < 18446744073709551616 → x * x < 340282366920938463463374607431768211456 := fun x hx => Nat.lt_of_le_of_lt (Nat.mul_le_mul (show x ≤ 18446744073709551615 by omega) (show x ≤ 18446744073709551615 by omega)) (by decide)
  induction s with
  | zero =>
    intro r _ _ h1 h2 h3
    refine ⟨r, h2, h3, by omega, ?_⟩
    refine Ev.step (fun _ => wide_Root.l0.eq_2 ..) ?_
    refine Ev.neg (by decide) (Ev.bs (mulW r r (by omega) (by omega)) (Ev.out ?_))
    rw [wn_ne (r * r) h l (hsq r (by omega)) hl]
  | succ s ih =>
    intro r hs hd h1 h2 h3
    have e1 : 2 ^ (s + 1) / 2 = 2 ^ s := by rw [Nat.pow_succ]; omega
    have p1 : 0 < 2 ^ s := Nat.pow_pos (by decide)
    have p2 : 2 ^ (s + 1) = 2 ^ s * 2 := Nat.pow_succ ..
    have hor : Go.bits .or .u64 (r : Int) ((2 ^ s : Nat) : Int) = ((r + 2 ^ s : Nat) : Int) := or_add r (2 ^ s) (s + 1) hs hd (by omega) (by omega) (by omega)
    have ehalf : ((2 ^ s : Nat) : Int) / 2 = ((2 ^ s / 2 : Nat) : Int) := by omega
    rw [e1]
    have hds : 2 ^ s ∣ r := Nat.dvd_trans ⟨2, p2⟩ hd
    have hlt : r + 2 ^ s < 18446744073709551616 := by omega
    by_cases hc : (r + 2 ^ s) * (r + 2 ^ s) ≤ wn h l
    · obtain ⟨x, x1, x2, x3, x4⟩ := ih (r + 2 ^ s) (by omega) ((Nat.dvd_add_right hds).2 (Nat.dvd_refl _)) (by omega) hc (by rw [Nat.add_assoc, ← Nat.mul_two, ← p2]; exact h3)
      refine ⟨x, x1, x2, x3, ?_⟩
      refine Ev.step (fun _ => wide_Root.l0.eq_2 ..) ?_
      rw [hor, ehalf]
      refine Ev.pos (by omega) (Ev.bs (mulW _ _ hlt hlt) (Ev.bs (cmpW _ _ h l (Nat.mod_lt _ (by decide)) hl) ?_))
      rw [wn_div]
      exact Ev.pos ((cmp_le _ _).2 hc) x4
    · obtain ⟨x, x1, x2, x3, x4⟩ := ih r (by omega) hds (by omega) h2 (by omega)
      refine ⟨x, x1, x2, x3, ?_⟩
      refine Ev.step (fun _ => wide_Root.l0.eq_2 ..) ?_
      rw [hor, ehalf]
      refine Ev.pos (by omega) (Ev.bs (mulW _ _ hlt hlt) (Ev.bs (cmpW _ _ h l (Nat.mod_lt _ (by decide)) hl) ?_))
      rw [wn_div]
      exact Ev.neg (fun h' => hc ((cmp_le _ _).1 h')) x4
theorem rootW (h l : Nat) (hh : h < 18446744073709551616) (hl : l < 18446744073709551616) :
    ∃ x, x * x ≤ wn h l ∧ wn h l < (x + 1) * (x + 1) ∧ x < 18446744073709551616 ∧ Ev (fun k => wide_Root.f k h l) ((x : Int), decide (x * x ≠ wn h l)) :=
  rootW_loop h l hh hl 64 0 (Nat.le_refl _) (Nat.dvd_zero _) (by decide) (by omega) (by have := wn_lt hh hl; rw [Nat.zero_add]; exact Nat.lt_of_lt_of_le this (by decide))
theorem or_add' (x y n : Nat) (hn : n ≤ 64) (hx : 2 ^ n ∣ x) (hy : y < 2 ^ n) (h : x < 18446744073709551616) (h2 : y < 18446744073709551616) : Go.bits .or .u64 (y : Int) (x : Int) = ((y + x : Nat) : Int) := by
  rw [u64_or_nat y x h2 h]
  congr 1
  obtain ⟨c, rfl⟩ := hx
  rw [Nat.mul_comm, or_pow y c n hy]
theorem gen_hi (B C h l : Nat) (hC : 0 < C) : (h * (B * C) + l) / C = h * B + l / C := by
  rw [← Nat.mul_assoc, Nat.mul_comm (h * B) C, Nat.mul_add_div hC]
theorem right_arith (h l n : Nat) (h0 : 0 < n) (hn : n < 64) (hh : h < 2 ^ 64) (hl : l < 2 ^ 64) :
    wn h l / 2 ^ n / 2 ^ 64 = h / 2 ^ n ∧ wn h l / 2 ^ n % 2 ^ 64 = l / 2 ^ n + h * 2 ^ (64 - n) % 2 ^ 64 ∧ 2 ^ (64 - n) ∣ h * 2 ^ (64 - n) % 2 ^ 64 ∧ l / 2 ^ n < 2 ^ (64 - n) := by
  have p0 : 0 < 2 ^ n := Nat.pow_pos (by decide)
  have p1 : 0 < 2 ^ (64 - n) := Nat.pow_pos (by decide)
  have e64 : 2 ^ 64 = 2 ^ (64 - n) * 2 ^ n := by rw [← Nat.pow_add]; congr 1; omega
  have hd : l / 2 ^ n < 2 ^ (64 - n) := by rw [Nat.div_lt_iff_lt_mul p0, ← e64]; exact hl
  have hdv : 2 ^ (64 - n) ∣ h * 2 ^ (64 - n) % 2 ^ 64 := by
    rw [e64]; exact (Nat.dvd_mod_iff (Nat.dvd_mul_right _ _)).2 (Nat.dvd_mul_left _ _)
  have hq : wn h l / 2 ^ n = h * 2 ^ (64 - n) + l / 2 ^ n := by
    unfold wn; rw [p64, e64]; exact gen_hi _ _ h l p0
  have hx : h * 2 ^ (64 - n) / 2 ^ 64 = h / 2 ^ n := by
    rw [e64, Nat.mul_comm (2 ^ (64 - n)), Nat.mul_div_mul_right _ _ p1]
  have hm := Nat.div_add_mod (h * 2 ^ (64 - n)) (2 ^ 64)
  have hlt := Nat.mod_lt (h * 2 ^ (64 - n)) (show 0 < 2 ^ 64 by decide)
  have hs : h * 2 ^ (64 - n) % 2 ^ 64 + l / 2 ^ n < 2 ^ 64 := by
    obtain ⟨c, hc⟩ := hdv
    have h3 : c < 2 ^ n := by
      rw [hc, e64] at hlt
      exact Nat.lt_of_mul_lt_mul_left hlt
    have h4 : 2 ^ (64 - n) * (c + 1) ≤ 2 ^ (64 - n) * 2 ^ n := Nat.mul_le_mul_left _ h3
    rw [← e64, Nat.mul_add, Nat.mul_one, ← hc] at h4
    omega
  rw [hx] at hm
  rw [hq]
  generalize h * 2 ^ (64 - n) % 2 ^ 64 = u at *
  generalize l / 2 ^ n = v at *
  rw [← hm, Nat.add_assoc]
  refine ⟨?_, ?_, hdv, hd⟩
  · rw [Nat.mul_add_div (by decide), Nat.div_eq_of_lt hs, Nat.add_zero]
  · rw [Nat.mul_add_mod, Nat.mod_eq_of_lt hs, Nat.add_comm]
theorem lost_iff (a p : Nat) (h : a < 340282366920938463463374607431768211456) : (a / p * p) % 340282366920938463463374607431768211456 ≠ a ↔ a % p ≠ 0 := by
  have h1 := Nat.div_add_mod a p
  rw [Nat.mul_comm] at h1
  have h2 : a / p * p < 340282366920938463463374607431768211456 := by omega
  rw [Nat.mod_eq_of_lt h2]
  omega
def rgV (a : Nat) (n : Int) : Nat := a / 2 ^ n.toNat
theorem rightW (h l : Nat) (n : Int) (hh : h < 18446744073709551616) (hl : l < 18446744073709551616) (hn : n < 9223372036854775808) :
    wide_Right.f h l n = some (((rgV (wn h l) n / 18446744073709551616 : Nat) : Int), ((rgV (wn h l) n % 18446744073709551616 : Nat) : Int), decide (wn h l % 2 ^ n.toNat ≠ 0)) := by
  unfold wide_Right.f rgV
  have hw := wn_lt hh hl
  by_cases h0 : n ≤ 0
  · rw [if_pos h0, show n.toNat = 0 by omega, Nat.pow_zero, Nat.div_one, Nat.mod_one, wn_hi hl, wn_lo hl]; rfl
  · rw [if_neg h0]
    obtain ⟨m, rfl⟩ := Int.eq_ofNat_of_zero_le (show 0 ≤ n by omega)
    rw [Int.toNat_natCast]
    have key : ∀ Q : Nat, Q = wn h l / 2 ^ m → (!(((lfV (wn (Q / 18446744073709551616) (Q % 18446744073709551616)) (m : Int) / 18446744073709551616 : Nat) : Int) == (h : Int)) || !(((lfV (wn (Q / 18446744073709551616) (Q % 18446744073709551616)) (m : Int) % 18446744073709551616 : Nat) : Int) == (l : Int))) = decide (wn h l % 2 ^ m ≠ 0) := by
      intro Q hQ
      rw [wn_div]
      unfold lfV
      rw [Int.toNat_natCast, hQ, wn_ne _ h l (Nat.mod_lt _ (by decide)) hl, decide_eq_decide]
      exact lost_iff _ _ hw
    by_cases h1 : (m : Int) ≥ 128
    · rw [if_pos h1]
      have hb : wn h l < 2 ^ m := Nat.lt_of_lt_of_le hw (by rw [p128]; exact Nat.pow_le_pow_right (by decide) (by omega))
      rw [Nat.div_eq_of_lt hb, Nat.mod_eq_of_lt hb]
      have e := wn_ne 0 h l (by decide) hl
      have e2 : (!((h : Int) == 0) || !((l : Int) == 0)) = decide (wn h l ≠ 0) := by
        rw [Bool.eq_iff_iff]; simp; unfold wn; omega
      rw [e2]; rfl
    · rw [if_neg h1]
      by_cases h2 : (m : Int) ≥ 64
      · rw [if_pos h2, w64_id (by omega) (by omega), show (m : Int) - 64 = ((m - 64 : Nat) : Int) by omega, shrN' _ _ (by omega)]
        have hQ : h / 2 ^ (m - 64) = wn h l / 2 ^ m := by
          rw [show 2 ^ m = 18446744073709551616 * 2 ^ (m - 64) by rw [p64, ← Nat.pow_add]; congr 1; omega, ← Nat.div_div_eq_div_mul, wn_hi hl]
        have hq1 := Nat.div_le_self h (2 ^ (m - 64))
        have k := key _ hQ
        rw [← hQ]
        generalize h / 2 ^ (m - 64) = q at *
        rw [Nat.div_eq_of_lt (show q < 18446744073709551616 by omega), Nat.mod_eq_of_lt (show q < 18446744073709551616 by omega)] at k ⊢
        have lw := leftW 0 q (m : Int) (by decide) (by omega) (by omega)
        rw [show ((0 : Nat) : Int) = 0 from rfl] at lw
        rw [lw, Option.bind_some]
        show some (0, (q : Int), _) = _
        rw [k]; rfl
      · rw [if_neg h2, w64_id (by omega) (by omega), show (64 : Int) - m = ((64 - m : Nat) : Int) by omega, shrN' _ _ (by omega), shrN' _ _ (by omega), shlN _ _ (by omega)]
        obtain ⟨k1, k2, k3, k4⟩ := right_arith h l m (by omega) (by omega) hh hl
        rw [← p64] at k1 k2 k3
        have k5 := Nat.mod_lt (h * 2 ^ (64 - m)) (show 0 < 18446744073709551616 by decide)
        have k6 := Nat.div_le_self l (2 ^ m)
        have k7 := Nat.div_le_self h (2 ^ m)
        rw [or_add' _ _ (64 - m) (by omega) k3 k4 (by omega) (by omega)]
        have k := key _ rfl
        rw [k1, k2] at k
        rw [k1, k2]
        have lw := leftW (h / 2 ^ m) (l / 2 ^ m + h * 2 ^ (64 - m) % 18446744073709551616) (m : Int) (by omega) (by rw [← k2]; exact Nat.mod_lt _ (by decide)) (by omega)
        rw [lw, Option.bind_some, k]
theorem addW (a b c d : Nat) (ha : a < 18446744073709551616) (hb : b < 18446744073709551616) (hc : c < 18446744073709551616) (hd : d < 18446744073709551616) :
    wide_Add.f a b c d = some ((((wn a b + wn c d) % 340282366920938463463374607431768211456 / 18446744073709551616 : Nat) : Int), (((wn a b + wn c d) % 340282366920938463463374607431768211456 % 18446744073709551616 : Nat) : Int)) := by
  unfold wide_Add.f wn
  rw [if_pos (by omega)]
  have e1 : ((a : Int) + (c : Int) + ((b : Int) + (d : Int)) / 18446744073709551616) % 18446744073709551616 = (((a * 18446744073709551616 + b + (c * 18446744073709551616 + d)) % 340282366920938463463374607431768211456 / 18446744073709551616 : Nat) : Int) := by omega
  have e2 : ((b : Int) + (d : Int)) % 18446744073709551616 = (((a * 18446744073709551616 + b + (c * 18446744073709551616 + d)) % 340282366920938463463374607431768211456 % 18446744073709551616 : Nat) : Int) := by omega
  rw [e1, e2]
end Go.Proofs.YtnmlmgmljoncoaaGreatDoor.Th
end
section
set_option linter.unusedVariables false
set_option linter.unusedSimpArgs false
namespace Go.Proofs.YtnmlmgmljoncoaaGreatDoor.Th
open Go.RowKit Go.Proofs.YtnmlmgmljoncoaaGreatDoorW.PrintWords Go.Proofs.YtnmlmgmljoncoaaGreatDoorW.PrintLast Go.Proofs.YtnmlmgmljoncoaaGreatDoorW.PrintMore Go.Proofs.YtnmlmgmljoncoaaGreatDoor.PA Bit Flo
theorem fmt_bd' (w : Int) : (fmt w).f ≤ 52 ∧ (-5000 < (fmt w).low ∧ (fmt w).low < 0) ∧ (fmt w).top < 5000 ∧ 2 ≤ (fmt w).top := by
  unfold fmt; split <;> decide
def wH (V : Nat) : Int := ((V / 18446744073709551616 : Nat) : Int)
def wL (V : Nat) : Int := ((V % 18446744073709551616 : Nat) : Int)
theorem wHL (h l : Nat) (hl : l < 18446744073709551616) : wH (wn h l) = h ∧ wL (wn h l) = l := by unfold wH wL; rw [wn_hi hl, wn_lo hl]; exact ⟨rfl, rfl⟩
theorem hi64 {V : Nat} (h : V < 340282366920938463463374607431768211456) : V / 18446744073709551616 < 18446744073709551616 := by omega
theorem lo64 (V : Nat) : V % 18446744073709551616 < 18446744073709551616 := Nat.mod_lt _ (by decide)
theorem wLen {V : Nat} (h : V < 340282366920938463463374607431768211456) : wide_Len.f (wH V) (wL V) = some ((bl V : Nat) : Int) := by
  have := lenW (V / 18446744073709551616) (V % 18446744073709551616) (hi64 h) (lo64 V)
  rwa [wn_div] at this
theorem wLeft {V : Nat} (h : V < 340282366920938463463374607431768211456) (n : Nat) (hn : n < 1000) (hV : V * 2 ^ n < 340282366920938463463374607431768211456) : wide_Left.f (wH V) (wL V) n = some (wH (V * 2 ^ n), wL (V * 2 ^ n)) := by
  have := leftW (V / 18446744073709551616) (V % 18446744073709551616) n (hi64 h) (lo64 V) (by omega)
  rwa [wn_div, lfV, Int.toNat_natCast, Nat.mod_eq_of_lt hV] at this
theorem wRight {V : Nat} (h : V < 340282366920938463463374607431768211456) (n : Nat) (hn : n < 1099511627776) : wide_Right.f (wH V) (wL V) n = some (wH (V / 2 ^ n), wL (V / 2 ^ n), decide (V % 2 ^ n ≠ 0)) := by
  have := rightW (V / 18446744073709551616) (V % 18446744073709551616) n (hi64 h) (lo64 V) (by omega)
  rwa [wn_div, rgV, Int.toNat_natCast] at this
theorem wAdd1 {V : Nat} (h : V + 1 < 340282366920938463463374607431768211456) : wide_Add.f (wH V) (wL V) 0 1 = some (wH (V + 1), wL (V + 1)) := by
  have := addW (V / 18446744073709551616) (V % 18446744073709551616) 0 1 (hi64 (by omega)) (lo64 V) (by decide) (by decide)
  rw [wn_div, show wn 0 1 = 1 by decide, Nat.mod_eq_of_lt h] at this
  exact this
theorem wAnd1 (V : Nat) : (Go.bits .and .u64 (wL V) 1 == 1) = decide (V % 2 = 1) := by
  unfold wL
  rw [show (1 : Int) = ((1 : Nat) : Int) from rfl, u64_and_nat _ 1 (lo64 V) (by decide)]
  have h1 := and_low (V % 18446744073709551616) 1
  rw [show (2 : Nat) ^ 1 - 1 = 1 by decide, show (2 : Nat) ^ 1 = 2 by decide] at h1
  rw [h1, Bool.eq_iff_iff]; simp; omega
theorem wSmall {V : Nat} (h : V < 18446744073709551616) : wH V = 0 ∧ wL V = V := by unfold wH wL; omega
theorem shZ (w : Int) (hw : w = 32 ∨ w = 64) (s : Bool) : shape_Zero.f w s = some ((mkN w 0 s : Nat) : Int) := by rcases hw with rfl | rfl; exact shZero32 s; exact shZero64 s
theorem shI (w : Int) (hw : w = 32 ∨ w = 64) (s : Bool) : shape_Inf.f w s = some ((mkN w (fmt w).inf s : Nat) : Int) := by rcases hw with rfl | rfl; exact shInf32 s; exact shInf64 s
theorem clo (w : Int) (hw : w = 32 ∨ w = 64) (s : Bool) (m : Nat) (h0 : 0 < m) (hm : m < (fmt w).inf) : ∃ k z, shape_Close.f k w s 1 ((fmt w).ex m) ((fmt w).sg m : Nat) = some (((mkN w m s : Nat) : Int), z) := by
  rcases hw with rfl | rfl
  · obtain ⟨k, hk⟩ := (close32 s m h0 hm).rounds; exact ⟨k, 0, hk⟩
  · obtain ⟨k, hk⟩ := (close64 s m h0 hm).rounds; exact ⟨k, 0, hk⟩
end Go.Proofs.YtnmlmgmljoncoaaGreatDoor.Th
end
/- round.Pack answers the nearest float, for every number in the range of exponents that it looks at. -/
namespace Go.Proofs.YtnmlmgmljoncoaaGreatDoor.PA
open Go.RowKit Go.Proofs.YtnmlmgmljoncoaaGreatDoorW.PrintWords Go.Proofs.YtnmlmgmljoncoaaGreatDoorW.PrintLast Go.Proofs.YtnmlmgmljoncoaaGreatDoorW.PrintMore
attribute [local go_sem] max2_int min2_int max_two min_two max_three min_three max_four min_four   -- for this text's walks alone
set_option linter.unusedVariables false
set_option linter.unusedSimpArgs false
open Go.Proofs.YtnmlmgmljoncoaaGreatDoor.Th Flo
theorem rp_fin (W : Int) (hw : W = 32 ∨ W = 64) (ng : Bool) (t2 t1 hi : Int) (h2 : t2 = ((2 ^ ((fmt W).f + 1) : Nat) : Int)) (h1 : t1 = ((2 ^ (fmt W).f : Nat) : Int)) (hh : hi = (fmt W).low + (fmt W).top - 2) (q R : Nat) (e3 : Int) (he : e3 = q + (fmt W).low)
    (hR : R ≤ 2 ^ ((fmt W).f + 1)) (hl : 0 < q → 2 ^ (fmt W).f ≤ R) :
    (hi < e3 ∧ shape_Inf.f W ng = some ((mkN W ((fmt W).fin q R) ng : Nat) : Int)) ∨ (e3 ≤ hi ∧ ∃ l4 e4, (((R : Int) = t2 ∧ t1 = l4 ∧ e3 + 1 = e4) ∨ ((R : Int) ≠ t2 ∧ (R : Int) = l4 ∧ e3 = e4)) ∧
      ((l4 = 0 ∧ shape_Zero.f W ng = some ((mkN W ((fmt W).fin q R) ng : Nat) : Int)) ∨ (l4 ≠ 0 ∧ hi < e4 ∧ shape_Inf.f W ng = some ((mkN W ((fmt W).fin q R) ng : Nat) : Int)) ∨ (l4 ≠ 0 ∧ e4 ≤ hi ∧ ∃ k z, shape_Close.f k W ng 1 e4 l4 = some (((mkN W ((fmt W).fin q R) ng : Nat) : Int), z)))) := by
  have hz := shZ W hw ng
  have hi_ := shI W hw ng
  have hc := clo W hw ng
  generalize fmt W = F at *
  have hp := F.pow_pos
  have ht := F.ht
  have e1 : 2 ^ (F.f + 1) = 2 ^ F.f * 2 := Nat.pow_succ ..
  by_cases c1 : F.top < q + 2
  · left
    refine ⟨by omega, ?_⟩
    have : F.fin q R = F.inf := by
      unfold Fmt.fin
      split
      · first | rfl | rw [if_pos (by omega)]
      · first | rfl | rw [if_pos c1]
    rw [this]; exact hi_
  · right
    refine ⟨by omega, ?_⟩
    by_cases c2 : R = 2 ^ (F.f + 1)
    · refine ⟨t1, e3 + 1, .inl ⟨by rw [c2, h2], rfl, rfl⟩, ?_⟩
      by_cases c3 : F.top < q + 3
      · refine .inr (.inl ⟨by rw [h1]; omega, by omega, ?_⟩)
        have : F.fin q R = F.inf := by unfold Fmt.fin; rw [if_pos c2, if_pos c3]
        rw [this]; exact hi_
      · refine .inr (.inr ⟨by rw [h1]; omega, by omega, ?_⟩)
        have e5 : F.fin q R = (q + 1) * 2 ^ F.f + 2 ^ F.f := by unfold Fmt.fin; rw [if_pos c2, if_neg c3, Nat.add_mul, Nat.add_mul]; omega
        have hm : F.fin q R < F.inf := by
          rw [e5]
          unfold Fmt.inf
          have := Nat.mul_le_mul_right (2 ^ F.f) (show q + 3 ≤ F.top by omega)
          rw [Nat.add_mul] at this ⊢
          omega
        obtain ⟨h3, h4⟩ := F.sg_mk (q + 1) (2 ^ F.f) (by omega) (fun _ => Nat.le_refl _)
        have := hc (F.fin q R) (by rw [e5]; omega) hm
        rw [e5, h3, h4, ← e5, show (((q + 1 : Nat) : Int) + F.low) = e3 + 1 by omega, ← h1] at this
        exact this
    · refine ⟨(R : Int), e3, .inr ⟨by rw [h2]; intro k; exact c2 (by exact_mod_cast k), rfl, rfl⟩, ?_⟩
      by_cases c3 : R = 0
      · left
        have hq : q = 0 := by rcases Nat.eq_zero_or_pos q with h | h; exact h; have := hl h; omega
        have : F.fin q R = 0 := by unfold Fmt.fin; rw [if_neg c2, if_neg c1, if_pos (by omega)]; exact c3
        exact ⟨by omega, by rw [this]; exact hz⟩
      · refine .inr (.inr ⟨by omega, by omega, ?_⟩)
        have e5 : F.fin q R = q * 2 ^ F.f + R := by
          unfold Fmt.fin
          rw [if_neg c2, if_neg c1]
          split
          · rcases Nat.eq_zero_or_pos q with h | h
            · rw [h]; omega
            · have := hl h; omega
          · rw [Nat.add_mul]; omega
        have hm : F.fin q R < F.inf := by
          rw [e5]
          unfold Fmt.inf
          have := Nat.mul_le_mul_right (2 ^ F.f) (show q + 2 ≤ F.top by omega)
          rw [Nat.add_mul] at this
          omega
        obtain ⟨h3, h4⟩ := F.sg_mk q R (by omega) hl
        have := hc (F.fin q R) (by rw [e5]; omega) hm
        rw [e5, h3, h4, ← e5, ← he] at this
        exact this
theorem rp_main (W f t2 t1 lo hi : Int) (hW : (W = 32 ∧ f = 23 ∧ t2 = 16777216 ∧ t1 = 8388608) ∨ (W = 64 ∧ f = 52 ∧ t2 = 9007199254740992 ∧ t1 = 4503599627370496)) (hlo : lo = (fmt W).low) (hhi : hi = (fmt W).low + (fmt W).top - 2)
    (AIM : ∀ ng h l e m, round_aim.f W ng h l e m = some (h, l, e, m, W, f, lo, hi, ng, true)) (S : Nat) (hS : S < 340282366920938463463374607431768211456) (e : Int) (m ng : Bool) (Z : S ≠ 0 ∨ m = true) (E1 : e ≤ 1048576) (E2 : -1048576 ≤ e) (w : World) :
    Calls Tryz.prog 214 #[.int .i64 W, .bool ng, .agg #[.int .u64 (wH S), .int .u64 (wL S)], .int .i64 e, .bool m] w fun en w' => en = .returned (.int .u64 ((mkN W (pkm (fmt W) S e m) ng : Nat) : Int)) ∧ Below w.heap.size w w' := by
  have hw : W = 32 ∨ W = 64 := by rcases hW with ⟨h, _⟩ | ⟨h, _⟩; exact .inl h; exact .inr h
  have hf : f = ((fmt W).f : Int) ∧ t2 = ((2 ^ ((fmt W).f + 1) : Nat) : Int) ∧ t1 = ((2 ^ (fmt W).f : Nat) : Int) := by
    rcases hW with ⟨rfl, rfl, rfl, rfl⟩ | ⟨rfl, rfl, rfl, rfl⟩ <;> decide
  have hbd := fmt_bd' W
  obtain ⟨hf, h2, h1⟩ := hf
  -- the number whose last bits go
  obtain ⟨S1, e1, m1, hS1, hpos, hm1, hk, hT⟩ : ∃ (S1 : Nat) (e1 : Int) (m1 : Bool), S1 < 340282366920938463463374607431768211456 ∧ 0 < S1 ∧ (m1 = true → 127 ≤ bl S1) ∧ pkm (fmt W) S e m = pkc (fmt W) S1 e1 (if m1 then 1 else 0) ∧
      ((m = true ∧ (∃ n0, wide_Len.f (wH S) (wL S) = some n0 ∧ n0 < 127) ∧ (∃ x0 x1, wide_Left.f (wH S) (wL S) 1 = some (x0, x1) ∧ wide_Add.f x0 x1 0 1 = some (wH S1, wL S1)) ∧ e - 1 = e1 ∧ m1 = false) ∨ ((m = false ∨ ∃ n0, wide_Len.f (wH S) (wL S) = some n0 ∧ 127 ≤ n0) ∧ wH S1 = wH S ∧ wL S1 = wL S ∧ e1 = e ∧ m1 = m)) := by
    have hk : pkm (fmt W) S e m = if m = true ∧ bl S < 127 then pkc (fmt W) (2 * S + 1) (e - 1) 0 else pkc (fmt W) S e (if m then 1 else 0) := by
      unfold pkm
      rw [if_neg (by rintro ⟨h1, h2⟩; rcases Z with h | h; exact h h1; rw [h2] at h; cases h), if_neg (by omega), if_neg (by omega)]
    by_cases c : m = true ∧ bl S < 127
    · rw [if_pos c] at hk
      have hlt := bl_le.1 (Nat.le_of_lt_succ (show bl S < 126 + 1 from c.2))
      rw [show (2 : Nat) ^ 126 = 85070591730234615865843651857942052864 by decide] at hlt
      have hl := wLeft hS 1 (by decide) (by omega)
      refine ⟨2 * S + 1, e - 1, false, by omega, by omega, fun h => (by cases h), (by rw [hk]; rfl), .inl ⟨c.1, ⟨_, wLen hS, by omega⟩, ⟨_, _, hl, ?_⟩, rfl, rfl⟩⟩
      rw [wAdd1 (by omega)]
      rw [show S * 2 ^ 1 + 1 = 2 * S + 1 by omega]
    · rw [if_neg c] at hk
      refine ⟨S, e, m, hS, ?_, fun h => ?_, hk, .inr ⟨?_, rfl, rfl, rfl, rfl⟩⟩
      · rcases Z with h | h
        · omega
        · have : 127 ≤ bl S := by
            rcases Nat.lt_or_ge (bl S) 127 with h3 | h3
            · exact absurd ⟨h, h3⟩ c
            · exact h3
          exact bl_pos.1 (by omega)
      · rcases Nat.lt_or_ge (bl S) 127 with h3 | h3
        · exact absurd ⟨h, h3⟩ c
        · exact h3
      · cases hm : m
        · exact .inl rfl
        · right
          refine ⟨_, wLen hS, ?_⟩
          rcases Nat.lt_or_ge (bl S) 127 with h3 | h3
          · exact absurd ⟨hm, h3⟩ c
          · omega
  have b128 := bl_128 hS1
  have he1 : -1048578 < e1 ∧ e1 < 1048578 := by rcases hT with ⟨_, _, _, h, _⟩ | ⟨_, _, _, h, _⟩ <;> omega
  rw [hk]
  have mx_ : ∀ a b : Int, mx a b = max a b := fun a b => by unfold mx; split <;> omega
  have mn_ : ∀ a b : Int, mn a b = min a b := fun a b => by unfold mn; split <;> omega
  have p54 : 2 ^ ((fmt W).f + 1) ≤ 9007199254740992 := by
    rw [show (9007199254740992 : Nat) = 2 ^ 53 by decide]; exact Nat.pow_le_pow_right (by decide) (by omega)
  by_cases c : (bl S1 : Int) - (fmt W).f - 1 ≤ 0 ∧ (fmt W).low - e1 ≤ 0
  · obtain rfl : m1 = false := by
      cases m1
      · rfl
      · have := hm1 rfl; omega
    obtain ⟨q, u, hu, hq, e5, _, hR, hl⟩ := pkc_up (fmt W) hpos c
    have e6 : pkc (fmt W) S1 e1 (if false = true then 1 else 0) = (fmt W).fin q (S1 * 2 ^ u) := e5
    rw [e6]
    have FX := rp_fin W hw ng t2 t1 hi h2 h1 hhi q (S1 * 2 ^ u) (e1 - u) (by omega) hR hl
    have hs := wSmall (V := S1 * 2 ^ u) (by omega)
    refine rp_pack W f t2 t1 lo hi hW (by omega) (wH S) (wL S) e (wH S1) (wL S1) e1 (bl S1) (max ((bl S1 : Int) - f - 1) (lo - e1)) (wH S1) (wL S1) e1 (bl S1) u (wH (S1 * 2 ^ u)) (wL (S1 * 2 ^ u)) (e1 - u) _ m false ng w (AIM _ _ _ _ _) ?_ E1 E2 hT (wLen hS1) (by omega) (mx_ _ _) (.inl ⟨by omega, rfl, rfl, rfl, rfl⟩) (wLen hS1) (by omega) ?_ ?_ ?_
    · rcases Z with h | h
      · left
        rw [Bool.and_eq_false_iff]
        by_cases h3 : S / 18446744073709551616 = 0
        · right; unfold wL; rw [beq_eq_false_iff_ne]; omega
        · left; unfold wH; rw [beq_eq_false_iff_ne]; omega
      · exact .inr h
    · rw [mn_, hf, hlo]; exact hu.symm
    · rcases Nat.eq_zero_or_pos u with h | h
      · right; subst h; exact ⟨by omega, by rw [Nat.pow_zero, Nat.mul_one], by rw [Nat.pow_zero, Nat.mul_one], by omega⟩
      · left; exact ⟨by omega, wLeft hS1 u (by omega) (by omega), rfl⟩
    · rw [hs.1, hs.2]
      rcases FX with h | ⟨h, h'⟩
      · exact .inl h
      · exact .inr ⟨h, rfl, h'⟩
  · obtain ⟨q, n, j, hj, hq, hn, e5, _, hR, hl⟩ := pkc_dn (fmt W) (S := S1) (m := if m1 then 1 else 0) (e := e1) (by cases m1 <;> decide) hpos c
    rw [e5]
    have FX := rp_fin W hw ng t2 t1 hi h2 h1 hhi q n (e1 + ((j + 1 : Nat) : Int)) (by omega) hR hl
    have hs := wSmall (V := n) (by omega)
    have hn128 : n < 340282366920938463463374607431768211456 := by omega
    have hj40 : j < 1099511627775 := by omega
    have r1 := wRight hS1 j (by omega)
    have hk1 : S1 / 2 ^ j < 340282366920938463463374607431768211456 := Nat.lt_of_le_of_lt (Nat.div_le_self _ _) hS1
    have r2 := wRight hk1 1 (by decide)
    have rb := rne_bits S1 j (if m1 then 1 else 0) (by cases m1 <;> decide)
    rw [← hn] at rb
    have hn2 := bl_128 hn128
    have hlen : (fmt W).f + 1 ≤ bl n ∨ q = 0 := by
      rcases Nat.eq_zero_or_pos q with h | h
      · exact .inr h
      · left
        have := hl h
        exact lt_bl.2 this
    refine rp_pack W f t2 t1 lo hi hW (by omega) (wH S) (wL S) e (wH S1) (wL S1) e1 (bl S1) ((j + 1 : Nat) : Int) (wH n) (wL n) (e1 + ((j + 1 : Nat) : Int)) (bl n) (min (f + 1 - bl n) (e1 + ((j + 1 : Nat) : Int) - lo)) (wH n) (wL n) (e1 + ((j + 1 : Nat) : Int)) _ m m1 ng w (AIM _ _ _ _ _) ?_ E1 E2 hT (wLen hS1) (by omega) ?_ (.inr ⟨by omega, rfl, wH (S1 / 2 ^ j), wL (S1 / 2 ^ j), wH (S1 / 2 ^ j / 2), wL (S1 / 2 ^ j / 2), decide (S1 % 2 ^ j ≠ 0), _, decide (S1 / 2 ^ j % 2 = 1 ∧ (S1 % 2 ^ j ≠ 0 ∨ (if m1 then 1 else 0) = 1 ∨ S1 / 2 ^ j / 2 % 2 = 1)), ?_, r2, ?_, ?_, ?_⟩) (wLen hn128) (by omega) (mn_ _ _) (.inr ⟨by omega, rfl, rfl, rfl⟩) ?_
    · rcases Z with h | h
      · left
        rw [Bool.and_eq_false_iff]
        by_cases h3 : S / 18446744073709551616 = 0
        · right; unfold wL; rw [beq_eq_false_iff_ne]; omega
        · left; unfold wH; rw [beq_eq_false_iff_ne]; omega
      · exact .inr h
    · rw [mx_, hf, hlo]; rw [← hj]; rfl
    · rw [show (((j + 1 : Nat) : Int) - 1) = (j : Int) by omega]; exact r1
    · rw [wAnd1, wAnd1, Bool.eq_iff_iff]
      cases m1 <;> simp
    · intro h
      rw [decide_eq_true_eq] at h
      rw [if_pos h] at rb
      rw [rb]
      exact wAdd1 (by omega)
    · intro h
      rw [decide_eq_false_iff_not] at h
      rw [if_neg h] at rb
      rw [rb]; exact ⟨rfl, rfl⟩
    · rw [hs.1, hs.2]
      rcases FX with h | ⟨h, h'⟩
      · exact .inl h
      · exact .inr ⟨h, rfl, h'⟩
end Go.Proofs.YtnmlmgmljoncoaaGreatDoor.PA
/- round.Pack's short ways: no width; nought; an exponent that is too great or too small. -/
namespace Go.Proofs.YtnmlmgmljoncoaaGreatDoor.PA
open Go.RowKit Go.Proofs.YtnmlmgmljoncoaaGreatDoorW.PrintWords Go.Proofs.YtnmlmgmljoncoaaGreatDoorW.PrintLast Go.Proofs.YtnmlmgmljoncoaaGreatDoorW.PrintMore
attribute [local go_sem] max2_int min2_int max_two min_two max_three min_three max_four min_four   -- for this text's walks alone
set_option linter.unusedVariables false
set_option linter.unusedSimpArgs false
attribute [local go_sem high] eqA166
open Go.Proofs.YtnmlmgmljoncoaaGreatDoor.Th Flo
set_option maxHeartbeats 8000000 in
set_option maxRecDepth 100000 in
theorem rp_none (W : Int) (h l e : Int) (m ng : Bool) (w : World) (AIM : round_aim.f W ng h l e m = some (0, 0, 0, false, 0, 0, 0, 0, false, false)) :
    Calls Tryz.prog 214 #[.int .i64 W, .bool ng, .agg #[.int .u64 h, .int .u64 l], .int .i64 e, .bool m] w fun en w' => en = .returned (.int .u64 0) ∧ Below w.heap.size w w' := by
  have hu41 := Tryz.underlying166
  have hu95 := Tryz.underlying191
  have hu97 := Tryz.underlying193
  have A_ := Aside0.mk AIM
  clear AIM
  go_enter Tryz.func214, Tryz.ntmps214
  go_wp2_with (first | (go_at_call 239; (with_reducible refine (round_aim.calls W ng h l e m 0 0 0 false 0 0 0 0 false false _ A_.out).mono ?_); rintro en w1 ⟨rfl, hb⟩))
  go_ret
  exact ⟨rfl, below_alloc (below_step (below_alloc (Below.refl _ w) _) hb) _⟩
set_option maxHeartbeats 8000000 in
set_option maxRecDepth 100000 in
theorem rp_short (W f lo hi : Int) (h l e r : Int) (m ng : Bool) (w : World) (AIM : round_aim.f W ng h l e m = some (h, l, e, m, W, f, lo, hi, ng, true))
    (C : (h = 0 ∧ l = 0 ∧ m = false ∧ shape_Zero.f W ng = some r) ∨ (((h == 0) && (l == 0) && !m) = false ∧ ((1048576 < e ∧ shape_Inf.f W ng = some r) ∨ (e < -1048576 ∧ shape_Zero.f W ng = some r)))) :
    Calls Tryz.prog 214 #[.int .i64 W, .bool ng, .agg #[.int .u64 h, .int .u64 l], .int .i64 e, .bool m] w fun en w' => en = .returned (.int .u64 r) ∧ Below w.heap.size w w' := by
  have hu41 := Tryz.underlying166
  have hu95 := Tryz.underlying191
  have hu97 := Tryz.underlying193
  have A_ := Aside0.mk AIM
  clear AIM
  obtain ⟨bh, hh⟩ : ∃ y, (h == 0) = y := ⟨_, rfl⟩
  obtain ⟨bl_, hl⟩ : ∃ y, (l == 0) = y := ⟨_, rfl⟩
  rw [hh, hl] at C
  rcases C with ⟨rfl, rfl, rfl, B_⟩ | ⟨Z, C⟩
  · have B := Aside0.mk B_
    clear B_ hh hl
    go_enter Tryz.func214, Tryz.ntmps214
    go_wp2_with (first
      | (go_at_call 239; (with_reducible refine (round_aim.calls W ng 0 0 e false 0 0 e false W f lo hi ng true _ A_.out).mono ?_); rintro en w1 ⟨rfl, hb⟩; have sa := ((Nr.bcell hb).1 w.heap.size 0 (by simp)).trans (show _ = some (Value.int .u64 0) by simp [go_sem]); have sb := ((Nr.bcell hb).1 w.heap.size 1 (by simp)).trans (show _ = some (Value.int .u64 0) by simp [go_sem]); have hz := Nat.lt_of_lt_of_le (show w.heap.size < (w.alloc (.cells #[.int .u64 0, .int .u64 0] 166 (0, 0))).heap.size by simp) hb.size; have H1 := Aside0.mk (below_step (below_alloc (Below.refl _ w) _) hb); clear hb)
      | (go_at_call 145; (with_reducible refine (shape_Zero.calls W ng r _ B.out).mono ?_); rintro en w2 ⟨rfl, hb⟩))
    go_ret
    exact ⟨rfl, below_step (below_alloc H1.out _) hb⟩
  · have key : Aside0 ((decide (1048576 < e) = true ∧ shape_Inf.f W ng = some r) ∨ (decide (1048576 < e) = false ∧ decide (e < -1048576) = true ∧ shape_Zero.f W ng = some r)) := ⟨by
      rcases C with ⟨h1, h2⟩ | ⟨h1, h2⟩
      · exact .inl ⟨decide_eq_true h1, h2⟩
      · exact .inr ⟨decide_eq_false (by omega), decide_eq_true h1, h2⟩⟩
    clear C
    cases bh <;> cases bl_ <;> cases m <;> first
      | (exfalso; simp at Z; done)
      | (clear Z
         rcases key.out with ⟨d, B_⟩ | ⟨d, d2, B_⟩
         all_goals
          have B := Aside0.mk B_
          clear B_ key
          go_enter Tryz.func214, Tryz.ntmps214
          go_wp2_with (first
            | (go_at_call 239; (with_reducible refine (round_aim.calls W ng h l e _ h l e _ W f lo hi ng true _ A_.out).mono ?_); rintro en w1 ⟨rfl, hb⟩; have sa := ((Nr.bcell hb).1 w.heap.size 0 (by simp)).trans (show _ = some (Value.int .u64 h) by simp [go_sem]); have sb := ((Nr.bcell hb).1 w.heap.size 1 (by simp)).trans (show _ = some (Value.int .u64 l) by simp [go_sem]); have hz := Nat.lt_of_lt_of_le (show w.heap.size < (w.alloc (.cells #[.int .u64 h, .int .u64 l] 166 (0, 0))).heap.size by simp) hb.size; have H1 := Aside0.mk (below_step (below_alloc (Below.refl _ w) _) hb); clear hb)
            | (go_at_call 145; (with_reducible refine (shape_Zero.calls W ng r _ B.out).mono ?_); rintro en w2 ⟨rfl, hb⟩)
            | (go_at_call 147; (with_reducible refine (shape_Inf.calls W ng r _ B.out).mono ?_); rintro en w2 ⟨rfl, hb⟩))
          go_ret
          exact ⟨rfl, below_step (below_alloc H1.out _) hb⟩)
end Go.Proofs.YtnmlmgmljoncoaaGreatDoor.PA
namespace Go.Proofs.YtnmlmgmljoncoaaGreatDoor.PA
open Go.RowKit Go.Proofs.YtnmlmgmljoncoaaGreatDoorW.PrintWords Go.Proofs.YtnmlmgmljoncoaaGreatDoorW.PrintLast Go.Proofs.YtnmlmgmljoncoaaGreatDoorW.PrintMore
attribute [local go_sem] max2_int min2_int max_two min_two max_three min_three max_four min_four   -- for this text's walks alone
set_option linter.unusedVariables false
set_option linter.unusedSimpArgs false
set_option maxHeartbeats 8000000
set_option maxRecDepth 100000
-- IMPORT Derived.Test.YtnmlmgmljoncoaaGreatDoorHRpF
def round_Pack.f (a0 : Int) (a1 : Bool) (a2_0 : Int) (a2_1 : Int) (a3 : Int) (a4 : Bool) : Option (Int) :=
 if (0 ≤ a2_0 ∧ a2_0 < 18446744073709551616) ∧ (0 ≤ a2_1 ∧ a2_1 < 18446744073709551616) then
  some (if a0 = 32 ∨ a0 = 64 then ((Th.mkN a0 (Th.pkm (Th.fmt a0) (Th.wn a2_0.toNat a2_1.toNat) a3 a4) a1 : Nat) : Int) else 0) else none
theorem round_Pack.calls (a0 : Int) (a1 : Bool) (a2_0 : Int) (a2_1 : Int) (a3 : Int) (a4 : Bool) (r : Int) (w : World) (h : round_Pack.f a0 a1 a2_0 a2_1 a3 a4 = some r) :
  Calls Tryz.prog 214 #[.int .i64 a0, .bool a1, .agg #[.int .u64 a2_0, .int .u64 a2_1], .int .i64 a3, .bool a4] w fun e w' => e = .returned (.int .u64 r) ∧ Below w.heap.size w w' := by
 unfold round_Pack.f at h
 split at h
 rotate_left
 ·cases h
 rename_i hr
 obtain ⟨⟨p1, p2⟩, p3, p4⟩ := hr
 obtain rfl := Option.some.inj h
 obtain ⟨H, rfl⟩ := Int.eq_ofNat_of_zero_le p1
 obtain ⟨L, rfl⟩ := Int.eq_ofNat_of_zero_le p3
 rw [Int.toNat_natCast, Int.toNat_natCast]
 have hL : L < 18446744073709551616 := by omega
 have hS := Th.wn_lt (show H < 18446744073709551616 by omega) hL
 obtain ⟨e1, e2⟩ := Th.wHL H L hL
 have hz : Th.wn H L = 0 ↔ H = 0 ∧ L = 0 := by unfold Th.wn; omega
 by_cases hw : a0 = 32 ∨ a0 = 64
 ·rw [if_pos hw]
  have key : ∀ (f lo hi t2 t1 : Int), ((a0 = 32 ∧ f = 23 ∧ t2 = 16777216 ∧ t1 = 8388608) ∨ (a0 = 64 ∧ f = 52 ∧ t2 = 9007199254740992 ∧ t1 = 4503599627370496)) → lo = (Th.fmt a0).low → hi = (Th.fmt a0).low + (Th.fmt a0).top - 2 →
    (∀ ng h l e m, round_aim.f a0 ng h l e m = some (h, l, e, m, a0, f, lo, hi, ng, true)) → Calls Tryz.prog 214 #[.int .i64 a0, .bool a1, .agg #[.int .u64 (H : Int), .int .u64 (L : Int)], .int .i64 a3, .bool a4] w fun e w' => e = .returned (.int .u64 ((Th.mkN a0 (Th.pkm (Th.fmt a0) (Th.wn H L) a3 a4) a1 : Nat) : Int)) ∧ Below w.heap.size w w' := by
   intro f lo hi t2 t1 hW h1 h2 AIM
   by_cases c1 : Th.wn H L = 0 ∧ a4 = false
   ·refine rp_short a0 f lo hi H L a3 _ a4 a1 w (AIM _ _ _ _ _) (.inl ⟨by have := hz.1 c1.1; omega, by have := hz.1 c1.1; omega, c1.2, ?_⟩)
    unfold Th.pkm
    rw [if_pos c1]
    exact Th.shZ a0 hw a1
   ·have hb : (((H : Int) == 0) && ((L : Int) == 0) && !a4) = false := by
     cases a4
     ·have : ¬ (H = 0 ∧ L = 0) := fun h => c1 ⟨hz.2 h, rfl⟩
      rw [Bool.not_false, Bool.and_true, Bool.and_eq_false_iff, beq_eq_false_iff_ne, beq_eq_false_iff_ne]
      omega
     ·simp
    by_cases c2 : 1048576 < a3
    ·refine rp_short a0 f lo hi H L a3 _ a4 a1 w (AIM _ _ _ _ _) (.inr ⟨hb, .inl ⟨c2, ?_⟩⟩)
     unfold Th.pkm
     rw [if_neg c1, if_pos c2]
     exact Th.shI a0 hw a1
    ·by_cases c3 : a3 < -1048576
     ·refine rp_short a0 f lo hi H L a3 _ a4 a1 w (AIM _ _ _ _ _) (.inr ⟨hb, .inr ⟨c3, ?_⟩⟩)
      unfold Th.pkm
      rw [if_neg c1, if_neg c2, if_pos c3]
      exact Th.shZ a0 hw a1
     ·have := rp_main a0 f t2 t1 lo hi hW h1 h2 AIM (Th.wn H L) hS a3 a4 a1 (by
       cases a4
       ·exact .inl fun h => c1 ⟨h, rfl⟩
       ·exact .inr rfl) (by omega) (by omega) w
      rw [e1, e2] at this
      exact this
  rcases hw with rfl | rfl
  ·exact key 23 (-149) 104 16777216 8388608 (.inl ⟨rfl, rfl, rfl, rfl⟩) (by decide) (by decide) (fun ng h l e m => by
    unfold round_aim.f; rw [show shape_Fields.f 32 = some (8, 23) by decide, Option.bind_some, if_neg (by decide), if_pos (by decide +kernel), if_pos (by decide)]
    rw [show wrap64 ((wrap64 (2 - (shl .i64 1 (wrap64 ((8 : Int) - 1))))) - 23) = -149 by decide +kernel, show wrap64 ((wrap64 ((-149 : Int) + (shl .i64 1 8))) - 3) = 104 by decide +kernel])
  ·exact key 52 (-1074) 971 9007199254740992 4503599627370496 (.inr ⟨rfl, rfl, rfl, rfl⟩) (by decide) (by decide) (fun ng h l e m => by
    unfold round_aim.f; rw [show shape_Fields.f 64 = some (11, 52) by decide, Option.bind_some, if_neg (by decide), if_pos (by decide +kernel), if_pos (by decide)]
    rw [show wrap64 ((wrap64 (2 - (shl .i64 1 (wrap64 ((11 : Int) - 1))))) - 52) = -1074 by decide +kernel, show wrap64 ((wrap64 ((-1074 : Int) + (shl .i64 1 11))) - 3) = 971 by decide +kernel])
 ·rw [if_neg hw]
  refine rp_none a0 H L a3 a4 a1 w ?_
  unfold round_aim.f shape_Fields.f shape_of.f
  rw [if_neg (by omega), if_neg (by omega)]
  rfl
def radix_finite.f (k : Nat) (a0 : Int) (a1_0 : Bool) (a1_1 : Int) (a1_2 : Int) (a1_3 : Int) : Option (Int) := (radix_spread.f k a1_0 a1_1 a1_2 a1_3).bind fun bt338 => ((wide_Root.f k bt338.1 bt338.2.1).bind fun bt342 => ((wide_Of.f bt342.1).bind fun bt344 => ((round_Pack.f a0 false bt344.1 bt344.2 (wrap64 (Int.tdiv bt338.2.2 2)) bt342.2).bind fun t346 => (some t346))))
theorem radix_finite.mono : ∀ a0 a1 a2 a3 a4 k, LeO (radix_finite.f k a0 a1 a2 a3 a4) (radix_finite.f (k + 1) a0 a1 a2 a3 a4) := by
 intro a0 a1 a2 a3 a4 k
 unfold radix_finite.f
 repeat' first
   | (with_reducible exact radix_spread.mono _ _ _ _ _)
   | (with_reducible exact wide_Root.mono _ _ _)
   | (with_reducible exact LeO.refl _)
   | (with_reducible exact LeO.none _)
   | (with_reducible refine LeO.ite ?_ ?_)
   | (with_reducible refine LeO.bind ?_ (fun _ => ?_))
   | exact radix_spread.mono _ _ _ _ _
   | exact wide_Root.mono _ _ _
   | exact LeO.none _
   | refine LeO.ite ?_ ?_
   | refine LeO.bind ?_ (fun _ => ?_)
theorem radix_finite.calls (k : Nat) (a0 : Int) (a1_0 : Bool) (a1_1 : Int) (a1_2 : Int) (a1_3 : Int) (r : Int) (w : World) (h : radix_finite.f k a0 a1_0 a1_1 a1_2 a1_3 = some r) :
  Calls Tryz.prog 148 #[.int .i64 a0, .agg #[.bool a1_0, .int .i64 a1_1, .int .i64 a1_2, .int .u64 a1_3]] w fun e w' => e = .returned (.int .u64 r) ∧ Below w.heap.size w w' := by
 have hu27 := Tryz.underlying27
 have hu166 := Tryz.underlying166
 have HB := A_ (Below.refl w.heap.size w)
 have H : ((radix_spread.f k a1_0 a1_1 a1_2 a1_3).bind fun bt338 => ((wide_Root.f k bt338.1 bt338.2.1).bind fun bt342 => ((wide_Of.f bt342.1).bind fun bt344 => ((round_Pack.f a0 false bt344.1 bt344.2 (wrap64 (Int.tdiv bt338.2.2 2)) bt342.2).bind fun t346 => (some t346))))) = some r := h
 clear h
 replace H := ob_ H
 obtain ⟨⟨t338, t339, t340⟩, A30, H⟩ := H
 replace H : ((wide_Root.f k t338 t339).bind fun bt342 => ((wide_Of.f bt342.1).bind fun bt344 => ((round_Pack.f a0 false bt344.1 bt344.2 (wrap64 (Int.tdiv t340 2)) bt342.2).bind fun t346 => (some t346)))) = some r := H
 have A3 := A_ A30;clear A30
 replace H := ob_ H
 obtain ⟨⟨t342, t343⟩, A40, H⟩ := H
 replace H : ((wide_Of.f t342).bind fun bt344 => ((round_Pack.f a0 false bt344.1 bt344.2 (wrap64 (Int.tdiv t340 2)) t343).bind fun t346 => (some t346))) = some r := H
 have A4 := A_ A40;clear A40
 replace H := ob_ H
 obtain ⟨⟨t344, t345⟩, A50, H⟩ := H
 replace H : ((round_Pack.f a0 false t344 t345 (wrap64 (Int.tdiv t340 2)) t343).bind fun t346 => (some t346)) = some r := H
 have A5 := A_ A50;clear A50
 replace H := ob_ H
 obtain ⟨t346, A60, H⟩ := H
 replace H : (some t346) = some r := H
 have A6 := A_ A60;clear A60
 obtain rfl := Option.some.inj H
 go_enter Tryz.func148, Tryz.ntmps148
 go_wp2_with (first | ((with_reducible refine gate_dst (N := 3) rfl ?_); refine be_ 3 #[.bool a1_0, .int .i64 a1_1, .int .i64 a1_2, .int .u64 a1_3] 27 ?_; intro gb337 hg w7 hbox hb; have BK337 := A_ (hbox); have GW337 := A_ (sz_ hg (hb_ HB.out)); have GE337 := A_ (sz_ hg (hb_ HB.out)); replace HB := A_ (below_step (hb_ HB.out) hb); clear hb hbox hg; have hcz8_0 := bv_ BK337.out 0; have hcz8_1 := bv_ BK337.out 1; have hcz8_2 := bv_ BK337.out 2; have hcz8_3 := bv_ BK337.out 3; have hfz8_0 := blk_frozen BK337.out 0; have hfz8_1 := blk_frozen BK337.out 1; have hfz8_2 := blk_frozen BK337.out 2; have hfz8_3 := blk_frozen BK337.out 3) | ((with_reducible refine gate_callee (f := 216) rfl ?_); refine goesL_ (some 11) rfl rfl Tryz.func216 (by kernel_rfl) rfl #[.agg #[.bool a1_0, .int .i64 a1_1, .int .i64 a1_2, .int .u64 a1_3]] rfl mp_ ?_; (with_reducible refine (radix_spread.calls k a1_0 a1_1 a1_2 a1_3 t338 t339 t340 _ A3.out).mono ?_); rintro e w9 ⟨rfl, hb⟩; refine ⟨_, rfl, ?_⟩; replace BK337 := A_ (bb_ BK337.out hb); replace HB := A_ (below_step (hb1_ HB.out GE337.out) hb); (try clear hb); (try clear hb2); (try clear hk); (try clear hi)) | ((with_reducible refine gate_dst (N := 5) rfl ?_); refine be_ 5 #[.int .u64 0, .int .u64 0] 166 ?_; intro gb341 hg w10 hbox hb; have BK341 := A_ (hbox); have GW341 := A_ (sz_ hg (hb1_ HB.out GE337.out)); have GE341 := A_ (sz_ hg (hb1_ HB.out GE337.out)); have NB337_341 := A_ (nl_ hg BK337.out); have NB341_337 := A_ (ng_ hg BK337.out); replace BK337 := A_ (bb_ BK337.out hb); replace HB := A_ (below_step (hb1_ HB.out GE337.out) hb); clear hb hbox hg; have hnb11 := NB341_337.out; have hnc11 := NB337_341.out; have hcz12_0 := bv_ BK341.out 0; have hcz12_1 := bv_ BK341.out 1; have hfz12_0 := blk_frozen BK341.out 0; have hfz12_1 := blk_frozen BK341.out 1) | ((with_reducible refine gate_callee (f := 217) rfl ?_); refine goesL_ (some 16) rfl rfl Tryz.func217 (by kernel_rfl) rfl #[.agg #[.int .u64 t338, .int .u64 t339]] rfl mp_ ?_; (with_reducible refine (wide_Root.calls k t338 t339 t342 t343 _ A4.out).mono ?_); rintro e w13 ⟨rfl, hb⟩; refine ⟨_, rfl, ?_⟩; replace BK337 := A_ (blk_below (g := gb337) (o := .cells #[.bool a1_0, .int .i64 a1_1, .int .i64 a1_2, .int .u64 a1_3] 27 (0, 0)) (bf2_ BK337.out NB337_341.out NB337_341.out) hb); replace BK341 := A_ (blk_below (g := gb341) (o := .cells #[.int .u64 t338, .int .u64 t339] 166 (0, 0)) (by (with_reducible repeat (first | refine blk_drewN ?_ _ | refine blk_drew ?_ | refine blk_alloc ?_ _)); refine blk_put (cs := #[.int .u64 t338, .int .u64 0]) ?_ 1 _ rfl; (with_reducible repeat (first | refine blk_drewN ?_ _ | refine blk_drew ?_ | refine blk_alloc ?_ _)); refine blk_put (cs := #[.int .u64 0, .int .u64 0]) ?_ 0 _ rfl; (with_reducible repeat (first | refine blk_drewN ?_ _ | refine blk_drew ?_ | refine blk_alloc ?_ _)); exact BK341.out) hb); replace HB := A_ (below_step (hb2_ HB.out GE337.out GE341.out) hb); (try clear hb); (try clear hb2); (try clear hk); (try clear hi)) | ((with_reducible refine gate_callee (f := 215) rfl ?_); refine goesL_ (some 21) rfl rfl Tryz.func215 (by kernel_rfl) rfl #[.int .u64 t342] rfl mp_ ?_; (with_reducible refine (wide_Of.calls t342 t344 t345 _ A5.out).mono ?_); rintro e w14 ⟨rfl, hb⟩; refine ⟨_, rfl, ?_⟩; replace BK337 := A_ (bb_ BK337.out hb); replace BK341 := A_ (bb_ BK341.out hb); replace HB := A_ (below_step (hb2_ HB.out GE337.out GE341.out) hb); (try clear hb); (try clear hb2); (try clear hk); (try clear hi)) | ((with_reducible refine gate_callee (f := 214) rfl ?_); refine goesL_ (some 25) rfl rfl Tryz.func214 (by kernel_rfl) rfl #[.int .i64 a0, .bool false, .agg #[.int .u64 t344, .int .u64 t345], .int .i64 (wrap64 (Int.tdiv t340 2)), .bool t343] rfl mp_ ?_; (with_reducible refine (round_Pack.calls a0 false t344 t345 (wrap64 (Int.tdiv t340 2)) t343 t346 _ A6.out).mono ?_); rintro e w15 ⟨rfl, hb⟩; refine ⟨_, rfl, ?_⟩; replace BK337 := A_ (bb_ BK337.out hb); replace BK341 := A_ (bb_ BK341.out hb); replace HB := A_ (below_step (hb2_ HB.out GE337.out GE341.out) hb); (try clear hb); (try clear hb2); (try clear hk); (try clear hi)))
 go_ret
 exact ⟨er_, hb2_ HB.out GE337.out GE341.out⟩
mutual
def radix_Sqrt.j0 : Nat → Int → Int → Bool → Option (Int)
 | 0, _, _, _ => none
 | k + 1, x0, x1, x11 => if x11 = true then (some 0) else ((shape_Open.f k x0 x1).bind fun bt347 => (if bt347.2.1 = 0 then ((shape_Zero.f x0 bt347.1).bind fun t352 => (some t352)) else (if bt347.2.1 = 3 then (radix_Sqrt.j1 k x0 true bt347.1 bt347.2.1 bt347.2.2.1 bt347.2.2.2) else (radix_Sqrt.j1 k x0 bt347.1 bt347.1 bt347.2.1 bt347.2.2.1 bt347.2.2.2))))
def radix_Sqrt.j1 : Nat → Int → Bool → Bool → Int → Int → Int → Option (Int)
 | 0, _, _, _, _, _, _ => none
 | k + 1, x0, x23, x352000, x352001, x352002, x352003 => if x23 = true then ((shape_Nan.f x0).bind fun t353 => (some t353)) else (if x352001 = 2 then ((shape_Inf.f x0 false).bind fun t354 => (some t354)) else ((radix_finite.f k x0 x352000 x352001 x352002 x352003).bind fun t355 => (some t355)))
end
def radix_Sqrt.f (k : Nat) (a0 : Int) (a1 : Int) : Option (Int) := if a0 = 32 then (radix_Sqrt.j0 k a0 a1 false) else (radix_Sqrt.j0 k a0 a1 (a0 != 64))
theorem radix_Sqrt.mono_l : ∀ k, (∀ y0 y1 y2, LeO (radix_Sqrt.j0 k y0 y1 y2) (radix_Sqrt.j0 (k + 1) y0 y1 y2)) ∧ (∀ y0 y1 y2 y3 y4 y5, LeO (radix_Sqrt.j1 k y0 y1 y2 y3 y4 y5) (radix_Sqrt.j1 (k + 1) y0 y1 y2 y3 y4 y5))
 | 0 => ⟨fun _ _ _ r h => by simp [radix_Sqrt.j0] at h, fun _ _ _ _ _ _ r h => by simp [radix_Sqrt.j1] at h⟩
 | k + 1 => by
  obtain ⟨ih0, ih1⟩ := radix_Sqrt.mono_l k
  refine ⟨?_, ?_⟩
  ·intro y0 y1 y2
   unfold radix_Sqrt.j0
   repeat' first
   | (with_reducible exact ih0 _ _ _)
   | (with_reducible exact ih1 _ _ _ _ _ _)
   | (with_reducible exact radix_finite.mono _ _ _ _ _ _)
   | (with_reducible exact shape_Open.mono _ _ _)
   | (with_reducible exact LeO.refl _)
   | (with_reducible exact LeO.none _)
   | (with_reducible refine LeO.ite ?_ ?_)
   | (with_reducible refine LeO.bind ?_ (fun _ => ?_))
   | exact ih0 _ _ _
   | exact ih1 _ _ _ _ _ _
   | exact radix_finite.mono _ _ _ _ _ _
   | exact shape_Open.mono _ _ _
   | exact LeO.none _
   | refine LeO.ite ?_ ?_
   | refine LeO.bind ?_ (fun _ => ?_)
  ·intro y0 y1 y2 y3 y4 y5
   unfold radix_Sqrt.j1
   repeat' first
   | (with_reducible exact ih0 _ _ _)
   | (with_reducible exact ih1 _ _ _ _ _ _)
   | (with_reducible exact radix_finite.mono _ _ _ _ _ _)
   | (with_reducible exact shape_Open.mono _ _ _)
   | (with_reducible exact LeO.refl _)
   | (with_reducible exact LeO.none _)
   | (with_reducible refine LeO.ite ?_ ?_)
   | (with_reducible refine LeO.bind ?_ (fun _ => ?_))
   | exact ih0 _ _ _
   | exact ih1 _ _ _ _ _ _
   | exact radix_finite.mono _ _ _ _ _ _
   | exact shape_Open.mono _ _ _
   | exact LeO.none _
   | refine LeO.ite ?_ ?_
   | refine LeO.bind ?_ (fun _ => ?_)
theorem radix_Sqrt.mono : ∀ a0 a1 k, LeO (radix_Sqrt.f k a0 a1) (radix_Sqrt.f (k + 1) a0 a1) := by
 intro a0 a1 k
 obtain ⟨ih0, ih1⟩ := radix_Sqrt.mono_l k
 unfold radix_Sqrt.f
 repeat' first
   | (with_reducible exact ih0 _ _ _)
   | (with_reducible exact ih1 _ _ _ _ _ _)
   | (with_reducible exact radix_finite.mono _ _ _ _ _ _)
   | (with_reducible exact shape_Open.mono _ _ _)
   | (with_reducible exact LeO.refl _)
   | (with_reducible exact LeO.none _)
   | (with_reducible refine LeO.ite ?_ ?_)
   | (with_reducible refine LeO.bind ?_ (fun _ => ?_))
   | exact ih0 _ _ _
   | exact ih1 _ _ _ _ _ _
   | exact radix_finite.mono _ _ _ _ _ _
   | exact shape_Open.mono _ _ _
   | exact LeO.none _
   | refine LeO.ite ?_ ?_
   | refine LeO.bind ?_ (fun _ => ?_)
theorem radix_Sqrt.calls (k : Nat) (a0 : Int) (a1 : Int) (r : Int) (w : World) (h : radix_Sqrt.f k a0 a1 = some r) :
  Calls Tryz.prog 82 #[.int .i64 a0, .int .u64 a1] w fun e w' => e = .returned (.int .u64 r) ∧ Below w.heap.size w w' := by
 have hu27 := Tryz.underlying27
 have HB := A_ (Below.refl w.heap.size w)
 have H : (if a0 = 32 then (radix_Sqrt.j0 k a0 a1 false) else (radix_Sqrt.j0 k a0 a1 (a0 != 64))) = some r := h
 clear h;have HC3 := A_ H;clear H
 go_enter Tryz.func82, Tryz.ntmps82
 go_upto_region 1 with (fail)
 go_cut [11] (fun v11 wc => ∃ (kq : Nat) (x11_2 : Bool), v11 = .bool x11_2 ∧ Aside0 (radix_Sqrt.j0 kq a0 a1 x11_2 = some r) ∧ Aside0 (kq ≤ k) ∧ Aside0 (Below w.heap.size w wc))
 case first =>
  have H := HC3.out
  clear HC3
  by_cases c4 : a0 = 32
  ·rw [if_pos c4] at H
   have c4b0 : (a0 == 32) = true := beq_iff_eq.mpr c4
   have c4b1 : (a0 != 32) = false := bne_eq_false_iff_eq.mpr c4
   clear c4
   (first | rw [c4b0] | (simp only [i64_w, i32_w]; rw [c4b0]) | skip)
   have H' := A_ H
   clear H
   go_wp2
   go_meet
   case rel => exact ⟨_, (false), sm_, H', ⟨by first | omega | exact Nat.le_refl _⟩, ⟨hb_ HB.out⟩⟩
  ·rw [if_neg c4] at H
   have c4b0 : (a0 == 32) = false := beq_eq_false_iff_ne.mpr c4
   have c4b1 : (a0 != 32) = true := bne_iff_ne.mpr c4
   (first | rw [c4b0] | (simp only [i64_w, i32_w]; rw [c4b0]) | skip)
   have H' := A_ H
   clear H
   go_wp2
   go_meet
   case rel => exact ⟨_, ((a0 != 64)), sm_, H', ⟨by first | omega | exact Nat.le_refl _⟩, ⟨hb_ HB.out⟩⟩
 case rest =>
  clear HC3
  try clear p2
  try clear c4
  try clear c4b0
  try clear c4b1
  obtain ⟨kq, x11_2, rfl, HA, HJ2, HB⟩ := hcut
  cases kq with
  | zero => exact absurd HA.out (by simp [radix_Sqrt.j0])
  | succ kj2 =>
   have H := HA.out
   clear HA
   simp only [radix_Sqrt.j0] at H
   by_cases c5 : x11_2 = true
   ·subst c5
    have H1 : (some 0) = some r := by rw [if_pos rfl] at H; exact H
    clear H;have H := H1;clear H1
    obtain rfl := Option.some.inj H
    go_wp2
    go_ret
    exact ⟨er_, hb_ HB.out⟩
   ·replace c5 := Bool.eq_false_iff.mpr c5
    subst c5
    have H1 : ((shape_Open.f kj2 a0 a1).bind fun bt347 => (if bt347.2.1 = 0 then ((shape_Zero.f a0 bt347.1).bind fun t352 => (some t352)) else (if bt347.2.1 = 3 then (radix_Sqrt.j1 kj2 a0 true bt347.1 bt347.2.1 bt347.2.2.1 bt347.2.2.2) else (radix_Sqrt.j1 kj2 a0 bt347.1 bt347.1 bt347.2.1 bt347.2.2.1 bt347.2.2.2)))) = some r := by rw [if_neg (show ¬ (false = true) by decide)] at H; exact H
    clear H;have H := H1;clear H1
    replace H := ob_ H
    obtain ⟨⟨t347, t348, t349, t350⟩, A60, H⟩ := H
    replace H : (if t348 = 0 then ((shape_Zero.f a0 t347).bind fun t352 => (some t352)) else (if t348 = 3 then (radix_Sqrt.j1 kj2 a0 true t347 t348 t349 t350) else (radix_Sqrt.j1 kj2 a0 t347 t347 t348 t349 t350))) = some r := H
    have A6 := A_ A60;clear A60
    by_cases c7 : t348 = 0
    ·rw [if_pos c7] at H
     have c7b0 : (t348 == 0) = true := beq_iff_eq.mpr c7
     have c7b1 : (t348 != 0) = false := bne_eq_false_iff_eq.mpr c7
     clear c7
     replace H := ob_ H
     obtain ⟨t352, A80, H⟩ := H
     replace H : (some t352) = some r := H
     have A8 := A_ A80;clear A80
     obtain rfl := Option.some.inj H
     go_wp2_with (first | ((with_reducible refine gate_callee (f := 10) rfl ?_); refine goesL_ (some 14) rfl rfl Tryz.func10 (by kernel_rfl) rfl #[.int .i64 a0, .int .u64 a1] rfl mp_ ?_; (with_reducible refine (shape_Open.calls kj2 a0 a1 t347 t348 t349 t350 _ A6.out).mono ?_); rintro e w9 ⟨rfl, hb⟩; refine ⟨_, rfl, ?_⟩; replace HB := A_ (below_step (hb_ HB.out) hb); (try clear hb); (try clear hb2); (try clear hk); (try clear hi)) | ((with_reducible refine gate_dst (N := 5) rfl ?_); refine be_ 5 #[.bool false, .int .i64 0, .int .i64 0, .int .u64 0] 27 ?_; intro gb351 hg w10 hbox hb; have BK351 := A_ (hbox); have GW351 := A_ (sz_ hg (hb_ HB.out)); have GE351 := A_ (sz_ hg (hb_ HB.out)); replace HB := A_ (below_step (hb_ HB.out) hb); clear hb hbox hg; have hcz11_0 := bv_ BK351.out 0; have hcz11_1 := bv_ BK351.out 1; have hcz11_2 := bv_ BK351.out 2; have hcz11_3 := bv_ BK351.out 3; have hfz11_0 := blk_frozen BK351.out 0; have hfz11_1 := blk_frozen BK351.out 1; have hfz11_2 := blk_frozen BK351.out 2; have hfz11_3 := blk_frozen BK351.out 3) | ((with_reducible refine gate_callee (f := 145) rfl ?_); refine goesL_ (some 22) rfl rfl Tryz.func145 (by kernel_rfl) rfl #[.int .i64 a0, .bool t347] rfl mp_ ?_; (with_reducible refine (shape_Zero.calls a0 t347 t352 _ A8.out).mono ?_); rintro e w12 ⟨rfl, hb⟩; refine ⟨_, rfl, ?_⟩; replace BK351 := A_ (blk_below (g := gb351) (o := .cells #[.bool t347, .int .i64 t348, .int .i64 t349, .int .u64 t350] 27 (0, 0)) (by (with_reducible repeat (first | refine blk_drewN ?_ _ | refine blk_drew ?_ | refine blk_alloc ?_ _)); refine blk_put (cs := #[.bool t347, .int .i64 t348, .int .i64 t349, .int .u64 0]) ?_ 3 _ rfl; (with_reducible repeat (first | refine blk_drewN ?_ _ | refine blk_drew ?_ | refine blk_alloc ?_ _)); refine blk_put (cs := #[.bool t347, .int .i64 t348, .int .i64 0, .int .u64 0]) ?_ 2 _ rfl; (with_reducible repeat (first | refine blk_drewN ?_ _ | refine blk_drew ?_ | refine blk_alloc ?_ _)); refine blk_put (cs := #[.bool t347, .int .i64 0, .int .i64 0, .int .u64 0]) ?_ 1 _ rfl; (with_reducible repeat (first | refine blk_drewN ?_ _ | refine blk_drew ?_ | refine blk_alloc ?_ _)); refine blk_put (cs := #[.bool false, .int .i64 0, .int .i64 0, .int .u64 0]) ?_ 0 _ rfl; (with_reducible repeat (first | refine blk_drewN ?_ _ | refine blk_drew ?_ | refine blk_alloc ?_ _)); exact BK351.out) hb); replace HB := A_ (below_step (hb1_ HB.out GE351.out) hb); (try clear hb); (try clear hb2); (try clear hk); (try clear hi)))
     go_ret
     exact ⟨er_, hb1_ HB.out GE351.out⟩
    ·rw [if_neg c7] at H
     have c7b0 : (t348 == 0) = false := beq_eq_false_iff_ne.mpr c7
     have c7b1 : (t348 != 0) = true := bne_iff_ne.mpr c7
     have HC13 := A_ H;clear H
     go_upto_region 6 with (first | ((with_reducible refine gate_callee (f := 10) rfl ?_); refine goesL_ (some 14) rfl rfl Tryz.func10 (by kernel_rfl) rfl #[.int .i64 a0, .int .u64 a1] rfl mp_ ?_; (with_reducible refine (shape_Open.calls kj2 a0 a1 t347 t348 t349 t350 _ A6.out).mono ?_); rintro e w14 ⟨rfl, hb⟩; refine ⟨_, rfl, ?_⟩; replace HB := A_ (below_step (hb_ HB.out) hb); (try clear hb); (try clear hb2); (try clear hk); (try clear hi)) | ((with_reducible refine gate_dst (N := 5) rfl ?_); refine be_ 5 #[.bool false, .int .i64 0, .int .i64 0, .int .u64 0] 27 ?_; intro gb351 hg w15 hbox hb; have BK351 := A_ (hbox); have GW351 := A_ (sz_ hg (hb_ HB.out)); have GE351 := A_ (sz_ hg (hb_ HB.out)); replace HB := A_ (below_step (hb_ HB.out) hb); clear hb hbox hg; have hcz16_0 := bv_ BK351.out 0; have hcz16_1 := bv_ BK351.out 1; have hcz16_2 := bv_ BK351.out 2; have hcz16_3 := bv_ BK351.out 3; have hfz16_0 := blk_frozen BK351.out 0; have hfz16_1 := blk_frozen BK351.out 1; have hfz16_2 := blk_frozen BK351.out 2; have hfz16_3 := blk_frozen BK351.out 3))
     (try simp only [Act.put, lI_, l0_, lS_])
     go_cut [23] (fun v23 wc => ∃ (kq : Nat) (x23_12 : Bool), v23 = .bool x23_12 ∧ Aside0 (radix_Sqrt.j1 kq a0 x23_12 t347 t348 t349 t350 = some r) ∧ Aside0 (kq ≤ kj2) ∧ Aside0 (wc.heap[gb351]? = some (.cells #[.bool t347, .int .i64 t348, .int .i64 t349, .int .u64 t350] 27 (0, 0))) ∧ Aside0 (Below w.heap.size w wc))
     case first =>
      have H := HC13.out
      clear HC13
      by_cases c17 : t348 = 3
      ·rw [if_pos c17] at H
       have c17b0 : (t348 == 3) = true := beq_iff_eq.mpr c17
       have c17b1 : (t348 != 3) = false := bne_eq_false_iff_eq.mpr c17
       clear c17
       (first | rw [c17b0] | (simp only [i64_w, i32_w]; rw [c17b0]) | skip)
       have H' := A_ H
       clear H
       have hcz18_0 := bv_ BK351.out 0
       have hcz18_1 := bv_ BK351.out 1
       have hcz18_2 := bv_ BK351.out 2
       have hcz18_3 := bv_ BK351.out 3
       have hfz18_0 := blk_frozen BK351.out 0
       have hfz18_1 := blk_frozen BK351.out 1
       have hfz18_2 := blk_frozen BK351.out 2
       have hfz18_3 := blk_frozen BK351.out 3
       go_wp2
       go_meet
       case rel => exact ⟨_, (true), sm_, H', ⟨by have := HJ2.out; first | omega | exact Nat.le_refl _⟩, ⟨by (with_reducible repeat (first | refine blk_drewN ?_ _ | refine blk_drew ?_ | refine blk_alloc ?_ _)); refine blk_put (cs := #[.bool t347, .int .i64 t348, .int .i64 t349, .int .u64 0]) ?_ 3 _ rfl; (with_reducible repeat (first | refine blk_drewN ?_ _ | refine blk_drew ?_ | refine blk_alloc ?_ _)); refine blk_put (cs := #[.bool t347, .int .i64 t348, .int .i64 0, .int .u64 0]) ?_ 2 _ rfl; (with_reducible repeat (first | refine blk_drewN ?_ _ | refine blk_drew ?_ | refine blk_alloc ?_ _)); refine blk_put (cs := #[.bool t347, .int .i64 0, .int .i64 0, .int .u64 0]) ?_ 1 _ rfl; (with_reducible repeat (first | refine blk_drewN ?_ _ | refine blk_drew ?_ | refine blk_alloc ?_ _)); refine blk_put (cs := #[.bool false, .int .i64 0, .int .i64 0, .int .u64 0]) ?_ 0 _ rfl; (with_reducible repeat (first | refine blk_drewN ?_ _ | refine blk_drew ?_ | refine blk_alloc ?_ _)); exact BK351.out⟩, ⟨hb1_ HB.out GE351.out⟩⟩
      ·rw [if_neg c17] at H
       have c17b0 : (t348 == 3) = false := beq_eq_false_iff_ne.mpr c17
       have c17b1 : (t348 != 3) = true := bne_iff_ne.mpr c17
       (first | rw [c17b0] | (simp only [i64_w, i32_w]; rw [c17b0]) | skip)
       have H' := A_ H
       clear H
       have hcz19_0 := bv_ BK351.out 0
       have hcz19_1 := bv_ BK351.out 1
       have hcz19_2 := bv_ BK351.out 2
       have hcz19_3 := bv_ BK351.out 3
       have hfz19_0 := blk_frozen BK351.out 0
       have hfz19_1 := blk_frozen BK351.out 1
       have hfz19_2 := blk_frozen BK351.out 2
       have hfz19_3 := blk_frozen BK351.out 3
       go_wp2
       go_meet
       case rel => exact ⟨_, (t347), sm_, H', ⟨by have := HJ2.out; first | omega | exact Nat.le_refl _⟩, ⟨by (with_reducible repeat (first | refine blk_drewN ?_ _ | refine blk_drew ?_ | refine blk_alloc ?_ _)); refine blk_put (cs := #[.bool t347, .int .i64 t348, .int .i64 t349, .int .u64 0]) ?_ 3 _ rfl; (with_reducible repeat (first | refine blk_drewN ?_ _ | refine blk_drew ?_ | refine blk_alloc ?_ _)); refine blk_put (cs := #[.bool t347, .int .i64 t348, .int .i64 0, .int .u64 0]) ?_ 2 _ rfl; (with_reducible repeat (first | refine blk_drewN ?_ _ | refine blk_drew ?_ | refine blk_alloc ?_ _)); refine blk_put (cs := #[.bool t347, .int .i64 0, .int .i64 0, .int .u64 0]) ?_ 1 _ rfl; (with_reducible repeat (first | refine blk_drewN ?_ _ | refine blk_drew ?_ | refine blk_alloc ?_ _)); refine blk_put (cs := #[.bool false, .int .i64 0, .int .i64 0, .int .u64 0]) ?_ 0 _ rfl; (with_reducible repeat (first | refine blk_drewN ?_ _ | refine blk_drew ?_ | refine blk_alloc ?_ _)); exact BK351.out⟩, ⟨hb1_ HB.out GE351.out⟩⟩
     case rest =>
      clear HC13
      try clear c1
      try clear p2
      try clear c4
      try clear c4b0
      try clear c4b1
      try clear c5
      try clear c7
      try clear c7b0
      try clear c7b1
      try clear c8
      try clear c10
      try clear c14
      try clear c17
      try clear c17b0
      try clear c17b1
      try clear hcz11_0
      try clear hcz11_1
      try clear hcz11_2
      try clear hcz11_3
      try clear hcz16_0
      try clear hcz16_1
      try clear hcz16_2
      try clear hcz16_3
      try clear hcz18_0
      try clear hcz18_1
      try clear hcz18_2
      try clear hcz18_3
      try clear hcz19_0
      try clear hcz19_1
      try clear hcz19_2
      try clear hcz19_3
      try clear hfz11_0
      try clear hfz11_1
      try clear hfz11_2
      try clear hfz11_3
      try clear hfz16_0
      try clear hfz16_1
      try clear hfz16_2
      try clear hfz16_3
      try clear hfz18_0
      try clear hfz18_1
      try clear hfz18_2
      try clear hfz18_3
      try clear hfz19_0
      try clear hfz19_1
      try clear hfz19_2
      try clear hfz19_3
      try clear p2
      obtain ⟨kq, x23_12, rfl, HA, HJ12, BK351, HB⟩ := hcut
      cases kq with
      | zero => exact absurd HA.out (by simp [radix_Sqrt.j1])
      | succ kj12 =>
       have H := HA.out
       clear HA
       simp only [radix_Sqrt.j1] at H
       by_cases c20 : x23_12 = true
       ·subst c20
        have H1 : ((shape_Nan.f a0).bind fun t353 => (some t353)) = some r := by rw [if_pos rfl] at H; exact H
        clear H;have H := H1;clear H1
        replace H := ob_ H
        obtain ⟨t353, A210, H⟩ := H
        replace H : (some t353) = some r := H
        have A21 := A_ A210;clear A210
        obtain rfl := Option.some.inj H
        go_wp2_with (first | ((with_reducible refine gate_callee (f := 146) rfl ?_); refine goesL_ (some 32) rfl rfl Tryz.func146 (by kernel_rfl) rfl #[.int .i64 a0] rfl mp_ ?_; (with_reducible refine (shape_Nan.calls a0 t353 _ A21.out).mono ?_); rintro e w22 ⟨rfl, hb⟩; refine ⟨_, rfl, ?_⟩; replace BK351 := A_ (bb_ BK351.out hb); replace HB := A_ (below_step (hb1_ HB.out GE351.out) hb); (try clear hb); (try clear hb2); (try clear hk); (try clear hi)))
        go_ret
        exact ⟨er_, hb1_ HB.out GE351.out⟩
       ·replace c20 := Bool.eq_false_iff.mpr c20
        subst c20
        have H1 : (if t348 = 2 then ((shape_Inf.f a0 false).bind fun t354 => (some t354)) else ((radix_finite.f kj12 a0 t347 t348 t349 t350).bind fun t355 => (some t355))) = some r := by rw [if_neg (show ¬ (false = true) by decide)] at H; exact H
        clear H;have H := H1;clear H1
        by_cases c23 : t348 = 2
        ·rw [if_pos c23] at H
         have c23b0 : (t348 == 2) = true := beq_iff_eq.mpr c23
         have c23b1 : (t348 != 2) = false := bne_eq_false_iff_eq.mpr c23
         clear c23
         replace H := ob_ H
         obtain ⟨t354, A240, H⟩ := H
         replace H : (some t354) = some r := H
         have A24 := A_ A240;clear A240
         obtain rfl := Option.some.inj H
         have hcz25_0 := bv_ BK351.out 0
         have hcz25_1 := bv_ BK351.out 1
         have hcz25_2 := bv_ BK351.out 2
         have hcz25_3 := bv_ BK351.out 3
         have hfz25_0 := blk_frozen BK351.out 0
         have hfz25_1 := blk_frozen BK351.out 1
         have hfz25_2 := blk_frozen BK351.out 2
         have hfz25_3 := blk_frozen BK351.out 3
         go_wp2_with (first | ((with_reducible refine gate_callee (f := 147) rfl ?_); refine goesL_ (some 38) rfl rfl Tryz.func147 (by kernel_rfl) rfl #[.int .i64 a0, .bool false] rfl mp_ ?_; (with_reducible refine (shape_Inf.calls a0 false t354 _ A24.out).mono ?_); rintro e w26 ⟨rfl, hb⟩; refine ⟨_, rfl, ?_⟩; replace BK351 := A_ (bb_ BK351.out hb); replace HB := A_ (below_step (hb1_ HB.out GE351.out) hb); (try clear hb); (try clear hb2); (try clear hk); (try clear hi)))
         go_ret
         exact ⟨er_, hb1_ HB.out GE351.out⟩
        ·rw [if_neg c23] at H
         have c23b0 : (t348 == 2) = false := beq_eq_false_iff_ne.mpr c23
         have c23b1 : (t348 != 2) = true := bne_iff_ne.mpr c23
         replace H := ob_ H
         obtain ⟨t355, A270, H⟩ := H
         replace H : (some t355) = some r := H
         have A27 := A_ A270;clear A270
         obtain rfl := Option.some.inj H
         have hcz28_0 := bv_ BK351.out 0
         have hcz28_1 := bv_ BK351.out 1
         have hcz28_2 := bv_ BK351.out 2
         have hcz28_3 := bv_ BK351.out 3
         have hfz28_0 := blk_frozen BK351.out 0
         have hfz28_1 := blk_frozen BK351.out 1
         have hfz28_2 := blk_frozen BK351.out 2
         have hfz28_3 := blk_frozen BK351.out 3
         go_wp2_with (first | ((with_reducible refine gate_callee (f := 148) rfl ?_); refine goesL_ (some 41) rfl rfl Tryz.func148 (by kernel_rfl) rfl #[.int .i64 a0, .agg #[.bool t347, .int .i64 t348, .int .i64 t349, .int .u64 t350]] rfl mp_ ?_; (with_reducible refine (radix_finite.calls kj12 a0 t347 t348 t349 t350 t355 _ A27.out).mono ?_); rintro e w29 ⟨rfl, hb⟩; refine ⟨_, rfl, ?_⟩; replace BK351 := A_ (bb_ BK351.out hb); replace HB := A_ (below_step (hb1_ HB.out GE351.out) hb); (try clear hb); (try clear hb2); (try clear hk); (try clear hi)))
         go_ret
         exact ⟨er_, hb1_ HB.out GE351.out⟩
def whole_Ceil.f (k : Nat) (a0 : Int) (a1 : Int) : Option (Int) := none
theorem whole_Ceil.mono : ∀ a0 a1 k, LeO (whole_Ceil.f k a0 a1) (whole_Ceil.f (k + 1) a0 a1) := fun _ _ _ => LeO.none _
theorem whole_Ceil.calls (k : Nat) (a0 : Int) (a1 : Int) (r : Int) (w : World) (h : whole_Ceil.f k a0 a1 = some r) :
  Calls Tryz.prog 78 #[.int .i64 a0, .int .u64 a1] w fun e w' => e = .returned (.int .u64 r) ∧ Below w.heap.size w w' := by
 cases h
def whole_Floor.f (k : Nat) (a0 : Int) (a1 : Int) : Option (Int) := none
theorem whole_Floor.mono : ∀ a0 a1 k, LeO (whole_Floor.f k a0 a1) (whole_Floor.f (k + 1) a0 a1) := fun _ _ _ => LeO.none _
theorem whole_Floor.calls (k : Nat) (a0 : Int) (a1 : Int) (r : Int) (w : World) (h : whole_Floor.f k a0 a1 = some r) :
  Calls Tryz.prog 79 #[.int .i64 a0, .int .u64 a1] w fun e w' => e = .returned (.int .u64 r) ∧ Below w.heap.size w w' := by
 cases h
def whole_Nearest.f (k : Nat) (a0 : Int) (a1 : Int) : Option (Int) := none
theorem whole_Nearest.mono : ∀ a0 a1 k, LeO (whole_Nearest.f k a0 a1) (whole_Nearest.f (k + 1) a0 a1) := fun _ _ _ => LeO.none _
theorem whole_Nearest.calls (k : Nat) (a0 : Int) (a1 : Int) (r : Int) (w : World) (h : whole_Nearest.f k a0 a1 = some r) :
  Calls Tryz.prog 81 #[.int .i64 a0, .int .u64 a1] w fun e w' => e = .returned (.int .u64 r) ∧ Below w.heap.size w w' := by
 cases h
def whole_Trunc.f (k : Nat) (a0 : Int) (a1 : Int) : Option (Int) := none
theorem whole_Trunc.mono : ∀ a0 a1 k, LeO (whole_Trunc.f k a0 a1) (whole_Trunc.f (k + 1) a0 a1) := fun _ _ _ => LeO.none _
theorem whole_Trunc.calls (k : Nat) (a0 : Int) (a1 : Int) (r : Int) (w : World) (h : whole_Trunc.f k a0 a1 = some r) :
  Calls Tryz.prog 80 #[.int .i64 a0, .int .u64 a1] w fun e w' => e = .returned (.int .u64 r) ∧ Below w.heap.size w w' := by
 cases h
def numeric_rounded.f (k : Nat) (a0 : Int) (a1 : Int) (a2 : Int) : Option (Int) := if a0 = 0 then ((sign_Abs.f a1 a2).bind fun t356 => (some t356)) else (if a0 = 1 then ((sign_Neg.f a1 a2).bind fun t357 => (some t357)) else (if a0 = 2 then ((whole_Ceil.f k a1 a2).bind fun t358 => (some t358)) else (if a0 = 3 then ((whole_Floor.f k a1 a2).bind fun t359 => (some t359)) else (if a0 = 4 then ((whole_Trunc.f k a1 a2).bind fun t360 => (some t360)) else (if a0 = 5 then ((whole_Nearest.f k a1 a2).bind fun t361 => (some t361)) else ((radix_Sqrt.f k a1 a2).bind fun t362 => (some t362)))))))
theorem numeric_rounded.mono : ∀ a0 a1 a2 k, LeO (numeric_rounded.f k a0 a1 a2) (numeric_rounded.f (k + 1) a0 a1 a2) := by
 intro a0 a1 a2 k
 unfold numeric_rounded.f
 repeat' first
   | (with_reducible exact radix_Sqrt.mono _ _ _)
   | (with_reducible exact whole_Ceil.mono _ _ _)
   | (with_reducible exact whole_Floor.mono _ _ _)
   | (with_reducible exact whole_Nearest.mono _ _ _)
   | (with_reducible exact whole_Trunc.mono _ _ _)
   | (with_reducible exact LeO.refl _)
   | (with_reducible exact LeO.none _)
   | (with_reducible refine LeO.ite ?_ ?_)
   | (with_reducible refine LeO.bind ?_ (fun _ => ?_))
   | exact radix_Sqrt.mono _ _ _
   | exact whole_Ceil.mono _ _ _
   | exact whole_Floor.mono _ _ _
   | exact whole_Nearest.mono _ _ _
   | exact whole_Trunc.mono _ _ _
   | exact LeO.none _
   | refine LeO.ite ?_ ?_
   | refine LeO.bind ?_ (fun _ => ?_)
theorem numeric_rounded.calls (k : Nat) (a0 : Int) (a1 : Int) (a2 : Int) (r : Int) (w : World) (h : numeric_rounded.f k a0 a1 a2 = some r) :
  Calls Tryz.prog 31 #[.int .i64 a0, .int .i64 a1, .int .u64 a2] w fun e w' => e = .returned (.int .u64 r) ∧ Below w.heap.size w w' := by
 have HB := A_ (Below.refl w.heap.size w)
 have H : (if a0 = 0 then ((sign_Abs.f a1 a2).bind fun t356 => (some t356)) else (if a0 = 1 then ((sign_Neg.f a1 a2).bind fun t357 => (some t357)) else (if a0 = 2 then ((whole_Ceil.f k a1 a2).bind fun t358 => (some t358)) else (if a0 = 3 then ((whole_Floor.f k a1 a2).bind fun t359 => (some t359)) else (if a0 = 4 then ((whole_Trunc.f k a1 a2).bind fun t360 => (some t360)) else (if a0 = 5 then ((whole_Nearest.f k a1 a2).bind fun t361 => (some t361)) else ((radix_Sqrt.f k a1 a2).bind fun t362 => (some t362)))))))) = some r := h
 clear h
 by_cases c4 : a0 = 0
 ·rw [if_pos c4] at H
  have c4b0 : (a0 == 0) = true := beq_iff_eq.mpr c4
  have c4b1 : (a0 != 0) = false := bne_eq_false_iff_eq.mpr c4
  clear c4
  replace H := ob_ H
  obtain ⟨t356, A50, H⟩ := H
  replace H : (some t356) = some r := H
  have A5 := A_ A50;clear A50
  obtain rfl := Option.some.inj H
  go_enter Tryz.func31, Tryz.ntmps31
  go_wp2_with (first | ((with_reducible refine gate_callee (f := 76) rfl ?_); refine goesL_ (some 12) rfl rfl Tryz.func76 (by kernel_rfl) rfl #[.int .i64 a1, .int .u64 a2] rfl mp_ ?_; (with_reducible refine (sign_Abs.calls a1 a2 t356 _ A5.out).mono ?_); rintro e w6 ⟨rfl, hb⟩; refine ⟨_, rfl, ?_⟩; replace HB := A_ (below_step (hb_ HB.out) hb); (try clear hb); (try clear hb2); (try clear hk); (try clear hi)))
  go_ret
  exact ⟨er_, hb_ HB.out⟩
 ·rw [if_neg c4] at H
  have c4b0 : (a0 == 0) = false := beq_eq_false_iff_ne.mpr c4
  have c4b1 : (a0 != 0) = true := bne_iff_ne.mpr c4
  by_cases c7 : a0 = 1
  ·rw [if_pos c7] at H
   have c7b0 : (a0 == 1) = true := beq_iff_eq.mpr c7
   have c7b1 : (a0 != 1) = false := bne_eq_false_iff_eq.mpr c7
   clear c7
   replace H := ob_ H
   obtain ⟨t357, A80, H⟩ := H
   replace H : (some t357) = some r := H
   have A8 := A_ A80;clear A80
   obtain rfl := Option.some.inj H
   go_enter Tryz.func31, Tryz.ntmps31
   go_wp2_with (first | ((with_reducible refine gate_callee (f := 77) rfl ?_); refine goesL_ (some 17) rfl rfl Tryz.func77 (by kernel_rfl) rfl #[.int .i64 a1, .int .u64 a2] rfl mp_ ?_; (with_reducible refine (sign_Neg.calls a1 a2 t357 _ A8.out).mono ?_); rintro e w9 ⟨rfl, hb⟩; refine ⟨_, rfl, ?_⟩; replace HB := A_ (below_step (hb_ HB.out) hb); (try clear hb); (try clear hb2); (try clear hk); (try clear hi)))
   go_ret
   exact ⟨er_, hb_ HB.out⟩
  ·rw [if_neg c7] at H
   have c7b0 : (a0 == 1) = false := beq_eq_false_iff_ne.mpr c7
   have c7b1 : (a0 != 1) = true := bne_iff_ne.mpr c7
   by_cases c10 : a0 = 2
   ·rw [if_pos c10] at H
    have c10b0 : (a0 == 2) = true := beq_iff_eq.mpr c10
    have c10b1 : (a0 != 2) = false := bne_eq_false_iff_eq.mpr c10
    clear c10
    replace H := ob_ H
    obtain ⟨t358, A110, H⟩ := H
    replace H : (some t358) = some r := H
    have A11 := A_ A110;clear A110
    obtain rfl := Option.some.inj H
    go_enter Tryz.func31, Tryz.ntmps31
    go_wp2_with (first | ((with_reducible refine gate_callee (f := 78) rfl ?_); refine goesL_ (some 22) rfl rfl Tryz.func78 (by kernel_rfl) rfl #[.int .i64 a1, .int .u64 a2] rfl mp_ ?_; (with_reducible refine (whole_Ceil.calls k a1 a2 t358 _ A11.out).mono ?_); rintro e w12 ⟨rfl, hb⟩; refine ⟨_, rfl, ?_⟩; replace HB := A_ (below_step (hb_ HB.out) hb); (try clear hb); (try clear hb2); (try clear hk); (try clear hi)))
    go_ret
    exact ⟨er_, hb_ HB.out⟩
   ·rw [if_neg c10] at H
    have c10b0 : (a0 == 2) = false := beq_eq_false_iff_ne.mpr c10
    have c10b1 : (a0 != 2) = true := bne_iff_ne.mpr c10
    by_cases c13 : a0 = 3
    ·rw [if_pos c13] at H
     have c13b0 : (a0 == 3) = true := beq_iff_eq.mpr c13
     have c13b1 : (a0 != 3) = false := bne_eq_false_iff_eq.mpr c13
     clear c13
     replace H := ob_ H
     obtain ⟨t359, A140, H⟩ := H
     replace H : (some t359) = some r := H
     have A14 := A_ A140;clear A140
     obtain rfl := Option.some.inj H
     go_enter Tryz.func31, Tryz.ntmps31
     go_wp2_with (first | ((with_reducible refine gate_callee (f := 79) rfl ?_); refine goesL_ (some 27) rfl rfl Tryz.func79 (by kernel_rfl) rfl #[.int .i64 a1, .int .u64 a2] rfl mp_ ?_; (with_reducible refine (whole_Floor.calls k a1 a2 t359 _ A14.out).mono ?_); rintro e w15 ⟨rfl, hb⟩; refine ⟨_, rfl, ?_⟩; replace HB := A_ (below_step (hb_ HB.out) hb); (try clear hb); (try clear hb2); (try clear hk); (try clear hi)))
     go_ret
     exact ⟨er_, hb_ HB.out⟩
    ·rw [if_neg c13] at H
     have c13b0 : (a0 == 3) = false := beq_eq_false_iff_ne.mpr c13
     have c13b1 : (a0 != 3) = true := bne_iff_ne.mpr c13
     by_cases c16 : a0 = 4
     ·rw [if_pos c16] at H
      have c16b0 : (a0 == 4) = true := beq_iff_eq.mpr c16
      have c16b1 : (a0 != 4) = false := bne_eq_false_iff_eq.mpr c16
      clear c16
      replace H := ob_ H
      obtain ⟨t360, A170, H⟩ := H
      replace H : (some t360) = some r := H
      have A17 := A_ A170;clear A170
      obtain rfl := Option.some.inj H
      go_enter Tryz.func31, Tryz.ntmps31
      go_wp2_with (first | ((with_reducible refine gate_callee (f := 80) rfl ?_); refine goesL_ (some 32) rfl rfl Tryz.func80 (by kernel_rfl) rfl #[.int .i64 a1, .int .u64 a2] rfl mp_ ?_; (with_reducible refine (whole_Trunc.calls k a1 a2 t360 _ A17.out).mono ?_); rintro e w18 ⟨rfl, hb⟩; refine ⟨_, rfl, ?_⟩; replace HB := A_ (below_step (hb_ HB.out) hb); (try clear hb); (try clear hb2); (try clear hk); (try clear hi)))
      go_ret
      exact ⟨er_, hb_ HB.out⟩
     ·rw [if_neg c16] at H
      have c16b0 : (a0 == 4) = false := beq_eq_false_iff_ne.mpr c16
      have c16b1 : (a0 != 4) = true := bne_iff_ne.mpr c16
      by_cases c19 : a0 = 5
      ·rw [if_pos c19] at H
       have c19b0 : (a0 == 5) = true := beq_iff_eq.mpr c19
       have c19b1 : (a0 != 5) = false := bne_eq_false_iff_eq.mpr c19
       clear c19
       replace H := ob_ H
       obtain ⟨t361, A200, H⟩ := H
       replace H : (some t361) = some r := H
       have A20 := A_ A200;clear A200
       obtain rfl := Option.some.inj H
       go_enter Tryz.func31, Tryz.ntmps31
       go_wp2_with (first | ((with_reducible refine gate_callee (f := 81) rfl ?_); refine goesL_ (some 37) rfl rfl Tryz.func81 (by kernel_rfl) rfl #[.int .i64 a1, .int .u64 a2] rfl mp_ ?_; (with_reducible refine (whole_Nearest.calls k a1 a2 t361 _ A20.out).mono ?_); rintro e w21 ⟨rfl, hb⟩; refine ⟨_, rfl, ?_⟩; replace HB := A_ (below_step (hb_ HB.out) hb); (try clear hb); (try clear hb2); (try clear hk); (try clear hi)))
       go_ret
       exact ⟨er_, hb_ HB.out⟩
      ·rw [if_neg c19] at H
       have c19b0 : (a0 == 5) = false := beq_eq_false_iff_ne.mpr c19
       have c19b1 : (a0 != 5) = true := bne_iff_ne.mpr c19
       replace H := ob_ H
       obtain ⟨t362, A220, H⟩ := H
       replace H : (some t362) = some r := H
       have A22 := A_ A220;clear A220
       obtain rfl := Option.some.inj H
       go_enter Tryz.func31, Tryz.ntmps31
       go_wp2_with (first | ((with_reducible refine gate_callee (f := 82) rfl ?_); refine goesL_ (some 40) rfl rfl Tryz.func82 (by kernel_rfl) rfl #[.int .i64 a1, .int .u64 a2] rfl mp_ ?_; (with_reducible refine (radix_Sqrt.calls k a1 a2 t362 _ A22.out).mono ?_); rintro e w23 ⟨rfl, hb⟩; refine ⟨_, rfl, ?_⟩; replace HB := A_ (below_step (hb_ HB.out) hb); (try clear hb); (try clear hb2); (try clear hk); (try clear hi)))
       go_ret
       exact ⟨er_, hb_ HB.out⟩
def numeric_stopped.f (k : Nat) (a0 : Int) (a1 : Int) : Option (Int) := none
theorem numeric_stopped.mono : ∀ a0 a1 k, LeO (numeric_stopped.f k a0 a1) (numeric_stopped.f (k + 1) a0 a1) := fun _ _ _ => LeO.none _
theorem numeric_stopped.calls (k : Nat) (a0 : Int) (a1 : Int) (r : Int) (w : World) (h : numeric_stopped.f k a0 a1 = some r) :
  Calls Tryz.prog 33 #[.int .i64 a0, .int .u64 a1] w fun e w' => e = .returned (.int .u64 r) ∧ Below w.heap.size w w' := by
 cases h
def numeric_truth.f (a0 : Bool) : Option (Int) := if a0 = true then (some 1) else (some 0)
theorem numeric_truth.calls (a0 : Bool) (r : Int) (w : World) (h : numeric_truth.f a0 = some r) :
  Calls Tryz.prog 26 #[.bool a0] w fun e w' => e = .returned (.int .u64 r) ∧ Drawn0 w w' := by
 have H : (if a0 = true then (some 1) else (some 0)) = some r := h
 clear h
 by_cases c2 : a0 = true
 ·subst c2
  have H1 : (some 1) = some r := by rw [if_pos rfl] at H; exact H
  clear H;have H := H1;clear H1
  obtain rfl := Option.some.inj H
  go_enter Tryz.func26, Tryz.ntmps26
  go_wp2
  go_ret
  exact ⟨sm_, by repeat (first | exact Drawn0.refl _ | apply Drawn0.step)⟩
 ·replace c2 := Bool.eq_false_iff.mpr c2
  subst c2
  have H1 : (some 0) = some r := by rw [if_neg (show ¬ (false = true) by decide)] at H; exact H
  clear H;have H := H1;clear H1
  obtain rfl := Option.some.inj H
  go_enter Tryz.func26, Tryz.ntmps26
  go_wp2
  go_ret
  exact ⟨sm_, by repeat (first | exact Drawn0.refl _ | apply Drawn0.step)⟩
def numeric_turn.f (k : Nat) (a0 : Int) (a1 : Int) : Option (Int × Int) := none
theorem numeric_turn.mono : ∀ a0 a1 k, LeO (numeric_turn.f k a0 a1) (numeric_turn.f (k + 1) a0 a1) := fun _ _ _ => LeO.none _
theorem numeric_turn.calls (k : Nat) (a0 : Int) (a1 : Int) (r1 : Int) (r2 : Int) (w : World) (h : numeric_turn.f k a0 a1 = some (r1, r2)) :
  Calls Tryz.prog 34 #[.int .i64 a0, .int .u64 a1] w fun e w' => e = .returned (.tuple #[.int .u64 r1, .int .i64 r2]) ∧ Below w.heap.size w w' := by
 cases h
end Go.Proofs.YtnmlmgmljoncoaaGreatDoor.PA
