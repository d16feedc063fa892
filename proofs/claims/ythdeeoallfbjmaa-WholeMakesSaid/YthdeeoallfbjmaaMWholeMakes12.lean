/- What the Go functions that the statement WholeMakes reaches compute, and the mathematics on it, in the order in which one leans on the other; for every input. -/
import Derived.Test.YthdeeoallfbjmaaVWholeMakes1
import Derived.Test.YthdeeoallfbjmaaMWholeMakes11
import Derived.Test.YthdeeoallfbjmaaMWholeMakes0
import Derived.Test.YthdeeoallfbjmaaMWholeMakes1
import Derived.Test.YthdeeoallfbjmaaMWholeMakes2
import Derived.Test.YthdeeoallfbjmaaMWholeMakes6
import Derived.Test.YthdeeoallfbjmaaMWholeMakes10
import Derived.Test.YthdeeoallfbjmaaMWholeMakes8
import Derived.Test.YthdeeoallfbjmaaRows
import Derived.ProofKit
import Derived.JoinedOf
import Derived.KernelRfl
section
set_option linter.unusedVariables false
set_option linter.unusedSimpArgs false
namespace Go.Proofs.Ythdeeoallfbjmaa.Th
open Go.RowKit Go.Proofs.YthdeeoallfbjmaaW.PrintWords Go.Proofs.YthdeeoallfbjmaaW.PrintLast Go.Proofs.YthdeeoallfbjmaaW.PrintMore Go.Proofs.Ythdeeoallfbjmaa.PA Bit Dig Flo
theorem wOf (g : Nat) (hg : g < 18446744073709551616) : wide_Of.f (g : Int) = some (wH g, wL g) := by
  obtain ⟨e1, e2⟩ := wSmall hg
  rw [e1, e2]; rfl
theorem pow_big {g n : Nat} (hg : g < 9007199254740992) (hn : 53 ≤ n) : g < 2 ^ n := Nat.lt_of_lt_of_le hg (Nat.pow_le_pow_right (n := 2) (by decide) hn)
theorem ofE (s : Bool) (kd : Int) {g n : Nat} {e : Int} (hg : g < 9007199254740992) (hn : e = -(n : Int)) (h0 : 0 < n) (h1 : n < 2000) :
    whole_of.f s kd e g = some (s, ((g / 2 ^ n : Nat) : Int), decide (g / 2 ^ (n - 1) % 2 = 1), decide (g % 2 ^ (n - 1) ≠ 0)) := by
  unfold whole_of.f
  subst hn
  have e1 : wrap64 (mn (wrap64 (-(-(n : Int)))) 128 - 1) = ((min n 128 - 1 : Nat) : Int) := by
    rw [Int.neg_neg, w64_id (n := (n : Int)) (by omega) (by omega)]
    unfold mn
    split <;> rw [w64_id (by omega) (by omega)] <;> omega
  have hq : g / 2 ^ (min n 128 - 1) ≤ g := Nat.div_le_self _ _
  have hq2 : g / 2 ^ (min n 128 - 1) / 2 ^ 1 ≤ g := Nat.le_trans (Nat.div_le_self _ _) hq
  have k1 := wRight (V := g) (by omega) (min n 128 - 1) (by omega)
  have k2 := wRight (V := g / 2 ^ (min n 128 - 1)) (by omega) 1 (by decide)
  rw [e1, wOf g (by omega), Option.bind_some]
  dsimp only
  rw [k1, Option.bind_some]
  dsimp only
  rw [show (1 : Int) = ((1 : Nat) : Int) from rfl, k2, Option.bind_some]
  dsimp only
  have w1 := wAnd1 (g / 2 ^ (min n 128 - 1))
  have k3 : wL (g / 2 ^ (min n 128 - 1) / 2 ^ 1) = ((g / 2 ^ (min n 128 - 1) / 2 ^ 1 : Nat) : Int) := (wSmall (by omega)).2
  rw [show ((1 : Nat) : Int) = 1 from rfl, w1, k3]
  by_cases c : n ≤ 128
  · rw [Nat.min_eq_left c, Nat.div_div_eq_div_mul, ← Nat.pow_add, show n - 1 + 1 = n by omega]
  · rw [Nat.min_eq_right (by omega)]
    have b1 : g < 2 ^ 127 := pow_big hg (by decide)
    have b2 : g < 2 ^ n := pow_big hg (by omega)
    have b3 : g < 2 ^ (n - 1) := pow_big hg (by omega)
    rw [show 128 - 1 = 127 from rfl, Nat.div_eq_of_lt b1, Nat.mod_eq_of_lt b1, Nat.div_eq_of_lt b2, Nat.div_eq_of_lt b3, Nat.mod_eq_of_lt b3, Nat.zero_div]
theorem whHalf (g n : Nat) (h0 : 0 < n) : g % 2 ^ n = g % 2 ^ (n - 1) + 2 ^ (n - 1) * (g / 2 ^ (n - 1) % 2) := by
  obtain ⟨k, rfl⟩ : ∃ k, n = k + 1 := ⟨n - 1, by omega⟩
  rw [Nat.add_sub_cancel, Nat.pow_succ, Nat.mod_mul]
theorem whLost (g n : Nat) (h0 : 0 < n) : (decide (g / 2 ^ (n - 1) % 2 = 1) || decide (g % 2 ^ (n - 1) ≠ 0)) = decide (g % 2 ^ n ≠ 0) := by
  have h := whHalf g n h0
  have hp : 0 < 2 ^ (n - 1) := Nat.pow_pos (by decide)
  rw [h]
  rcases Nat.mod_two_eq_zero_or_one (g / 2 ^ (n - 1)) with e | e
  · rw [e]; simp
  · rw [e]; simp
theorem whNear (g n : Nat) (h0 : 0 < n) : (decide (g / 2 ^ (n - 1) % 2 = 1) && (decide (g % 2 ^ (n - 1) ≠ 0) || decide (g / 2 ^ n % 2 = 1))) =
    (decide (2 ^ n < 2 * (g % 2 ^ n)) || (decide (2 * (g % 2 ^ n) = 2 ^ n) && decide (g / 2 ^ n % 2 = 1))) := by
  have h := whHalf g n h0
  have hp : 0 < 2 ^ (n - 1) := Nat.pow_pos (by decide)
  have hl : g % 2 ^ (n - 1) < 2 ^ (n - 1) := Nat.mod_lt _ hp
  have e2 : 2 ^ n = 2 * 2 ^ (n - 1) := by rw [← Nat.pow_succ', show (n - 1).succ = n by omega]
  rw [h, e2]
  generalize g / (2 * 2 ^ (n - 1)) % 2 = o
  rcases Nat.mod_two_eq_zero_or_one (g / 2 ^ (n - 1)) with e | e
  · rw [e]
    simp
    exact ⟨by omega, fun h => by omega⟩
  · rw [e]
    by_cases c : g % 2 ^ (n - 1) = 0
    · simp [c]
    · simp [c]
      omega
theorem downE (s : Bool) (kd : Int) {g n : Nat} {e : Int} (hg : g < 9007199254740992) (hn : e = -(n : Int)) (h0 : 0 < n) (h1 : n < 2000) :
    Ev (fun k => r9_Down.f k s kd e g) (dg (g / 2 ^ n), cmpN (2 * (g % 2 ^ n)) (2 ^ n), decide (0 < g % 2 ^ n)) := by
  have bg := bl_le.2 (show g < 2 ^ 53 from hg)
  have b1 := bl_shl 1 n
  rw [bl_one] at b1
  have hp : 0 < 1 * 2 ^ n := by rw [Nat.one_mul]; exact Nat.pow_pos (by decide)
  have hm : bl (g % (1 * 2 ^ n)) ≤ bl g := bl_mono (Nat.mod_le _ _)
  have hs := bl_shl (g % (1 * 2 ^ n)) 1
  unfold r9_Down.f
  subst hn
  rw [Int.neg_neg, w64_id (n := (n : Int)) (by omega) (by omega)]
  refine Ev.neg (by omega) (Ev.bind (of_dg 1 (by decide)) (Ev.bind (shl_bl 1 n (by omega) (by decide)) (Ev.bind (of_dg g (by omega)) (Ev.bind (div_dg g (1 * 2 ^ n) hp (by omega) (by omega)) (Ev.bind (shl_bl _ 1 (by decide) (by omega)) (Ev.bind (cmp_bl _ _ (by omega) (by omega)) (Ev.out ?_)))))))
  rw [Nat.one_mul, Nat.pow_one, Nat.mul_comm _ 2]
  congr 2
  show decide (((dg (g % 2 ^ n)).length : Int) > 0) = _
  rw [decide_eq_decide]
  have := @len_pos (g % 2 ^ n)
  omega
theorem downU (s : Bool) (kd : Int) {g n : Nat} {e : Int} (hg : g < 9007199254740992) (hn : e = (n : Int)) (h1 : n < 2000) :
    Ev (fun k => r9_Down.f k s kd e g) (dg (g * 2 ^ n), -1, false) := by
  have bg := bl_le.2 (show g < 2 ^ 53 from hg)
  unfold r9_Down.f
  subst hn
  exact Ev.pos (show (n : Int) ≥ 0 by omega) (Ev.bind (of_dg g (by omega)) (Ev.bind (shl_bl g n (by omega) (by omega)) (Ev.out rfl)))
def upB (way : Nat) (s : Bool) (g n : Nat) : Bool :=
  if way = 1 then decide (g % 2 ^ n ≠ 0) && !s else if way = 2 then decide (g % 2 ^ n ≠ 0) && s
  else if way = 4 then (decide (2 ^ n < 2 * (g % 2 ^ n)) || (decide (2 * (g % 2 ^ n) = 2 ^ n) && decide (g / 2 ^ n % 2 = 1))) else false
noncomputable def mkW (way : Nat) (w : Int) (a : Nat) : Nat :=
  if (opn w a).2.1 = 3 then nanN w
  else if (opn w a).2.1 = 1 ∧ (opn w a).2.2.1 < 0 then
    mkN w ((fmt w).rnd (((fmt w).sg (magN w a) / 2 ^ (-(opn w a).2.2.1).toNat + (if upB way (sgB w a) ((fmt w).sg (magN w a)) (-(opn w a).2.2.1).toNat then 1 else 0) : Nat) : Rat)) (sgB w a)
  else cutN w a
def awB (way : Nat) : Bool → Int → Bool → Bool → Bool := if way = 1 then whole_Ceil.aw else if way = 2 then whole_Floor.aw else if way = 4 then whole_Nearest.aw else whole_Trunc.aw
theorem oddI (q : Nat) (h : q < 18446744073709551616) : (Go.bits .and .u64 (q : Int) 1 == 1) = decide (q % 2 = 1) := by
  have := wAnd1 q
  rw [(wSmall h).2] at this
  exact this
theorem awS (way : Nat) (hway : way = 1 ∨ way = 2 ∨ way = 3 ∨ way = 4) (s : Bool) (g n : Nat) (h0 : 0 < n) (hg : g < 9007199254740992) :
    ((decide (g / 2 ^ (n - 1) % 2 = 1) || decide (g % 2 ^ (n - 1) ≠ 0)) && awB way s ((g / 2 ^ n : Nat) : Int) (decide (g / 2 ^ (n - 1) % 2 = 1)) (decide (g % 2 ^ (n - 1) ≠ 0))) = upB way s g n := by
  have hl := whLost g n h0
  rcases hway with rfl | rfl | rfl | rfl
  · rw [hl]; rfl
  · rw [hl]; rfl
  · rw [hl]; exact Bool.and_false _
  · have e : awB 4 s ((g / 2 ^ n : Nat) : Int) (decide (g / 2 ^ (n - 1) % 2 = 1)) (decide (g % 2 ^ (n - 1) ≠ 0)) = (decide (g / 2 ^ (n - 1) % 2 = 1) && (decide (g % 2 ^ (n - 1) ≠ 0) || decide (g / 2 ^ n % 2 = 1))) := by
      show (_ && (_ || (Go.bits .and .u64 ((g / 2 ^ n : Nat) : Int) 1 == 1))) = _
      rw [oddI _ (by have := Nat.div_le_self g (2 ^ n); omega)]
    rw [e]
    show _ = (decide (2 ^ n < 2 * (g % 2 ^ n)) || (decide (2 * (g % 2 ^ n) = 2 ^ n) && decide (g / 2 ^ n % 2 = 1)))
    rw [← whNear g n h0]
    cases decide (g / 2 ^ (n - 1) % 2 = 1) <;> simp
theorem madeE (way : Nat) (hway : way = 1 ∨ way = 2 ∨ way = 3 ∨ way = 4) (w : Int) (hw : w = 32 ∨ w = 64) (a : Nat) (ha : a < 18446744073709551616) :
    Ev (fun k => whole_madeF k (awB way) w a) ((mkW way w a : Nat) : Int) := by
  unfold whole_madeF mkW
  refine Ev.pos hw (Ev.bind (openS w hw a ha) ?_)
  by_cases k3 : (opn w a).2.1 = 3
  · refine Ev.pos k3 ?_
    rw [if_pos k3, shN w hw]
    exact Ev.out rfl
  · refine Ev.neg k3 ?_
    rw [if_neg k3]
    by_cases c : (opn w a).2.1 = 1 ∧ (opn w a).2.2.1 < 0
    · refine Ev.pos c ?_
      rw [if_pos c]
      rcases kinds w hw a with ⟨k1, k2⟩ | ⟨k0, k1, k2⟩ | ⟨k1, k2⟩ | ⟨k1, k2⟩
      · rw [k2] at c; exact absurd c.1 (by simp)
      · have he := ex_bd w hw _ k1
        have hg := sg_64 w hw (magN w a)
        obtain ⟨n, hn⟩ := Int.eq_ofNat_of_zero_le (show 0 ≤ -(opn w a).2.2.1 by omega)
        rw [k2] at c hn ⊢
        dsimp only at c hn ⊢
        rw [hn, Int.toNat_natCast]
        have h0 : 0 < n := by omega
        have hq : (fmt w).sg (magN w a) / 2 ^ n ≤ (fmt w).sg (magN w a) := Nat.div_le_self _ _
        refine Ev.bs (ofE (sgB w a) 1 hg (show _ = -(n : Int) by omega) h0 (by omega)) ?_
        dsimp only
        rw [awS way hway _ _ _ h0 hg]
        generalize (fmt w).sg (magN w a) / 2 ^ n = q at *
        generalize upB way (sgB w a) ((fmt w).sg (magN w a)) n = u
        have e : (if u = true then IntKind.u64.wrap ((q : Int) + 1) else (q : Int)) = ((q + (if u = true then 1 else 0) : Nat) : Int) := by
          cases u
          · simp
          · rw [if_pos rfl, if_pos rfl, u64_id (by omega) (by omega)]; omega
        rw [e]
        have p := pack1 w hw (sgB w a) (q + (if u = true then 1 else 0)) (by split <;> omega) 0
        rw [tw_zero, Rat.mul_one] at p
        rw [p]
        exact Ev.out rfl
      · rw [k2] at c; exact absurd c.1 (by simp)
      · rw [k2] at c; exact absurd c.1 (by simp)
    · refine Ev.neg c ?_
      rw [if_neg c]
      rw [shCut w a ha]
      exact Ev.out rfl
theorem made_no {w : Int} (hw : ¬ (w = 32 ∨ w = 64)) (aw : Bool → Int → Bool → Bool → Bool) (a : Int) : Ev (fun k => whole_madeF k aw w a) 0 := by
  unfold whole_madeF
  exact Ev.neg hw (Ev.out rfl)
theorem awake09 : Ev (fun k => L09_awake.f k) true := Ev.of (fun k => L09_awake.mono k) (k := 12) (by decide +kernel)
theorem whCmp (a b : Nat) : ((cmpN a b > 0) ↔ b < a) ∧ (cmpN a b = 0 ↔ a = b) := by
  unfold cmpN
  by_cases h1 : a < b
  · rw [if_pos h1]; omega
  · rw [if_neg h1]
    by_cases h2 : b < a
    · rw [if_pos h2]; omega
    · rw [if_neg h2]; omega
theorem mkJ (w : Int) (hw : w = 32 ∨ w = 64) (up s : Bool) (kd e g : Int) (N : Nat) (hN : bl N < 2000) :
    Ev (fun k => r9_Make.j0 k w up s kd e g (dg N)) ((mkN w ((fmt w).rnd ((N + (if up then 1 else 0) : Nat) : Rat)) s : Nat) : Int) := by
  refine Ev.step (fun _ => r9_Make.j0.eq_2 ..) ?_
  have ex := fun (M : Nat) (hM : bl M < 2900) => exactS w hw s M 0 hM
  simp only [tw_zero, Rat.mul_one] at ex
  cases up
  · exact Ev.neg (by decide) (Ev.bind (ex N (by omega)) (Ev.out rfl))
  · have b1 := bl_add N 1
    rw [bl_one] at b1
    exact Ev.pos rfl (Ev.bind (of_dg 1 (by decide)) (Ev.bind (add_bl N 1 (by omega) (by decide)) (Ev.bind (ex (N + 1) (by omega)) (Ev.out rfl))))
theorem whBig (w : Int) (hw : w = 32 ∨ w = 64) (a : Nat) (ha : a < 18446744073709551616) (n : Nat) (k1 : magN w a < (fmt w).inf) (h : (fmt w).ex (magN w a) = (n : Int)) :
    mkN w ((fmt w).rnd (((fmt w).sg (magN w a) * 2 ^ n : Nat) : Rat)) (sgB w a) = cutN w a := by
  have e := (fmt w).val_over (m := magN w a) (e := 0) (by omega)
  rw [tw_zero, Rat.mul_one, show ((fmt w).ex (magN w a) - 0).toNat = n by omega] at e
  rw [← e, (fmt w).rnd_val (by omega), ← cut_as_mk w hw a ha]
theorem makeE (way : Nat) (hway : way = 1 ∨ way = 2 ∨ way = 3 ∨ way = 4) (w : Int) (hw : w = 32 ∨ w = 64) (a : Nat) (ha : a < 18446744073709551616) :
    Ev (fun k => r9_Make.f k w a (way : Int)) ((mkW way w a : Nat) : Int) := by
  unfold r9_Make.f mkW
  refine Ev.bind (r2Open w hw a ha) ?_
  by_cases k3 : (opn w a).2.1 = 3
  · refine Ev.pos k3 (Ev.bind (r2Nanw w hw) ?_)
    rw [if_pos k3]
    exact Ev.out rfl
  · refine Ev.neg k3 ?_
    rw [if_neg k3]
    rcases kinds w hw a with ⟨k1, k2⟩ | ⟨k0, k1, k2⟩ | ⟨k1, k2⟩ | ⟨k1, k2⟩
    · rw [k2]
      refine Ev.neg (by simp) ?_
      rw [if_neg (by simp)]
      exact Ev.bs (r2Cut w a hw) (Ev.out rfl)
    · have he := ex_bd w hw _ k1
      have hg := sg_64 w hw (magN w a)
      have bg := bl_le.2 (show (fmt w).sg (magN w a) < 2 ^ 53 from hg)
      have big := whBig w hw a ha
      rw [k2]
      dsimp only
      refine Ev.pos rfl ?_
      by_cases c : (fmt w).ex (magN w a) < 0
      · obtain ⟨n, hn⟩ := Int.eq_ofNat_of_zero_le (show 0 ≤ -(fmt w).ex (magN w a) by omega)
        rw [if_pos ⟨rfl, c⟩, hn, Int.toNat_natCast]
        refine Ev.bind (downE (sgB w a) 1 hg (show _ = -(n : Int) by omega) (by omega) (by omega)) ?_
        dsimp only
        have bq : bl ((fmt w).sg (magN w a) / 2 ^ n) ≤ bl ((fmt w).sg (magN w a)) := bl_mono (Nat.div_le_self _ _)
        generalize (fmt w).sg (magN w a) = g at *
        generalize hq : g / 2 ^ n = q at *
        have j := fun up => mkJ w hw up (sgB w a) 1 ((fmt w).ex (magN w a)) (g : Int) q (by omega)
        have l0 : decide (0 < g % 2 ^ n) = decide (g % 2 ^ n ≠ 0) := by rw [decide_eq_decide]; omega
        rw [l0]
        rcases hway with rfl | rfl | rfl | rfl
        · refine Ev.pos rfl ?_
          have u : upB 1 (sgB w a) g n = (decide (g % 2 ^ n ≠ 0) && !sgB w a) := rfl
          rw [u]
          by_cases l : g % 2 ^ n ≠ 0
          · refine Ev.pos (decide_eq_true l) ?_
            rw [decide_eq_true l, Bool.true_and]
            exact j _
          · refine Ev.neg (by simp at l; simp [l]) ?_
            rw [decide_eq_false l, Bool.false_and]
            exact j _
        · refine Ev.neg (by decide) (Ev.pos rfl ?_)
          have u : upB 2 (sgB w a) g n = (decide (g % 2 ^ n ≠ 0) && sgB w a) := rfl
          rw [u]
          by_cases l : g % 2 ^ n ≠ 0
          · refine Ev.pos (decide_eq_true l) ?_
            rw [decide_eq_true l, Bool.true_and]
            exact j _
          · refine Ev.neg (by simp at l; simp [l]) ?_
            rw [decide_eq_false l, Bool.false_and]
            exact j _
        · exact Ev.neg (by decide) (Ev.neg (by decide) (Ev.neg (by decide) (j false)))
        · refine Ev.neg (by decide) (Ev.neg (by decide) (Ev.pos rfl ?_))
          have u : upB 4 (sgB w a) g n = (decide (2 ^ n < 2 * (g % 2 ^ n)) || (decide (2 * (g % 2 ^ n) = 2 ^ n) && decide (q % 2 = 1))) := by rw [← hq]; rfl
          rw [u]
          obtain ⟨c1, c2⟩ := whCmp (2 * (g % 2 ^ n)) (2 ^ n)
          by_cases l : 2 ^ n < 2 * (g % 2 ^ n)
          · refine Ev.pos (c1.2 l) ?_
            rw [decide_eq_true l, Bool.true_or]
            exact j _
          · refine Ev.neg (fun x => l (c1.1 x)) ?_
            rw [decide_eq_false l, Bool.false_or]
            by_cases z : 2 * (g % 2 ^ n) = 2 ^ n
            · refine Ev.pos (c2.2 z) (Ev.bs (uint_dg q) ?_)
              rw [decide_eq_true z, Bool.true_and]
              have q0 : q ≤ g := by rw [← hq]; exact Nat.div_le_self _ _
              have e : (Int.tmod ((q % 18446744073709551616 : Nat) : Int) 2 == 1) = decide (q % 2 = 1) := by
                rw [Nat.mod_eq_of_lt (by omega), Int.tmod_eq_emod_of_nonneg (by omega)]
                by_cases o : q % 2 = 1
                · rw [decide_eq_true o]; simp; omega
                · rw [decide_eq_false o]; simp; omega
              rw [e]
              exact j _
            · refine Ev.neg (fun x => z (c2.1 x)) ?_
              rw [decide_eq_false z, Bool.false_and]
              exact j _
      · obtain ⟨n, hn⟩ := Int.eq_ofNat_of_zero_le (show 0 ≤ (fmt w).ex (magN w a) by omega)
        rw [if_neg (fun x => c x.2), ← big n k1 hn]
        refine Ev.bind (downU (sgB w a) 1 hg hn (by omega)) ?_
        dsimp only
        have bs := bl_shl ((fmt w).sg (magN w a)) n
        have j := mkJ w hw false (sgB w a) 1 ((fmt w).ex (magN w a)) ((fmt w).sg (magN w a) : Int) ((fmt w).sg (magN w a) * 2 ^ n) (by omega)
        rcases hway with rfl | rfl | rfl | rfl
        · exact Ev.pos rfl (Ev.neg (by decide) j)
        · exact Ev.neg (by decide) (Ev.pos rfl (Ev.neg (by decide) j))
        · exact Ev.neg (by decide) (Ev.neg (by decide) (Ev.neg (by decide) j))
        · exact Ev.neg (by decide) (Ev.neg (by decide) (Ev.pos rfl (Ev.neg (by decide) (Ev.neg (by decide) j))))
    · rw [k2]
      refine Ev.neg (by simp) ?_
      rw [if_neg (by simp)]
      exact Ev.bs (r2Cut w a hw) (Ev.out rfl)
    · rw [k2] at k3; exact absurd rfl k3
def isWh (w : Int) (a : Nat) : Bool := decide ((opn w a).2.1 = 0) || (decide ((opn w a).2.1 = 1) && (decide (0 ≤ (opn w a).2.2.1) || decide ((fmt w).sg (magN w a) % 2 ^ (-(opn w a).2.2.1).toNat = 0)))
theorem isEh (w : Int) (hw : w = 32 ∨ w = 64) (a : Nat) (ha : a < 18446744073709551616) : Ev (fun k => whole_IsWhole.f k w a) (isWh w a) := by
  have main : Ev (fun k => whole_IsWhole.j0 k w a false) (isWh w a) := by
    refine Ev.step (fun _ => whole_IsWhole.j0.eq_2 ..) (Ev.neg (by decide) (Ev.bind (openS w hw a ha) ?_))
    unfold isWh
    rcases kinds w hw a with ⟨k1, k2⟩ | ⟨k0, k1, k2⟩ | ⟨k1, k2⟩ | ⟨k1, k2⟩
    · rw [k2]; exact Ev.pos rfl (Ev.out rfl)
    · have he := ex_bd w hw _ k1
      have hg := sg_64 w hw (magN w a)
      rw [k2]
      dsimp only
      refine Ev.neg (by decide) (Ev.pos rfl ?_)
      by_cases c : 0 ≤ (fmt w).ex (magN w a)
      · exact Ev.pos c (Ev.out (by simp [c]))
      · obtain ⟨n, hn⟩ := Int.eq_ofNat_of_zero_le (show 0 ≤ -(fmt w).ex (magN w a) by omega)
        refine Ev.neg c (Ev.bs (ofE (sgB w a) 1 hg (show _ = -(n : Int) by omega) (by omega) (by omega)) ?_)
        dsimp only
        rw [hn, Int.toNat_natCast]
        have l := whLost ((fmt w).sg (magN w a)) n (by omega)
        have e : ∀ h r : Bool, whole_cut_exact.f (sgB w a) (((fmt w).sg (magN w a) / 2 ^ n : Nat) : Int) h r = some (!(h || r)) := by intro h r; cases h <;> cases r <;> rfl
        refine Ev.bs (e _ _) ?_
        rw [l]
        refine Ev.out ?_
        simp only [decide_eq_false c, decide_true, Bool.true_and, Bool.false_or]
        by_cases z : (fmt w).sg (magN w a) % 2 ^ n = 0 <;> simp [z]
    · rw [k2]; exact Ev.neg (by simp) (Ev.neg (by simp) (Ev.out rfl))
    · rw [k2]; exact Ev.neg (by simp) (Ev.neg (by simp) (Ev.out rfl))
  unfold whole_IsWhole.f
  rcases hw with rfl | rfl
  · exact Ev.pos rfl main
  · exact Ev.neg (by decide) main
theorem is_no {w : Int} (hw : ¬ (w = 32 ∨ w = 64)) (a : Int) : Ev (fun k => whole_IsWhole.f k w a) false := by
  unfold whole_IsWhole.f
  refine Ev.neg (by omega) (Ev.step (fun _ => whole_IsWhole.j0.eq_2 ..) (Ev.pos ?_ (Ev.out rfl)))
  rw [bne_iff_ne]; omega
theorem ceilE (w : Int) (hw : w = 32 ∨ w = 64) (a : Nat) (ha : a < 18446744073709551616) : Ev (fun k => whole_Ceil.f k w a) ((mkW 1 w a : Nat) : Int) := madeE 1 (by simp) w hw a ha
theorem floorE (w : Int) (hw : w = 32 ∨ w = 64) (a : Nat) (ha : a < 18446744073709551616) : Ev (fun k => whole_Floor.f k w a) ((mkW 2 w a : Nat) : Int) := madeE 2 (by simp) w hw a ha
theorem truncE (w : Int) (hw : w = 32 ∨ w = 64) (a : Nat) (ha : a < 18446744073709551616) : Ev (fun k => whole_Trunc.f k w a) ((mkW 3 w a : Nat) : Int) := madeE 3 (by simp) w hw a ha
theorem nearE (w : Int) (hw : w = 32 ∨ w = 64) (a : Nat) (ha : a < 18446744073709551616) : Ev (fun k => whole_Nearest.f k w a) ((mkW 4 w a : Nat) : Int) := madeE 4 (by simp) w hw a ha
theorem ceil_no {w : Int} (hw : ¬ (w = 32 ∨ w = 64)) (a : Int) : Ev (fun k => whole_Ceil.f k w a) 0 := made_no hw _ _
theorem floor_no {w : Int} (hw : ¬ (w = 32 ∨ w = 64)) (a : Int) : Ev (fun k => whole_Floor.f k w a) 0 := made_no hw _ _
theorem trunc_no {w : Int} (hw : ¬ (w = 32 ∨ w = 64)) (a : Int) : Ev (fun k => whole_Trunc.f k w a) 0 := made_no hw _ _
theorem near_no {w : Int} (hw : ¬ (w = 32 ∨ w = 64)) (a : Int) : Ev (fun k => whole_Nearest.f k w a) 0 := made_no hw _ _
theorem WholeMakesP : L09_WholeMakes.Pure := by
  intro w a hw0 ha0
  obtain ⟨ha1, ha2⟩ := wf_u64 ha0
  obtain ⟨a, rfl⟩ := Int.eq_ofNat_of_zero_le ha1
  have ha : a < 18446744073709551616 := by omega
  refine Ev.rounds ?_
  unfold L09_WholeMakes.f
  refine Ev.bind awake09 (Ev.pos rfl ?_)
  by_cases hw : w = 32 ∨ w = 64
  · refine Ev.bind (ceilE w hw a ha) (Ev.bind (floorE w hw a ha) (Ev.bind (truncE w hw a ha) (Ev.bind (nearE w hw a ha) (Ev.bs rfl (Ev.bs (known_f w) ?_)))))
    rw [decide_eq_true hw]
    have rnd : ∀ (i : Nat) (hi : i = 0 ∨ i = 1 ∨ i = 2 ∨ i = 3), Ev (fun k => r9_Make.f k w a (wrap64 ((i : Int) + 1))) ((mkW (i + 1) w a : Nat) : Int) := by
      intro i hi
      rw [w64_id (by omega) (by omega)]
      exact makeE (i + 1) (by omega) w hw a ha
    have fin : Ev (fun k => L09_WholeMakes.l0 k w a true [((mkW 1 w a : Nat) : Int), ((mkW 2 w a : Nat) : Int), ((mkW 3 w a : Nat) : Int), ((mkW 4 w a : Nat) : Int)] 4 4) true := by
      refine Ev.step (fun _ => L09_WholeMakes.l0.eq_2 ..) (Ev.neg (by decide) (Ev.pos rfl (Ev.bind (r2Open w hw a ha) ?_)))
      have hi := isEh w hw a ha
      unfold isWh at hi
      rcases kinds w hw a with ⟨k1, k2⟩ | ⟨k0, k1, k2⟩ | ⟨k1, k2⟩ | ⟨k1, k2⟩
      · rw [k2] at hi ⊢
        exact Ev.neg (by simp) (Ev.bind hi (Ev.pos (by simp) (Ev.out rfl)))
      · have he := ex_bd w hw _ k1
        have hg := sg_64 w hw (magN w a)
        rw [k2] at hi ⊢
        dsimp only at hi ⊢
        refine Ev.pos rfl ?_
        by_cases c : 0 ≤ (fmt w).ex (magN w a)
        · obtain ⟨n, hn⟩ := Int.eq_ofNat_of_zero_le c
          refine Ev.bind (downU (sgB w a) 1 hg hn (by omega)) (Ev.bind hi (Ev.pos (by decide) (Ev.out ?_)))
          simp [c]
        · obtain ⟨n, hn⟩ := Int.eq_ofNat_of_zero_le (show 0 ≤ -(fmt w).ex (magN w a) by omega)
          refine Ev.bind (downE (sgB w a) 1 hg (show _ = -(n : Int) by omega) (by omega) (by omega)) (Ev.bind hi (Ev.pos (by decide) (Ev.out ?_)))
          rw [hn, Int.toNat_natCast]
          by_cases z : (fmt w).sg (magN w a) % 2 ^ n = 0
          · simp [c, z]
          · simp [c, z]; omega
      · rw [k2] at hi ⊢
        exact Ev.neg (by simp) (Ev.bind hi (Ev.neg (by simp) (Ev.out rfl)))
      · rw [k2] at hi ⊢
        exact Ev.neg (by simp) (Ev.bind hi (Ev.neg (by simp) (Ev.out rfl)))
    have st : ∀ (i : Nat) (hi : i = 0 ∨ i = 1 ∨ i = 2 ∨ i = 3) (L : List Int) (hL : L = [((mkW 1 w a : Nat) : Int), ((mkW 2 w a : Nat) : Int), ((mkW 3 w a : Nat) : Int), ((mkW 4 w a : Nat) : Int)]), Ev (fun k => L09_WholeMakes.l0 k w a true L 4 ((i + 1 : Nat) : Int)) true → Ev (fun k => L09_WholeMakes.l0 k w a true L 4 (i : Int)) true := by
      intro i hi L hL h
      refine Ev.step (fun _ => L09_WholeMakes.l0.eq_2 ..) (Ev.pos (by omega) (Ev.pos (by omega) (Ev.pos (by rw [hL]; simp; omega) (Ev.pos rfl (Ev.bind (rnd i hi) (Ev.pos ?_ ?_))))))
      · rw [hL]; rcases hi with rfl | rfl | rfl | rfl <;> rfl
      · rw [w64_id (n := (i : Int) + 1) (by omega) (by omega)]
        exact h
    exact st 0 (by simp) _ rfl (st 1 (by simp) _ rfl (st 2 (by simp) _ rfl (st 3 (by simp) _ rfl fin)))
  · refine Ev.bind (ceil_no hw a) (Ev.bind (floor_no hw a) (Ev.bind (trunc_no hw a) (Ev.bind (near_no hw a) (Ev.bs rfl (Ev.bs (known_f w) ?_)))))
    rw [decide_eq_false hw]
    have fin : Ev (fun k => L09_WholeMakes.l0 k w a false [0, 0, 0, 0] 4 4) true :=
      Ev.step (fun _ => L09_WholeMakes.l0.eq_2 ..) (Ev.neg (by decide) (Ev.neg (by decide) (Ev.bind (is_no hw a) (Ev.out rfl))))
    have st : ∀ (i : Nat) (hi : i = 0 ∨ i = 1 ∨ i = 2 ∨ i = 3), Ev (fun k => L09_WholeMakes.l0 k w a false [0, 0, 0, 0] 4 ((i + 1 : Nat) : Int)) true → Ev (fun k => L09_WholeMakes.l0 k w a false [0, 0, 0, 0] 4 (i : Int)) true := by
      intro i hi h
      refine Ev.step (fun _ => L09_WholeMakes.l0.eq_2 ..) (Ev.pos (by omega) (Ev.pos (by omega) (Ev.pos (by simp; omega) (Ev.neg (by decide) (Ev.pos ?_ ?_)))))
      · rcases hi with rfl | rfl | rfl | rfl <;> rfl
      · rw [w64_id (n := (i : Int) + 1) (by omega) (by omega)]
        exact h
    exact st 0 (by simp) (st 1 (by simp) (st 2 (by simp) (st 3 (by simp) fin)))
end Go.Proofs.Ythdeeoallfbjmaa.Th
end
namespace Go.Proofs.Ythdeeoallfbjmaa.Pure
theorem WholeMakes : Go.Proofs.Ythdeeoallfbjmaa.PA.L09_WholeMakes.Pure := Go.Proofs.Ythdeeoallfbjmaa.Th.WholeMakesP
end Go.Proofs.Ythdeeoallfbjmaa.Pure
namespace Go.Proofs.Ythdeeoallfbjmaa.Facts
abbrev ch (n : Nat) : Char := Char.ofNat n
theorem words_word (w : List Char) (r : List Char) (h : w.all (fun c => c != ch 32) = true) : wordsSigns (w ++ ch 32 :: r) = w :: wordsSigns r := by
  induction w with
  | nil => rfl
  | cons c w ih =>
    rw [List.all_cons, Bool.and_eq_true] at h
    have hc : c ≠ ch 32 := bne_iff_ne.1 h.1
    rw [List.cons_append]
    rw [wordsSigns.eq_3 c _ (fun e => hc e), ih h.2]
def w1 : List Char := [ch 104, ch 97, ch 114, ch 110, ch 101, ch 115, ch 115]
def w2 : List Char := [ch 51, ch 57, ch 100, ch 53, ch 55, ch 99, ch 97, ch 57, ch 56, ch 97, ch 51, ch 53, ch 50, ch 57, ch 55, ch 99, ch 50, ch 97, ch 99, ch 101, ch 55, ch 101, ch 97, ch 48, ch 53, ch 101, ch 99, ch 102, ch 97, ch 51, ch 53, ch 50, ch 97, ch 54, ch 54, ch 98, ch 102, ch 53, ch 56, ch 48, ch 54, ch 99, ch 98, ch 55, ch 49, ch 48, ch 100, ch 57, ch 49, ch 49, ch 99, ch 48, ch 50, ch 53, ch 57, ch 97, ch 49, ch 55, ch 55, ch 55, ch 97, ch 48, ch 101, ch 50]
def w3 : List Char := [ch 99, ch 117, ch 116]
set_option maxRecDepth 100000 in
def tailSigns : List Char := [ch 97, ch 116, ch 32, ch 116, ch 114, ch 117, ch 110, ch 110, ch 105, ch 111, ch 110, ch 47, ch 116, ch 114, ch 117, ch 110, ch 110, ch 105, ch 111, ch 110, ch 108, ch 97, ch 119, ch 48, ch 57, ch 46, ch 87, ch 104, ch 111, ch 108, ch 101, ch 77, ch 97, ch 107, ch 101, ch 115, ch 32, ch 116, ch 114, ch 117, ch 110, ch 110, ch 105, ch 111, ch 110, ch 47, ch 116, ch 114, ch 117, ch 110, ch 110, ch 105, ch 111, ch 110, ch 108, ch 97, ch 119, ch 48, ch 57, ch 46, ch 87, ch 104, ch 111, ch 108, ch 101, ch 75, ch 101, ch 101, ch 112, ch 115, ch 32, ch 116, ch 114, ch 117, ch 110, ch 110, ch 105, ch 111, ch 110, ch 47, ch 116, ch 114, ch 117, ch 110, ch 110, ch 105, ch 111, ch 110, ch 108, ch 97, ch 119, ch 48, ch 57, ch 46, ch 87, ch 104, ch 111, ch 108, ch 101, ch 72, ch 97, ch 108, ch 102]
set_option maxRecDepth 100000 in
theorem head_list : Try.prog.initOrder.toList = w1 ++ ch 32 :: (w2 ++ ch 32 :: (w3 ++ ch 32 :: tailSigns)) :=
  (congrArg String.toList (show Try.prog.initOrder = String.ofList (w1 ++ ch 32 :: (w2 ++ ch 32 :: (w3 ++ ch 32 :: tailSigns))) from rfl)).trans String.toList_ofList
theorem words : ∃ rest, behindMainWord (wordsSigns Try.prog.initOrder.toList) = w3 :: rest := by
  refine ⟨wordsSigns tailSigns, ?_⟩
  rw [head_list, words_word w1 _ (by kernel_rfl), words_word w2 _ (by kernel_rfl), words_word w3 _ (by kernel_rfl)]
  generalize wordsSigns tailSigns = rest
  have e : ((w1 == "harness".toList || w1 == "ownmain".toList) && isSumSigns w2) = true := by kernel_rfl
  show (if ((w1 == "harness".toList || w1 == "ownmain".toList) && isSumSigns w2) = true then w3 :: rest else w1 :: w2 :: w3 :: rest) = w3 :: rest
  rw [if_pos e]
theorem c3 : (w3 == "gc".toList) = false ∧ (w3 == "spec".toList) = false ∧ (w3 == "cut".toList) = true ∧ (w3 == "carried".toList) = false ∧ (w3 == "finals".toList) = false := ⟨by kernel_rfl, by kernel_rfl, by kernel_rfl, by kernel_rfl, by kernel_rfl⟩
theorem strip (rest : List (List Char)) : stripLifts liftWords (w3 :: rest) = ([], w3 :: rest) := by
  have key : ∀ l : List String, l.all (fun o => !(w3 == o.toList)) = true → stripLifts l (w3 :: rest) = ([], w3 :: rest) := by
    intro l
    induction l with
    | nil => intro _; rfl
    | cons o l ih =>
      intro h
      rw [List.all_cons, Bool.and_eq_true] at h
      unfold stripLifts
      rw [if_neg (fun e => by have h1 := h.1; rw [e] at h1; cases h1)]
      exact ih h.2
  exact key liftWords (by kernel_rfl)
theorem make_of (P : Program) (h : ∃ rest, behindMainWord (wordsSigns P.initOrder.toList) = w3 :: rest) : P.make = some .cut := by
  obtain ⟨rest, h⟩ := h
  unfold Program.make
  rw [h]
  show (if (w3 == "gc".toList || w3 == "spec".toList) = true then some Make.whole else if (w3 == "cut".toList || (w3 == "finals".toList && rest.head? == some "cut".toList)) = true then some Make.cut else _) = some Make.cut
  rw [if_neg (by rw [c3.1, c3.2.1]; decide), if_pos (by rw [c3.2.2.1, Bool.true_or])]
set_option maxRecDepth 100000 in
theorem liftsFact : Try.prog.liftsFinal = false := by
  unfold Program.liftsFinal Program.headLifts
  rw [head_list]
  kernel_rfl
theorem doorFact : (!Try.prog.laysLater && !Try.prog.bearsReflect && Try.prog.doorFits []) = true := by kernel_rfl
theorem makeFact : Try.prog.make = some .cut := make_of _ words
theorem enter_of (P : Program) (h : ∃ rest, behindMainWord (wordsSigns P.initOrder.toList) = w3 :: rest) (d : (!P.laysLater && !P.bearsReflect && P.doorFits []) = true) : P.mayEnter = true := by
  obtain ⟨rest, h⟩ := h
  rw [Bool.and_eq_true, Bool.and_eq_true] at d
  have e : ((some w3 == some "cut".toList) : Bool) = true := by kernel_rfl
  unfold Program.mayEnter
  rw [h]
  show ((_ || _) || ((stripLifts liftWords (w3 :: rest)).2.head? == some "cut".toList && ((stripLifts liftWords (w3 :: rest)).1.contains "finals" || !P.laysLater) && ((stripLifts liftWords (w3 :: rest)).1.contains "reflectrows" || !P.bearsReflect) &&
      ((stripLifts liftWords (w3 :: rest)).1.contains "reflectrows" || !(stripLifts liftWords (w3 :: rest)).1.contains "leanrows") && P.doorFits (stripLifts liftWords (w3 :: rest)).1)) = true
  rw [strip, Bool.or_eq_true]
  refine .inr ?_
  rw [Bool.and_eq_true, Bool.and_eq_true, Bool.and_eq_true, Bool.and_eq_true, Bool.or_eq_true, Bool.or_eq_true]
  exact ⟨⟨⟨⟨e, .inr d.1.1⟩, .inr d.1.2⟩, rfl⟩, d.2⟩
theorem enterFact : Try.prog.mayEnter = true := enter_of _ words doorFact
end Go.Proofs.Ythdeeoallfbjmaa.Facts
