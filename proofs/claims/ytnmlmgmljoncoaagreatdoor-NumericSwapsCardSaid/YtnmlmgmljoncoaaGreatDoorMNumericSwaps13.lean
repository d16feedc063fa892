/- What the Go functions that the statement NumericSwaps reaches compute, and the mathematics on it, in the order in which one leans on the other; for every input. -/
import Derived.Test.YtnmlmgmljoncoaaGreatDoorVNumericSwaps0
import Derived.Test.YtnmlmgmljoncoaaGreatDoorMNumericSwaps12
import Derived.Test.YtnmlmgmljoncoaaGreatDoorMNumericSwaps3
import Derived.Test.YtnmlmgmljoncoaaGreatDoorMNumericSwaps2
import Derived.Test.YtnmlmgmljoncoaaGreatDoorMNumericSwaps0
import Derived.Test.YtnmlmgmljoncoaaGreatDoorMNumericSwaps1
import Derived.Test.YtnmlmgmljoncoaaGreatDoorMNumericSwaps6
import Derived.Test.YtnmlmgmljoncoaaGreatDoorMNumericSwaps7
import Derived.Test.YtnmlmgmljoncoaaGreatDoorMNumericSwaps4
import Derived.Test.YtnmlmgmljoncoaaGreatDoorMNumericSwaps10
import Derived.Test.YtnmlmgmljoncoaaGreatDoorMNumericSwaps8
import Derived.Test.YtnmlmgmljoncoaaGreatDoorMNumericSwaps9
import Derived.Test.YtnmlmgmljoncoaaGreatDoorMNumericSwaps11
import Derived.Test.YtnmlmgmljoncoaaGreatDoorRows
import Derived.ProofKit
import Derived.JoinedOf
import Derived.KernelRfl
section
set_option linter.unusedVariables false
set_option linter.unusedSimpArgs false
namespace Go.Proofs.YtnmlmgmljoncoaaGreatDoor.Th
open Go.RowKit Go.Proofs.YtnmlmgmljoncoaaGreatDoorW.PrintWords Go.Proofs.YtnmlmgmljoncoaaGreatDoorW.PrintLast Go.Proofs.YtnmlmgmljoncoaaGreatDoorW.PrintMore Go.Proofs.YtnmlmgmljoncoaaGreatDoor.PA Bit Flo
def nn (w : Int) (a : Nat) : Bool := (opn w a).2.1 == 3
def rk (w : Int) (a : Nat) : Int := if sgB w a then -(magN w a : Int) else magN w a
def ky (w : Int) (a : Nat) : Int := if sgB w a then -(magN w a : Int) - 1 else magN w a
theorem nn_eq (w : Int) (hw : w = 32 ∨ w = 64) (a : Nat) : nn w a = decide ((fmt w).inf < magN w a) := by
  have h0 : 0 < (fmt w).inf := by rcases hw with rfl | rfl <;> decide
  unfold nn opn
  simp only
  split
  · rename_i h; simp [h]
  · split
    · rename_i h; simp; omega
    · split
      · rename_i h; simp [h]
      · simp; omega
theorem opn_sg (w : Int) (a : Nat) (h : nn w a = false) : (opn w a).1 = sgB w a := by
  revert h; unfold nn opn; simp only
  repeat' split
  all_goals simp
theorem known8 (w : Int) : order_known.f w = some (decide (w = 32 ∨ w = 64)) := by
  unfold order_known.f
  by_cases h : w = 32
  · subst h; rfl
  · by_cases h2 : w = 64
    · subst h2; rfl
    · rw [decide_eq_false (by omega)]; simp [h, h2]
theorem bitsMag (w : Int) (hw : w = 32 ∨ w = 64) (a : Nat) (ha : a < 18446744073709551616) : Go.bits .andNot .u64 ((cutN w a : Nat) : Int) ((mkN w 0 true : Nat) : Int) = ((magN w a : Nat) : Int) := by
  rw [show mkN w 0 true = sb w by simp [mkN]]
  rcases hw with rfl | rfl
  · simp only [cutN, sb, magN, if_true]
    rw [u64_andNot_nat _ _ (by omega) (by decide)]
    have h := andnot_pow (a % 4294967296) 31 (by decide) (by have : a % 4294967296 < 4294967296 := Nat.mod_lt _ (by decide); simpa using this)
    rw [show (2 : Nat) ^ 31 = 2147483648 by decide] at h
    rw [h]; congr 1; omega
  · simp only [cutN, sb, magN, show ¬ ((64 : Int) = 32) by decide, if_false, if_true]
    rw [u64_andNot_nat _ _ ha (by decide)]
    have h := andnot_pow a 63 (by decide) (by simpa using ha)
    rw [show (2 : Nat) ^ 63 = 9223372036854775808 by decide] at h
    rw [h]
theorem mag_63 (w : Int) (hw : w = 32 ∨ w = 64) (a : Nat) : magN w a < 9223372036854775808 := by
  have h := magN_lt w hw a
  have : sb w ≤ 9223372036854775808 := by rcases hw with rfl | rfl <;> decide
  omega
theorem rankS (w : Int) (hw : w = 32 ∨ w = 64) (a : Nat) (ha : a < 18446744073709551616) : Ev (fun k => order_Rank.f k w a) (if nn w a then (0, false) else (rk w a, true)) := by
  unfold order_Rank.f
  refine Ev.bind (openS w hw a ha) (Ev.bs (known8 w) ?_)
  rw [decide_eq_true hw]
  refine Ev.pos rfl ?_
  have hm := mag_63 w hw a
  cases hn : nn w a with
  | true => refine Ev.step (fun _ => order_Rank.j0.eq_2 ..) (Ev.pos (by simpa [nn] using hn) (Ev.out rfl))
  | false =>
    refine Ev.step (fun _ => order_Rank.j0.eq_2 ..) (Ev.neg (by rw [show ((opn w a).2.1 == 3) = false from hn]; decide) (Ev.bs (shCut w a ha) (Ev.bs (shZero w hw true) ?_)))
    rw [bitsMag w hw a ha, opn_sg w a hn, w64_id (n := ((magN w a : Nat) : Int)) (by omega) (by omega), w64_id (n := -((magN w a : Nat) : Int)) (by omega) (by omega)]
    unfold rk
    cases hs : sgB w a with
    | true => exact Ev.pos rfl (Ev.out (by simp))
    | false => exact Ev.neg (by decide) (Ev.out (by simp))
theorem eqS (w : Int) (hw : w = 32 ∨ w = 64) (a b : Nat) (ha : a < 18446744073709551616) (hb : b < 18446744073709551616) : Ev (fun k => order_Eq.f k w a b) (!nn w a && !nn w b && decide (rk w a = rk w b)) := by
  unfold order_Eq.f
  refine Ev.bind (rankS w hw a ha) (Ev.bind (rankS w hw b hb) (Ev.out ?_))
  cases nn w a <;> cases nn w b <;> simp <;> rfl
theorem ltS (w : Int) (hw : w = 32 ∨ w = 64) (a b : Nat) (ha : a < 18446744073709551616) (hb : b < 18446744073709551616) : Ev (fun k => order_Lt.f k w a b) (!nn w a && !nn w b && decide (rk w a < rk w b)) := by
  unfold order_Lt.f
  refine Ev.bind (rankS w hw a ha) (Ev.bind (rankS w hw b hb) (Ev.out ?_))
  cases nn w a <;> cases nn w b <;> simp
theorem gtS (w : Int) (hw : w = 32 ∨ w = 64) (a b : Nat) (ha : a < 18446744073709551616) (hb : b < 18446744073709551616) : Ev (fun k => order_Gt.f k w a b) (!nn w b && !nn w a && decide (rk w b < rk w a)) := by
  unfold order_Gt.f
  exact Ev.bind (ltS w hw b a hb ha) (Ev.out rfl)
theorem neS (w : Int) (hw : w = 32 ∨ w = 64) (a b : Nat) (ha : a < 18446744073709551616) (hb : b < 18446744073709551616) : Ev (fun k => order_Ne.f k w a b) (!(!nn w a && !nn w b && decide (rk w a = rk w b))) := by
  unfold order_Ne.f
  refine Ev.bs (known8 w) ?_
  rw [decide_eq_true hw]
  exact Ev.pos rfl (Ev.bind (eqS w hw a b ha hb) (Ev.out rfl))
theorem cut_as_mk (w : Int) (hw : w = 32 ∨ w = 64) (a : Nat) (ha : a < 18446744073709551616) : cutN w a = mkN w (magN w a) (sgB w a) := by
  rw [cutN_eq w hw a ha]; rfl
theorem cut_lt (w : Int) (hw : w = 32 ∨ w = 64) (a : Nat) (ha : a < 18446744073709551616) : cutN w a < 18446744073709551616 := by
  rw [cut_as_mk w hw a ha]; exact mkN_lt w hw _ _ (magN_lt w hw a)
theorem mag_cut (w : Int) (hw : w = 32 ∨ w = 64) (a : Nat) (ha : a < 18446744073709551616) : magN w (cutN w a) = magN w a := by
  rw [cut_as_mk w hw a ha, mag_mk w hw _ _ (magN_lt w hw a)]
theorem sg_cut (w : Int) (hw : w = 32 ∨ w = 64) (a : Nat) (ha : a < 18446744073709551616) : sgB w (cutN w a) = sgB w a := by
  rw [cut_as_mk w hw a ha, sg_mk w hw _ _ (magN_lt w hw a)]
theorem nn_cut (w : Int) (hw : w = 32 ∨ w = 64) (a : Nat) (ha : a < 18446744073709551616) : nn w (cutN w a) = nn w a := by
  rw [nn_eq w hw, nn_eq w hw, mag_cut w hw a ha]
theorem rk_cut (w : Int) (hw : w = 32 ∨ w = 64) (a : Nat) (ha : a < 18446744073709551616) : rk w (cutN w a) = rk w a := by
  unfold rk; rw [mag_cut w hw a ha, sg_cut w hw a ha]
def pkN (w : Int) (a b : Nat) (neg first : Bool) : Nat := if nn w a || nn w b then nanN w else if rk w a = rk w b then (if sgB w a = neg then cutN w a else cutN w b) else if first then cutN w a else cutN w b
theorem pickS (w : Int) (hw : w = 32 ∨ w = 64) (a b : Nat) (ha : a < 18446744073709551616) (hb : b < 18446744073709551616) (neg first : Bool) : Ev (fun k => order_pick.f k w a b neg first) ((pkN w a b neg first : Nat) : Int) := by
  have ha' := cut_lt w hw a ha
  have hb' := cut_lt w hw b hb
  unfold order_pick.f
  refine Ev.bs (shCut w a ha) (Ev.bs (shCut w b hb) (Ev.bs (known8 w) ?_))
  rw [decide_eq_true hw]
  refine Ev.pos rfl (Ev.bind (show Ev _ (nn w (cutN w a)) from isnanS w hw _ ha') ?_)
  rw [nn_cut w hw a ha]
  cases hn : nn w a with
  | true => refine Ev.pos rfl (Ev.step (fun _ => order_pick.j0.eq_2 ..) (Ev.pos rfl (Ev.bs (shNan w hw) (Ev.out (by simp [pkN, hn])))))
  | false =>
    refine Ev.neg (by decide) (Ev.bind (show Ev _ (nn w (cutN w b)) from isnanS w hw _ hb') ?_)
    rw [nn_cut w hw b hb]
    cases hm : nn w b with
    | true => refine Ev.step (fun _ => order_pick.j0.eq_2 ..) (Ev.pos rfl (Ev.bs (shNan w hw) (Ev.out (by simp [pkN, hm]))))
    | false =>
      refine Ev.step (fun _ => order_pick.j0.eq_2 ..) (Ev.neg (by decide) (Ev.bind (eqS w hw _ _ ha' hb') ?_))
      rw [nn_cut w hw b hb, nn_cut w hw a ha, hn, hm, rk_cut w hw a ha, rk_cut w hw b hb]
      by_cases he : rk w a = rk w b
      · rw [decide_eq_true he]
        refine Ev.pos rfl (Ev.bind (openS w hw _ ha') ?_)
        rw [opn_sg w _ (by rw [nn_cut w hw a ha]; exact hn), sg_cut w hw a ha]
        by_cases hg : sgB w a = neg
        · exact Ev.pos (by simp [hg]) (Ev.out (by simp [pkN, hn, hm, he, hg]))
        · exact Ev.neg (by simp [hg]) (Ev.out (by simp [pkN, hn, hm, he, hg]))
      · rw [decide_eq_false he]
        refine Ev.neg (by decide) ?_
        cases first with
        | true => exact Ev.pos rfl (Ev.out (by simp [pkN, hn, hm, he]))
        | false => exact Ev.neg (by decide) (Ev.out (by simp [pkN, hn, hm, he]))
def mnN (w : Int) (a b : Nat) : Nat := if nn w a || nn w b then nanN w else if ky w a ≤ ky w b then cutN w a else cutN w b
def mxN (w : Int) (a b : Nat) : Nat := if nn w a || nn w b then nanN w else if ky w b ≤ ky w a then cutN w a else cutN w b
theorem minS (w : Int) (hw : w = 32 ∨ w = 64) (a b : Nat) (ha : a < 18446744073709551616) (hb : b < 18446744073709551616) : Ev (fun k => order_Min.f k w a b) ((mnN w a b : Nat) : Int) := by
  unfold order_Min.f
  refine Ev.bind (ltS w hw a b ha hb) (Ev.bind (pickS w hw a b ha hb _ _) (Ev.out ?_))
  congr 1
  have h0 := cut_as_mk w hw a ha
  have h1 := cut_as_mk w hw b hb
  unfold pkN mnN
  by_cases hn : nn w a || nn w b
  · rw [if_pos hn, if_pos hn]
  · rw [if_neg hn, if_neg hn]
    simp only [Bool.or_eq_true, not_or, Bool.not_eq_true] at hn
    rw [hn.1, hn.2]
    simp only [Bool.not_false, Bool.true_and, decide_eq_true_eq]
    rw [h0, h1]
    unfold rk ky
    cases hs : sgB w a <;> cases ht : sgB w b <;> simp only [if_true, if_false, Bool.false_eq_true]
    all_goals (repeat' split)
    all_goals first
      | rfl
      | (exfalso; omega)
      | (congr 1; omega)
theorem maxS (w : Int) (hw : w = 32 ∨ w = 64) (a b : Nat) (ha : a < 18446744073709551616) (hb : b < 18446744073709551616) : Ev (fun k => order_Max.f k w a b) ((mxN w a b : Nat) : Int) := by
  unfold order_Max.f
  refine Ev.bind (gtS w hw a b ha hb) (Ev.bind (pickS w hw a b ha hb _ _) (Ev.out ?_))
  congr 1
  have h0 := cut_as_mk w hw a ha
  have h1 := cut_as_mk w hw b hb
  unfold pkN mxN
  by_cases hn : nn w a || nn w b
  · rw [if_pos hn, if_pos hn]
  · rw [if_neg hn, if_neg hn]
    simp only [Bool.or_eq_true, not_or, Bool.not_eq_true] at hn
    rw [hn.1, hn.2]
    simp only [Bool.not_false, Bool.true_and, decide_eq_true_eq]
    rw [h0, h1]
    unfold rk ky
    cases hs : sgB w a <;> cases ht : sgB w b <;> simp only [if_true, if_false, Bool.false_eq_true, reduceCtorEq]
    all_goals (repeat' split)
    all_goals first
      | rfl
      | (exfalso; omega)
      | (congr 1; omega)
end Go.Proofs.YtnmlmgmljoncoaaGreatDoor.Th
end
section
set_option linter.unusedVariables false
set_option linter.unusedSimpArgs false
namespace Go.Proofs.YtnmlmgmljoncoaaGreatDoor.Th
open Go.RowKit Go.Proofs.YtnmlmgmljoncoaaGreatDoorW.PrintWords Go.Proofs.YtnmlmgmljoncoaaGreatDoorW.PrintLast Go.Proofs.YtnmlmgmljoncoaaGreatDoorW.PrintMore Go.Proofs.YtnmlmgmljoncoaaGreatDoor.PA Bit Flo Dig
theorem inf_pos (w : Int) (hw : w = 32 ∨ w = 64) : 0 < (fmt w).inf := by rcases hw with rfl | rfl <;> decide
theorem kinds (w : Int) (hw : w = 32 ∨ w = 64) (a : Nat) : (magN w a = 0 ∧ opn w a = (sgB w a, 0, 0, 0)) ∨ (0 < magN w a ∧ magN w a < (fmt w).inf ∧ opn w a = (sgB w a, 1, (fmt w).ex (magN w a), ((fmt w).sg (magN w a) : Int))) ∨ (magN w a = (fmt w).inf ∧ opn w a = (sgB w a, 2, 0, 0)) ∨ ((fmt w).inf < magN w a ∧ opn w a = (false, 3, 0, 0)) := by
  have h0 := inf_pos w hw
  unfold opn; simp only
  by_cases h1 : magN w a = 0
  · left; rw [if_pos h1]; exact ⟨h1, rfl⟩
  · right; rw [if_neg h1]
    by_cases h2 : magN w a < (fmt w).inf
    · left; rw [if_pos h2]; exact ⟨by omega, h2, rfl⟩
    · right; rw [if_neg h2]
      by_cases h3 : magN w a = (fmt w).inf
      · left; rw [if_pos h3]; exact ⟨h3, rfl⟩
      · right; rw [if_neg h3]; exact ⟨by omega, rfl⟩
theorem ex_bd (w : Int) (hw : w = 32 ∨ w = 64) (m : Nat) (h : m < (fmt w).inf) : -1074 ≤ (fmt w).ex m ∧ (fmt w).ex m ≤ 971 := by
  rcases hw with rfl | rfl
  · rw [fmt32, inf32] at h; rw [fmt32, ex32]; split <;> omega
  · rw [fmt64, inf64] at h; rw [fmt64, ex64]; split <;> omega
theorem sg_64 (w : Int) (hw : w = 32 ∨ w = 64) (m : Nat) : (fmt w).sg m < 9007199254740992 := by
  have h := (fmt w).sg_lt m
  rcases hw with rfl | rfl
  · rw [fmt32] at h ⊢; rw [show (2 : Nat) ^ (f32.f + 1) = 16777216 by decide] at h; omega
  · rw [fmt64] at h ⊢; rw [show (2 : Nat) ^ (f64.f + 1) = 9007199254740992 by decide] at h; omega
end Go.Proofs.YtnmlmgmljoncoaaGreatDoor.Th
end
section
set_option linter.unusedVariables false
set_option linter.unusedSimpArgs false
namespace Go.Proofs.YtnmlmgmljoncoaaGreatDoor.Th
open Flo
theorem fmt_bd (w : Int) : (fmt w).f < 100 ∧ (-5000 < (fmt w).low ∧ (fmt w).low < 0) ∧ (fmt w).top < 5000 := by
  unfold fmt; split <;> decide
theorem fmt_f (w : Int) : (fmt w).f ≤ 52 := by unfold fmt; split <;> decide
theorem pk_ex (w : Int) (S : Nat) (e : Int) (hS : S < 340282366920938463463374607431768211456) : pkm (fmt w) S e false = (fmt w).rnd ((S : Rat) * tw e) := by
  have h := fmt_bd w
  rw [← pkx_f, pkm_rnd _ h.1 h.2.1 h.2.2 S e false hS]
theorem pk_mo (w : Int) {x : Rat} {S : Nat} {e : Int} (hS : S < 340282366920938463463374607431768211456) (h0 : 9007199254740992 ≤ S) (h1 : (S : Rat) * tw e < x) (h2 : x < ((S + 1 : Nat) : Rat) * tw e) : pkm (fmt w) S e true = (fmt w).rnd x := by
  have h := fmt_bd w
  have h3 : 2 ^ ((fmt w).f + 1) ≤ S := by
    have : 2 ^ ((fmt w).f + 1) ≤ 2 ^ 53 := Nat.pow_le_pow_right (by decide) (by have := fmt_f w; omega)
    rw [show (2 : Nat) ^ 53 = 9007199254740992 by decide] at this
    omega
  rw [rnd_more _ h1 h2 h3, pkm_rnd _ h.1 h.2.1 h.2.2 S e true hS]
abbrev Pt := Bool × Int × Int × Int
noncomputable def pv (p : Pt) : Rat := if p.2.1 = 1 then (if p.1 then -((p.2.2.2.toNat : Rat) * tw p.2.2.1) else (p.2.2.2.toNat : Rat) * tw p.2.2.1) else 0
noncomputable def fx (w : Int) (s : Rat) (z : Bool) : Nat := if s = 0 then mkN w 0 z else if s < 0 then mkN w ((fmt w).rnd (-s)) true else mkN w ((fmt w).rnd s) false
noncomputable def addP (w : Int) (p q : Pt) : Nat :=
  if p.2.1 = 3 ∨ q.2.1 = 3 then nanN w else if p.2.1 = 2 then (if q.2.1 = 2 ∧ p.1 ≠ q.1 then nanN w else mkN w (fmt w).inf p.1) else if q.2.1 = 2 then mkN w (fmt w).inf q.1
  else fx w (pv p + pv q) (p.1 && q.1)
noncomputable def mulP (w : Int) (p q : Pt) : Nat :=
  if p.2.1 = 3 ∨ q.2.1 = 3 ∨ p.2.1 = 2 ∧ q.2.1 = 0 ∨ p.2.1 = 0 ∧ q.2.1 = 2 then nanN w else if p.2.1 = 2 ∨ q.2.1 = 2 then mkN w (fmt w).inf (p.1 != q.1)
  else fx w (pv p * pv q) (p.1 != q.1)
theorem fx_pos (w : Int) {s : Rat} (h : 0 < s) (z : Bool) : fx w s z = mkN w ((fmt w).rnd s) false := by
  unfold fx; rw [if_neg (by grind), if_neg (by grind)]
theorem fx_neg (w : Int) {s : Rat} (h : 0 < s) (z : Bool) : fx w (-s) z = mkN w ((fmt w).rnd s) true := by
  unfold fx; rw [if_neg (by grind), if_pos (by grind), Rat.neg_neg]
theorem fx_zero (w : Int) (z : Bool) : fx w 0 z = mkN w 0 z := by unfold fx; rw [if_pos rfl]
theorem fx_sg (w : Int) {s : Rat} (h : 0 < s) (n z : Bool) : fx w (if n then -s else s) z = mkN w ((fmt w).rnd s) n := by
  cases n
  · exact fx_pos w h z
  · exact fx_neg w h z
theorem align_eq {sa sb : Nat} {ea eb : Int} (hab : eb ≤ ea) (h0 : 0 < sa) {u d : Nat} (hu : (u : Int) = min (ea - eb) 64) (hd : (d : Int) = ea - eb - u) :
    (sa : Rat) * tw ea = ((sa * 2 ^ u : Nat) : Rat) * tw (ea - u) ∧ ((sb / 2 ^ d : Nat) : Rat) * tw (ea - u) ≤ (sb : Rat) * tw eb ∧ (sb : Rat) * tw eb < ((sb / 2 ^ d + 1 : Nat) : Rat) * tw (ea - u) ∧
    (sb % 2 ^ d = 0 → (sb : Rat) * tw eb = ((sb / 2 ^ d : Nat) : Rat) * tw (ea - u)) ∧ (sb % 2 ^ d ≠ 0 → ((sb / 2 ^ d : Nat) : Rat) * tw (ea - u) < (sb : Rat) * tw eb ∧ u = 64) := by
  have hp : 0 < 2 ^ d := Nat.pow_pos (by decide)
  have e1 : tw (ea - u) = ((2 ^ d : Nat) : Rat) * tw eb := by rw [tw_sub_nat (ea - u) eb (by omega)]; congr 3; omega
  have T := tw_pos eb
  have h1 := Nat.div_add_mod sb (2 ^ d)
  have h2 := Nat.mod_lt sb hp
  have e3 : ∀ x : Nat, (x : Rat) * tw (ea - u) = ((2 ^ d * x : Nat) : Rat) * tw eb := fun x => by rw [e1, Nat.mul_comm]; push_cast; grind
  refine ⟨?_, ?_, ?_, ?_, ?_⟩
  · rw [tw_sub_nat ea (ea - u) (by omega), show (ea - (ea - (u : Int))).toNat = u by omega]; push_cast; grind
  · rw [e3]; exact mul_le (nat_le.2 (by omega)) T
  · rw [e3]; exact mul_lt (nat_lt.2 (by rw [Nat.mul_add]; omega)) T
  · intro h; rw [e3]; congr 2; omega
  · intro h
    refine ⟨?_, ?_⟩
    · rw [e3]; exact mul_lt (nat_lt.2 (by omega)) T
    · rcases Nat.eq_zero_or_pos d with h3 | h3
      · subst h3; rw [Nat.pow_zero, Nat.mod_one] at h; exact absurd rfl h
      · omega
end Go.Proofs.YtnmlmgmljoncoaaGreatDoor.Th
end
section
set_option linter.unusedVariables false
set_option linter.unusedSimpArgs false
namespace Go.Proofs.YtnmlmgmljoncoaaGreatDoor.Th
open Go.RowKit Go.Proofs.YtnmlmgmljoncoaaGreatDoorW.PrintWords Go.Proofs.YtnmlmgmljoncoaaGreatDoorW.PrintLast Go.Proofs.YtnmlmgmljoncoaaGreatDoorW.PrintMore Go.Proofs.YtnmlmgmljoncoaaGreatDoor.PA Bit Flo
theorem packE (w : Int) (hw : w = 32 ∨ w = 64) (s : Bool) (h l : Nat) (hh : h < 18446744073709551616) (hl : l < 18446744073709551616) (e : Int) (m : Bool) : round_Pack.f w s h l e m = some ((mkN w (pkm (fmt w) (wn h l) e m) s : Nat) : Int) := by
  unfold round_Pack.f
  rw [if_pos (by omega), if_pos hw, Int.toNat_natCast, Int.toNat_natCast]
theorem packV (w : Int) (hw : w = 32 ∨ w = 64) (s : Bool) (V : Nat) (hV : V < 340282366920938463463374607431768211456) (e : Int) (m : Bool) : round_Pack.f w s ((V / 18446744073709551616 : Nat) : Int) ((V % 18446744073709551616 : Nat) : Int) e m = some ((mkN w (pkm (fmt w) V e m) s : Nat) : Int) := by
  rw [packE w hw s _ _ (hi64 hV) (lo64 V), wn_div]
theorem pack1 (w : Int) (hw : w = 32 ∨ w = 64) (s : Bool) (n : Nat) (hn : n < 18446744073709551616) (e : Int) : round_Pack.f w s 0 n e false = some ((mkN w ((fmt w).rnd ((n : Rat) * tw e)) s : Nat) : Int) := by
  have := packE w hw s 0 n (by decide) hn e false
  rw [show wn 0 n = n by unfold wn; omega, pk_ex w n e (by omega)] at this
  exact this
theorem shN (w : Int) (hw : w = 32 ∨ w = 64) : shape_Nan.f w = some ((nanN w : Nat) : Int) := by rcases hw with rfl | rfl; exact shNan32; exact shNan64
theorem pv0 {p : Pt} (h : p.2.1 ≠ 1) : pv p = 0 := by unfold pv; rw [if_neg h]
theorem pv1 (s : Bool) (e : Int) (g : Nat) : pv (s, 1, e, (g : Int)) = if s then -((g : Rat) * tw e) else (g : Rat) * tw e := by
  unfold pv; rw [if_pos rfl]; simp
theorem pos_tw {g : Nat} (h : 0 < g) (e : Int) : 0 < (g : Rat) * tw e := Rat.mul_pos (by exact_mod_cast h) (tw_pos e)
def PtOk (p : Pt) : Prop := (p.2.1 = 0 ∨ p.2.1 = 1 ∨ p.2.1 = 2 ∨ p.2.1 = 3) ∧ (p.2.1 = 1 → 0 < p.2.2.2) ∧ (p.2.1 ≠ 1 → p.2.2.2 = 0 ∧ p.2.2.1 = 0) ∧ 0 ≤ p.2.2.2 ∧ p.2.2.2 < 9007199254740992 ∧ -1100 ≤ p.2.2.1 ∧ p.2.2.1 ≤ 1000
theorem opn_ok (w : Int) (hw : w = 32 ∨ w = 64) (a : Nat) : PtOk (opn w a) := by
  rcases kinds w hw a with ⟨_, h⟩ | ⟨h1, h2, h⟩ | ⟨_, h⟩ | ⟨_, h⟩ <;> rw [h]
  · exact ⟨.inl rfl, fun h => absurd h (by simp), fun _ => ⟨rfl, rfl⟩, by simp, by simp, by simp, by simp⟩
  · have h3 := ex_bd w hw _ h2
    have h4 := sg_64 w hw (magN w a)
    refine ⟨.inr (.inl rfl), fun _ => ?_, fun h => absurd rfl h, by simp, by simp; omega, by simp; omega, by simp; omega⟩
    have : 0 < (fmt w).val (magN w a) := (fmt w).val_pos.2 h1
    unfold Fmt.val at this
    rcases Nat.eq_zero_or_pos ((fmt w).sg (magN w a)) with h5 | h5
    · rw [h5] at this; simp at this
    · simp; omega
  · exact ⟨.inr (.inr (.inl rfl)), fun h => absurd h (by simp), fun _ => ⟨rfl, rfl⟩, by simp, by simp, by simp, by simp⟩
  · exact ⟨.inr (.inr (.inr rfl)), fun h => absurd h (by simp), fun _ => ⟨rfl, rfl⟩, by simp, by simp, by simp, by simp⟩
end Go.Proofs.YtnmlmgmljoncoaaGreatDoor.Th
end
section
set_option linter.unusedVariables false
set_option linter.unusedSimpArgs false
namespace Go.Proofs.YtnmlmgmljoncoaaGreatDoor.Th
open Go.RowKit Go.Proofs.YtnmlmgmljoncoaaGreatDoorW.PrintWords Go.Proofs.YtnmlmgmljoncoaaGreatDoorW.PrintLast Go.Proofs.YtnmlmgmljoncoaaGreatDoorW.PrintMore Go.Proofs.YtnmlmgmljoncoaaGreatDoor.PA Bit Dig Flo
noncomputable def narG (w : Int) (s : Bool) (kd e : Int) (g : Nat) : Nat := if kd = 0 then mkN w 0 s else if kd = 1 then mkN w ((fmt w).rnd ((g : Rat) * tw e)) s else if kd = 2 then mkN w (fmt w).inf s else if kd = 3 then nanN w else 0
theorem narrowG (w : Int) (hw : w = 32 ∨ w = 64) (s : Bool) (kd e : Int) (g : Nat) (hg : g < 18446744073709551616) : round_Narrow.f w s kd e g = some ((narG w s kd e g : Nat) : Int) := by
  unfold round_Narrow.f narG
  by_cases h0 : kd = 0
  · rw [if_pos h0, if_pos h0, shZ w hw, Option.bind_some]
  · rw [if_neg h0, if_neg h0]
    by_cases h1 : kd = 1
    · rw [if_pos h1, if_pos h1, ofW g, Option.bind_some]
      show (round_Pack.f w s 0 (g : Int) e false).bind _ = _
      rw [pack1 w hw s g hg e, Option.bind_some]
    · rw [if_neg h1, if_neg h1]
      by_cases h2 : kd = 2
      · rw [if_pos h2, if_pos h2, shI w hw, Option.bind_some]
      · rw [if_neg h2, if_neg h2]
        by_cases h3 : kd = 3
        · rw [if_pos h3, if_pos h3, shN w hw, Option.bind_some]
        · rw [if_neg h3, if_neg h3]; rfl
theorem mul_pv (s t : Bool) (e e2 : Int) (g g2 : Nat) : pv (s, 1, e, (g : Int)) * pv (t, 1, e2, (g2 : Int)) = if (s != t) then -(((g * g2 : Nat) : Rat) * tw (e + e2)) else ((g * g2 : Nat) : Rat) * tw (e + e2) := by
  rw [pv1, pv1, tw_add]
  push_cast
  generalize tw e = x
  generalize tw e2 = y
  cases s <;> cases t <;> simp <;> grind
theorem mul_fx (w : Int) (s t : Bool) (e e2 : Int) {g g2 : Nat} (h : 0 < g) (h2 : 0 < g2) (z : Bool) : fx w (pv (s, 1, e, (g : Int)) * pv (t, 1, e2, (g2 : Int))) z = mkN w ((fmt w).rnd (((g * g2 : Nat) : Rat) * tw (e + e2))) (s != t) := by
  rw [mul_pv]
  exact fx_sg w (pos_tw (Nat.mul_pos h h2) _) _ z
set_option maxRecDepth 20000 in
theorem mulProg (w : Int) (hw : w = 32 ∨ w = 64) (p q : Pt) (hp : PtOk p) (hq : PtOk q) : Ev (fun k => product_parts.f k w p.1 p.2.1 p.2.2.1 p.2.2.2 q.1 q.2.1 q.2.2.1 q.2.2.2) ((mulP w p q : Nat) : Int) := by
  obtain ⟨s, kd, e, g⟩ := p
  obtain ⟨t, kd2, e2, g2⟩ := q
  obtain ⟨h1, h2, h0, h3, h4, h5, h6⟩ := hp
  obtain ⟨k1, k2, k0, k3, k4, k5, k6⟩ := hq
  simp only at h1 h2 h0 h3 h4 h5 h6 k1 k2 k0 k3 k4 k5 k6
  obtain ⟨g, rfl⟩ := Int.eq_ofNat_of_zero_le h3
  obtain ⟨g2, rfl⟩ := Int.eq_ofNat_of_zero_le k3
  simp only
  generalize hR : mulP w (s, kd, e, (g : Int)) (t, kd2, e2, (g2 : Int)) = R
  unfold product_parts.f
  have fin : 0 < g → 0 < g2 → Ev (fun k => (wide_Mul.f (g : Int) (g2 : Int)).bind fun bt => (round_Pack.f w (s != t) bt.1 bt.2 (wrap64 (e + e2)) false).bind fun t => some t) ((mkN w ((fmt w).rnd (((g * g2 : Nat) : Rat) * tw (e + e2))) (s != t) : Nat) : Int) := by
    intro _ _
    have hlt : g * g2 < 340282366920938463463374607431768211456 := by
      have := Nat.mul_lt_mul'' (show g < 9007199254740992 by omega) (show g2 < 9007199254740992 by omega)
      omega
    refine Ev.bs (mulW g g2 (by omega) (by omega)) ?_
    rw [w64_id (n := e + e2) (by omega) (by omega)]
    refine Ev.bs (packV w hw (s != t) (g * g2) hlt (e + e2) false) (Ev.out ?_)
    rw [pk_ex w _ _ hlt]
  rcases h1 with rfl | rfl | rfl | rfl <;> rcases k1 with rfl | rfl | rfl | rfl
  all_goals
    simp [mulP, pv0, fx_zero] at hR
    subst hR
    repeat (first
      | (with_reducible refine Ev.pos (by decide) ?_)
      | (with_reducible refine Ev.neg (by decide) ?_)
      | (with_reducible refine Ev.step (fun _ => product_parts.j0.eq_2 ..) ?_)
      | (with_reducible refine Ev.step (fun _ => product_parts.j1.eq_2 ..) ?_)
      | (with_reducible refine Ev.step (fun _ => product_parts.j2.eq_2 ..) ?_))
  all_goals first
    | (rw [mul_fx w s t e e2 (by have := h2 rfl; omega) (by have := k2 rfl; omega)]
       exact fin (by have := h2 rfl; omega) (by have := k2 rfl; omega))
    | (exact Ev.bs (shN w hw) (Ev.out rfl))
    | (exact Ev.bs (shI w hw _) (Ev.out rfl))
    | (exact Ev.bs (shZ w hw _) (Ev.out rfl))
theorem prodE (w : Int) (hw : w = 32 ∨ w = 64) (a b : Nat) (ha : a < 18446744073709551616) (hb : b < 18446744073709551616) : Ev (fun k => product_Mul.f k w a b) ((mulP w (opn w a) (opn w b) : Nat) : Int) := by
  unfold product_Mul.f
  refine Ev.bs (show product_known.f w = some true by rcases hw with rfl | rfl <;> rfl) (Ev.pos rfl (Ev.bind (openS w hw a ha) (Ev.bind (openS w hw b hb) ?_)))
  exact Ev.bind (mulProg w hw _ _ (opn_ok w hw a) (opn_ok w hw b)) (Ev.out rfl)
theorem mul_comm' (w : Int) (p q : Pt) : mulP w p q = mulP w q p := by
  have e : (p.1 != q.1) = (q.1 != p.1) := by cases p.1 <;> cases q.1 <;> rfl
  unfold mulP
  rw [Rat.mul_comm, e]
  by_cases h : p.2.1 = 3 ∨ q.2.1 = 3 ∨ p.2.1 = 2 ∧ q.2.1 = 0 ∨ p.2.1 = 0 ∧ q.2.1 = 2
  · have h' : q.2.1 = 3 ∨ p.2.1 = 3 ∨ q.2.1 = 2 ∧ p.2.1 = 0 ∨ q.2.1 = 0 ∧ p.2.1 = 2 := by omega
    rw [if_pos h, if_pos h']
  · have h' : ¬ (q.2.1 = 3 ∨ p.2.1 = 3 ∨ q.2.1 = 2 ∧ p.2.1 = 0 ∨ q.2.1 = 0 ∧ p.2.1 = 2) := by omega
    rw [if_neg h, if_neg h']
    by_cases g : p.2.1 = 2 ∨ q.2.1 = 2
    · have g' : q.2.1 = 2 ∨ p.2.1 = 2 := by omega
      rw [if_pos g, if_pos g']
    · have g' : ¬ (q.2.1 = 2 ∨ p.2.1 = 2) := by omega
      rw [if_neg g, if_neg g']
theorem wAdd {A B : Nat} (h : A + B < 340282366920938463463374607431768211456) : wide_Add.f (wH A) (wL A) (wH B) (wL B) = some (wH (A + B), wL (A + B)) := by
  have := addW (A / 18446744073709551616) (A % 18446744073709551616) (B / 18446744073709551616) (B % 18446744073709551616) (hi64 (by omega)) (lo64 A) (hi64 (by omega)) (lo64 B)
  rw [wn_div, wn_div, Nat.mod_eq_of_lt h] at this
  exact this
theorem wSub {A B : Nat} (h : A < 340282366920938463463374607431768211456) (hb : B ≤ A) : wide_Sub.f (wH A) (wL A) (wH B) (wL B) = some (wH (A - B), wL (A - B)) := by
  have := subW (A / 18446744073709551616) (A % 18446744073709551616) (B / 18446744073709551616) (B % 18446744073709551616) (hi64 (by omega)) (lo64 A) (hi64 (by omega)) (lo64 B)
  rw [wn_div, wn_div, show (A + (340282366920938463463374607431768211456 - B)) % 340282366920938463463374607431768211456 = A - B by omega] at this
  exact this
theorem wCmp (A B : Nat) : wide_Cmp.f (wH A) (wL A) (wH B) (wL B) = some (cmpN A B) := by
  have := cmpW (A / 18446744073709551616) (A % 18446744073709551616) (B / 18446744073709551616) (B % 18446744073709551616) (lo64 A) (lo64 B)
  rwa [wn_div, wn_div] at this
theorem wPack (w : Int) (hw : w = 32 ∨ w = 64) (s : Bool) (V : Nat) (hV : V < 340282366920938463463374607431768211456) (e : Int) (m : Bool) : round_Pack.f w s (wH V) (wL V) e m = some ((mkN w (pkm (fmt w) V e m) s : Nat) : Int) := packV w hw s V hV e m
theorem alignE (s t : Bool) (k1 k2 : Int) {g g2 : Nat} {e e2 : Int} (hg : g < 9007199254740992) (hg2 : g2 < 9007199254740992) (h1 : -1100 ≤ e2) (h2 : e2 ≤ e) (h3 : e ≤ 1000) {u d : Nat} (hu : (u : Int) = min (e - e2) 64) (hd : (d : Int) = e - e2 - u) :
    sum_align.f s k1 e g t k2 e2 g2 = some (wH (g * 2 ^ u), wL (g * 2 ^ u), wH (g2 / 2 ^ d), wL (g2 / 2 ^ d), e - u, decide (g2 % 2 ^ d ≠ 0)) := by
  have hp : 2 ^ u ≤ 18446744073709551616 := by
    have := Nat.pow_le_pow_right (show 0 < 2 by decide) (show u ≤ 64 by omega)
    rwa [show (2 : Nat) ^ 64 = 18446744073709551616 by decide] at this
  have hm : g * 2 ^ u < 340282366920938463463374607431768211456 := by
    have := Nat.mul_le_mul (show g ≤ 9007199254740992 by omega) hp
    omega
  unfold sum_align.f
  rw [ofW g, Option.bind_some, w64_id (n := e - e2) (by omega) (by omega)]
  have hmn : mn (e - e2) 64 = (u : Int) := by unfold mn; rw [hu]; split <;> omega
  rw [hmn]
  have hl := wLeft (V := g) (by omega) u (by omega) hm
  have hr := wRight (V := g2) (by omega) d (by omega)
  rw [(wSmall (V := g) (by omega)).1, (wSmall (V := g) (by omega)).2] at hl
  rw [(wSmall (V := g2) (by omega)).1, (wSmall (V := g2) (by omega)).2] at hr
  simp only
  rw [hl, Option.bind_some, ofW g2, Option.bind_some, w64_id (n := e - e2 - u) (by omega) (by omega), ← hd]
  simp only
  rw [hr, Option.bind_some, w64_id (n := e - u) (by omega) (by omega)]
theorem natSub {a b : Nat} (h : b ≤ a) : ((a - b : Nat) : Rat) = (a : Rat) - b := by
  obtain ⟨c, rfl⟩ := Nat.le.dest h
  rw [Nat.add_sub_cancel_left, Rat.natCast_add]; grind
theorem subMul (a b c : Rat) : (a - b) * c = a * c - b * c := by grind
theorem finOrd (w : Int) (hw : w = 32 ∨ w = 64) (s t : Bool) (k1 k2 : Int) {g g2 : Nat} {e e2 : Int} (g0 : 0 < g) (g20 : 0 < g2) (hg : g < 9007199254740992) (hg2 : g2 < 9007199254740992) (h1 : -1100 ≤ e2) (h2 : e2 ≤ e) (h3 : e ≤ 1000) :
    Ev (fun k => sum_finite.j0 k w s k1 e g t k2 e2 g2) ((fx w (pv (s, 1, e, (g : Int)) + pv (t, 1, e2, (g2 : Int))) (s && t) : Nat) : Int) := by
  obtain ⟨u, hu⟩ : ∃ u : Nat, (u : Int) = min (e - e2) 64 := ⟨(min (e - e2) 64).toNat, by omega⟩
  obtain ⟨d, hd⟩ : ∃ d : Nat, (d : Int) = e - e2 - u := ⟨(e - e2 - u).toNat, by omega⟩
  have al := alignE s t k1 k2 hg hg2 h1 h2 h3 hu hd
  obtain ⟨f1, f2, f3, f4, f5⟩ := align_eq (sa := g) (sb := g2) h2 g0 hu hd
  have hp : 2 ^ u ≤ 18446744073709551616 := by
    have := Nat.pow_le_pow_right (show 0 < 2 by decide) (show u ≤ 64 by omega)
    rwa [show (2 : Nat) ^ 64 = 18446744073709551616 by decide] at this
  have hm : g * 2 ^ u < 170141183460469231731687303715884105728 := by
    have := Nat.mul_le_mul (show g ≤ 9007199254740992 by omega) hp
    omega
  have hb : g2 / 2 ^ d ≤ g2 := Nat.div_le_self _ _
  have hA : g2 % 2 ^ d ≠ 0 → 18446744073709551616 ≤ g * 2 ^ u := fun h => by
    have := (f5 h).2
    rw [this, show (2 : Nat) ^ 64 = 18446744073709551616 by decide]
    omega
  have pX := pos_tw g0 e
  have pY := pos_tw g20 e2
  rw [pv1, pv1]
  generalize (g : Rat) * tw e = X at *
  generalize (g2 : Rat) * tw e2 = Y at *
  generalize hAA : g * 2 ^ u = A at *
  generalize hBB : g2 / 2 ^ d = B at *
  generalize hEE : e - (u : Int) = E at *
  have T := tw_pos E
  obtain ⟨lost, hl⟩ : ∃ l : Bool, decide (g2 % 2 ^ d ≠ 0) = l := ⟨_, rfl⟩
  rw [hl] at al
  have c0 : lost = false → Y = (B : Rat) * tw E := fun h => f4 (by rw [h] at hl; simpa using hl)
  have c1 : lost = true → (B : Rat) * tw E < Y ∧ 18446744073709551616 ≤ A := fun h => by
    rw [h] at hl
    have : g2 % 2 ^ d ≠ 0 := by simpa using hl
    exact ⟨(f5 this).1, hA this⟩
  clear f4 f5 hA hl
  have cast1 : ∀ n : Nat, ((n + 1 : Nat) : Rat) = (n : Rat) + 1 := fun n => by push_cast; rfl
  refine Ev.step (fun _ => sum_finite.j0.eq_2 ..) (Ev.bs al ?_)
  simp only
  by_cases hst : s = t
  · subst hst
    refine Ev.pos (by simp) (Ev.bs (wAdd (by omega)) (Ev.bs (wPack w hw s _ (by omega) E lost) (Ev.out ?_)))
    have e1 : (if s then -X else X) + (if s then -Y else Y) = if s then -(X + Y) else X + Y := by cases s <;> simp <;> grind
    rw [e1, fx_sg w (by grind)]
    cases hlo : lost
    · rw [pk_ex w _ _ (by omega), f1, c0 hlo, Rat.natCast_add, Rat.add_mul]
    · rw [pk_mo w (x := X + Y) (by omega) (by have := (c1 hlo).2; omega)]
      · have := (c1 hlo).1
        rw [Rat.natCast_add, Rat.add_mul, f1]; grind
      · rw [cast1, Rat.natCast_add, f1]
        rw [cast1] at f3
        grind
  · refine Ev.neg (by simpa using hst) (Ev.bs (wCmp A B) ?_)
    have e1 : (if s then -X else X) + (if t then -Y else Y) = if s then -(X - Y) else X - Y := by revert hst; cases s <;> cases t <;> simp <;> grind
    have e2' : (if s then -X else X) + (if t then -Y else Y) = if t then -(Y - X) else Y - X := by revert hst; cases s <;> cases t <;> simp <;> grind
    have ez : (s && t) = false := by revert hst; cases s <;> cases t <;> simp
    rcases Nat.lt_trichotomy A B with hc | hc | hc
    · have hlo : lost = false := by
        cases hlo : lost
        · rfl
        · have := (c1 hlo).2; omega
      rw [show cmpN A B = -1 by unfold cmpN; rw [if_pos hc]]
      refine Ev.neg (by decide) (Ev.pos rfl (Ev.bs (wSub (by omega) (by omega)) (Ev.bs (wPack w hw t _ (by omega) E false) (Ev.out ?_))))
      have hlt : (A : Rat) * tw E < (B : Rat) * tw E := mul_lt (nat_lt.2 hc) T
      rw [e2', fx_sg w (by rw [f1, c0 hlo]; grind), pk_ex w _ _ (by omega), f1, c0 hlo]
      rw [show ((B - A : Nat) : Rat) = (B : Rat) - A by rw [natSub (by omega)], subMul]
    · have hlo : lost = false := by
        cases hlo : lost
        · rfl
        · have := (c1 hlo).2; omega
      rw [show cmpN A B = 0 by unfold cmpN; rw [if_neg (by omega), if_neg (by omega)]]
      refine Ev.pos rfl (Ev.bs (shZ w hw false) (Ev.out ?_))
      rw [e1, f1, c0 hlo, hc, show (B : Rat) * tw E - (B : Rat) * tw E = 0 by grind, ez]
      cases s <;> simp [fx_zero]
    · rw [show cmpN A B = 1 by unfold cmpN; rw [if_neg (by omega), if_pos hc]]
      refine Ev.neg (by decide) (Ev.neg (by decide) (Ev.bs (wSub (by omega) (by omega)) ?_))
      cases hlo : lost
      · refine Ev.neg (by decide) (Ev.bs (wPack w hw s _ (by omega) E false) (Ev.out ?_))
        have hlt : (B : Rat) * tw E < (A : Rat) * tw E := mul_lt (nat_lt.2 hc) T
        rw [e1, fx_sg w (by rw [f1, c0 hlo]; grind), pk_ex w _ _ (by omega), f1, c0 hlo]
        rw [show ((A - B : Nat) : Rat) = (A : Rat) - B by rw [natSub (by omega)], subMul]
      · have h64 := (c1 hlo).2
        have hlt := (c1 hlo).1
        have hle : ((B + 1 : Nat) : Rat) * tw E ≤ (A : Rat) * tw E := mul_le (nat_le.2 (by omega)) T
        have w1 : wide_Sub.f (wH (A - B)) (wL (A - B)) 0 1 = some (wH (A - B - 1), wL (A - B - 1)) := by
          have := wSub (A := A - B) (B := 1) (by omega) (by omega)
          rwa [(wSmall (V := 1) (by decide)).1, (wSmall (V := 1) (by decide)).2] at this
        refine Ev.pos rfl (Ev.bs (show wide_Of.f 1 = some (0, 1) from rfl) (Ev.bs w1 (Ev.bs (wPack w hw s _ (by omega) E true) (Ev.out ?_))))
        rw [e1, fx_sg w (by rw [f1]; grind)]
        rw [pk_mo w (x := X - Y) (by omega) (by omega)]
        · rw [f1]
          have : ((A - B - 1 : Nat) : Rat) = (A : Rat) - B - 1 := by rw [natSub (by omega), natSub (by omega)]; rfl
          rw [this]
          rw [cast1] at f3
          grind
        · rw [f1, show A - B - 1 + 1 = A - B by omega, natSub (by omega)]
          grind
set_option maxRecDepth 20000 in
theorem partsE (w : Int) (hw : w = 32 ∨ w = 64) (p q : Pt) (hp : PtOk p) (hq : PtOk q) : Ev (fun k => sum_parts.f k w p.1 p.2.1 p.2.2.1 p.2.2.2 q.1 q.2.1 q.2.2.1 q.2.2.2) ((addP w p q : Nat) : Int) := by
  obtain ⟨s, kd, e, g⟩ := p
  obtain ⟨t, kd2, e2, g2⟩ := q
  obtain ⟨h1, h2, h0, h3, h4, h5, h6⟩ := hp
  obtain ⟨k1, k2, k0, k3, k4, k5, k6⟩ := hq
  simp only at h1 h2 h0 h3 h4 h5 h6 k1 k2 k0 k3 k4 k5 k6
  obtain ⟨g, rfl⟩ := Int.eq_ofNat_of_zero_le h3
  obtain ⟨g2, rfl⟩ := Int.eq_ofNat_of_zero_le k3
  simp only
  have nar1 : kd = 1 → round_Narrow.f w s kd e g = some ((fx w (pv (s, 1, e, (g : Int))) true : Nat) : Int) := fun h => by
    rw [narrowG w hw s kd e g (by omega)]
    unfold narG
    rw [if_neg (by omega), if_pos h, pv1, fx_sg w (pos_tw (by have := h2 h; omega) _)]
  have nar2 : kd2 = 1 → round_Narrow.f w t kd2 e2 g2 = some ((fx w (pv (t, 1, e2, (g2 : Int))) true : Nat) : Int) := fun h => by
    rw [narrowG w hw t kd2 e2 g2 (by omega)]
    unfold narG
    rw [if_neg (by omega), if_pos h, pv1, fx_sg w (pos_tw (by have := k2 h; omega) _)]
  have fz : ∀ x z z', x ≠ 0 → fx w x z = fx w x z' := fun x z z' h => by unfold fx; rw [if_neg h, if_neg h]
  have nz1 : kd = 1 → pv (s, 1, e, (g : Int)) ≠ 0 := fun h => by
    have := pos_tw (show 0 < g by have := h2 h; omega) e
    rw [pv1]; cases s <;> simp <;> grind
  have nz2 : kd2 = 1 → pv (t, 1, e2, (g2 : Int)) ≠ 0 := fun h => by
    have := pos_tw (show 0 < g2 by have := k2 h; omega) e2
    rw [pv1]; cases t <;> simp <;> grind
  have fin : kd = 1 → kd2 = 1 → Ev (fun k => sum_finite.f k w s kd e g t kd2 e2 g2) ((fx w (pv (s, 1, e, (g : Int)) + pv (t, 1, e2, (g2 : Int))) (s && t) : Nat) : Int) := fun ha hb => by
    unfold sum_finite.f
    by_cases hlt : e < e2
    · have := finOrd w hw t s kd2 kd (g := g2) (g2 := g) (e := e2) (e2 := e) (by have := k2 hb; omega) (by have := h2 ha; omega) (by omega) (by omega) h5 (by omega) k6
      rw [Rat.add_comm, Bool.and_comm]
      exact Ev.pos hlt this
    · exact Ev.neg hlt (finOrd w hw s t kd kd2 (g := g) (g2 := g2) (e := e) (e2 := e2) (by have := h2 ha; omega) (by have := k2 hb; omega) (by omega) (by omega) k5 (by omega) h6)
  unfold sum_parts.f
  by_cases n1 : kd = 3
  · subst n1
    refine Ev.pos rfl (Ev.step (fun _ => sum_parts.j0.eq_2 ..) (Ev.pos rfl (Ev.bs (shN w hw) (Ev.out ?_))))
    simp [addP]
  refine Ev.neg n1 (Ev.step (fun _ => sum_parts.j0.eq_2 ..) ?_)
  by_cases n2 : kd2 = 3
  · subst n2
    refine Ev.pos rfl (Ev.bs (shN w hw) (Ev.out ?_))
    simp [addP]
  refine Ev.neg (by simpa using n2) ?_
  by_cases i1 : kd = 2
  · subst i1
    refine Ev.pos rfl (Ev.step (fun _ => sum_parts.j1.eq_2 ..) (Ev.pos rfl (Ev.bind (r := ((addP w (s, 2, e, (g : Int)) (t, kd2, e2, (g2 : Int)) : Nat) : Int)) ?_ (Ev.out rfl))))
    unfold sum_infinite.f
    refine Ev.pos rfl ?_
    by_cases i2 : kd2 = 2
    · subst i2
      refine Ev.pos rfl (Ev.step (fun _ => sum_infinite.j0.eq_2 ..) ?_)
      by_cases hst : s = t
      · exact Ev.neg (by simpa using hst) (Ev.bs (shI w hw s) (Ev.out (by simp [addP, hst])))
      · exact Ev.pos (by simpa using hst) (Ev.bs (shN w hw) (Ev.out (by simp [addP, hst])))
    · exact Ev.neg i2 (Ev.step (fun _ => sum_infinite.j0.eq_2 ..) (Ev.neg (by decide) (Ev.bs (shI w hw s) (Ev.out (by simp [addP, n2, i2])))))
  refine Ev.neg i1 (Ev.step (fun _ => sum_parts.j1.eq_2 ..) ?_)
  by_cases i2 : kd2 = 2
  · subst i2
    refine Ev.pos rfl (Ev.bind (r := ((addP w (s, kd, e, (g : Int)) (t, 2, e2, (g2 : Int)) : Nat) : Int)) ?_ (Ev.out rfl))
    unfold sum_infinite.f
    exact Ev.neg i1 (Ev.bs (shI w hw t) (Ev.out (by simp [addP, n1, i1])))
  refine Ev.neg (by simpa using i2) ?_
  have hA : addP w (s, kd, e, (g : Int)) (t, kd2, e2, (g2 : Int)) = fx w (pv (s, kd, e, (g : Int)) + pv (t, kd2, e2, (g2 : Int))) (s && t) := by simp [addP, n1, n2, i1, i2]
  rw [hA]
  by_cases z1 : kd = 0
  · subst z1
    refine Ev.pos rfl (Ev.step (fun _ => sum_parts.j2.eq_2 ..) ?_)
    rw [pv0 (p := (s, 0, e, (g : Int))) (by simp), Rat.zero_add]
    by_cases z2 : kd2 = 0
    · subst z2
      rw [pv0 (p := (t, 0, e2, (g2 : Int))) (by simp), fx_zero]
      refine Ev.pos rfl ?_
      cases s
      · exact Ev.neg (by decide) (Ev.bs (shZ w hw false) (Ev.out (by simp)))
      · exact Ev.pos rfl (Ev.bs (shZ w hw t) (Ev.out (by simp)))
    · have o2 : kd2 = 1 := by omega
      refine Ev.neg (by simpa using z2) (Ev.pos rfl (Ev.bs (nar2 o2) (Ev.out ?_)))
      rw [o2, fz _ true (s && t) (nz2 o2)]
  · have o1 : kd = 1 := by omega
    refine Ev.neg z1 (Ev.step (fun _ => sum_parts.j2.eq_2 ..) (Ev.neg (by decide) (Ev.neg z1 ?_)))
    by_cases z2 : kd2 = 0
    · refine Ev.pos z2 (Ev.bs (nar1 o1) (Ev.out ?_))
      rw [o1, z2, pv0 (p := (t, 0, e2, (g2 : Int))) (by simp), Rat.add_zero, fz _ true (s && t) (nz1 o1)]
    · have o2 : kd2 = 1 := by omega
      refine Ev.neg z2 (Ev.bind (fin o1 o2) (Ev.out ?_))
      rw [o1, o2]
theorem sumE (w : Int) (hw : w = 32 ∨ w = 64) (a b : Nat) (ha : a < 18446744073709551616) (hb : b < 18446744073709551616) : Ev (fun k => sum_Add.f k w a b) ((addP w (opn w a) (opn w b) : Nat) : Int) := by
  unfold sum_Add.f
  refine Ev.bs (show sum_known.f w = some true by rcases hw with rfl | rfl <;> rfl) (Ev.pos rfl (Ev.bind (openS w hw a ha) (Ev.bind (openS w hw b hb) ?_)))
  exact Ev.bind (partsE w hw _ _ (opn_ok w hw a) (opn_ok w hw b)) (Ev.out rfl)
theorem add_comm' (w : Int) (p q : Pt) : addP w p q = addP w q p := by
  unfold addP
  rw [Rat.add_comm, Bool.and_comm]
  by_cases h : p.2.1 = 3 ∨ q.2.1 = 3
  · have h' : q.2.1 = 3 ∨ p.2.1 = 3 := by omega
    rw [if_pos h, if_pos h']
  · have h' : ¬ (q.2.1 = 3 ∨ p.2.1 = 3) := by omega
    rw [if_neg h, if_neg h']
    by_cases a : p.2.1 = 2 <;> by_cases b : q.2.1 = 2
    · rw [if_pos a, if_pos b]
      by_cases hs : p.1 = q.1
      · rw [if_neg (by simp [hs]), if_neg (by simp [hs]), hs]
      · rw [if_pos ⟨b, hs⟩, if_pos ⟨a, fun x => hs x.symm⟩]
    · rw [if_pos a, if_neg b, if_pos a, if_neg (fun x => b x.1)]
    · rw [if_neg a, if_pos b, if_pos b, if_neg (fun x => a x.1)]
    · rw [if_neg a, if_neg b, if_neg b, if_neg a]
end Go.Proofs.YtnmlmgmljoncoaaGreatDoor.Th
end
section
set_option linter.unusedVariables false
set_option linter.unusedSimpArgs false
namespace Go.Proofs.YtnmlmgmljoncoaaGreatDoor.Th
open Go.RowKit Go.Proofs.YtnmlmgmljoncoaaGreatDoorW.PrintWords Go.Proofs.YtnmlmgmljoncoaaGreatDoorW.PrintLast Go.Proofs.YtnmlmgmljoncoaaGreatDoorW.PrintMore Go.Proofs.YtnmlmgmljoncoaaGreatDoor.PA Bit Dig
def pw (w : Int) : Nat := if w = 32 then 4294967296 else 18446744073709551616
theorem addS (w : Int) (hw : w = 32 ∨ w = 64) (a b : Nat) (ha : a < 18446744073709551616) (hb : b < 18446744073709551616) : ints_Add.f w a b = some (((a + b) % pw w : Nat) : Int) := by
  unfold ints_Add.f pw
  rcases hw with rfl | rfl
  · rw [if_pos rfl, if_pos rfl]; congr 1; omega
  · rw [if_neg (by decide), if_pos rfl, if_neg (by decide), IntKind.wrap_u64]; congr 1
theorem mulS (w : Int) (hw : w = 32 ∨ w = 64) (a b : Nat) (ha : a < 18446744073709551616) (hb : b < 18446744073709551616) : ints_Mul.f w a b = some (((a * b) % pw w : Nat) : Int) := by
  unfold ints_Mul.f pw
  rcases hw with rfl | rfl
  · rw [if_pos rfl, if_pos rfl]; congr 1
    rw [show (a : Int) % 4294967296 * ((b : Int) % 4294967296) % 4294967296 = (a : Int) * b % 4294967296 from (Int.mul_emod _ _ _).symm]
    omega
  · rw [if_neg (by decide), if_pos rfl, if_neg (by decide), IntKind.wrap_u64]; congr 1
end Go.Proofs.YtnmlmgmljoncoaaGreatDoor.Th
end
section
set_option linter.unusedVariables false
set_option linter.unusedSimpArgs false
namespace Go.Proofs.YtnmlmgmljoncoaaGreatDoor.Th
open Go.RowKit Go.Proofs.YtnmlmgmljoncoaaGreatDoorW.PrintWords Go.Proofs.YtnmlmgmljoncoaaGreatDoorW.PrintLast Go.Proofs.YtnmlmgmljoncoaaGreatDoorW.PrintMore Go.Proofs.YtnmlmgmljoncoaaGreatDoor.PA Bit Dig Flo
theorem awake14S : Ev (fun k => L14_awake.f k) true := Ev.of (fun k => L14_awake.mono k) (k := 12) (by decide +kernel)
theorem kindL {op : Int} {r : Int × Int × Int × Bool} (h : numeric_Kind.f 9 op = some r) : Ev (fun k => numeric_Kind.f k op) r := Ev.of (fun k => numeric_Kind.mono _ k) (k := 9) h
theorem findL {op : Int} {r : Int × Int × Int} (h : numeric_find.f 9 op = some r) : Ev (fun k => numeric_find.f k op) r := Ev.of (fun k => numeric_find.mono _ k) (k := 9) h
theorem apHead {op inn n out w : Int} {f : Int × Int × Int} (hK : numeric_Kind.f 9 op = some (inn, n, out, true)) (hF : numeric_find.f 9 op = some f) (hW : numeric_width.f inn = some w) (a b : Nat) (ha : a < 18446744073709551616) (hb : b < 18446744073709551616) (r : Int × Int)
    (h : Ev (fun k => if f.1 = 1 then ((numeric_truth.f (((cutN w a : Nat) : Int) == 0)).bind fun t613 => (some (t613, 0))) else (if f.1 = 2 then ((numeric_related.f f.2.1 f.2.2 ((cutN w a : Nat) : Int) ((cutN w b : Nat) : Int)).bind fun t614 => ((numeric_truth.f t614).bind fun t615 => (some (t615, 0)))) else (if f.1 = 3 then ((numeric_compared.f k f.2.1 f.2.2 ((cutN w a : Nat) : Int) ((cutN w b : Nat) : Int)).bind fun t616 => ((numeric_truth.f t616).bind fun t617 => (some (t617, 0)))) else (if f.1 = 4 then ((numeric_counted.f f.2.1 f.2.2 ((cutN w a : Nat) : Int)).bind fun t618 => (some (t618, 0))) else (if f.1 = 5 then ((numeric_reckoned.f f.2.1 f.2.2 ((cutN w a : Nat) : Int) ((cutN w b : Nat) : Int)).bind fun bt619 => (some (bt619.1, bt619.2))) else (if f.1 = 6 then ((numeric_rounded.f k f.2.1 f.2.2 ((cutN w a : Nat) : Int)).bind fun t621 => (some (t621, 0))) else (if f.1 = 7 then ((numeric_floated.f k f.2.1 f.2.2 ((cutN w a : Nat) : Int) ((cutN w b : Nat) : Int)).bind fun t622 => (some (t622, 0))) else (if f.1 = 9 then ((numeric_stopped.f k f.2.1 ((cutN w a : Nat) : Int)).bind fun t623 => (some (t623, 0))) else ((numeric_turn.f k f.2.1 ((cutN w a : Nat) : Int)).bind fun bt624 => (some (bt624.1, bt624.2))))))))))) r) :
    Ev (fun k => numeric_Apply.f k op a b) r := by
  unfold numeric_Apply.f
  exact Ev.bind (kindL hK) (Ev.pos rfl (Ev.bs hW (Ev.bs (shCut w a ha) (Ev.bs hW (Ev.bs (shCut w b hb) (Ev.bind (findL hF) h))))))
theorem truthE (b : Bool) : numeric_truth.f b = some (if b then 1 else 0) := by cases b <;> rfl
theorem mnx_comm (w : Int) (hw : w = 32 ∨ w = 64) (a b : Nat) (ha : a < 18446744073709551616) (hb : b < 18446744073709551616) : mnN w a b = mnN w b a ∧ mxN w a b = mxN w b a := by
  have e : ky w a = ky w b → cutN w a = cutN w b := by
    intro h
    have h2 : sgB w a = sgB w b ∧ magN w a = magN w b := by
      unfold ky at h
      cases p : sgB w a <;> cases q : sgB w b <;> rw [p, q] at h <;> simp at h ⊢ <;> omega
    rw [cut_as_mk w hw a ha, cut_as_mk w hw b hb, h2.1, h2.2]
  unfold mnN mxN
  rw [Bool.or_comm (nn w b)]
  split
  · exact ⟨rfl, rfl⟩
  · constructor
    · by_cases c : ky w a ≤ ky w b
      · rw [if_pos c]
        by_cases d : ky w b ≤ ky w a
        · rw [if_pos d]; exact e (by omega)
        · rw [if_neg d]
      · rw [if_neg c, if_pos (by omega)]
    · by_cases c : ky w b ≤ ky w a
      · rw [if_pos c]
        by_cases d : ky w a ≤ ky w b
        · rw [if_pos d]; exact e (by omega)
        · rw [if_neg d]
      · rw [if_neg c, if_pos (by omega)]
def Swp (op : Int) (a b : Nat) : Prop := ∃ r : Int × Int, Ev (fun k => numeric_Apply.f k op a b) r ∧ Ev (fun k => numeric_Apply.f k op b a) r
theorem swRel {op inn n out w t : Int} (hK : numeric_Kind.f 9 op = some (inn, n, out, true)) (hF : numeric_find.f 9 op = some (2, t, w)) (hW : numeric_width.f inn = some w) (ht : t = 1 ∨ t = 2) (a b : Nat) (ha : a < 18446744073709551616) (hb : b < 18446744073709551616) : Swp op a b := by
  have g : ∀ x y : Nat, x < 18446744073709551616 → y < 18446744073709551616 → Ev (fun k => numeric_Apply.f k op x y) (if (if t = 1 then ((cutN w x : Nat) : Int) == ((cutN w y : Nat) : Int) else ((cutN w x : Nat) : Int) != ((cutN w y : Nat) : Int)) then 1 else 0, 0) := by
    intro x y hx hy
    refine apHead hK hF hW x y hx hy _ (Ev.neg (by simp) (Ev.pos rfl ?_))
    refine Ev.bs (a := (if t = 1 then ((cutN w x : Nat) : Int) == ((cutN w y : Nat) : Int) else ((cutN w x : Nat) : Int) != ((cutN w y : Nat) : Int))) ?_ (Ev.bs (truthE _) (Ev.out rfl))
    unfold numeric_related.f
    rcases ht with rfl | rfl <;> rfl
  refine ⟨_, g a b ha hb, ?_⟩
  have := g b a hb ha
  have e1 : (((cutN w b : Nat) : Int) == ((cutN w a : Nat) : Int)) = (((cutN w a : Nat) : Int) == ((cutN w b : Nat) : Int)) := by rw [Bool.eq_iff_iff, beq_iff_eq, beq_iff_eq]; omega
  have e2 : (((cutN w b : Nat) : Int) != ((cutN w a : Nat) : Int)) = (((cutN w a : Nat) : Int) != ((cutN w b : Nat) : Int)) := by unfold bne; rw [e1]
  rw [e1, e2] at this
  exact this
theorem swCmp {op inn n out w t : Int} (hw : w = 32 ∨ w = 64) (hK : numeric_Kind.f 9 op = some (inn, n, out, true)) (hF : numeric_find.f 9 op = some (3, t, w)) (hW : numeric_width.f inn = some w) (ht : t = 0 ∨ t = 1) (a b : Nat) (ha : a < 18446744073709551616) (hb : b < 18446744073709551616) : Swp op a b := by
  have ca := cutN_lt w a ha
  have cb := cutN_lt w b hb
  have g : ∀ x y : Nat, x < 18446744073709551616 → y < 18446744073709551616 → cutN w x < 18446744073709551616 → cutN w y < 18446744073709551616 → Ev (fun k => numeric_Apply.f k op x y) (if (if t = 0 then (!nn w (cutN w x) && !nn w (cutN w y) && decide (rk w (cutN w x) = rk w (cutN w y))) else (!(!nn w (cutN w x) && !nn w (cutN w y) && decide (rk w (cutN w x) = rk w (cutN w y))))) then 1 else 0, 0) := by
    intro x y hx hy cx cy
    refine apHead hK hF hW x y hx hy _ (Ev.neg (by simp) (Ev.neg (by simp) (Ev.pos rfl ?_)))
    refine Ev.bind (a := (if t = 0 then (!nn w (cutN w x) && !nn w (cutN w y) && decide (rk w (cutN w x) = rk w (cutN w y))) else (!(!nn w (cutN w x) && !nn w (cutN w y) && decide (rk w (cutN w x) = rk w (cutN w y)))))) ?_ (Ev.bs (truthE _) (Ev.out rfl))
    unfold numeric_compared.f
    rcases ht with rfl | rfl
    · exact Ev.pos rfl (Ev.bind (eqS w hw _ _ cx cy) (Ev.out rfl))
    · exact Ev.neg (by simp) (Ev.pos rfl (Ev.bind (neS w hw _ _ cx cy) (Ev.out rfl)))
  refine ⟨_, g a b ha hb ca cb, ?_⟩
  have := g b a hb ha cb ca
  have e1 : (!nn w (cutN w b) && !nn w (cutN w a) && decide (rk w (cutN w b) = rk w (cutN w a))) = (!nn w (cutN w a) && !nn w (cutN w b) && decide (rk w (cutN w a) = rk w (cutN w b))) := by
    rw [Bool.and_comm (!nn w (cutN w b))]
    congr 1
    rw [decide_eq_decide]; exact eq_comm
  rw [e1] at this
  exact this
theorem swInt {op inn n out w t : Int} (hw : w = 32 ∨ w = 64) (hK : numeric_Kind.f 9 op = some (inn, n, out, true)) (hF : numeric_find.f 9 op = some (5, t, w)) (hW : numeric_width.f inn = some w) (ht : t = 3 ∨ t = 5 ∨ t = 10 ∨ t = 11 ∨ t = 12) (a b : Nat) (ha : a < 18446744073709551616) (hb : b < 18446744073709551616) : Swp op a b := by
  have ca := cutN_lt w a ha
  have cb := cutN_lt w b hb
  have key : ∃ r : Int, numeric_plain.f t w ((cutN w a : Nat) : Int) ((cutN w b : Nat) : Int) = some r ∧ numeric_plain.f t w ((cutN w b : Nat) : Int) ((cutN w a : Nat) : Int) = some r := by
    unfold numeric_plain.f
    rcases ht with rfl | rfl | rfl | rfl | rfl
    · refine ⟨_, by rw [if_pos rfl, addS w hw _ _ ca cb, Option.bind_some], ?_⟩
      rw [if_pos rfl, addS w hw _ _ cb ca, Option.bind_some, Nat.add_comm]
    · refine ⟨_, by rw [if_neg (by decide), if_neg (by decide), if_pos rfl, mulS w hw _ _ ca cb, Option.bind_some], ?_⟩
      rw [if_neg (by decide), if_neg (by decide), if_pos rfl, mulS w hw _ _ cb ca, Option.bind_some, Nat.mul_comm]
    · refine ⟨_, by rw [if_neg (by decide), if_neg (by decide), if_neg (by decide), if_pos rfl, u64_and_nat _ _ ca cb], ?_⟩
      rw [if_neg (by decide), if_neg (by decide), if_neg (by decide), if_pos rfl, u64_and_nat _ _ cb ca, Nat.and_comm]
    · refine ⟨_, by rw [if_neg (by decide), if_neg (by decide), if_neg (by decide), if_neg (by decide), if_pos rfl, u64_or_nat _ _ ca cb], ?_⟩
      rw [if_neg (by decide), if_neg (by decide), if_neg (by decide), if_neg (by decide), if_pos rfl, u64_or_nat _ _ cb ca, Nat.or_comm]
    · refine ⟨_, by rw [if_neg (by decide), if_neg (by decide), if_neg (by decide), if_neg (by decide), if_neg (by decide), if_pos rfl, u64_xor_nat _ _ ca cb], ?_⟩
      rw [if_neg (by decide), if_neg (by decide), if_neg (by decide), if_neg (by decide), if_neg (by decide), if_pos rfl, u64_xor_nat _ _ cb ca, Nat.xor_comm]
  obtain ⟨r, k1, k2⟩ := key
  have g : ∀ x y : Int, numeric_plain.f t w x y = some r → numeric_reckoned.f t w x y = some (r, 0) := by
    intro x y h
    unfold numeric_reckoned.f
    rw [if_neg (by omega), if_neg (by omega), if_neg (by omega), if_neg (by omega), h]; rfl
  refine ⟨(r, 0), ?_, ?_⟩
  · exact apHead hK hF hW a b ha hb _ (Ev.neg (by simp) (Ev.neg (by simp) (Ev.neg (by simp) (Ev.neg (by simp) (Ev.pos rfl (Ev.bs (g _ _ k1) (Ev.out rfl)))))))
  · exact apHead hK hF hW b a hb ha _ (Ev.neg (by simp) (Ev.neg (by simp) (Ev.neg (by simp) (Ev.neg (by simp) (Ev.pos rfl (Ev.bs (g _ _ k2) (Ev.out rfl)))))))
theorem swFlo {op inn n out w t : Int} (hw : w = 32 ∨ w = 64) (hK : numeric_Kind.f 9 op = some (inn, n, out, true)) (hF : numeric_find.f 9 op = some (7, t, w)) (hW : numeric_width.f inn = some w) (ht : t = 7 ∨ t = 9 ∨ t = 11 ∨ t = 12) (a b : Nat) (ha : a < 18446744073709551616) (hb : b < 18446744073709551616) : Swp op a b := by
  have ca := cutN_lt w a ha
  have cb := cutN_lt w b hb
  have key : ∃ r : Int, Ev (fun k => numeric_floated.f k t w ((cutN w a : Nat) : Int) ((cutN w b : Nat) : Int)) r ∧ Ev (fun k => numeric_floated.f k t w ((cutN w b : Nat) : Int) ((cutN w a : Nat) : Int)) r := by
    unfold numeric_floated.f
    obtain ⟨m1, m2⟩ := mnx_comm w hw (cutN w a) (cutN w b) ca cb
    rcases ht with rfl | rfl | rfl | rfl
    · refine ⟨_, Ev.pos rfl (Ev.bind (sumE w hw _ _ ca cb) (Ev.out rfl)), Ev.pos rfl (Ev.bind (sumE w hw _ _ cb ca) (Ev.out ?_))⟩
      rw [add_comm']
    · refine ⟨_, Ev.neg (by decide) (Ev.neg (by decide) (Ev.pos rfl (Ev.bind (prodE w hw _ _ ca cb) (Ev.out rfl)))), Ev.neg (by decide) (Ev.neg (by decide) (Ev.pos rfl (Ev.bind (prodE w hw _ _ cb ca) (Ev.out ?_))))⟩
      rw [mul_comm']
    · refine ⟨_, Ev.neg (by decide) (Ev.neg (by decide) (Ev.neg (by decide) (Ev.neg (by decide) (Ev.pos rfl (Ev.bind (minS w hw _ _ ca cb) (Ev.out rfl)))))), Ev.neg (by decide) (Ev.neg (by decide) (Ev.neg (by decide) (Ev.neg (by decide) (Ev.pos rfl (Ev.bind (minS w hw _ _ cb ca) (Ev.out ?_))))))⟩
      rw [m1]
    · refine ⟨_, Ev.neg (by decide) (Ev.neg (by decide) (Ev.neg (by decide) (Ev.neg (by decide) (Ev.neg (by decide) (Ev.pos rfl (Ev.bind (maxS w hw _ _ ca cb) (Ev.out rfl))))))), Ev.neg (by decide) (Ev.neg (by decide) (Ev.neg (by decide) (Ev.neg (by decide) (Ev.neg (by decide) (Ev.pos rfl (Ev.bind (maxS w hw _ _ cb ca) (Ev.out ?_)))))))⟩
      rw [m2]
  obtain ⟨r, k1, k2⟩ := key
  refine ⟨(r, 0), ?_, ?_⟩
  · exact apHead hK hF hW a b ha hb _ (Ev.neg (by simp) (Ev.neg (by simp) (Ev.neg (by simp) (Ev.neg (by simp) (Ev.neg (by simp) (Ev.neg (by simp) (Ev.pos rfl (Ev.bind k1 (Ev.out rfl)))))))))
  · exact apHead hK hF hW b a hb ha _ (Ev.neg (by simp) (Ev.neg (by simp) (Ev.neg (by simp) (Ev.neg (by simp) (Ev.neg (by simp) (Ev.neg (by simp) (Ev.pos rfl (Ev.bind k2 (Ev.out rfl)))))))))
theorem swJ {op : Int} {a b : Nat} (h : Swp op a b) : Ev (fun k => L14_NumericSwaps.j0 k op a b true) true := by
  obtain ⟨r, h1, h2⟩ := h
  exact Ev.step (fun _ => L14_NumericSwaps.j0.eq_2 ..) (Ev.pos rfl (Ev.bind h1 (Ev.bind h2 (Ev.pos rfl (Ev.out (by simp))))))
theorem swN (op : Int) (a b : Int) : Ev (fun k => L14_NumericSwaps.j0 k op a b false) true := Ev.step (fun _ => L14_NumericSwaps.j0.eq_2 ..) (Ev.neg (by decide) (Ev.out rfl))
theorem swB (op c : Int) {a b : Nat} (h : Swp c a b) : Ev (fun k => L14_NumericSwaps.j0 k op a b (op == c)) true := by
  by_cases e : op = c
  · subst e; rw [beq_self_eq_true]; exact swJ h
  · rw [beq_eq_false_iff_ne.mpr e]; exact swN op a b
theorem swI {op c : Int} {a b : Nat} {g : Nat → Option Bool} (h : Swp c a b) (k : Ev g true) : Ev (fun k => if op = c then L14_NumericSwaps.j0 k op a b (op == c) else g k) true := by
  by_cases e : op = c
  · exact Ev.pos e (swB op c h)
  · exact Ev.neg e k
theorem NumericSwapsP : L14_NumericSwaps.Pure := by
  intro op a b _ ha0 hb0
  obtain ⟨ha1, ha2⟩ := wf_u64 ha0
  obtain ⟨a, rfl⟩ := Int.eq_ofNat_of_zero_le ha1
  obtain ⟨hb1, hb2⟩ := wf_u64 hb0
  obtain ⟨b, rfl⟩ := Int.eq_ofNat_of_zero_le hb1
  have ha : a < 18446744073709551616 := by omega
  have hb : b < 18446744073709551616 := by omega
  refine Ev.rounds ?_
  unfold L14_NumericSwaps.f
  refine Ev.bind awake14S (Ev.pos rfl ?_)
  refine swI (swRel (op := 70) (inn := 127) (n := 2) (out := 127) (w := 32) (t := 1) (by decide +kernel) (by decide +kernel) (by decide) (by decide) a b ha hb) ?_
  refine swI (swRel (op := 71) (inn := 127) (n := 2) (out := 127) (w := 32) (t := 2) (by decide +kernel) (by decide +kernel) (by decide) (by decide) a b ha hb) ?_
  refine swI (swRel (op := 81) (inn := 126) (n := 2) (out := 127) (w := 64) (t := 1) (by decide +kernel) (by decide +kernel) (by decide) (by decide) a b ha hb) ?_
  refine swI (swRel (op := 82) (inn := 126) (n := 2) (out := 127) (w := 64) (t := 2) (by decide +kernel) (by decide +kernel) (by decide) (by decide) a b ha hb) ?_
  refine swI (swCmp (op := 91) (inn := 125) (n := 2) (out := 127) (w := 32) (t := 0) (.inl rfl) (by decide +kernel) (by decide +kernel) (by decide) (by decide) a b ha hb) ?_
  refine swI (swCmp (op := 92) (inn := 125) (n := 2) (out := 127) (w := 32) (t := 1) (.inl rfl) (by decide +kernel) (by decide +kernel) (by decide) (by decide) a b ha hb) ?_
  refine swI (swCmp (op := 97) (inn := 124) (n := 2) (out := 127) (w := 64) (t := 0) (.inr rfl) (by decide +kernel) (by decide +kernel) (by decide) (by decide) a b ha hb) ?_
  refine swI (swCmp (op := 98) (inn := 124) (n := 2) (out := 127) (w := 64) (t := 1) (.inr rfl) (by decide +kernel) (by decide +kernel) (by decide) (by decide) a b ha hb) ?_
  refine swI (swInt (op := 106) (inn := 127) (n := 2) (out := 127) (w := 32) (t := 3) (.inl rfl) (by decide +kernel) (by decide +kernel) (by decide) (by decide) a b ha hb) ?_
  refine swI (swInt (op := 108) (inn := 127) (n := 2) (out := 127) (w := 32) (t := 5) (.inl rfl) (by decide +kernel) (by decide +kernel) (by decide) (by decide) a b ha hb) ?_
  refine swI (swInt (op := 113) (inn := 127) (n := 2) (out := 127) (w := 32) (t := 10) (.inl rfl) (by decide +kernel) (by decide +kernel) (by decide) (by decide) a b ha hb) ?_
  refine swI (swInt (op := 114) (inn := 127) (n := 2) (out := 127) (w := 32) (t := 11) (.inl rfl) (by decide +kernel) (by decide +kernel) (by decide) (by decide) a b ha hb) ?_
  refine swI (swInt (op := 115) (inn := 127) (n := 2) (out := 127) (w := 32) (t := 12) (.inl rfl) (by decide +kernel) (by decide +kernel) (by decide) (by decide) a b ha hb) ?_
  refine swI (swInt (op := 124) (inn := 126) (n := 2) (out := 126) (w := 64) (t := 3) (.inr rfl) (by decide +kernel) (by decide +kernel) (by decide) (by decide) a b ha hb) ?_
  refine swI (swInt (op := 126) (inn := 126) (n := 2) (out := 126) (w := 64) (t := 5) (.inr rfl) (by decide +kernel) (by decide +kernel) (by decide) (by decide) a b ha hb) ?_
  refine swI (swInt (op := 131) (inn := 126) (n := 2) (out := 126) (w := 64) (t := 10) (.inr rfl) (by decide +kernel) (by decide +kernel) (by decide) (by decide) a b ha hb) ?_
  refine swI (swInt (op := 132) (inn := 126) (n := 2) (out := 126) (w := 64) (t := 11) (.inr rfl) (by decide +kernel) (by decide +kernel) (by decide) (by decide) a b ha hb) ?_
  refine swI (swInt (op := 133) (inn := 126) (n := 2) (out := 126) (w := 64) (t := 12) (.inr rfl) (by decide +kernel) (by decide +kernel) (by decide) (by decide) a b ha hb) ?_
  refine swI (swFlo (op := 146) (inn := 125) (n := 2) (out := 125) (w := 32) (t := 7) (.inl rfl) (by decide +kernel) (by decide +kernel) (by decide) (by decide) a b ha hb) ?_
  refine swI (swFlo (op := 148) (inn := 125) (n := 2) (out := 125) (w := 32) (t := 9) (.inl rfl) (by decide +kernel) (by decide +kernel) (by decide) (by decide) a b ha hb) ?_
  refine swI (swFlo (op := 150) (inn := 125) (n := 2) (out := 125) (w := 32) (t := 11) (.inl rfl) (by decide +kernel) (by decide +kernel) (by decide) (by decide) a b ha hb) ?_
  refine swI (swFlo (op := 151) (inn := 125) (n := 2) (out := 125) (w := 32) (t := 12) (.inl rfl) (by decide +kernel) (by decide +kernel) (by decide) (by decide) a b ha hb) ?_
  refine swI (swFlo (op := 160) (inn := 124) (n := 2) (out := 124) (w := 64) (t := 7) (.inr rfl) (by decide +kernel) (by decide +kernel) (by decide) (by decide) a b ha hb) ?_
  refine swI (swFlo (op := 162) (inn := 124) (n := 2) (out := 124) (w := 64) (t := 9) (.inr rfl) (by decide +kernel) (by decide +kernel) (by decide) (by decide) a b ha hb) ?_
  refine swI (swFlo (op := 164) (inn := 124) (n := 2) (out := 124) (w := 64) (t := 11) (.inr rfl) (by decide +kernel) (by decide +kernel) (by decide) (by decide) a b ha hb) ?_
  exact swB op 165 (swFlo (op := 165) (inn := 124) (n := 2) (out := 124) (w := 64) (t := 12) (.inr rfl) (by decide +kernel) (by decide +kernel) (by decide) (by decide) a b ha hb)
end Go.Proofs.YtnmlmgmljoncoaaGreatDoor.Th
end
namespace Go.Proofs.YtnmlmgmljoncoaaGreatDoor.Pure
theorem NumericSwaps : Go.Proofs.YtnmlmgmljoncoaaGreatDoor.PA.L14_NumericSwaps.Pure := Go.Proofs.YtnmlmgmljoncoaaGreatDoor.Th.NumericSwapsP
end Go.Proofs.YtnmlmgmljoncoaaGreatDoor.Pure
namespace Go.Proofs.YtnmlmgmljoncoaaGreatDoor.Facts
abbrev ch (n : Nat) : Char := Char.ofNat n
theorem words_word (w : List Char) (r : List Char) (h : w.all (fun c => c != ch 32) = true) : wordsSigns (w ++ ch 32 :: r) = w :: wordsSigns r := by
  induction w with
  | nil => rfl
  | cons c w ih =>
    rw [List.all_cons, Bool.and_eq_true] at h
    have hc : c ≠ ch 32 := bne_iff_ne.1 h.1
    rw [List.cons_append]
    rw [wordsSigns.eq_3 c _ (fun e => hc e), ih h.2]
def w1 : List Char := [ch 104, ch 97, ch 114, ch 110, ch 101, ch 115, ch 115]
def w2 : List Char := [ch 52, ch 97, ch 49, ch 99, ch 50, ch 51, ch 102, ch 54, ch 50, ch 55, ch 54, ch 57, ch 53, ch 52, ch 55, ch 53, ch 52, ch 97, ch 56, ch 102, ch 53, ch 99, ch 97, ch 50, ch 51, ch 56, ch 54, ch 48, ch 101, ch 102, ch 101, ch 52, ch 99, ch 57, ch 51, ch 98, ch 97, ch 51, ch 56, ch 54, ch 51, ch 101, ch 97, ch 55, ch 48, ch 50, ch 57, ch 98, ch 101, ch 49, ch 51, ch 51, ch 99, ch 97, ch 51, ch 51, ch 97, ch 100, ch 53, ch 98, ch 52, ch 55, ch 48, ch 100]
def w3 : List Char := [ch 99, ch 117, ch 116]
set_option maxRecDepth 100000 in
def tailSigns : List Char := [ch 97, ch 116, ch 32, ch 116, ch 114, ch 117, ch 110, ch 110, ch 105, ch 111, ch 110, ch 47, ch 116, ch 114, ch 117, ch 110, ch 110, ch 105, ch 111, ch 110, ch 116, ch 111, ch 112, ch 46, ch 84, ch 111, ch 112, ch 82, ch 111, ch 111, ch 116, ch 115, ch 32, ch 116, ch 114, ch 117, ch 110, ch 110, ch 105, ch 111, ch 110, ch 47, ch 116, ch 114, ch 117, ch 110, ch 110, ch 105, ch 111, ch 110, ch 116, ch 111, ch 112, ch 46, ch 84, ch 111, ch 112, ch 78, ch 101, ch 97, ch 114, ch 101, ch 115, ch 116, ch 32, ch 116, ch 114, ch 117, ch 110, ch 110, ch 105, ch 111, ch 110, ch 47, ch 116, ch 114, ch 117, ch 110, ch 110, ch 105, ch 111, ch 110, ch 108, ch 97, ch 119, ch 49, ch 52, ch 46, ch 78, ch 117, ch 109, ch 101, ch 114, ch 105, ch 99, ch 65, ch 112, ch 112, ch 108, ch 105, ch 101, ch 115, ch 32, ch 116, ch 114, ch 117, ch 110, ch 110, ch 105, ch 111, ch 110, ch 47, ch 116, ch 114, ch 117, ch 110, ch 110, ch 105, ch 111, ch 110, ch 108, ch 97, ch 119, ch 49, ch 52, ch 46, ch 78, ch 117, ch 109, ch 101, ch 114, ch 105, ch 99, ch 75, ch 101, ch 101, ch 112, ch 115, ch 32, ch 116, ch 114, ch 117, ch 110, ch 110, ch 105, ch 111, ch 110, ch 47, ch 116, ch 114, ch 117, ch 110, ch 110, ch 105, ch 111, ch 110, ch 108, ch 97, ch 119, ch 49, ch 52, ch 46, ch 78, ch 117, ch 109, ch 101, ch 114, ch 105, ch 99, ch 83, ch 119, ch 97, ch 112, ch 115, ch 32, ch 116, ch 114, ch 117, ch 110, ch 110, ch 105, ch 111, ch 110, ch 47, ch 116, ch 114, ch 117, ch 110, ch 110, ch 105, ch 111, ch 110, ch 108, ch 97, ch 119, ch 49, ch 52, ch 46, ch 78, ch 117, ch 109, ch 101, ch 114, ch 105, ch 99, ch 75, ch 105, ch 110, ch 100, ch 115]
set_option maxRecDepth 100000 in
theorem head_list : Tryz.prog.initOrder.toList = w1 ++ ch 32 :: (w2 ++ ch 32 :: (w3 ++ ch 32 :: tailSigns)) :=
  (congrArg String.toList (show Tryz.prog.initOrder = String.ofList (w1 ++ ch 32 :: (w2 ++ ch 32 :: (w3 ++ ch 32 :: tailSigns))) from rfl)).trans String.toList_ofList
theorem words : ∃ rest, behindMainWord (wordsSigns Tryz.prog.initOrder.toList) = w3 :: rest := by
  refine ⟨wordsSigns tailSigns, ?_⟩
  rw [head_list, words_word w1 _ (by kernel_rfl), words_word w2 _ (by kernel_rfl), words_word w3 _ (by kernel_rfl)]
  generalize wordsSigns tailSigns = rest
  have e : ((w1 == "harness".toList || w1 == "ownmain".toList) && isSumSigns w2) = true := by kernel_rfl
  show (if ((w1 == "harness".toList || w1 == "ownmain".toList) && isSumSigns w2) = true then w3 :: rest else w1 :: w2 :: w3 :: rest) = w3 :: rest
  rw [if_pos e]
theorem c3 : (w3 == "gc".toList) = false ∧ (w3 == "spec".toList) = false ∧ (w3 == "cut".toList) = true ∧ (w3 == "carried".toList) = false ∧ (w3 == "finals".toList) = false := ⟨by kernel_rfl, by kernel_rfl, by kernel_rfl, by kernel_rfl, by kernel_rfl⟩
theorem strip (rest : List (List Char)) : stripLifts liftWords (w3 :: rest) = ([], w3 :: rest) := by
  have key : ∀ l : List String, l.all (fun o => !(w3 == o.toList)) = true → stripLifts l (w3 :: rest) = ([], w3 :: rest) := by
    intro l
    induction l with
    | nil => intro _; rfl
    | cons o l ih =>
      intro h
      rw [List.all_cons, Bool.and_eq_true] at h
      unfold stripLifts
      rw [if_neg (fun e => by have h1 := h.1; rw [e] at h1; cases h1)]
      exact ih h.2
  exact key liftWords (by kernel_rfl)
theorem make_of (P : Program) (h : ∃ rest, behindMainWord (wordsSigns P.initOrder.toList) = w3 :: rest) : P.make = some .cut := by
  obtain ⟨rest, h⟩ := h
  unfold Program.make
  rw [h]
  show (if (w3 == "gc".toList || w3 == "spec".toList) = true then some Make.whole else if (w3 == "cut".toList || (w3 == "finals".toList && rest.head? == some "cut".toList)) = true then some Make.cut else _) = some Make.cut
  rw [if_neg (by rw [c3.1, c3.2.1]; decide), if_pos (by rw [c3.2.2.1, Bool.true_or])]
set_option maxRecDepth 100000 in
theorem liftsFact : Tryz.prog.liftsFinal = false := by
  unfold Program.liftsFinal Program.headLifts
  rw [head_list]
  kernel_rfl
theorem doorFact : (!Tryz.prog.laysLater && !Tryz.prog.bearsReflect && Tryz.prog.doorFits []) = true := by kernel_rfl
theorem makeFact : Tryz.prog.make = some .cut := make_of _ words
theorem enter_of (P : Program) (h : ∃ rest, behindMainWord (wordsSigns P.initOrder.toList) = w3 :: rest) (d : (!P.laysLater && !P.bearsReflect && P.doorFits []) = true) : P.mayEnter = true := by
  obtain ⟨rest, h⟩ := h
  rw [Bool.and_eq_true, Bool.and_eq_true] at d
  have e : ((some w3 == some "cut".toList) : Bool) = true := by kernel_rfl
  unfold Program.mayEnter
  rw [h]
  show ((_ || _) || ((stripLifts liftWords (w3 :: rest)).2.head? == some "cut".toList && ((stripLifts liftWords (w3 :: rest)).1.contains "finals" || !P.laysLater) && ((stripLifts liftWords (w3 :: rest)).1.contains "reflectrows" || !P.bearsReflect) &&
      ((stripLifts liftWords (w3 :: rest)).1.contains "reflectrows" || !(stripLifts liftWords (w3 :: rest)).1.contains "leanrows") && P.doorFits (stripLifts liftWords (w3 :: rest)).1)) = true
  rw [strip, Bool.or_eq_true]
  refine .inr ?_
  rw [Bool.and_eq_true, Bool.and_eq_true, Bool.and_eq_true, Bool.and_eq_true, Bool.or_eq_true, Bool.or_eq_true]
  exact ⟨⟨⟨⟨e, .inr d.1.1⟩, .inr d.1.2⟩, rfl⟩, d.2⟩
theorem enterFact : Tryz.prog.mayEnter = true := enter_of _ words doorFact
end Go.Proofs.YtnmlmgmljoncoaaGreatDoor.Facts
