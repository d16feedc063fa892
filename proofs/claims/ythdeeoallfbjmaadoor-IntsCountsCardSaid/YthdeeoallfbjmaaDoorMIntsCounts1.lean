/- What the Go functions that the statement IntsCounts reaches compute, and the mathematics on it, in the order in which one leans on the other; for every input. -/
import Derived.Test.YthdeeoallfbjmaaDoorVIntsCounts0
import Derived.Test.YthdeeoallfbjmaaDoorMIntsCounts0
namespace Go.Proofs.YthdeeoallfbjmaaDoor.PA
open Go.RowKit Go.Proofs.YthdeeoallfbjmaaDoorW.PrintWords Go.Proofs.YthdeeoallfbjmaaDoorW.PrintLast Go.Proofs.YthdeeoallfbjmaaDoorW.PrintMore
attribute [local go_sem] max2_int min2_int max_two min_two max_three min_three max_four min_four   -- for this text's walks alone
set_option linter.unusedVariables false
set_option linter.unusedSimpArgs false
set_option maxHeartbeats 8000000
set_option maxRecDepth 100000
def trunnionref13_Of.l0 : Nat → List Bool → Int → Int → Option (Int)
 | 0, _, _, _ => none
 | k + 1, x0, x3, x4 => if x4 ≥ 0 then (if 0 ≤ x4 then (if x4 < (x0.length : Int) then (if rdOf false x0 x4 = true then (trunnionref13_Of.l0 k x0 (IntKind.u64.wrap ((IntKind.u64.wrap (2 * x3)) + 1)) (wrap64 (x4 - 1))) else (trunnionref13_Of.l0 k x0 (IntKind.u64.wrap (2 * x3)) (wrap64 (x4 - 1)))) else (none)) else (none)) else (some x3)
def trunnionref13_Of.f (k : Nat) (l0 : List Bool) : Option (Int) := trunnionref13_Of.l0 k l0 0 (wrap64 ((l0.length : Int) - 1))
theorem trunnionref13_Of.mono_l : ∀ k, (∀ y0 y1 y2, LeO (trunnionref13_Of.l0 k y0 y1 y2) (trunnionref13_Of.l0 (k + 1) y0 y1 y2))
 | 0 => fun _ _ _ r h => by simp [trunnionref13_Of.l0] at h
 | k + 1 => by
  have ih0 := trunnionref13_Of.mono_l k
  ·intro y0 y1 y2
   unfold trunnionref13_Of.l0
   repeat' first
   | (with_reducible exact ih0 _ _ _)
   | (with_reducible exact LeO.refl _)
   | (with_reducible exact LeO.none _)
   | (with_reducible refine LeO.ite ?_ ?_)
   | (with_reducible refine LeO.bind ?_ (fun _ => ?_))
   | exact ih0 _ _ _
   | exact LeO.none _
   | refine LeO.ite ?_ ?_
   | refine LeO.bind ?_ (fun _ => ?_)
theorem trunnionref13_Of.mono : ∀ a0 k, LeO (trunnionref13_Of.f k a0) (trunnionref13_Of.f (k + 1) a0) := by
 intro a0 k
 have ih0 := trunnionref13_Of.mono_l k
 unfold trunnionref13_Of.f
 repeat' first
   | (with_reducible exact ih0 _ _ _)
   | (with_reducible exact LeO.refl _)
   | (with_reducible exact LeO.none _)
   | (with_reducible refine LeO.ite ?_ ?_)
   | (with_reducible refine LeO.bind ?_ (fun _ => ?_))
   | exact ih0 _ _ _
   | exact LeO.none _
   | refine LeO.ite ?_ ?_
   | refine LeO.bind ?_ (fun _ => ?_)
theorem trunnionref13_Of.calls (k : Nat) (A0 : Option Addr) (c0 : Nat) (l0 : List Bool) (r : Int) (w : World) (hr0 : Kd.C Kd.bool w A0 l0.length l0) (hc0 : l0.length ≤ c0) (h : trunnionref13_Of.f k l0 = some r) :
  Calls Tryd.prog 51 #[.slice A0 l0.length c0] w fun e w' => e = .returned (.int .u64 r) ∧ Drawn0 w w' := by
 have HR0 := A_ hr0;have HC0 := A_ hc0;clear hr0 hc0
 have H : (trunnionref13_Of.l0 k l0 0 (wrap64 ((l0.length : Int) - 1))) = some r := h
 clear h
 have H' := A_ H
 clear H
 go_enter Tryd.func51, Tryd.ntmps51
 go_wp2
 go_loopg [3, 4] k (fun kq v3 v4 w' => ∃ (x3_1 : Int) (x4_1 : Int), v3 = .int .u64 x3_1 ∧ v4 = .int .i64 x4_1 ∧ Aside0 (trunnionref13_Of.l0 kq l0 x3_1 x4_1 = some r) ∧ Aside0 (kq ≤ k) ∧ Drawn0 w w')
 case atStart => exact ⟨(0), (wrap64 ((l0.length : Int) - 1)), sm_, sm_, H', ⟨Nat.le_refl _⟩, by repeat (first | exact Drawn0.refl _ | apply Drawn0.step)⟩
 case round =>
  clear H'
  obtain ⟨x3_1, x4_1, rfl, rfl, HA, HK1, ⟨m1, rfl⟩⟩ := hrel
  cases gk with
  | zero => exact absurd HA.out (by simp [trunnionref13_Of.l0])
  | succ k1 =>
   have H := HA.out
   clear HA
   simp only [trunnionref13_Of.l0] at H
   by_cases c2 : x4_1 ≥ 0
   ·rw [if_pos c2] at H
    have c2b0 : decide (0 ≤ x4_1) = true := decide_eq_true c2
    clear c2
    by_cases c3 : 0 ≤ x4_1
    ·rw [if_pos c3] at H
     have c3b0 : decide (0 ≤ x4_1) = true := decide_eq_true c3
     clear c3
     by_cases c4 : x4_1 < (l0.length : Int)
     ·rw [if_pos c4] at H
      have c4b0 : decide (x4_1 < (l0.length : Int)) = true := decide_eq_true c4
      clear c4
      obtain ⟨bq5, hbq5⟩ : ∃ b_ : Bool, b_ = (rdOf false l0 x4_1) := ⟨_, rfl⟩
      replace H : (if bq5 = true then (trunnionref13_Of.l0 k1 l0 (IntKind.u64.wrap ((IntKind.u64.wrap (2 * x3_1)) + 1)) (wrap64 (x4_1 - 1))) else (trunnionref13_Of.l0 k1 l0 (IntKind.u64.wrap (2 * x3_1)) (wrap64 (x4_1 - 1)))) = some r := by rw [← hbq5] at H; exact H
      have Nbq5 := A_ hbq5;clear hbq5
      by_cases c6 : bq5 = true
      ·subst c6
       have H1 : (trunnionref13_Of.l0 k1 l0 (IntKind.u64.wrap ((IntKind.u64.wrap (2 * x3_1)) + 1)) (wrap64 (x4_1 - 1))) = some r := by rw [if_pos rfl] at H; exact H
       clear H;have H := H1;clear H1
       have H' := A_ H
       clear H
       have p161 : 0 ≤ (x4_1 : Int) := of_decide_eq_true (by first | (with_reducible assumption) | assumption)
       have q161 : x4_1 < (l0.length : Int) := of_decide_eq_true (by first | (with_reducible assumption) | assumption)
       obtain ⟨ad161, e161, hx161_0⟩ := Kd.at_bool HR0.out x4_1 p161 q161
       (try rw [← Nbq5.out] at hx161_0)
       cases e161
       replace p161 := eq_true p161
       replace q161 := eq_true q161
       go_wp2
       go_roundg k1
       case measure => have := HK1.out; omega
       case rel => exact ⟨(IntKind.u64.wrap ((IntKind.u64.wrap (2 * x3_1)) + 1)), (wrap64 (x4_1 - 1)), sm_, sm_, H', ⟨by have := HK1.out; omega⟩, by repeat (first | exact Drawn0.refl _ | apply Drawn0.step)⟩
      ·replace c6 := Bool.eq_false_iff.mpr c6
       subst c6
       have H1 : (trunnionref13_Of.l0 k1 l0 (IntKind.u64.wrap (2 * x3_1)) (wrap64 (x4_1 - 1))) = some r := by rw [if_neg (show ¬ (false = true) by decide)] at H; exact H
       clear H;have H := H1;clear H1
       have H' := A_ H
       clear H
       have p161 : 0 ≤ (x4_1 : Int) := of_decide_eq_true (by first | (with_reducible assumption) | assumption)
       have q161 : x4_1 < (l0.length : Int) := of_decide_eq_true (by first | (with_reducible assumption) | assumption)
       obtain ⟨ad161, e161, hx161_0⟩ := Kd.at_bool HR0.out x4_1 p161 q161
       (try rw [← Nbq5.out] at hx161_0)
       cases e161
       replace p161 := eq_true p161
       replace q161 := eq_true q161
       go_wp2
       go_roundg k1
       case measure => have := HK1.out; omega
       case rel => exact ⟨(IntKind.u64.wrap (2 * x3_1)), (wrap64 (x4_1 - 1)), sm_, sm_, H', ⟨by have := HK1.out; omega⟩, by repeat (first | exact Drawn0.refl _ | apply Drawn0.step)⟩
     ·rw [if_neg c4] at H
      exact absurd H (by simp)
    ·rw [if_neg c3] at H
     exact absurd H (by simp)
   ·rw [if_neg c2] at H
    have c2b0 : decide (0 ≤ x4_1) = false := decide_eq_false c2
    clear c2
    obtain rfl := Option.some.inj H
    go_wp2
    go_ret
    exact ⟨sm_, by repeat (first | exact Drawn0.refl _ | apply Drawn0.step)⟩
mutual
def trunnionref13_Extend.j0 : Nat → Int → Int → Int → Bool → Bool → Option (Int)
 | 0, _, _, _, _, _ => none
 | k + 1, x0, x1, x2, x3, x30 => if x30 = true then (some 0) else ((trunnionref13_Bits.f k 64 x2).bind fun t162 => (if 0 ≤ x1 then (if x1 ≤ (t162.length : Int) then ((some (t162.take (x1 : Int).toNat : List Bool)).bind fun y165 => (if ([] : List Bool).length + y165.length < 140737488355328 then (trunnionref13_Extend.l0 k x0 x1 x3 y165 (([] : List Bool) ++ y165) x1) else (none))) else (none)) else (none)))
def trunnionref13_Extend.l0 : Nat → Int → Int → Bool → List Bool → List Bool → Int → Option (Int)
 | 0, _, _, _, _, _, _ => none
 | k + 1, x0, x1, x3, x9, x10, x11 => if x11 < x0 then (if x3 = true then (if 0 ≤ (wrap64 (x1 - 1)) then (if (wrap64 (x1 - 1)) < (x9.length : Int) then (if x10.length < 140737488355328 then (trunnionref13_Extend.l0 k x0 x1 x3 x9 (x10 ++ [rdOf false x9 (wrap64 (x1 - 1))]) (wrap64 (x11 + 1))) else (none)) else (none)) else (none)) else (if x10.length < 140737488355328 then (trunnionref13_Extend.l0 k x0 x1 x3 x9 (x10 ++ [false]) (wrap64 (x11 + 1))) else (none))) else ((trunnionref13_Of.f k x10).bind fun t179 => (some t179))
end
def trunnionref13_Extend.f (k : Nat) (a0 : Int) (a1 : Int) (a2 : Int) (a3 : Bool) : Option (Int) := if a1 = 8 then (trunnionref13_Extend.j0 k a0 a1 a2 a3 (decide (a1 > a0))) else (if a1 = 16 then (trunnionref13_Extend.j0 k a0 a1 a2 a3 (decide (a1 > a0))) else (if a1 = 32 then (trunnionref13_Extend.j0 k a0 a1 a2 a3 (decide (a1 > a0))) else (if a1 = 64 then (trunnionref13_Extend.j0 k a0 a1 a2 a3 (decide (a1 > a0))) else (trunnionref13_Extend.j0 k a0 a1 a2 a3 true))))
theorem trunnionref13_Extend.mono_l : ∀ k, (∀ y0 y1 y2 y3 y4, LeO (trunnionref13_Extend.j0 k y0 y1 y2 y3 y4) (trunnionref13_Extend.j0 (k + 1) y0 y1 y2 y3 y4)) ∧ (∀ y0 y1 y2 y3 y4 y5, LeO (trunnionref13_Extend.l0 k y0 y1 y2 y3 y4 y5) (trunnionref13_Extend.l0 (k + 1) y0 y1 y2 y3 y4 y5))
 | 0 => ⟨fun _ _ _ _ _ r h => by simp [trunnionref13_Extend.j0] at h, fun _ _ _ _ _ _ r h => by simp [trunnionref13_Extend.l0] at h⟩
 | k + 1 => by
  obtain ⟨ih0, ih1⟩ := trunnionref13_Extend.mono_l k
  refine ⟨?_, ?_⟩
  ·intro y0 y1 y2 y3 y4
   unfold trunnionref13_Extend.j0
   repeat' first
   | (with_reducible exact ih0 _ _ _ _ _)
   | (with_reducible exact ih1 _ _ _ _ _ _)
   | (with_reducible exact trunnionref13_Bits.mono _ _ _)
   | (with_reducible exact trunnionref13_Of.mono _ _)
   | (with_reducible exact LeO.refl _)
   | (with_reducible exact LeO.none _)
   | (with_reducible refine LeO.ite ?_ ?_)
   | (with_reducible refine LeO.bind ?_ (fun _ => ?_))
   | exact ih0 _ _ _ _ _
   | exact ih1 _ _ _ _ _ _
   | exact trunnionref13_Bits.mono _ _ _
   | exact trunnionref13_Of.mono _ _
   | exact LeO.none _
   | refine LeO.ite ?_ ?_
   | refine LeO.bind ?_ (fun _ => ?_)
  ·intro y0 y1 y2 y3 y4 y5
   unfold trunnionref13_Extend.l0
   repeat' first
   | (with_reducible exact ih0 _ _ _ _ _)
   | (with_reducible exact ih1 _ _ _ _ _ _)
   | (with_reducible exact trunnionref13_Bits.mono _ _ _)
   | (with_reducible exact trunnionref13_Of.mono _ _)
   | (with_reducible exact LeO.refl _)
   | (with_reducible exact LeO.none _)
   | (with_reducible refine LeO.ite ?_ ?_)
   | (with_reducible refine LeO.bind ?_ (fun _ => ?_))
   | exact ih0 _ _ _ _ _
   | exact ih1 _ _ _ _ _ _
   | exact trunnionref13_Bits.mono _ _ _
   | exact trunnionref13_Of.mono _ _
   | exact LeO.none _
   | refine LeO.ite ?_ ?_
   | refine LeO.bind ?_ (fun _ => ?_)
theorem trunnionref13_Extend.mono : ∀ a0 a1 a2 a3 k, LeO (trunnionref13_Extend.f k a0 a1 a2 a3) (trunnionref13_Extend.f (k + 1) a0 a1 a2 a3) := by
 intro a0 a1 a2 a3 k
 obtain ⟨ih0, ih1⟩ := trunnionref13_Extend.mono_l k
 unfold trunnionref13_Extend.f
 repeat' first
   | (with_reducible exact ih0 _ _ _ _ _)
   | (with_reducible exact ih1 _ _ _ _ _ _)
   | (with_reducible exact trunnionref13_Bits.mono _ _ _)
   | (with_reducible exact trunnionref13_Of.mono _ _)
   | (with_reducible exact LeO.refl _)
   | (with_reducible exact LeO.none _)
   | (with_reducible refine LeO.ite ?_ ?_)
   | (with_reducible refine LeO.bind ?_ (fun _ => ?_))
   | exact ih0 _ _ _ _ _
   | exact ih1 _ _ _ _ _ _
   | exact trunnionref13_Bits.mono _ _ _
   | exact trunnionref13_Of.mono _ _
   | exact LeO.none _
   | refine LeO.ite ?_ ?_
   | refine LeO.bind ?_ (fun _ => ?_)
theorem trunnionref13_Extend.calls (k : Nat) (a0 : Int) (a1 : Int) (a2 : Int) (a3 : Bool) (r : Int) (w : World) (h : trunnionref13_Extend.f k a0 a1 a2 a3 = some r) :
  Calls Tryd.prog 23 #[.int .i64 a0, .int .i64 a1, .int .u64 a2, .bool a3] w fun e w' => e = .returned (.int .u64 r) ∧ Below w.heap.size w w' := by
 have HB := A_ (Below.refl w.heap.size w)
 have H : (if a1 = 8 then (trunnionref13_Extend.j0 k a0 a1 a2 a3 (decide (a1 > a0))) else (if a1 = 16 then (trunnionref13_Extend.j0 k a0 a1 a2 a3 (decide (a1 > a0))) else (if a1 = 32 then (trunnionref13_Extend.j0 k a0 a1 a2 a3 (decide (a1 > a0))) else (if a1 = 64 then (trunnionref13_Extend.j0 k a0 a1 a2 a3 (decide (a1 > a0))) else (trunnionref13_Extend.j0 k a0 a1 a2 a3 true))))) = some r := h
 clear h;have HC5 := A_ H;clear H
 go_enter Tryd.func23, Tryd.ntmps23
 go_upto_region 1 with (fail)
 go_cut [30] (fun v30 wc => ∃ (kq : Nat) (x30_4 : Bool), v30 = .bool x30_4 ∧ Aside0 (trunnionref13_Extend.j0 kq a0 a1 a2 a3 x30_4 = some r) ∧ Aside0 (kq ≤ k) ∧ Aside0 (Below w.heap.size w wc))
 case first =>
  have H := HC5.out
  clear HC5
  by_cases c6 : a1 = 8
  ·rw [if_pos c6] at H
   have c6b0 : (a1 == 8) = true := beq_iff_eq.mpr c6
   have c6b1 : (a1 != 8) = false := bne_eq_false_iff_eq.mpr c6
   clear c6
   (first | rw [c6b0] | (simp only [i64_w, i32_w]; rw [c6b0]) | skip)
   have H' := A_ H
   clear H
   go_wp2
   go_meet
   case rel => exact ⟨_, (decide (a1 > a0)), sm_, H', ⟨by first | omega | exact Nat.le_refl _⟩, ⟨hb_ HB.out⟩⟩
  ·rw [if_neg c6] at H
   have c6b0 : (a1 == 8) = false := beq_eq_false_iff_ne.mpr c6
   have c6b1 : (a1 != 8) = true := bne_iff_ne.mpr c6
   (first | rw [c6b0] | (simp only [i64_w, i32_w]; rw [c6b0]) | skip)
   by_cases c7 : a1 = 16
   ·rw [if_pos c7] at H
    have c7b0 : (a1 == 16) = true := beq_iff_eq.mpr c7
    have c7b1 : (a1 != 16) = false := bne_eq_false_iff_eq.mpr c7
    clear c7
    have H' := A_ H
    clear H
    go_wp2
    go_meet
    case rel => exact ⟨_, (decide (a1 > a0)), sm_, H', ⟨by first | omega | exact Nat.le_refl _⟩, ⟨hb_ HB.out⟩⟩
   ·rw [if_neg c7] at H
    have c7b0 : (a1 == 16) = false := beq_eq_false_iff_ne.mpr c7
    have c7b1 : (a1 != 16) = true := bne_iff_ne.mpr c7
    by_cases c8 : a1 = 32
    ·rw [if_pos c8] at H
     have c8b0 : (a1 == 32) = true := beq_iff_eq.mpr c8
     have c8b1 : (a1 != 32) = false := bne_eq_false_iff_eq.mpr c8
     clear c8
     have H' := A_ H
     clear H
     go_wp2
     go_meet
     case rel => exact ⟨_, (decide (a1 > a0)), sm_, H', ⟨by first | omega | exact Nat.le_refl _⟩, ⟨hb_ HB.out⟩⟩
    ·rw [if_neg c8] at H
     have c8b0 : (a1 == 32) = false := beq_eq_false_iff_ne.mpr c8
     have c8b1 : (a1 != 32) = true := bne_iff_ne.mpr c8
     by_cases c9 : a1 = 64
     ·rw [if_pos c9] at H
      have c9b0 : (a1 == 64) = true := beq_iff_eq.mpr c9
      have c9b1 : (a1 != 64) = false := bne_eq_false_iff_eq.mpr c9
      clear c9
      have H' := A_ H
      clear H
      go_wp2
      go_meet
      case rel => exact ⟨_, (decide (a1 > a0)), sm_, H', ⟨by first | omega | exact Nat.le_refl _⟩, ⟨hb_ HB.out⟩⟩
     ·rw [if_neg c9] at H
      have c9b0 : (a1 == 64) = false := beq_eq_false_iff_ne.mpr c9
      have c9b1 : (a1 != 64) = true := bne_iff_ne.mpr c9
      have H' := A_ H
      clear H
      go_wp2
      go_meet
      case rel => exact ⟨_, (true), sm_, H', ⟨by first | omega | exact Nat.le_refl _⟩, ⟨hb_ HB.out⟩⟩
 case rest =>
  clear HC5
  try clear c2
  try clear p2
  try clear c6
  try clear c6b0
  try clear c6b1
  try clear c7
  try clear c7b0
  try clear c7b1
  try clear c8
  try clear c8b0
  try clear c8b1
  try clear c9
  try clear c9b0
  try clear c9b1
  obtain ⟨kq, x30_4, rfl, HA, HJ4, HB⟩ := hcut
  cases kq with
  | zero => exact absurd HA.out (by simp [trunnionref13_Extend.j0])
  | succ kj4 =>
   have H := HA.out
   clear HA
   simp only [trunnionref13_Extend.j0] at H
   by_cases c10 : x30_4 = true
   ·subst c10
    have H1 : (some 0) = some r := by rw [if_pos rfl] at H; exact H
    clear H;have H := H1;clear H1
    obtain rfl := Option.some.inj H
    go_wp2
    go_ret
    exact ⟨er_, hb_ HB.out⟩
   ·replace c10 := Bool.eq_false_iff.mpr c10
    subst c10
    have H1 : ((trunnionref13_Bits.f kj4 64 a2).bind fun t162 => (if 0 ≤ a1 then (if a1 ≤ (t162.length : Int) then ((some (t162.take (a1 : Int).toNat : List Bool)).bind fun y165 => (if ([] : List Bool).length + y165.length < 140737488355328 then (trunnionref13_Extend.l0 kj4 a0 a1 a3 y165 (([] : List Bool) ++ y165) a1) else (none))) else (none)) else (none))) = some r := by rw [if_neg (show ¬ (false = true) by decide)] at H; exact H
    clear H;have H := H1;clear H1
    replace H := ob_ H
    obtain ⟨t162, A110, H⟩ := H
    replace H : (if 0 ≤ a1 then (if a1 ≤ (t162.length : Int) then ((some (t162.take (a1 : Int).toNat : List Bool)).bind fun y165 => (if ([] : List Bool).length + y165.length < 140737488355328 then (trunnionref13_Extend.l0 kj4 a0 a1 a3 y165 (([] : List Bool) ++ y165) a1) else (none))) else (none)) else (none)) = some r := H
    have A11 := A_ A110;clear A110
    by_cases c12 : 0 ≤ a1
    ·rw [if_pos c12] at H
     have c12b0 := eq_true c12
     have c12b1 : decide (0 ≤ a1) = true := decide_eq_true c12
     clear c12
     by_cases c13 : a1 ≤ (t162.length : Int)
     ·rw [if_pos c13] at H
      have c13b0 := eq_true c13
      have c13b1 : decide (a1 ≤ (t162.length : Int)) = true := decide_eq_true c13
      clear c13
      obtain ⟨y165, hy165⟩ : ∃ y_ : List Bool, y_ = (t162.take (a1 : Int).toNat) := ⟨_, rfl⟩
      replace H : (if ([] : List Bool).length + y165.length < 140737488355328 then (trunnionref13_Extend.l0 kj4 a0 a1 a3 y165 (([] : List Bool) ++ y165) a1) else (none)) = some r := by first | (rw [hy165]; with_reducible exact H) | (have H2_ := (Option.bind_some _ _).symm.trans H; rw [hy165]; with_reducible exact H2_) | (have H2_ := (Option.bind_some _ _).symm.trans H; with_reducible exact H2_) | with_reducible exact H | (rw [hy165]; exact H) | exact H
      have Ny165 := A_ hy165;clear hy165
      by_cases c14 : ([] : List Bool).length + y165.length < 140737488355328
      ·rw [if_pos c14] at H
       have LMc14 := A_ c14;clear c14
       obtain ⟨y169, hy169⟩ : ∃ y_ : List Bool, y_ = (([] : List Bool) ++ y165) := ⟨_, rfl⟩
       replace H : (trunnionref13_Extend.l0 kj4 a0 a1 a3 y165 y169 a1) = some r := by first | (rw [hy169]; with_reducible exact H) | (have H2_ := (Option.bind_some _ _).symm.trans H; rw [hy169]; with_reducible exact H2_) | (have H2_ := (Option.bind_some _ _).symm.trans H; with_reducible exact H2_) | with_reducible exact H | (rw [hy169]; exact H) | exact H
       have Ny169 := A_ hy169;clear hy169
       have H' := A_ H
       clear H
       go_wp2_with (first | ((with_reducible refine gate_callee (f := 49) rfl ?_); refine goesL_ (some 32) rfl rfl Tryd.func49 (by kernel_rfl) rfl #[.int .i64 64, .int .u64 a2] rfl mp_ ?_; (with_reducible refine (trunnionref13_Bits.calls kj4 64 a2 t162 _ A11.out).mono ?_); rintro e w15 ⟨v163, rfl, ho0, hb⟩; refine ⟨_, rfl, ?_⟩; have HO164 := A_ (Kd.R_lower ho0 (below_size (hb_ HB.out))); replace HB := A_ (below_step (hb_ HB.out) hb); (try clear hb); (try clear hb2); (try clear hk); (try clear hi); (try clear ho0); obtain ⟨Ao17, co17, eo17⟩ := Kd.R_slice HO164.out; subst eo17; have q16 : (a1 : Int) ≤ ((t162.length : Int) : Int) := of_decide_eq_true (by first | (with_reducible assumption) | assumption); obtain ⟨i016, hi016, _, hsz16, _⟩ := info_parts info4; have hroom16 : t162.length ≤ co17 := (Kd.R_reads' HO164.out).2.1; have hC16 : Kd.C Kd.bool _ Ao17 t162.length t162 := (Kd.R_reads' HO164.out).2.2; have hcut16 := cut_to (P := Tryd.prog) 55 4 .i64 Tryd.underlying55 hi016 Ao17 t162.length co17 a1 (of_decide_eq_true (by first | (with_reducible assumption) | assumption)) q16 hroom16; have hr16 := Kd.C_take (m := (a1 : Int).toNat) hC16 (by omega); have hy16 : y165.length = (a1 : Int).toNat := (by rw [Ny165.out, List.length_take]; omega); rw [← Ny165.out] at hr16; rw [← hy16] at hcut16; have HR168 := A_ hr16; have HC168 := A_ (show y165.length ≤ co17 from by omega); clear hr16 hC16 hroom16 hi016 hsz16; have KY16 := A_ hy16; clear hy16; have KL16 := A_ (show (a1 : Int).toNat ≤ t162.length from by omega); replace q16 := eq_true q16) | ((with_reducible refine gate_builtin (b := .append) (xs := #[.tmp 35, .tmp 36]) rfl ?_); at_builtin; refine Kd.R_append_rows Kd.bool (w0 := w) w.heap.size rfl (.tmp 35) (.tmp 36) 55 4 (.bool false) 1 rfl Tryd.underlying55 info4 rfl (by decide) (by omega) (.slice none 0 0) ([] : List Bool) y165 _ _ _ (fun k_ => some k_ ≠ (.slice Ao17 t162.length co17 : Value).ownBlock) (fun _ => False) rfl rfl ?aO ?aR (fun _ _ h => h) (fun _ h => h.elim) ?aF ?aB ?aS ?aL ?_; (case aR => repeat (first | exact (by repeat (first | (with_reducible exact HR168.out) | (with_reducible refine Kd.C_alloc ?_ _) | (with_reducible refine Kd.C_drewN ?_ _) | (with_reducible refine Kd.C_drew ?_) | exact HR168.out)) | (with_reducible refine Kd.C_alloc ?_ _) | (with_reducible refine Kd.C_drewN ?_ _) | (with_reducible refine Kd.C_drew ?_))); (case aB => exact (hb_ HB.out)); (case aF => exact (fun k_ hk => Kd.fresh' (Kd.R_lt (kr_ HO164.out)) k_ hk)); (case aO => exact ((Kd.R_nil _ _ _ _ (fun k_ => some k_ ≠ (.slice Ao17 t162.length co17 : Value).ownBlock)))); (case aS => exact (below_size (hb_ HB.out))); (case aL => have := LMc14.out; omega); intro v170 w18 ho hb hg hat; rw [← Ny169.out] at ho; have HO171 := A_ (ho); replace HB := A_ (hb); replace HR168 := A_ ((show Kd.C Kd.bool w18 Ao17 y165.length y165 from by rw [Ny165.out]; exact Kd.C_take (m := (a1 : Int).toNat) ((Kd.R_reads' (Kd.R_after (Kd.R_apart_nil (kr_ HO164.out)) hg hat)).2.2) KL16.out)); replace HO164 := A_ (Kd.R_after (Kd.R_apart_nil (kr_ HO164.out)) hg hat); clear ho hb hg hat))
       go_loopg [10, 11] kj4 (fun kq v10 v11 w' => ∃ (x10_2 : List Bool) (x11_2 : Int), v11 = .int .i64 x11_2 ∧ Aside0 (trunnionref13_Extend.l0 kq a0 a1 a3 y165 x10_2 x11_2 = some r) ∧ Aside0 (kq ≤ kj4) ∧ Aside0 (Kd.R Kd.bool 4 w' w.heap.size (fun k_ => some k_ ≠ (v10 : Value).ownBlock) (.slice Ao17 t162.length co17 : Value) t162) ∧ Aside0 (Kd.R Kd.bool 4 w' w.heap.size (fun k_ => some k_ ≠ (.slice Ao17 t162.length co17 : Value).ownBlock) v10 x10_2) ∧ Aside0 (Below w.heap.size w w'))
       case atStart => exact ⟨(y169), (a1), sm_, H', ⟨Nat.le_refl _⟩, ⟨by (with_reducible repeat (first | apply Kd.R_alloc | apply Kd.R_drewN | apply Kd.R_drew)); exact Kd.R_mono HO164.out (fun _ hk => hk.2)⟩, ⟨by (with_reducible repeat (first | apply Kd.R_alloc | apply Kd.R_drewN | apply Kd.R_drew)); exact HO171.out⟩, ⟨hb_ HB.out⟩⟩
       case round =>
        clear H'
        try clear c1
        try clear q1
        try clear c2
        try clear p2
        try clear c4
        try clear c6
        try clear c6b0
        try clear c6b1
        try clear c7
        try clear c7b0
        try clear c7b1
        try clear c8
        try clear c8b0
        try clear c8b1
        try clear c9
        try clear c9b0
        try clear c9b1
        try clear c10
        try clear c12
        try clear c12b0
        try clear c12b1
        try clear c13
        try clear c13b0
        try clear c13b1
        try clear c14
        try clear q16
        try clear p2
        try clear q16
        obtain ⟨x10_2, x11_2, rfl, HA, HK2, HO_9, HO_10, HB⟩ := hrel
        cases gk with
        | zero => exact absurd HA.out (by simp [trunnionref13_Extend.l0])
        | succ k2 =>
         have H := HA.out
         clear HA
         simp only [trunnionref13_Extend.l0] at H
         by_cases c19 : x11_2 < a0
         ·rw [if_pos c19] at H
          have c19b0 : decide (x11_2 < a0) = true := decide_eq_true c19
          clear c19
          by_cases c20 : a3 = true
          ·subst c20
           have H1 : (if 0 ≤ (wrap64 (a1 - 1)) then (if (wrap64 (a1 - 1)) < (y165.length : Int) then (if x10_2.length < 140737488355328 then (trunnionref13_Extend.l0 k2 a0 a1 true y165 (x10_2 ++ [rdOf false y165 (wrap64 (a1 - 1))]) (wrap64 (x11_2 + 1))) else (none)) else (none)) else (none)) = some r := by rw [if_pos rfl] at H; exact H
           clear H;have H := H1;clear H1
           obtain ⟨ji21, hji21⟩ : ∃ j_ : Int, (wrap64 (a1 - 1)) = j_ := ⟨_, rfl⟩
           replace H : (if 0 ≤ (ji21) then (if (ji21) < (y165.length : Int) then (if x10_2.length < 140737488355328 then (trunnionref13_Extend.l0 k2 a0 a1 true y165 (x10_2 ++ [rdOf false y165 (ji21)]) (wrap64 (x11_2 + 1))) else (none)) else (none)) else (none)) = some r := by first | (rw [hji21] at H; exact H) | (simp only [hji21] at H ⊢; exact H)
           have hji21w : (IntKind.i64.wrap (a1 - 1)) = ji21 := (i64_w _).trans hji21
           by_cases c22 : 0 ≤ (ji21)
           ·rw [if_pos c22] at H
            have c22b0 : decide (0 ≤ (ji21)) = true := decide_eq_true c22
            clear c22
            by_cases c23 : (ji21) < (y165.length : Int)
            ·rw [if_pos c23] at H
             have c23b0 : decide ((ji21) < (y165.length : Int)) = true := decide_eq_true c23
             clear c23
             by_cases c24 : x10_2.length < 140737488355328
             ·rw [if_pos c24] at H
              have LMc24 := A_ c24;clear c24
              obtain ⟨y173, hy173⟩ : ∃ y_ : List Bool, y_ = (x10_2 ++ [rdOf false y165 (ji21)]) := ⟨_, rfl⟩
              replace H : (trunnionref13_Extend.l0 k2 a0 a1 true y165 y173 (wrap64 (x11_2 + 1))) = some r := by first | (rw [hy173]; with_reducible exact H) | (have H2_ := (Option.bind_some _ _).symm.trans H; rw [hy173]; with_reducible exact H2_) | (have H2_ := (Option.bind_some _ _).symm.trans H; with_reducible exact H2_) | with_reducible exact H | (rw [hy173]; exact H) | exact H
              have Ny173 := A_ hy173;clear hy173
              have H' := A_ H
              clear H
              have p172 : 0 ≤ ((ji21) : Int) := of_decide_eq_true (by first | (with_reducible assumption) | assumption)
              have q172 : (ji21) < (y165.length : Int) := of_decide_eq_true (by first | (with_reducible assumption) | assumption)
              have HR9 := A_ (show Kd.C Kd.bool _ Ao17 y165.length y165 from by rw [Ny165.out]; exact Kd.C_take (m := (a1 : Int).toNat) ((Kd.R_reads' HO_9.out).2.2) KL16.out)
              obtain ⟨ad172, e172, hx172_0⟩ := Kd.at_bool HR9.out (ji21) p172 q172
              cases e172
              replace p172 := eq_true p172
              replace q172 := eq_true q172
              go_wp2_with (first | ((with_reducible refine gate_builtin (b := .append) (xs := #[.tmp 44, .tmp 53]) rfl ?_); at_builtin; refine Kd.R_append Kd.bool (w0 := w) w.heap.size rfl (.tmp 44) (.tmp 53) 55 4 (.bool false) 1 rfl Tryd.underlying55 info4 rfl (by decide) (by omega) u10 x10_2 (rdOf false y165 (ji21)) [.bool (rdOf false y165 (ji21))] (fun k_ => some k_ ≠ (.slice (some ad172) t162.length co17 : Value).ownBlock) (fun _ => False) rfl rfl ?aP (fun _ hk => hk.elim) ?aF ?aO ?aB ?aS ?aL ?_; (case aP => exact rfl); (case aB => exact (hb_ HB.out)); (case aF => exact (fun k_ hk => Kd.fresh' (Kd.R_lt (kr_ HO_9.out)) k_ hk)); (case aO => exact (kr_ HO_10.out)); (case aS => exact (below_size (hb_ HB.out))); (case aL => have := LMc24.out; omega); intro v174 w25 ho hb hg hat; rw [← Ny173.out] at ho; have n9_ := A_ (Kd.R_after (ok := (fun _ => True)) (by (with_reducible repeat (first | apply Kd.R_alloc | apply Kd.R_drewN | apply Kd.R_drew)); exact Kd.R_mono HO_9.out (fun _ hk => ⟨trivial, hk⟩)) hg hat); have n0_ := A_ (hb); have n1_ := A_ (ho); clear HO_9; have HO_9 := n9_; clear n9_; clear HB; clear HO_10; have HB := n0_; have HO175 := n1_; clear n0_ n1_; clear ho hb hg hat))
              go_roundg k2
              case measure => have := HJ4.out; have := HK2.out; omega
              case rel => exact ⟨(y173), (wrap64 (x11_2 + 1)), sm_, H', ⟨by have := HJ4.out; have := HK2.out; omega⟩, ⟨by (with_reducible repeat (first | apply Kd.R_alloc | apply Kd.R_drewN | apply Kd.R_drew)); exact Kd.R_mono HO_9.out (fun _ hk => hk.2)⟩, ⟨by (with_reducible repeat (first | apply Kd.R_alloc | apply Kd.R_drewN | apply Kd.R_drew)); exact HO175.out⟩, ⟨hb_ HB.out⟩⟩
             ·rw [if_neg c24] at H
              exact absurd H (by simp)
            ·rw [if_neg c23] at H
             exact absurd H (by simp)
           ·rw [if_neg c22] at H
            exact absurd H (by simp)
          ·replace c20 := Bool.eq_false_iff.mpr c20
           subst c20
           have H1 : (if x10_2.length < 140737488355328 then (trunnionref13_Extend.l0 k2 a0 a1 false y165 (x10_2 ++ [false]) (wrap64 (x11_2 + 1))) else (none)) = some r := by rw [if_neg (show ¬ (false = true) by decide)] at H; exact H
           clear H;have H := H1;clear H1
           by_cases c26 : x10_2.length < 140737488355328
           ·rw [if_pos c26] at H
            have LMc26 := A_ c26;clear c26
            obtain ⟨y176, hy176⟩ : ∃ y_ : List Bool, y_ = (x10_2 ++ [false]) := ⟨_, rfl⟩
            replace H : (trunnionref13_Extend.l0 k2 a0 a1 false y165 y176 (wrap64 (x11_2 + 1))) = some r := by first | (rw [hy176]; with_reducible exact H) | (have H2_ := (Option.bind_some _ _).symm.trans H; rw [hy176]; with_reducible exact H2_) | (have H2_ := (Option.bind_some _ _).symm.trans H; with_reducible exact H2_) | with_reducible exact H | (rw [hy176]; exact H) | exact H
            have Ny176 := A_ hy176;clear hy176
            have H' := A_ H
            clear H
            go_wp2_with (first | ((with_reducible refine gate_builtin (b := .append) (xs := #[.tmp 44, .tmp 53]) rfl ?_); at_builtin; refine Kd.R_append Kd.bool (w0 := w) w.heap.size rfl (.tmp 44) (.tmp 53) 55 4 (.bool false) 1 rfl Tryd.underlying55 info4 rfl (by decide) (by omega) u10 x10_2 false [.bool false] (fun k_ => some k_ ≠ (.slice Ao17 t162.length co17 : Value).ownBlock) (fun _ => False) rfl rfl ?aP (fun _ hk => hk.elim) ?aF ?aO ?aB ?aS ?aL ?_; (case aP => exact rfl); (case aB => exact (hb_ HB.out)); (case aF => exact (fun k_ hk => Kd.fresh' (Kd.R_lt (kr_ HO_9.out)) k_ hk)); (case aO => exact (kr_ HO_10.out)); (case aS => exact (below_size (hb_ HB.out))); (case aL => have := LMc26.out; omega); intro v177 w27 ho hb hg hat; rw [← Ny176.out] at ho; have n9_ := A_ (Kd.R_after (ok := (fun _ => True)) (by (with_reducible repeat (first | apply Kd.R_alloc | apply Kd.R_drewN | apply Kd.R_drew)); exact Kd.R_mono HO_9.out (fun _ hk => ⟨trivial, hk⟩)) hg hat); have n0_ := A_ (hb); have n1_ := A_ (ho); clear HO_9; have HO_9 := n9_; clear n9_; clear HB; clear HO_10; have HB := n0_; have HO178 := n1_; clear n0_ n1_; clear ho hb hg hat))
            go_roundg k2
            case measure => have := HJ4.out; have := HK2.out; omega
            case rel => exact ⟨(y176), (wrap64 (x11_2 + 1)), sm_, H', ⟨by have := HJ4.out; have := HK2.out; omega⟩, ⟨by (with_reducible repeat (first | apply Kd.R_alloc | apply Kd.R_drewN | apply Kd.R_drew)); exact Kd.R_mono HO_9.out (fun _ hk => hk.2)⟩, ⟨by (with_reducible repeat (first | apply Kd.R_alloc | apply Kd.R_drewN | apply Kd.R_drew)); exact HO178.out⟩, ⟨hb_ HB.out⟩⟩
           ·rw [if_neg c26] at H
            exact absurd H (by simp)
         ·rw [if_neg c19] at H
          have c19b0 : decide (x11_2 < a0) = false := decide_eq_false c19
          clear c19
          replace H := ob_ H
          obtain ⟨t179, A280, H⟩ := H
          replace H : (some t179) = some r := H
          have A28 := A_ A280;clear A280
          obtain rfl := Option.some.inj H
          obtain ⟨Ao29, co29, eo29⟩ := Kd.R_slice HO_10.out
          subst eo29
          go_wp2_with (first | ((with_reducible refine gate_callee (f := 51) rfl ?_); refine goesL_ (some 56) rfl rfl Tryd.func51 (by kernel_rfl) rfl #[.slice Ao29 x10_2.length co29] rfl mp_ ?_; (with_reducible refine (trunnionref13_Of.calls k2 _ _ x10_2 t179 _ ?side1 ?side2 A28.out).mono ?_); (case side1 => exact cs_ ((Kd.R_reads' HO_10.out).2.2)); (case side2 => exact (Kd.R_reads' HO_10.out).2.1); rintro e w' ⟨rfl, ⟨nd, rfl⟩⟩; refine ⟨_, rfl, ?_⟩))
          go_ret
          exact ⟨er_, hb_ HB.out⟩
      ·rw [if_neg c14] at H
       exact absurd H (by simp)
     ·rw [if_neg c13] at H
      exact absurd H (by simp)
    ·rw [if_neg c12] at H
     exact absurd H (by simp)
def r2_Two.l0 : Nat → Int → Int → Int → Option (Int)
 | 0, _, _, _ => none
 | k + 1, x0, x3, x4 => if x4 < x0 then (r2_Two.l0 k x0 (IntKind.u64.wrap (2 * x3)) (wrap64 (x4 + 1))) else (some x3)
def r2_Two.f (k : Nat) (a0 : Int) : Option (Int) := r2_Two.l0 k a0 1 0
theorem r2_Two.mono_l : ∀ k, (∀ y0 y1 y2, LeO (r2_Two.l0 k y0 y1 y2) (r2_Two.l0 (k + 1) y0 y1 y2))
 | 0 => fun _ _ _ r h => by simp [r2_Two.l0] at h
 | k + 1 => by
  have ih0 := r2_Two.mono_l k
  ·intro y0 y1 y2
   unfold r2_Two.l0
   repeat' first
   | (with_reducible exact ih0 _ _ _)
   | (with_reducible exact LeO.refl _)
   | (with_reducible exact LeO.none _)
   | (with_reducible refine LeO.ite ?_ ?_)
   | (with_reducible refine LeO.bind ?_ (fun _ => ?_))
   | exact ih0 _ _ _
   | exact LeO.none _
   | refine LeO.ite ?_ ?_
   | refine LeO.bind ?_ (fun _ => ?_)
theorem r2_Two.mono : ∀ a0 k, LeO (r2_Two.f k a0) (r2_Two.f (k + 1) a0) := by
 intro a0 k
 have ih0 := r2_Two.mono_l k
 unfold r2_Two.f
 repeat' first
   | (with_reducible exact ih0 _ _ _)
   | (with_reducible exact LeO.refl _)
   | (with_reducible exact LeO.none _)
   | (with_reducible refine LeO.ite ?_ ?_)
   | (with_reducible refine LeO.bind ?_ (fun _ => ?_))
   | exact ih0 _ _ _
   | exact LeO.none _
   | refine LeO.ite ?_ ?_
   | refine LeO.bind ?_ (fun _ => ?_)
theorem r2_Two.calls (k : Nat) (a0 : Int) (r : Int) (w : World) (h : r2_Two.f k a0 = some r) :
  Calls Tryd.prog 69 #[.int .i64 a0] w fun e w' => e = .returned (.int .u64 r) ∧ Drawn0 w w' := by
 have H : (r2_Two.l0 k a0 1 0) = some r := h
 clear h
 have H' := A_ H
 clear H
 go_enter Tryd.func69, Tryd.ntmps69
 go_wp2
 go_loopg [3, 4] k (fun kq v3 v4 w' => ∃ (x3_1 : Int) (x4_1 : Int), v3 = .int .u64 x3_1 ∧ v4 = .int .i64 x4_1 ∧ Aside0 (r2_Two.l0 kq a0 x3_1 x4_1 = some r) ∧ Aside0 (kq ≤ k) ∧ Drawn0 w w')
 case atStart => exact ⟨(1), (0), sm_, sm_, H', ⟨Nat.le_refl _⟩, by repeat (first | exact Drawn0.refl _ | apply Drawn0.step)⟩
 case round =>
  clear H'
  obtain ⟨x3_1, x4_1, rfl, rfl, HA, HK1, ⟨m1, rfl⟩⟩ := hrel
  cases gk with
  | zero => exact absurd HA.out (by simp [r2_Two.l0])
  | succ k1 =>
   have H := HA.out
   clear HA
   simp only [r2_Two.l0] at H
   by_cases c2 : x4_1 < a0
   ·rw [if_pos c2] at H
    have c2b0 : decide (x4_1 < a0) = true := decide_eq_true c2
    clear c2
    have H' := A_ H
    clear H
    go_wp2
    go_roundg k1
    case measure => have := HK1.out; omega
    case rel => exact ⟨(IntKind.u64.wrap (2 * x3_1)), (wrap64 (x4_1 + 1)), sm_, sm_, H', ⟨by have := HK1.out; omega⟩, by repeat (first | exact Drawn0.refl _ | apply Drawn0.step)⟩
   ·rw [if_neg c2] at H
    have c2b0 : decide (x4_1 < a0) = false := decide_eq_false c2
    clear c2
    obtain rfl := Option.some.inj H
    go_wp2
    go_ret
    exact ⟨sm_, by repeat (first | exact Drawn0.refl _ | apply Drawn0.step)⟩
def trunnionref11_Signed.f (k : Nat) (a0 : Int) (a1 : Int) : Option (Bool × Int) := (r2_Cut.f a0 a1).bind fun t155 => ((r2_Two.f k (wrap64 (a0 - 1))).bind fun t156 => (if t155 < t156 then (some (false, t155)) else (if a0 = 32 then (some (true, IntKind.u64.wrap (4294967296 - t155))) else (some (true, IntKind.u64.wrap ((IntKind.u64.wrap (18446744073709551615 - t155)) + 1))))))
theorem trunnionref11_Signed.mono : ∀ a0 a1 k, LeO (trunnionref11_Signed.f k a0 a1) (trunnionref11_Signed.f (k + 1) a0 a1) := by
 intro a0 a1 k
 unfold trunnionref11_Signed.f
 repeat' first
   | (with_reducible exact r2_Two.mono _ _)
   | (with_reducible exact LeO.refl _)
   | (with_reducible exact LeO.none _)
   | (with_reducible refine LeO.ite ?_ ?_)
   | (with_reducible refine LeO.bind ?_ (fun _ => ?_))
   | exact r2_Two.mono _ _
   | exact LeO.none _
   | refine LeO.ite ?_ ?_
   | refine LeO.bind ?_ (fun _ => ?_)
theorem trunnionref11_Signed.calls (k : Nat) (a0 : Int) (a1 : Int) (r1 : Bool) (r2 : Int) (w : World) (h : trunnionref11_Signed.f k a0 a1 = some (r1, r2)) :
  Calls Tryd.prog 50 #[.int .i64 a0, .int .u64 a1] w fun e w' => e = .returned (.tuple #[.bool r1, .int .u64 r2]) ∧ Drawn0 w w' := by
 have H : ((r2_Cut.f a0 a1).bind fun t155 => ((r2_Two.f k (wrap64 (a0 - 1))).bind fun t156 => (if t155 < t156 then (some (false, t155)) else (if a0 = 32 then (some (true, IntKind.u64.wrap (4294967296 - t155))) else (some (true, IntKind.u64.wrap ((IntKind.u64.wrap (18446744073709551615 - t155)) + 1))))))) = some (r1, r2) := h
 clear h
 replace H := ob_ H
 obtain ⟨t155, A30, H⟩ := H
 replace H : ((r2_Two.f k (wrap64 (a0 - 1))).bind fun t156 => (if t155 < t156 then (some (false, t155)) else (if a0 = 32 then (some (true, IntKind.u64.wrap (4294967296 - t155))) else (some (true, IntKind.u64.wrap ((IntKind.u64.wrap (18446744073709551615 - t155)) + 1)))))) = some (r1, r2) := H
 have A3 := A_ A30;clear A30
 replace H := ob_ H
 obtain ⟨t156, A40, H⟩ := H
 replace H : (if t155 < t156 then (some (false, t155)) else (if a0 = 32 then (some (true, IntKind.u64.wrap (4294967296 - t155))) else (some (true, IntKind.u64.wrap ((IntKind.u64.wrap (18446744073709551615 - t155)) + 1))))) = some (r1, r2) := H
 have A4 := A_ A40;clear A40
 by_cases c5 : t155 < t156
 ·rw [if_pos c5] at H
  have c5b0 : decide (t155 < t156) = true := decide_eq_true c5
  clear c5
  simp only [Option.some.injEq, Prod.mk.injEq] at H
  obtain ⟨rfl, rfl⟩ := H
  go_enter Tryd.func50, Tryd.ntmps50
  go_wp2_with (first | ((with_reducible refine gate_callee (f := 22) rfl ?_); refine goesL_ (some 8) rfl rfl Tryd.func22 (by kernel_rfl) rfl #[.int .i64 a0, .int .u64 a1] rfl mp_ ?_; (with_reducible refine (r2_Cut.calls a0 a1 t155 _ A3.out).mono ?_); rintro e w' ⟨rfl, ⟨nd, rfl⟩⟩; refine ⟨_, rfl, ?_⟩) | ((with_reducible refine gate_callee (f := 69) rfl ?_); refine goesL_ (some 12) rfl rfl Tryd.func69 (by kernel_rfl) rfl #[.int .i64 (wrap64 (a0 - 1))] rfl mp_ ?_; (with_reducible refine (r2_Two.calls k (wrap64 (a0 - 1)) t156 _ A4.out).mono ?_); rintro e w' ⟨rfl, ⟨nd, rfl⟩⟩; refine ⟨_, rfl, ?_⟩))
  go_ret2
  exact ⟨sm_, by repeat (first | exact Drawn0.refl _ | apply Drawn0.step)⟩
 ·rw [if_neg c5] at H
  have c5b0 : decide (t155 < t156) = false := decide_eq_false c5
  clear c5
  by_cases c6 : a0 = 32
  ·rw [if_pos c6] at H
   have c6b0 : (a0 == 32) = true := beq_iff_eq.mpr c6
   have c6b1 : (a0 != 32) = false := bne_eq_false_iff_eq.mpr c6
   clear c6
   simp only [Option.some.injEq, Prod.mk.injEq] at H
   obtain ⟨rfl, rfl⟩ := H
   go_enter Tryd.func50, Tryd.ntmps50
   go_wp2_with (first | ((with_reducible refine gate_callee (f := 22) rfl ?_); refine goesL_ (some 8) rfl rfl Tryd.func22 (by kernel_rfl) rfl #[.int .i64 a0, .int .u64 a1] rfl mp_ ?_; (with_reducible refine (r2_Cut.calls a0 a1 t155 _ A3.out).mono ?_); rintro e w' ⟨rfl, ⟨nd, rfl⟩⟩; refine ⟨_, rfl, ?_⟩) | ((with_reducible refine gate_callee (f := 69) rfl ?_); refine goesL_ (some 12) rfl rfl Tryd.func69 (by kernel_rfl) rfl #[.int .i64 (wrap64 (a0 - 1))] rfl mp_ ?_; (with_reducible refine (r2_Two.calls k (wrap64 (a0 - 1)) t156 _ A4.out).mono ?_); rintro e w' ⟨rfl, ⟨nd, rfl⟩⟩; refine ⟨_, rfl, ?_⟩))
   go_ret2
   exact ⟨sm_, by repeat (first | exact Drawn0.refl _ | apply Drawn0.step)⟩
  ·rw [if_neg c6] at H
   have c6b0 : (a0 == 32) = false := beq_eq_false_iff_ne.mpr c6
   have c6b1 : (a0 != 32) = true := bne_iff_ne.mpr c6
   simp only [Option.some.injEq, Prod.mk.injEq] at H
   obtain ⟨rfl, rfl⟩ := H
   go_enter Tryd.func50, Tryd.ntmps50
   go_wp2_with (first | ((with_reducible refine gate_callee (f := 22) rfl ?_); refine goesL_ (some 8) rfl rfl Tryd.func22 (by kernel_rfl) rfl #[.int .i64 a0, .int .u64 a1] rfl mp_ ?_; (with_reducible refine (r2_Cut.calls a0 a1 t155 _ A3.out).mono ?_); rintro e w' ⟨rfl, ⟨nd, rfl⟩⟩; refine ⟨_, rfl, ?_⟩) | ((with_reducible refine gate_callee (f := 69) rfl ?_); refine goesL_ (some 12) rfl rfl Tryd.func69 (by kernel_rfl) rfl #[.int .i64 (wrap64 (a0 - 1))] rfl mp_ ?_; (with_reducible refine (r2_Two.calls k (wrap64 (a0 - 1)) t156 _ A4.out).mono ?_); rintro e w' ⟨rfl, ⟨nd, rfl⟩⟩; refine ⟨_, rfl, ?_⟩))
   go_ret2
   exact ⟨sm_, by repeat (first | exact Drawn0.refl _ | apply Drawn0.step)⟩
def trunnionref13_LtS.f (k : Nat) (a0 : Int) (a1 : Int) (a2 : Int) : Option (Bool) := (trunnionref11_Signed.f k a0 a1).bind fun bt157 => ((trunnionref11_Signed.f k a0 a2).bind fun bt159 => (if (bt157.1 != bt159.1) = true then (some bt157.1) else (if bt157.1 = true then (some (decide (bt157.2 > bt159.2))) else (some (decide (bt157.2 < bt159.2))))))
theorem trunnionref13_LtS.mono : ∀ a0 a1 a2 k, LeO (trunnionref13_LtS.f k a0 a1 a2) (trunnionref13_LtS.f (k + 1) a0 a1 a2) := by
 intro a0 a1 a2 k
 unfold trunnionref13_LtS.f
 repeat' first
   | (with_reducible exact trunnionref11_Signed.mono _ _ _)
   | (with_reducible exact LeO.refl _)
   | (with_reducible exact LeO.none _)
   | (with_reducible refine LeO.ite ?_ ?_)
   | (with_reducible refine LeO.bind ?_ (fun _ => ?_))
   | exact trunnionref11_Signed.mono _ _ _
   | exact LeO.none _
   | refine LeO.ite ?_ ?_
   | refine LeO.bind ?_ (fun _ => ?_)
theorem trunnionref13_LtS.calls (k : Nat) (a0 : Int) (a1 : Int) (a2 : Int) (r : Bool) (w : World) (h : trunnionref13_LtS.f k a0 a1 a2 = some r) :
  Calls Tryd.prog 21 #[.int .i64 a0, .int .u64 a1, .int .u64 a2] w fun e w' => e = .returned (.bool r) ∧ Drawn0 w w' := by
 have H : ((trunnionref11_Signed.f k a0 a1).bind fun bt157 => ((trunnionref11_Signed.f k a0 a2).bind fun bt159 => (if (bt157.1 != bt159.1) = true then (some bt157.1) else (if bt157.1 = true then (some (decide (bt157.2 > bt159.2))) else (some (decide (bt157.2 < bt159.2))))))) = some r := h
 clear h
 replace H := ob_ H
 obtain ⟨⟨t157, t158⟩, A40, H⟩ := H
 replace H : ((trunnionref11_Signed.f k a0 a2).bind fun bt159 => (if (t157 != bt159.1) = true then (some t157) else (if t157 = true then (some (decide (t158 > bt159.2))) else (some (decide (t158 < bt159.2)))))) = some r := H
 have A4 := A_ A40;clear A40
 replace H := ob_ H
 obtain ⟨⟨t159, t160⟩, A50, H⟩ := H
 replace H : (if (t157 != t159) = true then (some t157) else (if t157 = true then (some (decide (t158 > t160))) else (some (decide (t158 < t160))))) = some r := H
 have A5 := A_ A50;clear A50
 by_cases c6 : (t157 != t159) = true
 ·rw [if_pos c6] at H
  have c6b0 : (t157 != t159) = true := c6
  (try (have c6b1 : decide (t157 = t159) = false := by simpa using c6))
  (try (have c6b2 : (t157 == t159) = false := by simpa using c6))
  (try (have c6b3 : ¬ (t157 = t159) := by simpa using c6))
  clear c6
  obtain rfl := Option.some.inj H
  go_enter Tryd.func21, Tryd.ntmps21
  go_wp2_with (first | ((with_reducible refine gate_callee (f := 50) rfl ?_); refine goesL_ (some 14) rfl rfl Tryd.func50 (by kernel_rfl) rfl #[.int .i64 a0, .int .u64 a1] rfl mp_ ?_; (with_reducible refine (trunnionref11_Signed.calls k a0 a1 t157 t158 _ A4.out).mono ?_); rintro e w' ⟨rfl, ⟨nd, rfl⟩⟩; refine ⟨_, rfl, ?_⟩) | ((with_reducible refine gate_callee (f := 50) rfl ?_); refine goesL_ (some 20) rfl rfl Tryd.func50 (by kernel_rfl) rfl #[.int .i64 a0, .int .u64 a2] rfl mp_ ?_; (with_reducible refine (trunnionref11_Signed.calls k a0 a2 t159 t160 _ A5.out).mono ?_); rintro e w' ⟨rfl, ⟨nd, rfl⟩⟩; refine ⟨_, rfl, ?_⟩))
  go_ret
  exact ⟨sm_, by repeat (first | exact Drawn0.refl _ | apply Drawn0.step)⟩
 ·rw [if_neg c6] at H
  have c6b0 : (t157 != t159) = false := by simpa using c6
  (try (have c6b1 : decide (t157 = t159) = true := by simpa using c6))
  (try (have c6b2 : (t157 == t159) = true := by simpa using c6))
  clear c6
  by_cases c7 : t157 = true
  ·subst c7
   have H1 : (some (decide (t158 > t160))) = some r := by rw [if_pos rfl] at H; exact H
   clear H;have H := H1;clear H1
   obtain rfl := Option.some.inj H
   go_enter Tryd.func21, Tryd.ntmps21
   go_wp2_with (first | ((with_reducible refine gate_callee (f := 50) rfl ?_); refine goesL_ (some 14) rfl rfl Tryd.func50 (by kernel_rfl) rfl #[.int .i64 a0, .int .u64 a1] rfl mp_ ?_; (with_reducible refine (trunnionref11_Signed.calls k a0 a1 true t158 _ A4.out).mono ?_); rintro e w' ⟨rfl, ⟨nd, rfl⟩⟩; refine ⟨_, rfl, ?_⟩) | ((with_reducible refine gate_callee (f := 50) rfl ?_); refine goesL_ (some 20) rfl rfl Tryd.func50 (by kernel_rfl) rfl #[.int .i64 a0, .int .u64 a2] rfl mp_ ?_; (with_reducible refine (trunnionref11_Signed.calls k a0 a2 t159 t160 _ A5.out).mono ?_); rintro e w' ⟨rfl, ⟨nd, rfl⟩⟩; refine ⟨_, rfl, ?_⟩))
   go_ret
   exact ⟨sm_, by repeat (first | exact Drawn0.refl _ | apply Drawn0.step)⟩
  ·replace c7 := Bool.eq_false_iff.mpr c7
   subst c7
   have H1 : (some (decide (t158 < t160))) = some r := by rw [if_neg (show ¬ (false = true) by decide)] at H; exact H
   clear H;have H := H1;clear H1
   obtain rfl := Option.some.inj H
   go_enter Tryd.func21, Tryd.ntmps21
   go_wp2_with (first | ((with_reducible refine gate_callee (f := 50) rfl ?_); refine goesL_ (some 14) rfl rfl Tryd.func50 (by kernel_rfl) rfl #[.int .i64 a0, .int .u64 a1] rfl mp_ ?_; (with_reducible refine (trunnionref11_Signed.calls k a0 a1 false t158 _ A4.out).mono ?_); rintro e w' ⟨rfl, ⟨nd, rfl⟩⟩; refine ⟨_, rfl, ?_⟩) | ((with_reducible refine gate_callee (f := 50) rfl ?_); refine goesL_ (some 20) rfl rfl Tryd.func50 (by kernel_rfl) rfl #[.int .i64 a0, .int .u64 a2] rfl mp_ ?_; (with_reducible refine (trunnionref11_Signed.calls k a0 a2 t159 t160 _ A5.out).mono ?_); rintro e w' ⟨rfl, ⟨nd, rfl⟩⟩; refine ⟨_, rfl, ?_⟩))
   go_ret
   exact ⟨sm_, by repeat (first | exact Drawn0.refl _ | apply Drawn0.step)⟩
def trunnionref13_Run.l0 : Nat → Int → Bool → List Bool → Int → Int → Option (Int)
 | 0, _, _, _, _, _ => none
 | k + 1, x0, x2, x7, x8, x9 => if x9 < x0 then (if x2 = true then (if 0 ≤ (wrap64 ((wrap64 (x0 - 1)) - x9)) then (if (wrap64 ((wrap64 (x0 - 1)) - x9)) < (x7.length : Int) then (if rdOf false x7 (wrap64 ((wrap64 (x0 - 1)) - x9)) = true then (some x8) else (trunnionref13_Run.l0 k x0 x2 x7 (IntKind.u64.wrap (x8 + 1)) (wrap64 (x9 + 1)))) else (none)) else (none)) else (if 0 ≤ x9 then (if x9 < (x7.length : Int) then (if rdOf false x7 x9 = true then (some x8) else (trunnionref13_Run.l0 k x0 x2 x7 (IntKind.u64.wrap (x8 + 1)) (wrap64 (x9 + 1)))) else (none)) else (none))) else (some x8)
def trunnionref13_Run.f (k : Nat) (a0 : Int) (a1 : Int) (a2 : Bool) : Option (Int) := (trunnionref13_Bits.f k a0 a1).bind fun t146 => (trunnionref13_Run.l0 k a0 a2 t146 0 0)
theorem trunnionref13_Run.mono_l : ∀ k, (∀ y0 y1 y2 y3 y4, LeO (trunnionref13_Run.l0 k y0 y1 y2 y3 y4) (trunnionref13_Run.l0 (k + 1) y0 y1 y2 y3 y4))
 | 0 => fun _ _ _ _ _ r h => by simp [trunnionref13_Run.l0] at h
 | k + 1 => by
  have ih0 := trunnionref13_Run.mono_l k
  ·intro y0 y1 y2 y3 y4
   unfold trunnionref13_Run.l0
   repeat' first
   | (with_reducible exact ih0 _ _ _ _ _)
   | (with_reducible exact trunnionref13_Bits.mono _ _ _)
   | (with_reducible exact LeO.refl _)
   | (with_reducible exact LeO.none _)
   | (with_reducible refine LeO.ite ?_ ?_)
   | (with_reducible refine LeO.bind ?_ (fun _ => ?_))
   | exact ih0 _ _ _ _ _
   | exact trunnionref13_Bits.mono _ _ _
   | exact LeO.none _
   | refine LeO.ite ?_ ?_
   | refine LeO.bind ?_ (fun _ => ?_)
theorem trunnionref13_Run.mono : ∀ a0 a1 a2 k, LeO (trunnionref13_Run.f k a0 a1 a2) (trunnionref13_Run.f (k + 1) a0 a1 a2) := by
 intro a0 a1 a2 k
 have ih0 := trunnionref13_Run.mono_l k
 unfold trunnionref13_Run.f
 repeat' first
   | (with_reducible exact ih0 _ _ _ _ _)
   | (with_reducible exact trunnionref13_Bits.mono _ _ _)
   | (with_reducible exact LeO.refl _)
   | (with_reducible exact LeO.none _)
   | (with_reducible refine LeO.ite ?_ ?_)
   | (with_reducible refine LeO.bind ?_ (fun _ => ?_))
   | exact ih0 _ _ _ _ _
   | exact trunnionref13_Bits.mono _ _ _
   | exact LeO.none _
   | refine LeO.ite ?_ ?_
   | refine LeO.bind ?_ (fun _ => ?_)
theorem trunnionref13_Run.calls (k : Nat) (a0 : Int) (a1 : Int) (a2 : Bool) (r : Int) (w : World) (h : trunnionref13_Run.f k a0 a1 a2 = some r) :
  Calls Tryd.prog 19 #[.int .i64 a0, .int .u64 a1, .bool a2] w fun e w' => e = .returned (.int .u64 r) ∧ Below w.heap.size w w' := by
 have HB := A_ (Below.refl w.heap.size w)
 have H : ((trunnionref13_Bits.f k a0 a1).bind fun t146 => (trunnionref13_Run.l0 k a0 a2 t146 0 0)) = some r := h
 clear h
 replace H := ob_ H
 obtain ⟨t146, A40, H⟩ := H
 replace H : (trunnionref13_Run.l0 k a0 a2 t146 0 0) = some r := H
 have A4 := A_ A40;clear A40
 have H' := A_ H
 clear H
 go_enter Tryd.func19, Tryd.ntmps19
 go_wp2_with (first | ((with_reducible refine gate_callee (f := 49) rfl ?_); refine goesL_ (some 13) rfl rfl Tryd.func49 (by kernel_rfl) rfl #[.int .i64 a0, .int .u64 a1] rfl mp_ ?_; (with_reducible refine (trunnionref13_Bits.calls k a0 a1 t146 _ A4.out).mono ?_); rintro e w5 ⟨v147, rfl, ho0, hb⟩; refine ⟨_, rfl, ?_⟩; have HO148 := A_ (Kd.R_lower ho0 (below_size (hb_ HB.out))); replace HB := A_ (below_step (hb_ HB.out) hb); (try clear hb); (try clear hb2); (try clear hk); (try clear hi); (try clear ho0)))
 go_loopg [8, 9] k (fun kq v8 v9 w' => ∃ (x8_1 : Int) (x9_1 : Int), v8 = .int .u64 x8_1 ∧ v9 = .int .i64 x9_1 ∧ Aside0 (trunnionref13_Run.l0 kq a0 a2 t146 x8_1 x9_1 = some r) ∧ Aside0 (kq ≤ k) ∧ Aside0 (Kd.R Kd.bool 4 w' w.heap.size (fun _ => True) v147 t146) ∧ Aside0 (Below w.heap.size w w'))
 case atStart => exact ⟨(0), (0), sm_, sm_, H', ⟨Nat.le_refl _⟩, ⟨by (with_reducible repeat (first | apply Kd.R_alloc | apply Kd.R_drewN | apply Kd.R_drew)); exact HO148.out⟩, ⟨hb_ HB.out⟩⟩
 case round =>
  clear H'
  try clear c1
  try clear p2
  try clear c4
  obtain ⟨x8_1, x9_1, rfl, rfl, HA, HK1, HO_7, HB⟩ := hrel
  cases gk with
  | zero => exact absurd HA.out (by simp [trunnionref13_Run.l0])
  | succ k1 =>
   have H := HA.out
   clear HA
   simp only [trunnionref13_Run.l0] at H
   by_cases c6 : x9_1 < a0
   ·rw [if_pos c6] at H
    have c6b0 : decide (x9_1 < a0) = true := decide_eq_true c6
    clear c6
    by_cases c7 : a2 = true
    ·subst c7
     have H1 : (if 0 ≤ (wrap64 ((wrap64 (a0 - 1)) - x9_1)) then (if (wrap64 ((wrap64 (a0 - 1)) - x9_1)) < (t146.length : Int) then (if rdOf false t146 (wrap64 ((wrap64 (a0 - 1)) - x9_1)) = true then (some x8_1) else (trunnionref13_Run.l0 k1 a0 true t146 (IntKind.u64.wrap (x8_1 + 1)) (wrap64 (x9_1 + 1)))) else (none)) else (none)) = some r := by rw [if_pos rfl] at H; exact H
     clear H;have H := H1;clear H1
     obtain ⟨ji8, hji8⟩ : ∃ j_ : Int, (wrap64 ((wrap64 (a0 - 1)) - x9_1)) = j_ := ⟨_, rfl⟩
     replace H : (if 0 ≤ (ji8) then (if (ji8) < (t146.length : Int) then (if rdOf false t146 (ji8) = true then (some x8_1) else (trunnionref13_Run.l0 k1 a0 true t146 (IntKind.u64.wrap (x8_1 + 1)) (wrap64 (x9_1 + 1)))) else (none)) else (none)) = some r := by first | (rw [hji8] at H; exact H) | (simp only [hji8] at H ⊢; exact H)
     have hji8w : (IntKind.i64.wrap ((wrap64 (a0 - 1)) - x9_1)) = ji8 := (i64_w _).trans hji8
     by_cases c9 : 0 ≤ (ji8)
     ·rw [if_pos c9] at H
      have c9b0 : decide (0 ≤ (ji8)) = true := decide_eq_true c9
      clear c9
      by_cases c10 : (ji8) < (t146.length : Int)
      ·rw [if_pos c10] at H
       have c10b0 : decide ((ji8) < (t146.length : Int)) = true := decide_eq_true c10
       clear c10
       obtain ⟨bq11, hbq11⟩ : ∃ b_ : Bool, b_ = (rdOf false t146 (ji8)) := ⟨_, rfl⟩
       replace H : (if bq11 = true then (some x8_1) else (trunnionref13_Run.l0 k1 a0 true t146 (IntKind.u64.wrap (x8_1 + 1)) (wrap64 (x9_1 + 1)))) = some r := by rw [← hbq11] at H; exact H
       have Nbq11 := A_ hbq11;clear hbq11
       by_cases c12 : bq11 = true
       ·subst c12
        have H1 : (some x8_1) = some r := by rw [if_pos rfl] at H; exact H
        clear H;have H := H1;clear H1
        obtain rfl := Option.some.inj H
        obtain ⟨Ao13, co13, eo13⟩ := Kd.R_slice HO_7.out
        subst eo13
        have p149 : 0 ≤ ((ji8) : Int) := of_decide_eq_true (by first | (with_reducible assumption) | assumption)
        have q149 : (ji8) < (t146.length : Int) := of_decide_eq_true (by first | (with_reducible assumption) | assumption)
        obtain ⟨ad149, e149, hx149_0⟩ := Kd.at_bool (Kd.R_reads' HO_7.out).2.2 (ji8) p149 q149
        (try rw [← Nbq11.out] at hx149_0)
        cases e149
        replace p149 := eq_true p149
        replace q149 := eq_true q149
        go_wp2
        go_ret
        exact ⟨by first | rfl | (simp [errW_none, errW_some] <;> rfl) | (simp only [← hji8]; first | rfl | (simp [errW_none, errW_some] <;> rfl)) | (simp [*, errW_none, errW_some] <;> rfl), hb_ HB.out⟩
       ·replace c12 := Bool.eq_false_iff.mpr c12
        subst c12
        have H1 : (trunnionref13_Run.l0 k1 a0 true t146 (IntKind.u64.wrap (x8_1 + 1)) (wrap64 (x9_1 + 1))) = some r := by rw [if_neg (show ¬ (false = true) by decide)] at H; exact H
        clear H;have H := H1;clear H1
        have H' := A_ H
        clear H
        obtain ⟨Ao14, co14, eo14⟩ := Kd.R_slice HO_7.out
        subst eo14
        have p149 : 0 ≤ ((ji8) : Int) := of_decide_eq_true (by first | (with_reducible assumption) | assumption)
        have q149 : (ji8) < (t146.length : Int) := of_decide_eq_true (by first | (with_reducible assumption) | assumption)
        obtain ⟨ad149, e149, hx149_0⟩ := Kd.at_bool (Kd.R_reads' HO_7.out).2.2 (ji8) p149 q149
        (try rw [← Nbq11.out] at hx149_0)
        cases e149
        replace p149 := eq_true p149
        replace q149 := eq_true q149
        go_wp2
        go_roundg k1
        case measure => have := HK1.out; omega
        case rel => exact ⟨(IntKind.u64.wrap (x8_1 + 1)), (wrap64 (x9_1 + 1)), sm_, sm_, H', ⟨by have := HK1.out; omega⟩, ⟨by (with_reducible repeat (first | apply Kd.R_alloc | apply Kd.R_drewN | apply Kd.R_drew)); exact HO_7.out⟩, ⟨hb_ HB.out⟩⟩
      ·rw [if_neg c10] at H
       exact absurd H (by simp)
     ·rw [if_neg c9] at H
      exact absurd H (by simp)
    ·replace c7 := Bool.eq_false_iff.mpr c7
     subst c7
     have H1 : (if 0 ≤ x9_1 then (if x9_1 < (t146.length : Int) then (if rdOf false t146 x9_1 = true then (some x8_1) else (trunnionref13_Run.l0 k1 a0 false t146 (IntKind.u64.wrap (x8_1 + 1)) (wrap64 (x9_1 + 1)))) else (none)) else (none)) = some r := by rw [if_neg (show ¬ (false = true) by decide)] at H; exact H
     clear H;have H := H1;clear H1
     by_cases c15 : 0 ≤ x9_1
     ·rw [if_pos c15] at H
      have c15b0 : decide (0 ≤ x9_1) = true := decide_eq_true c15
      clear c15
      by_cases c16 : x9_1 < (t146.length : Int)
      ·rw [if_pos c16] at H
       have c16b0 : decide (x9_1 < (t146.length : Int)) = true := decide_eq_true c16
       clear c16
       obtain ⟨bq17, hbq17⟩ : ∃ b_ : Bool, b_ = (rdOf false t146 x9_1) := ⟨_, rfl⟩
       replace H : (if bq17 = true then (some x8_1) else (trunnionref13_Run.l0 k1 a0 false t146 (IntKind.u64.wrap (x8_1 + 1)) (wrap64 (x9_1 + 1)))) = some r := by rw [← hbq17] at H; exact H
       have Nbq17 := A_ hbq17;clear hbq17
       by_cases c18 : bq17 = true
       ·subst c18
        have H1 : (some x8_1) = some r := by rw [if_pos rfl] at H; exact H
        clear H;have H := H1;clear H1
        obtain rfl := Option.some.inj H
        obtain ⟨Ao19, co19, eo19⟩ := Kd.R_slice HO_7.out
        subst eo19
        have p150 : 0 ≤ (x9_1 : Int) := of_decide_eq_true (by first | (with_reducible assumption) | assumption)
        have q150 : x9_1 < (t146.length : Int) := of_decide_eq_true (by first | (with_reducible assumption) | assumption)
        obtain ⟨ad150, e150, hx150_0⟩ := Kd.at_bool (Kd.R_reads' HO_7.out).2.2 x9_1 p150 q150
        (try rw [← Nbq17.out] at hx150_0)
        cases e150
        replace p150 := eq_true p150
        replace q150 := eq_true q150
        go_wp2
        go_ret
        exact ⟨er_, hb_ HB.out⟩
       ·replace c18 := Bool.eq_false_iff.mpr c18
        subst c18
        have H1 : (trunnionref13_Run.l0 k1 a0 false t146 (IntKind.u64.wrap (x8_1 + 1)) (wrap64 (x9_1 + 1))) = some r := by rw [if_neg (show ¬ (false = true) by decide)] at H; exact H
        clear H;have H := H1;clear H1
        have H' := A_ H
        clear H
        obtain ⟨Ao20, co20, eo20⟩ := Kd.R_slice HO_7.out
        subst eo20
        have p150 : 0 ≤ (x9_1 : Int) := of_decide_eq_true (by first | (with_reducible assumption) | assumption)
        have q150 : x9_1 < (t146.length : Int) := of_decide_eq_true (by first | (with_reducible assumption) | assumption)
        obtain ⟨ad150, e150, hx150_0⟩ := Kd.at_bool (Kd.R_reads' HO_7.out).2.2 x9_1 p150 q150
        (try rw [← Nbq17.out] at hx150_0)
        cases e150
        replace p150 := eq_true p150
        replace q150 := eq_true q150
        go_wp2
        go_roundg k1
        case measure => have := HK1.out; omega
        case rel => exact ⟨(IntKind.u64.wrap (x8_1 + 1)), (wrap64 (x9_1 + 1)), sm_, sm_, H', ⟨by have := HK1.out; omega⟩, ⟨by (with_reducible repeat (first | apply Kd.R_alloc | apply Kd.R_drewN | apply Kd.R_drew)); exact HO_7.out⟩, ⟨hb_ HB.out⟩⟩
      ·rw [if_neg c16] at H
       exact absurd H (by simp)
     ·rw [if_neg c15] at H
      exact absurd H (by simp)
   ·rw [if_neg c6] at H
    have c6b0 : decide (x9_1 < a0) = false := decide_eq_false c6
    clear c6
    obtain rfl := Option.some.inj H
    go_wp2
    go_ret
    exact ⟨er_, hb_ HB.out⟩
end Go.Proofs.YthdeeoallfbjmaaDoor.PA
