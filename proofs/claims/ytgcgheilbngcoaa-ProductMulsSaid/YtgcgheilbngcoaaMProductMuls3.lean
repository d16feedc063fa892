/- What the Go functions that the statement ProductMuls reaches compute, and the mathematics on it, in the order in which one leans on the other; for every input. -/
import Derived.Test.YtgcgheilbngcoaaVProductMuls0
import Derived.Test.YtgcgheilbngcoaaMProductMuls0
import Derived.Test.YtgcgheilbngcoaaMProductMuls2
import Derived.Test.YtgcgheilbngcoaaMProductMuls1
import Derived.Deep.RegionHeld3
namespace Go.Proofs.Ytgcgheilbngcoaa.PA
open Go.RowKit Go.Proofs.YtgcgheilbngcoaaW.PrintWords Go.Proofs.YtgcgheilbngcoaaW.PrintLast Go.Proofs.YtgcgheilbngcoaaW.PrintMore
attribute [local go_sem] max2_int min2_int max_two min_two max_three min_three max_four min_four   -- for this text's walks alone
set_option linter.unusedVariables false
set_option linter.unusedSimpArgs false
set_option maxHeartbeats 8000000
set_option maxRecDepth 100000
def round_Whole.f (a0 : Int) (a1 : Bool) (a2 : Int) : Option (Int) := if a1 = true then ((wide_Of.f a2).bind fun bt441 => ((round_Pack.f a0 (decide (a2 > 0)) bt441.1 bt441.2 0 false).bind fun t443 => (some t443))) else ((wide_Of.f a2).bind fun bt444 => ((round_Pack.f a0 false bt444.1 bt444.2 0 false).bind fun t446 => (some t446)))
theorem round_Whole.calls (a0 : Int) (a1 : Bool) (a2 : Int) (r : Int) (w : World) (h : round_Whole.f a0 a1 a2 = some r) :
  Calls Try.prog 43 #[.int .i64 a0, .bool a1, .int .u64 a2] w fun e w' => e = .returned (.int .u64 r) ∧ Below w.heap.size w w' := by
 have HB := A_ (Below.refl w.heap.size w)
 have H : (if a1 = true then ((wide_Of.f a2).bind fun bt441 => ((round_Pack.f a0 (decide (a2 > 0)) bt441.1 bt441.2 0 false).bind fun t443 => (some t443))) else ((wide_Of.f a2).bind fun bt444 => ((round_Pack.f a0 false bt444.1 bt444.2 0 false).bind fun t446 => (some t446)))) = some r := h
 clear h
 by_cases c4 : a1 = true
 ·subst c4
  have H1 : ((wide_Of.f a2).bind fun bt441 => ((round_Pack.f a0 (decide (a2 > 0)) bt441.1 bt441.2 0 false).bind fun t443 => (some t443))) = some r := by rw [if_pos rfl] at H; exact H
  clear H;have H := H1;clear H1
  replace H := ob_ H
  obtain ⟨⟨t441, t442⟩, A50, H⟩ := H
  replace H : ((round_Pack.f a0 (decide (a2 > 0)) t441 t442 0 false).bind fun t443 => (some t443)) = some r := H
  have A5 := A_ A50;clear A50
  replace H := ob_ H
  obtain ⟨t443, A60, H⟩ := H
  replace H : (some t443) = some r := H
  have A6 := A_ A60;clear A60
  obtain rfl := Option.some.inj H
  go_enter Try.func43, Try.ntmps43
  go_wp2_with (first | ((with_reducible refine gate_callee (f := 42) rfl ?_); refine gl_ (some 14) Try.func42 #[.int .u64 a2] ?_; (with_reducible refine (wide_Of.calls a2 t441 t442 _ A5.out).mono ?_); rintro e w7 ⟨rfl, hb⟩; refine ⟨_, rfl, ?_⟩; have n0_ := A_ (below_step (hb_ HB.out) hb); clear HB; have HB := n0_; clear n0_; (try clear hb); (try clear hb2); (try clear hk); (try clear hi)) | ((with_reducible refine gate_callee (f := 39) rfl ?_); refine gl_ (some 15) Try.func39 #[.int .i64 a0, .bool (decide (a2 > 0)), .agg #[.int .u64 t441, .int .u64 t442], .int .i64 0, .bool false] ?_; (with_reducible refine (round_Pack.calls a0 (decide (a2 > 0)) t441 t442 0 false t443 _ A6.out).mono ?_); rintro e w8 ⟨rfl, hb⟩; refine ⟨_, rfl, ?_⟩; have n0_ := A_ (below_step (hb_ HB.out) hb); clear HB; have HB := n0_; clear n0_; (try clear hb); (try clear hb2); (try clear hk); (try clear hi)))
  go_ret
  exact ⟨er_, hb_ HB.out⟩
 ·replace c4 := Bool.eq_false_iff.mpr c4
  subst c4
  have H1 : ((wide_Of.f a2).bind fun bt444 => ((round_Pack.f a0 false bt444.1 bt444.2 0 false).bind fun t446 => (some t446))) = some r := by rw [if_neg (show ¬ (false = true) by decide)] at H; exact H
  clear H;have H := H1;clear H1
  replace H := ob_ H
  obtain ⟨⟨t444, t445⟩, A90, H⟩ := H
  replace H : ((round_Pack.f a0 false t444 t445 0 false).bind fun t446 => (some t446)) = some r := H
  have A9 := A_ A90;clear A90
  replace H := ob_ H
  obtain ⟨t446, A100, H⟩ := H
  replace H : (some t446) = some r := H
  have A10 := A_ A100;clear A100
  obtain rfl := Option.some.inj H
  go_enter Try.func43, Try.ntmps43
  go_wp2_with (first | ((with_reducible refine gate_callee (f := 42) rfl ?_); refine gl_ (some 14) Try.func42 #[.int .u64 a2] ?_; (with_reducible refine (wide_Of.calls a2 t444 t445 _ A9.out).mono ?_); rintro e w11 ⟨rfl, hb⟩; refine ⟨_, rfl, ?_⟩; have n0_ := A_ (below_step (hb_ HB.out) hb); clear HB; have HB := n0_; clear n0_; (try clear hb); (try clear hb2); (try clear hk); (try clear hi)) | ((with_reducible refine gate_callee (f := 39) rfl ?_); refine gl_ (some 15) Try.func39 #[.int .i64 a0, .bool false, .agg #[.int .u64 t444, .int .u64 t445], .int .i64 0, .bool false] ?_; (with_reducible refine (round_Pack.calls a0 false t444 t445 0 false t446 _ A10.out).mono ?_); rintro e w12 ⟨rfl, hb⟩; refine ⟨_, rfl, ?_⟩; have n0_ := A_ (below_step (hb_ HB.out) hb); clear HB; have HB := n0_; clear n0_; (try clear hb); (try clear hb2); (try clear hk); (try clear hi)))
  go_ret
  exact ⟨er_, hb_ HB.out⟩
def product_one.f (a0 : Int) : Option (Int) := (round_Whole.f a0 false 1).bind fun t665 => (some t665)
theorem product_one.calls (a0 : Int) (r : Int) (w : World) (h : product_one.f a0 = some r) :
  Calls Try.prog 139 #[.int .i64 a0] w fun e w' => e = .returned (.int .u64 r) ∧ Below w.heap.size w w' := by
 have HB := A_ (Below.refl w.heap.size w)
 have H : ((round_Whole.f a0 false 1).bind fun t665 => (some t665)) = some r := h
 clear h
 replace H := ob_ H
 obtain ⟨t665, A20, H⟩ := H
 replace H : (some t665) = some r := H
 have A2 := A_ A20;clear A20
 obtain rfl := Option.some.inj H
 go_enter Try.func139, Try.ntmps139
 go_wp2_with (first | ((with_reducible refine gate_callee (f := 43) rfl ?_); refine gl_ (some 4) Try.func43 #[.int .i64 a0, .bool false, .int .u64 1] ?_; (with_reducible refine (round_Whole.calls a0 false 1 t665 _ A2.out).mono ?_); rintro e w3 ⟨rfl, hb⟩; refine ⟨_, rfl, ?_⟩; have n0_ := A_ (below_step (hb_ HB.out) hb); clear HB; have HB := n0_; clear n0_; (try clear hb); (try clear hb2); (try clear hk); (try clear hi)))
 go_ret
 exact ⟨er_, hb_ HB.out⟩
def product_All.l0 : Nat → Int → Int → List Int → Int → Int → Option (Int)
 | 0, _, _, _, _, _ => none
 | k + 1, x0, x5, x10, x11, x12 => if x12 < x11 then (if 0 ≤ x12 then (if x12 < (x10.length : Int) then ((product_Mul.f k x0 x5 (rd x10 x12)).bind fun t668 => (product_All.l0 k x0 t668 x10 x11 (wrap64 (x12 + 1)))) else (none)) else (none)) else (some x5)
def product_All.f (k : Nat) (a0 : Int) (l1 : List Int) : Option (Int) := (product_one.f a0).bind fun t666 => (product_All.l0 k a0 t666 l1 (l1.length : Int) 0)
theorem product_All.mono_l : ∀ k, (∀ y0 y1 y2 y3 y4, LeO (product_All.l0 k y0 y1 y2 y3 y4) (product_All.l0 (k + 1) y0 y1 y2 y3 y4))
 | 0 => fun _ _ _ _ _ r h => by simp [product_All.l0] at h
 | k + 1 => by
  have ih0 := product_All.mono_l k
  ·intro y0 y1 y2 y3 y4
   unfold product_All.l0
   repeat' first
   | (with_reducible exact ih0 _ _ _ _ _)
   | (with_reducible exact product_Mul.mono _ _ _ _)
   | (with_reducible exact LeO.refl _)
   | (with_reducible exact LeO.none _)
   | (with_reducible refine LeO.ite ?_ ?_)
   | (with_reducible refine LeO.bind ?_ (fun _ => ?_))
   | exact ih0 _ _ _ _ _
   | exact product_Mul.mono _ _ _ _
   | exact LeO.none _
   | refine LeO.ite ?_ ?_
   | refine LeO.bind ?_ (fun _ => ?_)
theorem product_All.mono : ∀ a0 a1 k, LeO (product_All.f k a0 a1) (product_All.f (k + 1) a0 a1) := by
 intro a0 a1 k
 have ih0 := product_All.mono_l k
 unfold product_All.f
 repeat' first
   | (with_reducible exact ih0 _ _ _ _ _)
   | (with_reducible exact product_Mul.mono _ _ _ _)
   | (with_reducible exact LeO.refl _)
   | (with_reducible exact LeO.none _)
   | (with_reducible refine LeO.ite ?_ ?_)
   | (with_reducible refine LeO.bind ?_ (fun _ => ?_))
   | exact ih0 _ _ _ _ _
   | exact product_Mul.mono _ _ _ _
   | exact LeO.none _
   | refine LeO.ite ?_ ?_
   | refine LeO.bind ?_ (fun _ => ?_)
theorem product_All.calls (k : Nat) (a0 : Int) (A1 : Option Addr) (c1 : Nat) (l1 : List Int) (r : Int) (w : World) (hr1 : Kd.C (Kd.int .u64) w A1 l1.length l1) (hc1 : l1.length ≤ c1) (h : product_All.f k a0 l1 = some r) :
  Calls Try.prog 69 #[.int .i64 a0, .slice A1 l1.length c1] w fun e w' => e = .returned (.int .u64 r) ∧ Below w.heap.size w w' := by
 have HR1 := A_ hr1;have HC1 := A_ hc1;clear hr1 hc1
 have HB := A_ (Below.refl w.heap.size w)
 have H : ((product_one.f a0).bind fun t666 => (product_All.l0 k a0 t666 l1 (l1.length : Int) 0)) = some r := h
 clear h
 replace H := ob_ H
 obtain ⟨t666, A30, H⟩ := H
 replace H : (product_All.l0 k a0 t666 l1 (l1.length : Int) 0) = some r := H
 have A3 := A_ A30;clear A30
 have H' := A_ H
 clear H
 go_enter Try.func69, Try.ntmps69
 go_wp2_with (first | ((with_reducible refine gate_callee (f := 139) rfl ?_); refine gl_ (some 9) Try.func139 #[.int .i64 a0] ?_; (with_reducible refine (product_one.calls a0 t666 _ A3.out).mono ?_); rintro e w4 ⟨rfl, hb⟩; refine ⟨_, rfl, ?_⟩; have n0_ := A_ (below_step (hb_ HB.out) hb); clear HB; have HB := n0_; clear n0_; (try clear hb); (try clear hb2); (try clear hk); (try clear hi)))
 go_loopg [5, 12] k (fun kq v5 v12 w' => ∃ (x5_1 : Int) (x12_1 : Int), v5 = .int .u64 x5_1 ∧ v12 = .int .i64 x12_1 ∧ Aside0 (product_All.l0 kq a0 x5_1 l1 (l1.length : Int) x12_1 = some r) ∧ Aside0 (kq ≤ k) ∧ Aside0 (Below w.heap.size w w'))
 case atStart => exact ⟨(t666), (0), sm_, sm_, H', ⟨Nat.le_refl _⟩, ⟨hb_ HB.out⟩⟩
 case round =>
  clear H'
  try clear c1
  try clear p2
  obtain ⟨x5_1, x12_1, rfl, rfl, HA, HK1, HB⟩ := hrel
  cases gk with
  | zero => exact absurd HA.out (by simp [product_All.l0])
  | succ k1 =>
   have H := HA.out
   clear HA
   simp only [product_All.l0] at H
   by_cases c5 : x12_1 < (l1.length : Int)
   ·rw [if_pos c5] at H
    have c5b0 : decide (x12_1 < (l1.length : Int)) = true := decide_eq_true c5
    clear c5
    by_cases c6 : 0 ≤ x12_1
    ·rw [if_pos c6] at H
     have c6b0 : decide (0 ≤ x12_1) = true := decide_eq_true c6
     clear c6
     by_cases c7 : x12_1 < (l1.length : Int)
     ·rw [if_pos c7] at H
      have c7b0 : decide (x12_1 < (l1.length : Int)) = true := decide_eq_true c7
      clear c7
      replace H := ob_ H
      obtain ⟨t668, A80, H⟩ := H
      replace H : (product_All.l0 k1 a0 t668 l1 (l1.length : Int) (wrap64 (x12_1 + 1))) = some r := H
      have A8 := A_ A80;clear A80
      have H' := A_ H
      clear H
      have p667 : 0 ≤ (x12_1 : Int) := of_decide_eq_true (by first | (with_reducible assumption) | assumption)
      have q667 : x12_1 < (l1.length : Int) := of_decide_eq_true (by first | (with_reducible assumption) | assumption)
      obtain ⟨ad667, e667, hx667_0⟩ := Kd.at_int HR1.out x12_1 p667 q667
      cases e667
      replace hx667_0 := (HB.out.cell (World.block_lt_of_cell? w _ hx667_0)).trans hx667_0
      replace p667 := eq_true p667
      replace q667 := eq_true q667
      go_wp2_with (first | ((with_reducible refine gate_callee (f := 54) rfl ?_); refine gl_ (some 19) Try.func54 #[.int .i64 a0, .int .u64 x5_1, .int .u64 (rd l1 x12_1)] ?_; (with_reducible refine (product_Mul.calls k1 a0 x5_1 (rd l1 x12_1) t668 _ A8.out).mono ?_); rintro e w9 ⟨rfl, hb⟩; refine ⟨_, rfl, ?_⟩; have n0_ := A_ (below_step (hb_ HB.out) hb); clear HB; have HB := n0_; clear n0_; (try clear hb); (try clear hb2); (try clear hk); (try clear hi)))
      go_roundg k1
      case measure => have := HK1.out; omega
      case rel => exact ⟨(t668), (wrap64 (x12_1 + 1)), sm_, sm_, H', ⟨by have := HK1.out; omega⟩, ⟨hb_ HB.out⟩⟩
     ·rw [if_neg c7] at H
      exact absurd H (by simp)
    ·rw [if_neg c6] at H
     exact absurd H (by simp)
   ·rw [if_neg c5] at H
    have c5b0 : decide (x12_1 < (l1.length : Int)) = false := decide_eq_false c5
    clear c5
    obtain rfl := Option.some.inj H
    go_wp2
    go_ret
    exact ⟨er_, hb_ HB.out⟩
def L05_awake.f (k : Nat)  : Option (Bool) := (product_Mul.f k 32 1077936128 1084227584).bind fun t669 => (if t669 = 1097859072 then ((product_Mul.f k 32 1 1056964608).bind fun t670 => (if t670 = 0 then ((product_All.f k 64 ([] : List Int)).bind fun t671 => (some (t671 == 4607182418800017408))) else (some false))) else (some false))
theorem L05_awake.mono : ∀ k, LeO (L05_awake.f k ) (L05_awake.f (k + 1) ) := by
 intro  k
 unfold L05_awake.f
 repeat' first
   | (with_reducible exact product_All.mono _ _ _)
   | (with_reducible exact product_Mul.mono _ _ _ _)
   | (with_reducible exact LeO.refl _)
   | (with_reducible exact LeO.none _)
   | (with_reducible refine LeO.ite ?_ ?_)
   | (with_reducible refine LeO.bind ?_ (fun _ => ?_))
   | exact product_All.mono _ _ _
   | exact product_Mul.mono _ _ _ _
   | exact LeO.none _
   | refine LeO.ite ?_ ?_
   | refine LeO.bind ?_ (fun _ => ?_)
theorem L05_awake.calls (k : Nat)  (r : Bool) (w : World) (h : L05_awake.f k  = some r) :
  Calls Try.prog 53 #[] w fun e w' => e = .returned (.bool r) ∧ Below w.heap.size w w' := by
 have HB := A_ (Below.refl w.heap.size w)
 have H : ((product_Mul.f k 32 1077936128 1084227584).bind fun t669 => (if t669 = 1097859072 then ((product_Mul.f k 32 1 1056964608).bind fun t670 => (if t670 = 0 then ((product_All.f k 64 ([] : List Int)).bind fun t671 => (some (t671 == 4607182418800017408))) else (some false))) else (some false))) = some r := h
 clear h
 replace H := ob_ H
 obtain ⟨t669, A10, H⟩ := H
 replace H : (if t669 = 1097859072 then ((product_Mul.f k 32 1 1056964608).bind fun t670 => (if t670 = 0 then ((product_All.f k 64 ([] : List Int)).bind fun t671 => (some (t671 == 4607182418800017408))) else (some false))) else (some false)) = some r := H
 have A1 := A_ A10;clear A10
 by_cases c2 : t669 = 1097859072
 ·rw [if_pos c2] at H
  have c2b0 : (t669 == 1097859072) = true := beq_iff_eq.mpr c2
  have c2b1 : (t669 != 1097859072) = false := bne_eq_false_iff_eq.mpr c2
  clear c2
  replace H := ob_ H
  obtain ⟨t670, A30, H⟩ := H
  replace H : (if t670 = 0 then ((product_All.f k 64 ([] : List Int)).bind fun t671 => (some (t671 == 4607182418800017408))) else (some false)) = some r := H
  have A3 := A_ A30;clear A30
  by_cases c4 : t670 = 0
  ·rw [if_pos c4] at H
   have c4b0 : (t670 == 0) = true := beq_iff_eq.mpr c4
   have c4b1 : (t670 != 0) = false := bne_eq_false_iff_eq.mpr c4
   clear c4
   replace H := ob_ H
   obtain ⟨t671, A50, H⟩ := H
   replace H : (some (t671 == 4607182418800017408)) = some r := H
   have A5 := A_ A50;clear A50
   obtain rfl := Option.some.inj H
   go_enter Try.func53, Try.ntmps53
   go_wp2_with (first | ((with_reducible refine gate_callee (f := 54) rfl ?_); refine gl_ (some 1) Try.func54 #[.int .i64 32, .int .u64 1077936128, .int .u64 1084227584] ?_; (with_reducible refine (product_Mul.calls k 32 1077936128 1084227584 t669 _ A1.out).mono ?_); rintro e w6 ⟨rfl, hb⟩; refine ⟨_, rfl, ?_⟩; have n0_ := A_ (below_step (hb_ HB.out) hb); clear HB; have HB := n0_; clear n0_; (try clear hb); (try clear hb2); (try clear hk); (try clear hi)) | (go_at_call 54; (with_reducible refine (product_Mul.calls k 32 1 1056964608 t670 _ A3.out).mono ?_); rintro e w7 ⟨rfl, hb⟩; have n0_ := A_ (below_step (hb_ HB.out) hb); clear HB; have HB := n0_; clear n0_; (try clear hb); (try clear hb2); (try clear hk); (try clear hi)) | (go_at_call 69; (refine (product_All.calls k 64 _ _ ([] : List Int) t671 _ ?side1 ?side2 A5.out).mono ?_); (case side1 => exact Kd.C_nil _ _); (case side2 => exact Nat.le_refl _); rintro e w8 ⟨rfl, hb⟩; have n0_ := A_ (below_step (hb_ HB.out) hb); clear HB; have HB := n0_; clear n0_; (try clear hb); (try clear hb2); (try clear hk); (try clear hi)))
   go_ret
   exact ⟨er_, hb_ HB.out⟩
  ·rw [if_neg c4] at H
   have c4b0 : (t670 == 0) = false := beq_eq_false_iff_ne.mpr c4
   have c4b1 : (t670 != 0) = true := bne_iff_ne.mpr c4
   obtain rfl := Option.some.inj H
   go_enter Try.func53, Try.ntmps53
   go_wp2_with (first | ((with_reducible refine gate_callee (f := 54) rfl ?_); refine gl_ (some 1) Try.func54 #[.int .i64 32, .int .u64 1077936128, .int .u64 1084227584] ?_; (with_reducible refine (product_Mul.calls k 32 1077936128 1084227584 t669 _ A1.out).mono ?_); rintro e w9 ⟨rfl, hb⟩; refine ⟨_, rfl, ?_⟩; have n0_ := A_ (below_step (hb_ HB.out) hb); clear HB; have HB := n0_; clear n0_; (try clear hb); (try clear hb2); (try clear hk); (try clear hi)) | (go_at_call 54; (with_reducible refine (product_Mul.calls k 32 1 1056964608 t670 _ A3.out).mono ?_); rintro e w10 ⟨rfl, hb⟩; have n0_ := A_ (below_step (hb_ HB.out) hb); clear HB; have HB := n0_; clear n0_; (try clear hb); (try clear hb2); (try clear hk); (try clear hi)))
   go_ret
   exact ⟨er_, hb_ HB.out⟩
 ·rw [if_neg c2] at H
  have c2b0 : (t669 == 1097859072) = false := beq_eq_false_iff_ne.mpr c2
  have c2b1 : (t669 != 1097859072) = true := bne_iff_ne.mpr c2
  obtain rfl := Option.some.inj H
  go_enter Try.func53, Try.ntmps53
  go_wp2_with (first | ((with_reducible refine gate_callee (f := 54) rfl ?_); refine gl_ (some 1) Try.func54 #[.int .i64 32, .int .u64 1077936128, .int .u64 1084227584] ?_; (with_reducible refine (product_Mul.calls k 32 1077936128 1084227584 t669 _ A1.out).mono ?_); rintro e w11 ⟨rfl, hb⟩; refine ⟨_, rfl, ?_⟩; have n0_ := A_ (below_step (hb_ HB.out) hb); clear HB; have HB := n0_; clear n0_; (try clear hb); (try clear hb2); (try clear hk); (try clear hi)))
  go_ret
  exact ⟨er_, hb_ HB.out⟩
def r2_E.f (a0 : Int) : Option (Int) := if a0 = 32 then (some 8) else (some 11)
theorem r2_E.calls (a0 : Int) (r : Int) (w : World) (h : r2_E.f a0 = some r) :
  Calls Try.prog 145 #[.int .i64 a0] w fun e w' => e = .returned (.int .i64 r) ∧ Drawn0 w w' := by
 have H : (if a0 = 32 then (some 8) else (some 11)) = some r := h
 clear h
 by_cases c2 : a0 = 32
 ·rw [if_pos c2] at H
  have c2b0 : (a0 == 32) = true := beq_iff_eq.mpr c2
  have c2b1 : (a0 != 32) = false := bne_eq_false_iff_eq.mpr c2
  clear c2
  obtain rfl := Option.some.inj H
  go_enter Try.func145, Try.ntmps145
  go_wp2
  go_ret
  exact ⟨sm_, by repeat (first | exact Drawn0.refl _ | apply Drawn0.step)⟩
 ·rw [if_neg c2] at H
  have c2b0 : (a0 == 32) = false := beq_eq_false_iff_ne.mpr c2
  have c2b1 : (a0 != 32) = true := bne_iff_ne.mpr c2
  obtain rfl := Option.some.inj H
  go_enter Try.func145, Try.ntmps145
  go_wp2
  go_ret
  exact ⟨sm_, by repeat (first | exact Drawn0.refl _ | apply Drawn0.step)⟩
def r2_F.f (a0 : Int) : Option (Int) := (r2_E.f a0).bind fun t183 => (some (wrap64 ((wrap64 (a0 - 1)) - t183)))
theorem r2_F.calls (a0 : Int) (r : Int) (w : World) (h : r2_F.f a0 = some r) :
  Calls Try.prog 130 #[.int .i64 a0] w fun e w' => e = .returned (.int .i64 r) ∧ Drawn0 w w' := by
 have H : ((r2_E.f a0).bind fun t183 => (some (wrap64 ((wrap64 (a0 - 1)) - t183)))) = some r := h
 clear h
 replace H := ob_ H
 obtain ⟨t183, A20, H⟩ := H
 replace H : (some (wrap64 ((wrap64 (a0 - 1)) - t183))) = some r := H
 have A2 := A_ A20;clear A20
 obtain rfl := Option.some.inj H
 go_enter Try.func130, Try.ntmps130
 go_wp2_with (first | ((with_reducible refine gate_callee (f := 145) rfl ?_); refine gl_ (some 6) Try.func145 #[.int .i64 a0] ?_; (with_reducible refine (r2_E.calls a0 t183 _ A2.out).mono ?_); rintro e w' ⟨rfl, ⟨nd, rfl⟩⟩; refine ⟨_, rfl, ?_⟩))
 go_ret
 exact ⟨sm_, by repeat (first | exact Drawn0.refl _ | apply Drawn0.step)⟩
def r2_Make.f (k : Nat) (a0 : Int) (a1 : Bool) (a2 : Int) (a3 : Int) : Option (Int) := (r2_F.f a0).bind fun t447 => ((r2_Two.f k t447).bind fun t448 => (if a1 = true then ((r2_Two.f k (wrap64 (a0 - 1))).bind fun t449 => (some (IntKind.u64.wrap ((IntKind.u64.wrap ((IntKind.u64.wrap ((IntKind.u64.wrap (a2)) * t448)) + a3)) + t449)))) else (some (IntKind.u64.wrap ((IntKind.u64.wrap ((IntKind.u64.wrap (a2)) * t448)) + a3)))))
theorem r2_Make.mono : ∀ a0 a1 a2 a3 k, LeO (r2_Make.f k a0 a1 a2 a3) (r2_Make.f (k + 1) a0 a1 a2 a3) := by
 intro a0 a1 a2 a3 k
 unfold r2_Make.f
 repeat' first
   | (with_reducible exact r2_Two.mono _ _)
   | (with_reducible exact LeO.refl _)
   | (with_reducible exact LeO.none _)
   | (with_reducible refine LeO.ite ?_ ?_)
   | (with_reducible refine LeO.bind ?_ (fun _ => ?_))
   | exact r2_Two.mono _ _
   | exact LeO.none _
   | refine LeO.ite ?_ ?_
   | refine LeO.bind ?_ (fun _ => ?_)
theorem r2_Make.calls (k : Nat) (a0 : Int) (a1 : Bool) (a2 : Int) (a3 : Int) (r : Int) (w : World) (h : r2_Make.f k a0 a1 a2 a3 = some r) :
  Calls Try.prog 95 #[.int .i64 a0, .bool a1, .int .i64 a2, .int .u64 a3] w fun e w' => e = .returned (.int .u64 r) ∧ Drawn0 w w' := by
 have H : ((r2_F.f a0).bind fun t447 => ((r2_Two.f k t447).bind fun t448 => (if a1 = true then ((r2_Two.f k (wrap64 (a0 - 1))).bind fun t449 => (some (IntKind.u64.wrap ((IntKind.u64.wrap ((IntKind.u64.wrap ((IntKind.u64.wrap (a2)) * t448)) + a3)) + t449)))) else (some (IntKind.u64.wrap ((IntKind.u64.wrap ((IntKind.u64.wrap (a2)) * t448)) + a3)))))) = some r := h
 clear h
 replace H := ob_ H
 obtain ⟨t447, A50, H⟩ := H
 replace H : ((r2_Two.f k t447).bind fun t448 => (if a1 = true then ((r2_Two.f k (wrap64 (a0 - 1))).bind fun t449 => (some (IntKind.u64.wrap ((IntKind.u64.wrap ((IntKind.u64.wrap ((IntKind.u64.wrap (a2)) * t448)) + a3)) + t449)))) else (some (IntKind.u64.wrap ((IntKind.u64.wrap ((IntKind.u64.wrap (a2)) * t448)) + a3))))) = some r := H
 have A5 := A_ A50;clear A50
 replace H := ob_ H
 obtain ⟨t448, A60, H⟩ := H
 replace H : (if a1 = true then ((r2_Two.f k (wrap64 (a0 - 1))).bind fun t449 => (some (IntKind.u64.wrap ((IntKind.u64.wrap ((IntKind.u64.wrap ((IntKind.u64.wrap (a2)) * t448)) + a3)) + t449)))) else (some (IntKind.u64.wrap ((IntKind.u64.wrap ((IntKind.u64.wrap (a2)) * t448)) + a3)))) = some r := H
 have A6 := A_ A60;clear A60
 by_cases c7 : a1 = true
 ·subst c7
  have H1 : ((r2_Two.f k (wrap64 (a0 - 1))).bind fun t449 => (some (IntKind.u64.wrap ((IntKind.u64.wrap ((IntKind.u64.wrap ((IntKind.u64.wrap (a2)) * t448)) + a3)) + t449)))) = some r := by rw [if_pos rfl] at H; exact H
  clear H;have H := H1;clear H1
  replace H := ob_ H
  obtain ⟨t449, A80, H⟩ := H
  replace H : (some (IntKind.u64.wrap ((IntKind.u64.wrap ((IntKind.u64.wrap ((IntKind.u64.wrap (a2)) * t448)) + a3)) + t449))) = some r := H
  have A8 := A_ A80;clear A80
  obtain rfl := Option.some.inj H
  go_enter Try.func95, Try.ntmps95
  go_wp2_with (first | ((with_reducible refine gate_callee (f := 130) rfl ?_); refine gl_ (some 13) Try.func130 #[.int .i64 a0] ?_; (with_reducible refine (r2_F.calls a0 t447 _ A5.out).mono ?_); rintro e w' ⟨rfl, ⟨nd, rfl⟩⟩; refine ⟨_, rfl, ?_⟩) | ((with_reducible refine gate_callee (f := 99) rfl ?_); refine gl_ (some 14) Try.func99 #[.int .i64 t447] ?_; (with_reducible refine (r2_Two.calls k t447 t448 _ A6.out).mono ?_); rintro e w' ⟨rfl, ⟨nd, rfl⟩⟩; refine ⟨_, rfl, ?_⟩) | ((with_reducible refine gate_callee (f := 99) rfl ?_); refine gl_ (some 22) Try.func99 #[.int .i64 (wrap64 (a0 - 1))] ?_; (with_reducible refine (r2_Two.calls k (wrap64 (a0 - 1)) t449 _ A8.out).mono ?_); rintro e w' ⟨rfl, ⟨nd, rfl⟩⟩; refine ⟨_, rfl, ?_⟩))
  go_ret
  exact ⟨sm_, by repeat (first | exact Drawn0.refl _ | apply Drawn0.step)⟩
 ·replace c7 := Bool.eq_false_iff.mpr c7
  subst c7
  have H1 : (some (IntKind.u64.wrap ((IntKind.u64.wrap ((IntKind.u64.wrap (a2)) * t448)) + a3))) = some r := by rw [if_neg (show ¬ (false = true) by decide)] at H; exact H
  clear H;have H := H1;clear H1
  obtain rfl := Option.some.inj H
  go_enter Try.func95, Try.ntmps95
  go_wp2_with (first | ((with_reducible refine gate_callee (f := 130) rfl ?_); refine gl_ (some 13) Try.func130 #[.int .i64 a0] ?_; (with_reducible refine (r2_F.calls a0 t447 _ A5.out).mono ?_); rintro e w' ⟨rfl, ⟨nd, rfl⟩⟩; refine ⟨_, rfl, ?_⟩) | ((with_reducible refine gate_callee (f := 99) rfl ?_); refine gl_ (some 14) Try.func99 #[.int .i64 t447] ?_; (with_reducible refine (r2_Two.calls k t447 t448 _ A6.out).mono ?_); rintro e w' ⟨rfl, ⟨nd, rfl⟩⟩; refine ⟨_, rfl, ?_⟩))
  go_ret
  exact ⟨sm_, by repeat (first | exact Drawn0.refl _ | apply Drawn0.step)⟩
def r2_Top.f (k : Nat) (a0 : Int) : Option (Int) := (r2_E.f a0).bind fun t191 => ((r2_Two.f k t191).bind fun t192 => (some (wrap64 ((wrap64 (t192)) - 1))))
theorem r2_Top.mono : ∀ a0 k, LeO (r2_Top.f k a0) (r2_Top.f (k + 1) a0) := by
 intro a0 k
 unfold r2_Top.f
 repeat' first
   | (with_reducible exact r2_Two.mono _ _)
   | (with_reducible exact LeO.refl _)
   | (with_reducible exact LeO.none _)
   | (with_reducible refine LeO.ite ?_ ?_)
   | (with_reducible refine LeO.bind ?_ (fun _ => ?_))
   | exact r2_Two.mono _ _
   | exact LeO.none _
   | refine LeO.ite ?_ ?_
   | refine LeO.bind ?_ (fun _ => ?_)
theorem r2_Top.calls (k : Nat) (a0 : Int) (r : Int) (w : World) (h : r2_Top.f k a0 = some r) :
  Calls Try.prog 85 #[.int .i64 a0] w fun e w' => e = .returned (.int .i64 r) ∧ Drawn0 w w' := by
 have H : ((r2_E.f a0).bind fun t191 => ((r2_Two.f k t191).bind fun t192 => (some (wrap64 ((wrap64 (t192)) - 1))))) = some r := h
 clear h
 replace H := ob_ H
 obtain ⟨t191, A20, H⟩ := H
 replace H : ((r2_Two.f k t191).bind fun t192 => (some (wrap64 ((wrap64 (t192)) - 1)))) = some r := H
 have A2 := A_ A20;clear A20
 replace H := ob_ H
 obtain ⟨t192, A30, H⟩ := H
 replace H : (some (wrap64 ((wrap64 (t192)) - 1))) = some r := H
 have A3 := A_ A30;clear A30
 obtain rfl := Option.some.inj H
 go_enter Try.func85, Try.ntmps85
 go_wp2_with (first | ((with_reducible refine gate_callee (f := 145) rfl ?_); refine gl_ (some 4) Try.func145 #[.int .i64 a0] ?_; (with_reducible refine (r2_E.calls a0 t191 _ A2.out).mono ?_); rintro e w' ⟨rfl, ⟨nd, rfl⟩⟩; refine ⟨_, rfl, ?_⟩) | ((with_reducible refine gate_callee (f := 99) rfl ?_); refine gl_ (some 5) Try.func99 #[.int .i64 t191] ?_; (with_reducible refine (r2_Two.calls k t191 t192 _ A3.out).mono ?_); rintro e w' ⟨rfl, ⟨nd, rfl⟩⟩; refine ⟨_, rfl, ?_⟩))
 go_ret
 exact ⟨sm_, by repeat (first | exact Drawn0.refl _ | apply Drawn0.step)⟩
def r2_Inf.f (k : Nat) (a0 : Int) (a1 : Bool) : Option (Int) := (r2_Top.f k a0).bind fun t450 => ((r2_Make.f k a0 a1 t450 0).bind fun t451 => (some t451))
theorem r2_Inf.mono : ∀ a0 a1 k, LeO (r2_Inf.f k a0 a1) (r2_Inf.f (k + 1) a0 a1) := by
 intro a0 a1 k
 unfold r2_Inf.f
 repeat' first
   | (with_reducible exact r2_Make.mono _ _ _ _ _)
   | (with_reducible exact r2_Top.mono _ _)
   | (with_reducible exact LeO.refl _)
   | (with_reducible exact LeO.none _)
   | (with_reducible refine LeO.ite ?_ ?_)
   | (with_reducible refine LeO.bind ?_ (fun _ => ?_))
   | exact r2_Make.mono _ _ _ _ _
   | exact r2_Top.mono _ _
   | exact LeO.none _
   | refine LeO.ite ?_ ?_
   | refine LeO.bind ?_ (fun _ => ?_)
theorem r2_Inf.calls (k : Nat) (a0 : Int) (a1 : Bool) (r : Int) (w : World) (h : r2_Inf.f k a0 a1 = some r) :
  Calls Try.prog 114 #[.int .i64 a0, .bool a1] w fun e w' => e = .returned (.int .u64 r) ∧ Drawn0 w w' := by
 have H : ((r2_Top.f k a0).bind fun t450 => ((r2_Make.f k a0 a1 t450 0).bind fun t451 => (some t451))) = some r := h
 clear h
 replace H := ob_ H
 obtain ⟨t450, A30, H⟩ := H
 replace H : ((r2_Make.f k a0 a1 t450 0).bind fun t451 => (some t451)) = some r := H
 have A3 := A_ A30;clear A30
 replace H := ob_ H
 obtain ⟨t451, A40, H⟩ := H
 replace H : (some t451) = some r := H
 have A4 := A_ A40;clear A40
 obtain rfl := Option.some.inj H
 go_enter Try.func114, Try.ntmps114
 go_wp2_with (first | ((with_reducible refine gate_callee (f := 85) rfl ?_); refine gl_ (some 8) Try.func85 #[.int .i64 a0] ?_; (with_reducible refine (r2_Top.calls k a0 t450 _ A3.out).mono ?_); rintro e w' ⟨rfl, ⟨nd, rfl⟩⟩; refine ⟨_, rfl, ?_⟩) | ((with_reducible refine gate_callee (f := 95) rfl ?_); refine gl_ (some 9) Try.func95 #[.int .i64 a0, .bool a1, .int .i64 t450, .int .u64 0] ?_; (with_reducible refine (r2_Make.calls k a0 a1 t450 0 t451 _ A4.out).mono ?_); rintro e w' ⟨rfl, ⟨nd, rfl⟩⟩; refine ⟨_, rfl, ?_⟩))
 go_ret
 exact ⟨sm_, by repeat (first | exact Drawn0.refl _ | apply Drawn0.step)⟩
def r2_Nan.f (k : Nat) (a0 : Int) : Option (Int) := (r2_Top.f k a0).bind fun t600 => ((r2_F.f a0).bind fun t601 => ((r2_Two.f k (wrap64 (t601 - 1))).bind fun t602 => ((r2_Make.f k a0 false t600 t602).bind fun t603 => (some t603))))
theorem r2_Nan.mono : ∀ a0 k, LeO (r2_Nan.f k a0) (r2_Nan.f (k + 1) a0) := by
 intro a0 k
 unfold r2_Nan.f
 repeat' first
   | (with_reducible exact r2_Make.mono _ _ _ _ _)
   | (with_reducible exact r2_Top.mono _ _)
   | (with_reducible exact r2_Two.mono _ _)
   | (with_reducible exact LeO.refl _)
   | (with_reducible exact LeO.none _)
   | (with_reducible refine LeO.ite ?_ ?_)
   | (with_reducible refine LeO.bind ?_ (fun _ => ?_))
   | exact r2_Make.mono _ _ _ _ _
   | exact r2_Top.mono _ _
   | exact r2_Two.mono _ _
   | exact LeO.none _
   | refine LeO.ite ?_ ?_
   | refine LeO.bind ?_ (fun _ => ?_)
theorem r2_Nan.calls (k : Nat) (a0 : Int) (r : Int) (w : World) (h : r2_Nan.f k a0 = some r) :
  Calls Try.prog 117 #[.int .i64 a0] w fun e w' => e = .returned (.int .u64 r) ∧ Drawn0 w w' := by
 have H : ((r2_Top.f k a0).bind fun t600 => ((r2_F.f a0).bind fun t601 => ((r2_Two.f k (wrap64 (t601 - 1))).bind fun t602 => ((r2_Make.f k a0 false t600 t602).bind fun t603 => (some t603))))) = some r := h
 clear h
 replace H := ob_ H
 obtain ⟨t600, A20, H⟩ := H
 replace H : ((r2_F.f a0).bind fun t601 => ((r2_Two.f k (wrap64 (t601 - 1))).bind fun t602 => ((r2_Make.f k a0 false t600 t602).bind fun t603 => (some t603)))) = some r := H
 have A2 := A_ A20;clear A20
 replace H := ob_ H
 obtain ⟨t601, A30, H⟩ := H
 replace H : ((r2_Two.f k (wrap64 (t601 - 1))).bind fun t602 => ((r2_Make.f k a0 false t600 t602).bind fun t603 => (some t603))) = some r := H
 have A3 := A_ A30;clear A30
 replace H := ob_ H
 obtain ⟨t602, A40, H⟩ := H
 replace H : ((r2_Make.f k a0 false t600 t602).bind fun t603 => (some t603)) = some r := H
 have A4 := A_ A40;clear A40
 replace H := ob_ H
 obtain ⟨t603, A50, H⟩ := H
 replace H : (some t603) = some r := H
 have A5 := A_ A50;clear A50
 obtain rfl := Option.some.inj H
 go_enter Try.func117, Try.ntmps117
 go_wp2_with (first | ((with_reducible refine gate_callee (f := 85) rfl ?_); refine gl_ (some 5) Try.func85 #[.int .i64 a0] ?_; (with_reducible refine (r2_Top.calls k a0 t600 _ A2.out).mono ?_); rintro e w' ⟨rfl, ⟨nd, rfl⟩⟩; refine ⟨_, rfl, ?_⟩) | ((with_reducible refine gate_callee (f := 130) rfl ?_); refine gl_ (some 7) Try.func130 #[.int .i64 a0] ?_; (with_reducible refine (r2_F.calls a0 t601 _ A3.out).mono ?_); rintro e w' ⟨rfl, ⟨nd, rfl⟩⟩; refine ⟨_, rfl, ?_⟩) | ((with_reducible refine gate_callee (f := 99) rfl ?_); refine gl_ (some 9) Try.func99 #[.int .i64 (wrap64 (t601 - 1))] ?_; (with_reducible refine (r2_Two.calls k (wrap64 (t601 - 1)) t602 _ A4.out).mono ?_); rintro e w' ⟨rfl, ⟨nd, rfl⟩⟩; refine ⟨_, rfl, ?_⟩) | ((with_reducible refine gate_callee (f := 95) rfl ?_); refine gl_ (some 10) Try.func95 #[.int .i64 a0, .bool false, .int .i64 t600, .int .u64 t602] ?_; (with_reducible refine (r2_Make.calls k a0 false t600 t602 t603 _ A5.out).mono ?_); rintro e w' ⟨rfl, ⟨nd, rfl⟩⟩; refine ⟨_, rfl, ?_⟩))
 go_ret
 exact ⟨sm_, by repeat (first | exact Drawn0.refl _ | apply Drawn0.step)⟩
def r2_B.f (a0 : Int) : Option (Int) := if a0 = 32 then (some 127) else (some 1023)
theorem r2_B.calls (a0 : Int) (r : Int) (w : World) (h : r2_B.f a0 = some r) :
  Calls Try.prog 94 #[.int .i64 a0] w fun e w' => e = .returned (.int .i64 r) ∧ Drawn0 w w' := by
 have H : (if a0 = 32 then (some 127) else (some 1023)) = some r := h
 clear h
 by_cases c2 : a0 = 32
 ·rw [if_pos c2] at H
  have c2b0 : (a0 == 32) = true := beq_iff_eq.mpr c2
  have c2b1 : (a0 != 32) = false := bne_eq_false_iff_eq.mpr c2
  clear c2
  obtain rfl := Option.some.inj H
  go_enter Try.func94, Try.ntmps94
  go_wp2
  go_ret
  exact ⟨sm_, by repeat (first | exact Drawn0.refl _ | apply Drawn0.step)⟩
 ·rw [if_neg c2] at H
  have c2b0 : (a0 == 32) = false := beq_eq_false_iff_ne.mpr c2
  have c2b1 : (a0 != 32) = true := bne_iff_ne.mpr c2
  obtain rfl := Option.some.inj H
  go_enter Try.func94, Try.ntmps94
  go_wp2
  go_ret
  exact ⟨sm_, by repeat (first | exact Drawn0.refl _ | apply Drawn0.step)⟩
def r2_Exp.f (k : Nat) (a0 : Int) (a1 : Int) : Option (Int) := (r2_Cut.f a0 a1).bind fun t184 => ((r2_F.f a0).bind fun t185 => ((r2_Two.f k t185).bind fun t186 => (if t186 = 0 then (none) else ((r2_E.f a0).bind fun t187 => ((r2_Two.f k t187).bind fun t188 => (if t188 = 0 then (none) else (some (wrap64 (Int.tmod (IntKind.u64.wrap (Int.tdiv t184 t186)) t188)))))))))
theorem r2_Exp.mono : ∀ a0 a1 k, LeO (r2_Exp.f k a0 a1) (r2_Exp.f (k + 1) a0 a1) := by
 intro a0 a1 k
 unfold r2_Exp.f
 repeat' first
   | (with_reducible exact r2_Two.mono _ _)
   | (with_reducible exact LeO.refl _)
   | (with_reducible exact LeO.none _)
   | (with_reducible refine LeO.ite ?_ ?_)
   | (with_reducible refine LeO.bind ?_ (fun _ => ?_))
   | exact r2_Two.mono _ _
   | exact LeO.none _
   | refine LeO.ite ?_ ?_
   | refine LeO.bind ?_ (fun _ => ?_)
theorem r2_Exp.calls (k : Nat) (a0 : Int) (a1 : Int) (r : Int) (w : World) (h : r2_Exp.f k a0 a1 = some r) :
  Calls Try.prog 83 #[.int .i64 a0, .int .u64 a1] w fun e w' => e = .returned (.int .i64 r) ∧ Drawn0 w w' := by
 have H : ((r2_Cut.f a0 a1).bind fun t184 => ((r2_F.f a0).bind fun t185 => ((r2_Two.f k t185).bind fun t186 => (if t186 = 0 then (none) else ((r2_E.f a0).bind fun t187 => ((r2_Two.f k t187).bind fun t188 => (if t188 = 0 then (none) else (some (wrap64 (Int.tmod (IntKind.u64.wrap (Int.tdiv t184 t186)) t188)))))))))) = some r := h
 clear h
 replace H := ob_ H
 obtain ⟨t184, A30, H⟩ := H
 replace H : ((r2_F.f a0).bind fun t185 => ((r2_Two.f k t185).bind fun t186 => (if t186 = 0 then (none) else ((r2_E.f a0).bind fun t187 => ((r2_Two.f k t187).bind fun t188 => (if t188 = 0 then (none) else (some (wrap64 (Int.tmod (IntKind.u64.wrap (Int.tdiv t184 t186)) t188))))))))) = some r := H
 have A3 := A_ A30;clear A30
 replace H := ob_ H
 obtain ⟨t185, A40, H⟩ := H
 replace H : ((r2_Two.f k t185).bind fun t186 => (if t186 = 0 then (none) else ((r2_E.f a0).bind fun t187 => ((r2_Two.f k t187).bind fun t188 => (if t188 = 0 then (none) else (some (wrap64 (Int.tmod (IntKind.u64.wrap (Int.tdiv t184 t186)) t188)))))))) = some r := H
 have A4 := A_ A40;clear A40
 replace H := ob_ H
 obtain ⟨t186, A50, H⟩ := H
 replace H : (if t186 = 0 then (none) else ((r2_E.f a0).bind fun t187 => ((r2_Two.f k t187).bind fun t188 => (if t188 = 0 then (none) else (some (wrap64 (Int.tmod (IntKind.u64.wrap (Int.tdiv t184 t186)) t188))))))) = some r := H
 have A5 := A_ A50;clear A50
 by_cases c6 : t186 = 0
 ·rw [if_pos c6] at H
  exact absurd H (by simp)
 ·rw [if_neg c6] at H
  have c6b0 : (t186 == 0) = false := beq_eq_false_iff_ne.mpr c6
  have c6b1 : (t186 != 0) = true := bne_iff_ne.mpr c6
  replace H := ob_ H
  obtain ⟨t187, A70, H⟩ := H
  replace H : ((r2_Two.f k t187).bind fun t188 => (if t188 = 0 then (none) else (some (wrap64 (Int.tmod (IntKind.u64.wrap (Int.tdiv t184 t186)) t188))))) = some r := H
  have A7 := A_ A70;clear A70
  replace H := ob_ H
  obtain ⟨t188, A80, H⟩ := H
  replace H : (if t188 = 0 then (none) else (some (wrap64 (Int.tmod (IntKind.u64.wrap (Int.tdiv t184 t186)) t188)))) = some r := H
  have A8 := A_ A80;clear A80
  by_cases c9 : t188 = 0
  ·rw [if_pos c9] at H
   exact absurd H (by simp)
  ·rw [if_neg c9] at H
   have c9b0 : (t188 == 0) = false := beq_eq_false_iff_ne.mpr c9
   have c9b1 : (t188 != 0) = true := bne_iff_ne.mpr c9
   obtain rfl := Option.some.inj H
   go_enter Try.func83, Try.ntmps83
   go_wp2_with (first | (go_at_call 92; (with_reducible refine (r2_Cut.calls a0 a1 t184 _ A3.out).mono ?_); rintro e w' ⟨rfl, ⟨nd, rfl⟩⟩; (try first | exact ⟨rfl, _, World.drewN_drewN _ _ _⟩ | exact ⟨rfl, _, Eq.trans (World.drewN_drewN _ _ _) (congrArg (World.drewN _) (Nat.add_assoc _ _ _))⟩)) | (go_at_call 130; (with_reducible refine (r2_F.calls a0 t185 _ A4.out).mono ?_); rintro e w' ⟨rfl, ⟨nd, rfl⟩⟩; (try first | exact ⟨rfl, _, World.drewN_drewN _ _ _⟩ | exact ⟨rfl, _, Eq.trans (World.drewN_drewN _ _ _) (congrArg (World.drewN _) (Nat.add_assoc _ _ _))⟩)) | (go_at_call 99; (with_reducible refine (r2_Two.calls k t185 t186 _ A5.out).mono ?_); rintro e w' ⟨rfl, ⟨nd, rfl⟩⟩; (try first | exact ⟨rfl, _, World.drewN_drewN _ _ _⟩ | exact ⟨rfl, _, Eq.trans (World.drewN_drewN _ _ _) (congrArg (World.drewN _) (Nat.add_assoc _ _ _))⟩)) | (go_at_call 145; (with_reducible refine (r2_E.calls a0 t187 _ A7.out).mono ?_); rintro e w' ⟨rfl, ⟨nd, rfl⟩⟩; (try first | exact ⟨rfl, _, World.drewN_drewN _ _ _⟩ | exact ⟨rfl, _, Eq.trans (World.drewN_drewN _ _ _) (congrArg (World.drewN _) (Nat.add_assoc _ _ _))⟩)) | (go_at_call 99; (with_reducible refine (r2_Two.calls k t187 t188 _ A8.out).mono ?_); rintro e w' ⟨rfl, ⟨nd, rfl⟩⟩; (try first | exact ⟨rfl, _, World.drewN_drewN _ _ _⟩ | exact ⟨rfl, _, Eq.trans (World.drewN_drewN _ _ _) (congrArg (World.drewN _) (Nat.add_assoc _ _ _))⟩)))
   repeat (go_quiet (first | (go_at_call 92; (with_reducible refine (r2_Cut.calls a0 a1 t184 _ A3.out).mono ?_); rintro e w' ⟨rfl, ⟨nd, rfl⟩⟩; (try first | exact ⟨rfl, _, World.drewN_drewN _ _ _⟩ | exact ⟨rfl, _, Eq.trans (World.drewN_drewN _ _ _) (congrArg (World.drewN _) (Nat.add_assoc _ _ _))⟩)) | (go_at_call 130; (with_reducible refine (r2_F.calls a0 t185 _ A4.out).mono ?_); rintro e w' ⟨rfl, ⟨nd, rfl⟩⟩; (try first | exact ⟨rfl, _, World.drewN_drewN _ _ _⟩ | exact ⟨rfl, _, Eq.trans (World.drewN_drewN _ _ _) (congrArg (World.drewN _) (Nat.add_assoc _ _ _))⟩)) | (go_at_call 99; (with_reducible refine (r2_Two.calls k t185 t186 _ A5.out).mono ?_); rintro e w' ⟨rfl, ⟨nd, rfl⟩⟩; (try first | exact ⟨rfl, _, World.drewN_drewN _ _ _⟩ | exact ⟨rfl, _, Eq.trans (World.drewN_drewN _ _ _) (congrArg (World.drewN _) (Nat.add_assoc _ _ _))⟩)) | (go_at_call 145; (with_reducible refine (r2_E.calls a0 t187 _ A7.out).mono ?_); rintro e w' ⟨rfl, ⟨nd, rfl⟩⟩; (try first | exact ⟨rfl, _, World.drewN_drewN _ _ _⟩ | exact ⟨rfl, _, Eq.trans (World.drewN_drewN _ _ _) (congrArg (World.drewN _) (Nat.add_assoc _ _ _))⟩)) | (go_at_call 99; (with_reducible refine (r2_Two.calls k t187 t188 _ A8.out).mono ?_); rintro e w' ⟨rfl, ⟨nd, rfl⟩⟩; (try first | exact ⟨rfl, _, World.drewN_drewN _ _ _⟩ | exact ⟨rfl, _, Eq.trans (World.drewN_drewN _ _ _) (congrArg (World.drewN _) (Nat.add_assoc _ _ _))⟩))); try go_wp2_with (first | (go_at_call 92; (with_reducible refine (r2_Cut.calls a0 a1 t184 _ A3.out).mono ?_); rintro e w' ⟨rfl, ⟨nd, rfl⟩⟩; (try first | exact ⟨rfl, _, World.drewN_drewN _ _ _⟩ | exact ⟨rfl, _, Eq.trans (World.drewN_drewN _ _ _) (congrArg (World.drewN _) (Nat.add_assoc _ _ _))⟩)) | (go_at_call 130; (with_reducible refine (r2_F.calls a0 t185 _ A4.out).mono ?_); rintro e w' ⟨rfl, ⟨nd, rfl⟩⟩; (try first | exact ⟨rfl, _, World.drewN_drewN _ _ _⟩ | exact ⟨rfl, _, Eq.trans (World.drewN_drewN _ _ _) (congrArg (World.drewN _) (Nat.add_assoc _ _ _))⟩)) | (go_at_call 99; (with_reducible refine (r2_Two.calls k t185 t186 _ A5.out).mono ?_); rintro e w' ⟨rfl, ⟨nd, rfl⟩⟩; (try first | exact ⟨rfl, _, World.drewN_drewN _ _ _⟩ | exact ⟨rfl, _, Eq.trans (World.drewN_drewN _ _ _) (congrArg (World.drewN _) (Nat.add_assoc _ _ _))⟩)) | (go_at_call 145; (with_reducible refine (r2_E.calls a0 t187 _ A7.out).mono ?_); rintro e w' ⟨rfl, ⟨nd, rfl⟩⟩; (try first | exact ⟨rfl, _, World.drewN_drewN _ _ _⟩ | exact ⟨rfl, _, Eq.trans (World.drewN_drewN _ _ _) (congrArg (World.drewN _) (Nat.add_assoc _ _ _))⟩)) | (go_at_call 99; (with_reducible refine (r2_Two.calls k t187 t188 _ A8.out).mono ?_); rintro e w' ⟨rfl, ⟨nd, rfl⟩⟩; (try first | exact ⟨rfl, _, World.drewN_drewN _ _ _⟩ | exact ⟨rfl, _, Eq.trans (World.drewN_drewN _ _ _) (congrArg (World.drewN _) (Nat.add_assoc _ _ _))⟩))))
   go_ret
   exact ⟨sm_, by repeat (first | exact Drawn0.refl _ | apply Drawn0.step)⟩
def r2_Frac.f (k : Nat) (a0 : Int) (a1 : Int) : Option (Int) := (r2_F.f a0).bind fun t193 => ((r2_Two.f k t193).bind fun t194 => (if t194 = 0 then (none) else (some (Int.tmod a1 t194))))
theorem r2_Frac.mono : ∀ a0 a1 k, LeO (r2_Frac.f k a0 a1) (r2_Frac.f (k + 1) a0 a1) := by
 intro a0 a1 k
 unfold r2_Frac.f
 repeat' first
   | (with_reducible exact r2_Two.mono _ _)
   | (with_reducible exact LeO.refl _)
   | (with_reducible exact LeO.none _)
   | (with_reducible refine LeO.ite ?_ ?_)
   | (with_reducible refine LeO.bind ?_ (fun _ => ?_))
   | exact r2_Two.mono _ _
   | exact LeO.none _
   | refine LeO.ite ?_ ?_
   | refine LeO.bind ?_ (fun _ => ?_)
theorem r2_Frac.calls (k : Nat) (a0 : Int) (a1 : Int) (r : Int) (w : World) (h : r2_Frac.f k a0 a1 = some r) :
  Calls Try.prog 129 #[.int .i64 a0, .int .u64 a1] w fun e w' => e = .returned (.int .u64 r) ∧ Drawn0 w w' := by
 have H : ((r2_F.f a0).bind fun t193 => ((r2_Two.f k t193).bind fun t194 => (if t194 = 0 then (none) else (some (Int.tmod a1 t194))))) = some r := h
 clear h
 replace H := ob_ H
 obtain ⟨t193, A30, H⟩ := H
 replace H : ((r2_Two.f k t193).bind fun t194 => (if t194 = 0 then (none) else (some (Int.tmod a1 t194)))) = some r := H
 have A3 := A_ A30;clear A30
 replace H := ob_ H
 obtain ⟨t194, A40, H⟩ := H
 replace H : (if t194 = 0 then (none) else (some (Int.tmod a1 t194))) = some r := H
 have A4 := A_ A40;clear A40
 by_cases c5 : t194 = 0
 ·rw [if_pos c5] at H
  exact absurd H (by simp)
 ·rw [if_neg c5] at H
  have c5b0 : (t194 == 0) = false := beq_eq_false_iff_ne.mpr c5
  have c5b1 : (t194 != 0) = true := bne_iff_ne.mpr c5
  obtain rfl := Option.some.inj H
  go_enter Try.func129, Try.ntmps129
  go_wp2_with (first | ((with_reducible refine gate_callee (f := 130) rfl ?_); refine gl_ (some 7) Try.func130 #[.int .i64 a0] ?_; (with_reducible refine (r2_F.calls a0 t193 _ A3.out).mono ?_); rintro e w' ⟨rfl, ⟨nd, rfl⟩⟩; refine ⟨_, rfl, ?_⟩) | ((with_reducible refine gate_callee (f := 99) rfl ?_); refine gl_ (some 8) Try.func99 #[.int .i64 t193] ?_; (with_reducible refine (r2_Two.calls k t193 t194 _ A4.out).mono ?_); rintro e w' ⟨rfl, ⟨nd, rfl⟩⟩; refine ⟨_, rfl, ?_⟩))
  go_ret
  exact ⟨sm_, by repeat (first | exact Drawn0.refl _ | apply Drawn0.step)⟩
def r2_Open.f (k : Nat) (a0 : Int) (a1 : Int) : Option (Bool × Int × Int × Int) := (r2_Exp.f k a0 a1).bind fun t196 => ((r2_Frac.f k a0 a1).bind fun t197 => ((r2_Neg.f k a0 a1).bind fun t198 => ((r2_Top.f k a0).bind fun t199 => (if t196 = t199 then (if t197 = 0 then (some (t198, 2, 0, 0)) else (some (false, 3, 0, 0))) else (if t196 = 0 then (if t197 = 0 then (some (t198, 0, 0, 0)) else ((r2_B.f a0).bind fun t200 => ((r2_F.f a0).bind fun t201 => (some (t198, 1, wrap64 ((wrap64 (1 - t200)) - t201), t197))))) else ((r2_B.f a0).bind fun t202 => ((r2_F.f a0).bind fun t203 => ((r2_F.f a0).bind fun t204 => ((r2_Two.f k t204).bind fun t205 => (some (t198, 1, wrap64 ((wrap64 (t196 - t202)) - t203), IntKind.u64.wrap (t205 + t197))))))))))))
theorem r2_Open.mono : ∀ a0 a1 k, LeO (r2_Open.f k a0 a1) (r2_Open.f (k + 1) a0 a1) := by
 intro a0 a1 k
 unfold r2_Open.f
 repeat' first
   | (with_reducible exact r2_Exp.mono _ _ _)
   | (with_reducible exact r2_Frac.mono _ _ _)
   | (with_reducible exact r2_Neg.mono _ _ _)
   | (with_reducible exact r2_Top.mono _ _)
   | (with_reducible exact r2_Two.mono _ _)
   | (with_reducible exact LeO.refl _)
   | (with_reducible exact LeO.none _)
   | (with_reducible refine LeO.ite ?_ ?_)
   | (with_reducible refine LeO.bind ?_ (fun _ => ?_))
   | exact r2_Exp.mono _ _ _
   | exact r2_Frac.mono _ _ _
   | exact r2_Neg.mono _ _ _
   | exact r2_Top.mono _ _
   | exact r2_Two.mono _ _
   | exact LeO.none _
   | refine LeO.ite ?_ ?_
   | refine LeO.bind ?_ (fun _ => ?_)
theorem r2_Open.calls (k : Nat) (a0 : Int) (a1 : Int) (r1 : Bool) (r2 : Int) (r3 : Int) (r4 : Int) (w : World) (h : r2_Open.f k a0 a1 = some (r1, r2, r3, r4)) :
  Calls Try.prog 59 #[.int .i64 a0, .int .u64 a1] w fun e w' => e = .returned (.agg #[.bool r1, .int .i64 r2, .int .i64 r3, .int .u64 r4]) ∧ Below w.heap.size w w' := by
 have hu59 := Try.underlying59
 have HB := A_ (Below.refl w.heap.size w)
 have H : ((r2_Exp.f k a0 a1).bind fun t196 => ((r2_Frac.f k a0 a1).bind fun t197 => ((r2_Neg.f k a0 a1).bind fun t198 => ((r2_Top.f k a0).bind fun t199 => (if t196 = t199 then (if t197 = 0 then (some (t198, 2, 0, 0)) else (some (false, 3, 0, 0))) else (if t196 = 0 then (if t197 = 0 then (some (t198, 0, 0, 0)) else ((r2_B.f a0).bind fun t200 => ((r2_F.f a0).bind fun t201 => (some (t198, 1, wrap64 ((wrap64 (1 - t200)) - t201), t197))))) else ((r2_B.f a0).bind fun t202 => ((r2_F.f a0).bind fun t203 => ((r2_F.f a0).bind fun t204 => ((r2_Two.f k t204).bind fun t205 => (some (t198, 1, wrap64 ((wrap64 (t196 - t202)) - t203), IntKind.u64.wrap (t205 + t197))))))))))))) = some (r1, r2, r3, r4) := h
 clear h
 replace H := ob_ H
 obtain ⟨t196, A30, H⟩ := H
 replace H : ((r2_Frac.f k a0 a1).bind fun t197 => ((r2_Neg.f k a0 a1).bind fun t198 => ((r2_Top.f k a0).bind fun t199 => (if t196 = t199 then (if t197 = 0 then (some (t198, 2, 0, 0)) else (some (false, 3, 0, 0))) else (if t196 = 0 then (if t197 = 0 then (some (t198, 0, 0, 0)) else ((r2_B.f a0).bind fun t200 => ((r2_F.f a0).bind fun t201 => (some (t198, 1, wrap64 ((wrap64 (1 - t200)) - t201), t197))))) else ((r2_B.f a0).bind fun t202 => ((r2_F.f a0).bind fun t203 => ((r2_F.f a0).bind fun t204 => ((r2_Two.f k t204).bind fun t205 => (some (t198, 1, wrap64 ((wrap64 (t196 - t202)) - t203), IntKind.u64.wrap (t205 + t197)))))))))))) = some (r1, r2, r3, r4) := H
 have A3 := A_ A30;clear A30
 replace H := ob_ H
 obtain ⟨t197, A40, H⟩ := H
 replace H : ((r2_Neg.f k a0 a1).bind fun t198 => ((r2_Top.f k a0).bind fun t199 => (if t196 = t199 then (if t197 = 0 then (some (t198, 2, 0, 0)) else (some (false, 3, 0, 0))) else (if t196 = 0 then (if t197 = 0 then (some (t198, 0, 0, 0)) else ((r2_B.f a0).bind fun t200 => ((r2_F.f a0).bind fun t201 => (some (t198, 1, wrap64 ((wrap64 (1 - t200)) - t201), t197))))) else ((r2_B.f a0).bind fun t202 => ((r2_F.f a0).bind fun t203 => ((r2_F.f a0).bind fun t204 => ((r2_Two.f k t204).bind fun t205 => (some (t198, 1, wrap64 ((wrap64 (t196 - t202)) - t203), IntKind.u64.wrap (t205 + t197))))))))))) = some (r1, r2, r3, r4) := H
 have A4 := A_ A40;clear A40
 replace H := ob_ H
 obtain ⟨t198, A50, H⟩ := H
 replace H : ((r2_Top.f k a0).bind fun t199 => (if t196 = t199 then (if t197 = 0 then (some (t198, 2, 0, 0)) else (some (false, 3, 0, 0))) else (if t196 = 0 then (if t197 = 0 then (some (t198, 0, 0, 0)) else ((r2_B.f a0).bind fun t200 => ((r2_F.f a0).bind fun t201 => (some (t198, 1, wrap64 ((wrap64 (1 - t200)) - t201), t197))))) else ((r2_B.f a0).bind fun t202 => ((r2_F.f a0).bind fun t203 => ((r2_F.f a0).bind fun t204 => ((r2_Two.f k t204).bind fun t205 => (some (t198, 1, wrap64 ((wrap64 (t196 - t202)) - t203), IntKind.u64.wrap (t205 + t197)))))))))) = some (r1, r2, r3, r4) := H
 have A5 := A_ A50;clear A50
 replace H := ob_ H
 obtain ⟨t199, A60, H⟩ := H
 replace H : (if t196 = t199 then (if t197 = 0 then (some (t198, 2, 0, 0)) else (some (false, 3, 0, 0))) else (if t196 = 0 then (if t197 = 0 then (some (t198, 0, 0, 0)) else ((r2_B.f a0).bind fun t200 => ((r2_F.f a0).bind fun t201 => (some (t198, 1, wrap64 ((wrap64 (1 - t200)) - t201), t197))))) else ((r2_B.f a0).bind fun t202 => ((r2_F.f a0).bind fun t203 => ((r2_F.f a0).bind fun t204 => ((r2_Two.f k t204).bind fun t205 => (some (t198, 1, wrap64 ((wrap64 (t196 - t202)) - t203), IntKind.u64.wrap (t205 + t197))))))))) = some (r1, r2, r3, r4) := H
 have A6 := A_ A60;clear A60
 by_cases c7 : t196 = t199
 ·rw [if_pos c7] at H
  have c7b0 : (t196 == t199) = true := beq_iff_eq.mpr c7
  have c7b1 : (t196 != t199) = false := bne_eq_false_iff_eq.mpr c7
  clear c7
  by_cases c8 : t197 = 0
  ·rw [if_pos c8] at H
   have c8b0 : (t197 == 0) = true := beq_iff_eq.mpr c8
   have c8b1 : (t197 != 0) = false := bne_eq_false_iff_eq.mpr c8
   clear c8
   simp only [Option.some.injEq, Prod.mk.injEq] at H
   obtain ⟨rfl, rfl, rfl, rfl⟩ := H
   go_enter Try.func59, Try.ntmps59
   go_wp2_with (first | ((with_reducible refine gate_dst (N := 4) rfl ?_); refine be_ 4 #[.bool false, .int .i64 0, .int .i64 0, .int .u64 0] 59 ?_; intro gb195 hg w9 hbox hb; have n0_ := A_ (below_step (hb_ HB.out) hb); have n1_ := A_ (hbox); have n2_ := A_ (sz_ hg (hb_ HB.out)); have n3_ := A_ (sz_ hg (hb_ HB.out)); clear HB; have HB := n0_; have BK195 := n1_; have GW195 := n2_; have GE195 := n3_; clear n0_ n1_ n2_ n3_; clear hb hbox hg) | ((with_reducible refine gate_callee (f := 83) rfl ?_); refine gl_ (some 10) Try.func83 #[.int .i64 a0, .int .u64 a1] ?_; (with_reducible refine (r2_Exp.calls k a0 a1 t196 _ A3.out).mono ?_); rintro e w' ⟨rfl, ⟨nd, rfl⟩⟩; refine ⟨_, rfl, ?_⟩; (try (rw [drewN_self w9]; generalize hq_ : World.drewN w9 _ = w9; have n0_ : Aside0 (w9.heap[gb195]? = some (.cells #[.bool false, .int .i64 0, .int .i64 0, .int .u64 0] 59 (0, 0))) := ⟨by rw [← hq_]; exact (bk_ BK195.out)⟩; have n1_ : Aside0 (Below w.heap.size w w9) := ⟨by rw [← hq_]; exact (hb1_ HB.out GE195.out)⟩; clear BK195 HB hq_; have BK195 := n0_; have HB := n1_; clear n0_ n1_))) | ((with_reducible refine gate_callee (f := 129) rfl ?_); refine gl_ (some 13) Try.func129 #[.int .i64 a0, .int .u64 a1] ?_; (with_reducible refine (r2_Frac.calls k a0 a1 t197 _ A4.out).mono ?_); rintro e w' ⟨rfl, ⟨nd, rfl⟩⟩; refine ⟨_, rfl, ?_⟩; (try (rw [drewN_self w9]; generalize hq_ : World.drewN w9 _ = w9; have n0_ : Aside0 (w9.heap[gb195]? = some (.cells #[.bool false, .int .i64 0, .int .i64 0, .int .u64 0] 59 (0, 0))) := ⟨by rw [← hq_]; exact (bk_ BK195.out)⟩; have n1_ : Aside0 (Below w.heap.size w w9) := ⟨by rw [← hq_]; exact (hb1_ HB.out GE195.out)⟩; clear BK195 HB hq_; have BK195 := n0_; have HB := n1_; clear n0_ n1_))) | ((with_reducible refine gate_callee (f := 84) rfl ?_); refine gl_ (some 16) Try.func84 #[.int .i64 a0, .int .u64 a1] ?_; (with_reducible refine (r2_Neg.calls k a0 a1 t198 _ A5.out).mono ?_); rintro e w' ⟨rfl, ⟨nd, rfl⟩⟩; refine ⟨_, rfl, ?_⟩; (try (rw [drewN_self w9]; generalize hq_ : World.drewN w9 _ = w9; have n0_ : Aside0 (w9.heap[gb195]? = some (.cells #[.bool false, .int .i64 0, .int .i64 0, .int .u64 0] 59 (0, 0))) := ⟨by rw [← hq_]; exact (bk_ BK195.out)⟩; have n1_ : Aside0 (Below w.heap.size w w9) := ⟨by rw [← hq_]; exact (hb1_ HB.out GE195.out)⟩; clear BK195 HB hq_; have BK195 := n0_; have HB := n1_; clear n0_ n1_))) | ((with_reducible refine gate_callee (f := 85) rfl ?_); refine gl_ (some 19) Try.func85 #[.int .i64 a0] ?_; (with_reducible refine (r2_Top.calls k a0 t199 _ A6.out).mono ?_); rintro e w' ⟨rfl, ⟨nd, rfl⟩⟩; refine ⟨_, rfl, ?_⟩; (try (rw [drewN_self w9]; generalize hq_ : World.drewN w9 _ = w9; have n0_ : Aside0 (w9.heap[gb195]? = some (.cells #[.bool false, .int .i64 0, .int .i64 0, .int .u64 0] 59 (0, 0))) := ⟨by rw [← hq_]; exact (bk_ BK195.out)⟩; have n1_ : Aside0 (Below w.heap.size w w9) := ⟨by rw [← hq_]; exact (hb1_ HB.out GE195.out)⟩; clear BK195 HB hq_; have BK195 := n0_; have HB := n1_; clear n0_ n1_)); have hcz10_0 : w9.cell? ⟨gb195, 0, none⟩ = some (.bool false) := bc_ BK195.out 0; have hcz10_1 : w9.cell? ⟨gb195, 1, none⟩ = some (.int .i64 0) := bc_ BK195.out 1; have hcz10_2 : w9.cell? ⟨gb195, 2, none⟩ = some (.int .i64 0) := bc_ BK195.out 2; have hcz10_3 : w9.cell? ⟨gb195, 3, none⟩ = some (.int .u64 0) := bc_ BK195.out 3; have hfz10_0 := blk_frozen BK195.out 0; have hfz10_1 := blk_frozen BK195.out 1; have hfz10_2 := blk_frozen BK195.out 2; have hfz10_3 := blk_frozen BK195.out 3))
   refine bodyPost_ret (results_cell_row rfl _ _ gb195 59 #[.bool t198, .int .i64 2, .int .i64 0, .int .u64 0] (0, 0) _ rfl (by (with_reducible repeat (first | refine blk_drewN ?_ _ | refine blk_drew ?_ | refine blk_alloc ?_ _)); refine blk_put (cs := #[.bool t198, .int .i64 2, .int .i64 0, .int .u64 0]) ?_ 3 _ rfl; (with_reducible repeat (first | refine blk_drewN ?_ _ | refine blk_drew ?_ | refine blk_alloc ?_ _)); refine blk_put (cs := #[.bool t198, .int .i64 2, .int .i64 0, .int .u64 0]) ?_ 2 _ rfl; (with_reducible repeat (first | refine blk_drewN ?_ _ | refine blk_drew ?_ | refine blk_alloc ?_ _)); refine blk_put (cs := #[.bool t198, .int .i64 0, .int .i64 0, .int .u64 0]) ?_ 1 _ rfl; (with_reducible repeat (first | refine blk_drewN ?_ _ | refine blk_drew ?_ | refine blk_alloc ?_ _)); refine blk_put (cs := #[.bool false, .int .i64 0, .int .i64 0, .int .u64 0]) ?_ 0 _ rfl; (with_reducible repeat (first | refine blk_drewN ?_ _ | refine blk_drew ?_ | refine blk_alloc ?_ _)); exact BK195.out) Try.underlying59 rfl (by kernel_rfl)) rfl ?_
   exact ⟨er_, hb1_ HB.out GE195.out⟩
  ·rw [if_neg c8] at H
   have c8b0 : (t197 == 0) = false := beq_eq_false_iff_ne.mpr c8
   have c8b1 : (t197 != 0) = true := bne_iff_ne.mpr c8
   simp only [Option.some.injEq, Prod.mk.injEq] at H
   obtain ⟨rfl, rfl, rfl, rfl⟩ := H
   go_enter Try.func59, Try.ntmps59
   go_wp2_with (first | ((with_reducible refine gate_dst (N := 4) rfl ?_); refine be_ 4 #[.bool false, .int .i64 0, .int .i64 0, .int .u64 0] 59 ?_; intro gb195 hg w11 hbox hb; have n0_ := A_ (below_step (hb_ HB.out) hb); have n1_ := A_ (hbox); have n2_ := A_ (sz_ hg (hb_ HB.out)); have n3_ := A_ (sz_ hg (hb_ HB.out)); clear HB; have HB := n0_; have BK195 := n1_; have GW195 := n2_; have GE195 := n3_; clear n0_ n1_ n2_ n3_; clear hb hbox hg) | ((with_reducible refine gate_callee (f := 83) rfl ?_); refine gl_ (some 10) Try.func83 #[.int .i64 a0, .int .u64 a1] ?_; (with_reducible refine (r2_Exp.calls k a0 a1 t196 _ A3.out).mono ?_); rintro e w' ⟨rfl, ⟨nd, rfl⟩⟩; refine ⟨_, rfl, ?_⟩; (try (rw [drewN_self w11]; generalize hq_ : World.drewN w11 _ = w11; have n0_ : Aside0 (w11.heap[gb195]? = some (.cells #[.bool false, .int .i64 0, .int .i64 0, .int .u64 0] 59 (0, 0))) := ⟨by rw [← hq_]; exact (bk_ BK195.out)⟩; have n1_ : Aside0 (Below w.heap.size w w11) := ⟨by rw [← hq_]; exact (hb1_ HB.out GE195.out)⟩; clear BK195 HB hq_; have BK195 := n0_; have HB := n1_; clear n0_ n1_))) | ((with_reducible refine gate_callee (f := 129) rfl ?_); refine gl_ (some 13) Try.func129 #[.int .i64 a0, .int .u64 a1] ?_; (with_reducible refine (r2_Frac.calls k a0 a1 t197 _ A4.out).mono ?_); rintro e w' ⟨rfl, ⟨nd, rfl⟩⟩; refine ⟨_, rfl, ?_⟩; (try (rw [drewN_self w11]; generalize hq_ : World.drewN w11 _ = w11; have n0_ : Aside0 (w11.heap[gb195]? = some (.cells #[.bool false, .int .i64 0, .int .i64 0, .int .u64 0] 59 (0, 0))) := ⟨by rw [← hq_]; exact (bk_ BK195.out)⟩; have n1_ : Aside0 (Below w.heap.size w w11) := ⟨by rw [← hq_]; exact (hb1_ HB.out GE195.out)⟩; clear BK195 HB hq_; have BK195 := n0_; have HB := n1_; clear n0_ n1_))) | ((with_reducible refine gate_callee (f := 84) rfl ?_); refine gl_ (some 16) Try.func84 #[.int .i64 a0, .int .u64 a1] ?_; (with_reducible refine (r2_Neg.calls k a0 a1 t198 _ A5.out).mono ?_); rintro e w' ⟨rfl, ⟨nd, rfl⟩⟩; refine ⟨_, rfl, ?_⟩; (try (rw [drewN_self w11]; generalize hq_ : World.drewN w11 _ = w11; have n0_ : Aside0 (w11.heap[gb195]? = some (.cells #[.bool false, .int .i64 0, .int .i64 0, .int .u64 0] 59 (0, 0))) := ⟨by rw [← hq_]; exact (bk_ BK195.out)⟩; have n1_ : Aside0 (Below w.heap.size w w11) := ⟨by rw [← hq_]; exact (hb1_ HB.out GE195.out)⟩; clear BK195 HB hq_; have BK195 := n0_; have HB := n1_; clear n0_ n1_))) | ((with_reducible refine gate_callee (f := 85) rfl ?_); refine gl_ (some 19) Try.func85 #[.int .i64 a0] ?_; (with_reducible refine (r2_Top.calls k a0 t199 _ A6.out).mono ?_); rintro e w' ⟨rfl, ⟨nd, rfl⟩⟩; refine ⟨_, rfl, ?_⟩; (try (rw [drewN_self w11]; generalize hq_ : World.drewN w11 _ = w11; have n0_ : Aside0 (w11.heap[gb195]? = some (.cells #[.bool false, .int .i64 0, .int .i64 0, .int .u64 0] 59 (0, 0))) := ⟨by rw [← hq_]; exact (bk_ BK195.out)⟩; have n1_ : Aside0 (Below w.heap.size w w11) := ⟨by rw [← hq_]; exact (hb1_ HB.out GE195.out)⟩; clear BK195 HB hq_; have BK195 := n0_; have HB := n1_; clear n0_ n1_)); have hcz12_0 : w11.cell? ⟨gb195, 0, none⟩ = some (.bool false) := bc_ BK195.out 0; have hcz12_1 : w11.cell? ⟨gb195, 1, none⟩ = some (.int .i64 0) := bc_ BK195.out 1; have hcz12_2 : w11.cell? ⟨gb195, 2, none⟩ = some (.int .i64 0) := bc_ BK195.out 2; have hcz12_3 : w11.cell? ⟨gb195, 3, none⟩ = some (.int .u64 0) := bc_ BK195.out 3; have hfz12_0 := blk_frozen BK195.out 0; have hfz12_1 := blk_frozen BK195.out 1; have hfz12_2 := blk_frozen BK195.out 2; have hfz12_3 := blk_frozen BK195.out 3))
   refine bodyPost_ret (results_cell_row rfl _ _ gb195 59 #[.bool false, .int .i64 3, .int .i64 0, .int .u64 0] (0, 0) _ rfl (by (with_reducible repeat (first | refine blk_drewN ?_ _ | refine blk_drew ?_ | refine blk_alloc ?_ _)); refine blk_put (cs := #[.bool false, .int .i64 3, .int .i64 0, .int .u64 0]) ?_ 3 _ rfl; (with_reducible repeat (first | refine blk_drewN ?_ _ | refine blk_drew ?_ | refine blk_alloc ?_ _)); refine blk_put (cs := #[.bool false, .int .i64 3, .int .i64 0, .int .u64 0]) ?_ 2 _ rfl; (with_reducible repeat (first | refine blk_drewN ?_ _ | refine blk_drew ?_ | refine blk_alloc ?_ _)); refine blk_put (cs := #[.bool false, .int .i64 0, .int .i64 0, .int .u64 0]) ?_ 1 _ rfl; (with_reducible repeat (first | refine blk_drewN ?_ _ | refine blk_drew ?_ | refine blk_alloc ?_ _)); refine blk_put (cs := #[.bool false, .int .i64 0, .int .i64 0, .int .u64 0]) ?_ 0 _ rfl; (with_reducible repeat (first | refine blk_drewN ?_ _ | refine blk_drew ?_ | refine blk_alloc ?_ _)); exact BK195.out) Try.underlying59 rfl (by kernel_rfl)) rfl ?_
   exact ⟨er_, hb1_ HB.out GE195.out⟩
 ·rw [if_neg c7] at H
  have c7b0 : (t196 == t199) = false := beq_eq_false_iff_ne.mpr c7
  have c7b1 : (t196 != t199) = true := bne_iff_ne.mpr c7
  by_cases c13 : t196 = 0
  ·rw [if_pos c13] at H
   have c13b0 : (t196 == 0) = true := beq_iff_eq.mpr c13
   have c13b1 : (t196 != 0) = false := bne_eq_false_iff_eq.mpr c13
   clear c13
   by_cases c14 : t197 = 0
   ·rw [if_pos c14] at H
    have c14b0 : (t197 == 0) = true := beq_iff_eq.mpr c14
    have c14b1 : (t197 != 0) = false := bne_eq_false_iff_eq.mpr c14
    clear c14
    simp only [Option.some.injEq, Prod.mk.injEq] at H
    obtain ⟨rfl, rfl, rfl, rfl⟩ := H
    go_enter Try.func59, Try.ntmps59
    go_wp2_with (first | ((with_reducible refine gate_dst (N := 4) rfl ?_); refine be_ 4 #[.bool false, .int .i64 0, .int .i64 0, .int .u64 0] 59 ?_; intro gb195 hg w15 hbox hb; have n0_ := A_ (below_step (hb_ HB.out) hb); have n1_ := A_ (hbox); have n2_ := A_ (sz_ hg (hb_ HB.out)); have n3_ := A_ (sz_ hg (hb_ HB.out)); clear HB; have HB := n0_; have BK195 := n1_; have GW195 := n2_; have GE195 := n3_; clear n0_ n1_ n2_ n3_; clear hb hbox hg) | ((with_reducible refine gate_callee (f := 83) rfl ?_); refine gl_ (some 10) Try.func83 #[.int .i64 a0, .int .u64 a1] ?_; (with_reducible refine (r2_Exp.calls k a0 a1 t196 _ A3.out).mono ?_); rintro e w' ⟨rfl, ⟨nd, rfl⟩⟩; refine ⟨_, rfl, ?_⟩; (try (rw [drewN_self w15]; generalize hq_ : World.drewN w15 _ = w15; have n0_ : Aside0 (w15.heap[gb195]? = some (.cells #[.bool false, .int .i64 0, .int .i64 0, .int .u64 0] 59 (0, 0))) := ⟨by rw [← hq_]; exact (bk_ BK195.out)⟩; have n1_ : Aside0 (Below w.heap.size w w15) := ⟨by rw [← hq_]; exact (hb1_ HB.out GE195.out)⟩; clear BK195 HB hq_; have BK195 := n0_; have HB := n1_; clear n0_ n1_))) | ((with_reducible refine gate_callee (f := 129) rfl ?_); refine gl_ (some 13) Try.func129 #[.int .i64 a0, .int .u64 a1] ?_; (with_reducible refine (r2_Frac.calls k a0 a1 t197 _ A4.out).mono ?_); rintro e w' ⟨rfl, ⟨nd, rfl⟩⟩; refine ⟨_, rfl, ?_⟩; (try (rw [drewN_self w15]; generalize hq_ : World.drewN w15 _ = w15; have n0_ : Aside0 (w15.heap[gb195]? = some (.cells #[.bool false, .int .i64 0, .int .i64 0, .int .u64 0] 59 (0, 0))) := ⟨by rw [← hq_]; exact (bk_ BK195.out)⟩; have n1_ : Aside0 (Below w.heap.size w w15) := ⟨by rw [← hq_]; exact (hb1_ HB.out GE195.out)⟩; clear BK195 HB hq_; have BK195 := n0_; have HB := n1_; clear n0_ n1_))) | ((with_reducible refine gate_callee (f := 84) rfl ?_); refine gl_ (some 16) Try.func84 #[.int .i64 a0, .int .u64 a1] ?_; (with_reducible refine (r2_Neg.calls k a0 a1 t198 _ A5.out).mono ?_); rintro e w' ⟨rfl, ⟨nd, rfl⟩⟩; refine ⟨_, rfl, ?_⟩; (try (rw [drewN_self w15]; generalize hq_ : World.drewN w15 _ = w15; have n0_ : Aside0 (w15.heap[gb195]? = some (.cells #[.bool false, .int .i64 0, .int .i64 0, .int .u64 0] 59 (0, 0))) := ⟨by rw [← hq_]; exact (bk_ BK195.out)⟩; have n1_ : Aside0 (Below w.heap.size w w15) := ⟨by rw [← hq_]; exact (hb1_ HB.out GE195.out)⟩; clear BK195 HB hq_; have BK195 := n0_; have HB := n1_; clear n0_ n1_))) | ((with_reducible refine gate_callee (f := 85) rfl ?_); refine gl_ (some 19) Try.func85 #[.int .i64 a0] ?_; (with_reducible refine (r2_Top.calls k a0 t199 _ A6.out).mono ?_); rintro e w' ⟨rfl, ⟨nd, rfl⟩⟩; refine ⟨_, rfl, ?_⟩; (try (rw [drewN_self w15]; generalize hq_ : World.drewN w15 _ = w15; have n0_ : Aside0 (w15.heap[gb195]? = some (.cells #[.bool false, .int .i64 0, .int .i64 0, .int .u64 0] 59 (0, 0))) := ⟨by rw [← hq_]; exact (bk_ BK195.out)⟩; have n1_ : Aside0 (Below w.heap.size w w15) := ⟨by rw [← hq_]; exact (hb1_ HB.out GE195.out)⟩; clear BK195 HB hq_; have BK195 := n0_; have HB := n1_; clear n0_ n1_)); have hcz16_0 : w15.cell? ⟨gb195, 0, none⟩ = some (.bool false) := bc_ BK195.out 0; have hcz16_1 : w15.cell? ⟨gb195, 1, none⟩ = some (.int .i64 0) := bc_ BK195.out 1; have hcz16_2 : w15.cell? ⟨gb195, 2, none⟩ = some (.int .i64 0) := bc_ BK195.out 2; have hcz16_3 : w15.cell? ⟨gb195, 3, none⟩ = some (.int .u64 0) := bc_ BK195.out 3; have hfz16_0 := blk_frozen BK195.out 0; have hfz16_1 := blk_frozen BK195.out 1; have hfz16_2 := blk_frozen BK195.out 2; have hfz16_3 := blk_frozen BK195.out 3))
    refine bodyPost_ret (results_cell_row rfl _ _ gb195 59 #[.bool t198, .int .i64 0, .int .i64 0, .int .u64 0] (0, 0) _ rfl (by (with_reducible repeat (first | refine blk_drewN ?_ _ | refine blk_drew ?_ | refine blk_alloc ?_ _)); refine blk_put (cs := #[.bool t198, .int .i64 0, .int .i64 0, .int .u64 0]) ?_ 3 _ rfl; (with_reducible repeat (first | refine blk_drewN ?_ _ | refine blk_drew ?_ | refine blk_alloc ?_ _)); refine blk_put (cs := #[.bool t198, .int .i64 0, .int .i64 0, .int .u64 0]) ?_ 2 _ rfl; (with_reducible repeat (first | refine blk_drewN ?_ _ | refine blk_drew ?_ | refine blk_alloc ?_ _)); refine blk_put (cs := #[.bool t198, .int .i64 0, .int .i64 0, .int .u64 0]) ?_ 1 _ rfl; (with_reducible repeat (first | refine blk_drewN ?_ _ | refine blk_drew ?_ | refine blk_alloc ?_ _)); refine blk_put (cs := #[.bool false, .int .i64 0, .int .i64 0, .int .u64 0]) ?_ 0 _ rfl; (with_reducible repeat (first | refine blk_drewN ?_ _ | refine blk_drew ?_ | refine blk_alloc ?_ _)); exact BK195.out) Try.underlying59 rfl (by kernel_rfl)) rfl ?_
    exact ⟨er_, hb1_ HB.out GE195.out⟩
   ·rw [if_neg c14] at H
    have c14b0 : (t197 == 0) = false := beq_eq_false_iff_ne.mpr c14
    have c14b1 : (t197 != 0) = true := bne_iff_ne.mpr c14
    replace H := ob_ H
    obtain ⟨t200, A170, H⟩ := H
    replace H : ((r2_F.f a0).bind fun t201 => (some (t198, 1, wrap64 ((wrap64 (1 - t200)) - t201), t197))) = some (r1, r2, r3, r4) := H
    have A17 := A_ A170;clear A170
    replace H := ob_ H
    obtain ⟨t201, A180, H⟩ := H
    replace H : (some (t198, 1, wrap64 ((wrap64 (1 - t200)) - t201), t197)) = some (r1, r2, r3, r4) := H
    have A18 := A_ A180;clear A180
    simp only [Option.some.injEq, Prod.mk.injEq] at H
    obtain ⟨rfl, rfl, rfl, rfl⟩ := H
    go_enter Try.func59, Try.ntmps59
    go_wp2_with (first | ((with_reducible refine gate_dst (N := 4) rfl ?_); refine be_ 4 #[.bool false, .int .i64 0, .int .i64 0, .int .u64 0] 59 ?_; intro gb195 hg w19 hbox hb; have n0_ := A_ (below_step (hb_ HB.out) hb); have n1_ := A_ (hbox); have n2_ := A_ (sz_ hg (hb_ HB.out)); have n3_ := A_ (sz_ hg (hb_ HB.out)); clear HB; have HB := n0_; have BK195 := n1_; have GW195 := n2_; have GE195 := n3_; clear n0_ n1_ n2_ n3_; clear hb hbox hg) | ((with_reducible refine gate_callee (f := 83) rfl ?_); refine gl_ (some 10) Try.func83 #[.int .i64 a0, .int .u64 a1] ?_; (with_reducible refine (r2_Exp.calls k a0 a1 t196 _ A3.out).mono ?_); rintro e w' ⟨rfl, ⟨nd, rfl⟩⟩; refine ⟨_, rfl, ?_⟩; (try (rw [drewN_self w19]; generalize hq_ : World.drewN w19 _ = w19; have n0_ : Aside0 (w19.heap[gb195]? = some (.cells #[.bool false, .int .i64 0, .int .i64 0, .int .u64 0] 59 (0, 0))) := ⟨by rw [← hq_]; exact (bk_ BK195.out)⟩; have n1_ : Aside0 (Below w.heap.size w w19) := ⟨by rw [← hq_]; exact (hb1_ HB.out GE195.out)⟩; clear BK195 HB hq_; have BK195 := n0_; have HB := n1_; clear n0_ n1_))) | ((with_reducible refine gate_callee (f := 129) rfl ?_); refine gl_ (some 13) Try.func129 #[.int .i64 a0, .int .u64 a1] ?_; (with_reducible refine (r2_Frac.calls k a0 a1 t197 _ A4.out).mono ?_); rintro e w' ⟨rfl, ⟨nd, rfl⟩⟩; refine ⟨_, rfl, ?_⟩; (try (rw [drewN_self w19]; generalize hq_ : World.drewN w19 _ = w19; have n0_ : Aside0 (w19.heap[gb195]? = some (.cells #[.bool false, .int .i64 0, .int .i64 0, .int .u64 0] 59 (0, 0))) := ⟨by rw [← hq_]; exact (bk_ BK195.out)⟩; have n1_ : Aside0 (Below w.heap.size w w19) := ⟨by rw [← hq_]; exact (hb1_ HB.out GE195.out)⟩; clear BK195 HB hq_; have BK195 := n0_; have HB := n1_; clear n0_ n1_))) | ((with_reducible refine gate_callee (f := 84) rfl ?_); refine gl_ (some 16) Try.func84 #[.int .i64 a0, .int .u64 a1] ?_; (with_reducible refine (r2_Neg.calls k a0 a1 t198 _ A5.out).mono ?_); rintro e w' ⟨rfl, ⟨nd, rfl⟩⟩; refine ⟨_, rfl, ?_⟩; (try (rw [drewN_self w19]; generalize hq_ : World.drewN w19 _ = w19; have n0_ : Aside0 (w19.heap[gb195]? = some (.cells #[.bool false, .int .i64 0, .int .i64 0, .int .u64 0] 59 (0, 0))) := ⟨by rw [← hq_]; exact (bk_ BK195.out)⟩; have n1_ : Aside0 (Below w.heap.size w w19) := ⟨by rw [← hq_]; exact (hb1_ HB.out GE195.out)⟩; clear BK195 HB hq_; have BK195 := n0_; have HB := n1_; clear n0_ n1_))) | ((with_reducible refine gate_callee (f := 85) rfl ?_); refine gl_ (some 19) Try.func85 #[.int .i64 a0] ?_; (with_reducible refine (r2_Top.calls k a0 t199 _ A6.out).mono ?_); rintro e w' ⟨rfl, ⟨nd, rfl⟩⟩; refine ⟨_, rfl, ?_⟩; (try (rw [drewN_self w19]; generalize hq_ : World.drewN w19 _ = w19; have n0_ : Aside0 (w19.heap[gb195]? = some (.cells #[.bool false, .int .i64 0, .int .i64 0, .int .u64 0] 59 (0, 0))) := ⟨by rw [← hq_]; exact (bk_ BK195.out)⟩; have n1_ : Aside0 (Below w.heap.size w w19) := ⟨by rw [← hq_]; exact (hb1_ HB.out GE195.out)⟩; clear BK195 HB hq_; have BK195 := n0_; have HB := n1_; clear n0_ n1_))) | ((with_reducible refine gate_callee (f := 94) rfl ?_); refine gl_ (some 34) Try.func94 #[.int .i64 a0] ?_; (with_reducible refine (r2_B.calls a0 t200 _ A17.out).mono ?_); rintro e w' ⟨rfl, ⟨nd, rfl⟩⟩; refine ⟨_, rfl, ?_⟩; (try (rw [drewN_self w19]; generalize hq_ : World.drewN w19 _ = w19; have n0_ : Aside0 (w19.heap[gb195]? = some (.cells #[.bool false, .int .i64 0, .int .i64 0, .int .u64 0] 59 (0, 0))) := ⟨by rw [← hq_]; exact (bk_ BK195.out)⟩; have n1_ : Aside0 (Below w.heap.size w w19) := ⟨by rw [← hq_]; exact (hb1_ HB.out GE195.out)⟩; clear BK195 HB hq_; have BK195 := n0_; have HB := n1_; clear n0_ n1_))) | ((with_reducible refine gate_callee (f := 130) rfl ?_); refine gl_ (some 37) Try.func130 #[.int .i64 a0] ?_; (with_reducible refine (r2_F.calls a0 t201 _ A18.out).mono ?_); rintro e w' ⟨rfl, ⟨nd, rfl⟩⟩; refine ⟨_, rfl, ?_⟩; (try (rw [drewN_self w19]; generalize hq_ : World.drewN w19 _ = w19; have n0_ : Aside0 (w19.heap[gb195]? = some (.cells #[.bool false, .int .i64 0, .int .i64 0, .int .u64 0] 59 (0, 0))) := ⟨by rw [← hq_]; exact (bk_ BK195.out)⟩; have n1_ : Aside0 (Below w.heap.size w w19) := ⟨by rw [← hq_]; exact (hb1_ HB.out GE195.out)⟩; clear BK195 HB hq_; have BK195 := n0_; have HB := n1_; clear n0_ n1_)); have hcz20_0 : w19.cell? ⟨gb195, 0, none⟩ = some (.bool false) := bc_ BK195.out 0; have hcz20_1 : w19.cell? ⟨gb195, 1, none⟩ = some (.int .i64 0) := bc_ BK195.out 1; have hcz20_2 : w19.cell? ⟨gb195, 2, none⟩ = some (.int .i64 0) := bc_ BK195.out 2; have hcz20_3 : w19.cell? ⟨gb195, 3, none⟩ = some (.int .u64 0) := bc_ BK195.out 3; have hfz20_0 := blk_frozen BK195.out 0; have hfz20_1 := blk_frozen BK195.out 1; have hfz20_2 := blk_frozen BK195.out 2; have hfz20_3 := blk_frozen BK195.out 3))
    refine bodyPost_ret (results_cell_row rfl _ _ gb195 59 #[.bool t198, .int .i64 1, .int .i64 (wrap64 ((wrap64 (1 - t200)) - t201)), .int .u64 t197] (0, 0) _ rfl (by (with_reducible repeat (first | refine blk_drewN ?_ _ | refine blk_drew ?_ | refine blk_alloc ?_ _)); refine blk_put (cs := #[.bool t198, .int .i64 1, .int .i64 (wrap64 ((wrap64 (1 - t200)) - t201)), .int .u64 0]) ?_ 3 _ rfl; (with_reducible repeat (first | refine blk_drewN ?_ _ | refine blk_drew ?_ | refine blk_alloc ?_ _)); refine blk_put (cs := #[.bool t198, .int .i64 1, .int .i64 0, .int .u64 0]) ?_ 2 _ rfl; (with_reducible repeat (first | refine blk_drewN ?_ _ | refine blk_drew ?_ | refine blk_alloc ?_ _)); refine blk_put (cs := #[.bool t198, .int .i64 0, .int .i64 0, .int .u64 0]) ?_ 1 _ rfl; (with_reducible repeat (first | refine blk_drewN ?_ _ | refine blk_drew ?_ | refine blk_alloc ?_ _)); refine blk_put (cs := #[.bool false, .int .i64 0, .int .i64 0, .int .u64 0]) ?_ 0 _ rfl; (with_reducible repeat (first | refine blk_drewN ?_ _ | refine blk_drew ?_ | refine blk_alloc ?_ _)); exact BK195.out) Try.underlying59 rfl (by kernel_rfl)) rfl ?_
    exact ⟨er_, hb1_ HB.out GE195.out⟩
  ·rw [if_neg c13] at H
   have c13b0 : (t196 == 0) = false := beq_eq_false_iff_ne.mpr c13
   have c13b1 : (t196 != 0) = true := bne_iff_ne.mpr c13
   replace H := ob_ H
   obtain ⟨t202, A210, H⟩ := H
   replace H : ((r2_F.f a0).bind fun t203 => ((r2_F.f a0).bind fun t204 => ((r2_Two.f k t204).bind fun t205 => (some (t198, 1, wrap64 ((wrap64 (t196 - t202)) - t203), IntKind.u64.wrap (t205 + t197)))))) = some (r1, r2, r3, r4) := H
   have A21 := A_ A210;clear A210
   replace H := ob_ H
   obtain ⟨t203, A220, H⟩ := H
   replace H : ((r2_F.f a0).bind fun t204 => ((r2_Two.f k t204).bind fun t205 => (some (t198, 1, wrap64 ((wrap64 (t196 - t202)) - t203), IntKind.u64.wrap (t205 + t197))))) = some (r1, r2, r3, r4) := H
   have A22 := A_ A220;clear A220
   replace H := ob_ H
   obtain ⟨t204, A230, H⟩ := H
   replace H : ((r2_Two.f k t204).bind fun t205 => (some (t198, 1, wrap64 ((wrap64 (t196 - t202)) - t203), IntKind.u64.wrap (t205 + t197)))) = some (r1, r2, r3, r4) := H
   have A23 := A_ A230;clear A230
   replace H := ob_ H
   obtain ⟨t205, A240, H⟩ := H
   replace H : (some (t198, 1, wrap64 ((wrap64 (t196 - t202)) - t203), IntKind.u64.wrap (t205 + t197))) = some (r1, r2, r3, r4) := H
   have A24 := A_ A240;clear A240
   simp only [Option.some.injEq, Prod.mk.injEq] at H
   obtain ⟨rfl, rfl, rfl, rfl⟩ := H
   go_enter Try.func59, Try.ntmps59
   go_wp2_with (first | ((with_reducible refine gate_dst (N := 4) rfl ?_); refine be_ 4 #[.bool false, .int .i64 0, .int .i64 0, .int .u64 0] 59 ?_; intro gb195 hg w25 hbox hb; have n0_ := A_ (below_step (hb_ HB.out) hb); have n1_ := A_ (hbox); have n2_ := A_ (sz_ hg (hb_ HB.out)); have n3_ := A_ (sz_ hg (hb_ HB.out)); clear HB; have HB := n0_; have BK195 := n1_; have GW195 := n2_; have GE195 := n3_; clear n0_ n1_ n2_ n3_; clear hb hbox hg) | ((with_reducible refine gate_callee (f := 83) rfl ?_); refine gl_ (some 10) Try.func83 #[.int .i64 a0, .int .u64 a1] ?_; (with_reducible refine (r2_Exp.calls k a0 a1 t196 _ A3.out).mono ?_); rintro e w' ⟨rfl, ⟨nd, rfl⟩⟩; refine ⟨_, rfl, ?_⟩; (try (rw [drewN_self w25]; generalize hq_ : World.drewN w25 _ = w25; have n0_ : Aside0 (w25.heap[gb195]? = some (.cells #[.bool false, .int .i64 0, .int .i64 0, .int .u64 0] 59 (0, 0))) := ⟨by rw [← hq_]; exact (bk_ BK195.out)⟩; have n1_ : Aside0 (Below w.heap.size w w25) := ⟨by rw [← hq_]; exact (hb1_ HB.out GE195.out)⟩; clear BK195 HB hq_; have BK195 := n0_; have HB := n1_; clear n0_ n1_))) | ((with_reducible refine gate_callee (f := 129) rfl ?_); refine gl_ (some 13) Try.func129 #[.int .i64 a0, .int .u64 a1] ?_; (with_reducible refine (r2_Frac.calls k a0 a1 t197 _ A4.out).mono ?_); rintro e w' ⟨rfl, ⟨nd, rfl⟩⟩; refine ⟨_, rfl, ?_⟩; (try (rw [drewN_self w25]; generalize hq_ : World.drewN w25 _ = w25; have n0_ : Aside0 (w25.heap[gb195]? = some (.cells #[.bool false, .int .i64 0, .int .i64 0, .int .u64 0] 59 (0, 0))) := ⟨by rw [← hq_]; exact (bk_ BK195.out)⟩; have n1_ : Aside0 (Below w.heap.size w w25) := ⟨by rw [← hq_]; exact (hb1_ HB.out GE195.out)⟩; clear BK195 HB hq_; have BK195 := n0_; have HB := n1_; clear n0_ n1_))) | ((with_reducible refine gate_callee (f := 84) rfl ?_); refine gl_ (some 16) Try.func84 #[.int .i64 a0, .int .u64 a1] ?_; (with_reducible refine (r2_Neg.calls k a0 a1 t198 _ A5.out).mono ?_); rintro e w' ⟨rfl, ⟨nd, rfl⟩⟩; refine ⟨_, rfl, ?_⟩; (try (rw [drewN_self w25]; generalize hq_ : World.drewN w25 _ = w25; have n0_ : Aside0 (w25.heap[gb195]? = some (.cells #[.bool false, .int .i64 0, .int .i64 0, .int .u64 0] 59 (0, 0))) := ⟨by rw [← hq_]; exact (bk_ BK195.out)⟩; have n1_ : Aside0 (Below w.heap.size w w25) := ⟨by rw [← hq_]; exact (hb1_ HB.out GE195.out)⟩; clear BK195 HB hq_; have BK195 := n0_; have HB := n1_; clear n0_ n1_))) | ((with_reducible refine gate_callee (f := 85) rfl ?_); refine gl_ (some 19) Try.func85 #[.int .i64 a0] ?_; (with_reducible refine (r2_Top.calls k a0 t199 _ A6.out).mono ?_); rintro e w' ⟨rfl, ⟨nd, rfl⟩⟩; refine ⟨_, rfl, ?_⟩; (try (rw [drewN_self w25]; generalize hq_ : World.drewN w25 _ = w25; have n0_ : Aside0 (w25.heap[gb195]? = some (.cells #[.bool false, .int .i64 0, .int .i64 0, .int .u64 0] 59 (0, 0))) := ⟨by rw [← hq_]; exact (bk_ BK195.out)⟩; have n1_ : Aside0 (Below w.heap.size w w25) := ⟨by rw [← hq_]; exact (hb1_ HB.out GE195.out)⟩; clear BK195 HB hq_; have BK195 := n0_; have HB := n1_; clear n0_ n1_))) | ((with_reducible refine gate_callee (f := 94) rfl ?_); refine gl_ (some 44) Try.func94 #[.int .i64 a0] ?_; (with_reducible refine (r2_B.calls a0 t202 _ A21.out).mono ?_); rintro e w' ⟨rfl, ⟨nd, rfl⟩⟩; refine ⟨_, rfl, ?_⟩; (try (rw [drewN_self w25]; generalize hq_ : World.drewN w25 _ = w25; have n0_ : Aside0 (w25.heap[gb195]? = some (.cells #[.bool false, .int .i64 0, .int .i64 0, .int .u64 0] 59 (0, 0))) := ⟨by rw [← hq_]; exact (bk_ BK195.out)⟩; have n1_ : Aside0 (Below w.heap.size w w25) := ⟨by rw [← hq_]; exact (hb1_ HB.out GE195.out)⟩; clear BK195 HB hq_; have BK195 := n0_; have HB := n1_; clear n0_ n1_))) | ((with_reducible refine gate_callee (f := 130) rfl ?_); refine gl_ (some 47) Try.func130 #[.int .i64 a0] ?_; (with_reducible refine (r2_F.calls a0 t203 _ A22.out).mono ?_); rintro e w' ⟨rfl, ⟨nd, rfl⟩⟩; refine ⟨_, rfl, ?_⟩; (try (rw [drewN_self w25]; generalize hq_ : World.drewN w25 _ = w25; have n0_ : Aside0 (w25.heap[gb195]? = some (.cells #[.bool false, .int .i64 0, .int .i64 0, .int .u64 0] 59 (0, 0))) := ⟨by rw [← hq_]; exact (bk_ BK195.out)⟩; have n1_ : Aside0 (Below w.heap.size w w25) := ⟨by rw [← hq_]; exact (hb1_ HB.out GE195.out)⟩; clear BK195 HB hq_; have BK195 := n0_; have HB := n1_; clear n0_ n1_))) | ((with_reducible refine gate_callee (f := 130) rfl ?_); refine gl_ (some 50) Try.func130 #[.int .i64 a0] ?_; (with_reducible refine (r2_F.calls a0 t204 _ A23.out).mono ?_); rintro e w' ⟨rfl, ⟨nd, rfl⟩⟩; refine ⟨_, rfl, ?_⟩; (try (rw [drewN_self w25]; generalize hq_ : World.drewN w25 _ = w25; have n0_ : Aside0 (w25.heap[gb195]? = some (.cells #[.bool false, .int .i64 0, .int .i64 0, .int .u64 0] 59 (0, 0))) := ⟨by rw [← hq_]; exact (bk_ BK195.out)⟩; have n1_ : Aside0 (Below w.heap.size w w25) := ⟨by rw [← hq_]; exact (hb1_ HB.out GE195.out)⟩; clear BK195 HB hq_; have BK195 := n0_; have HB := n1_; clear n0_ n1_))) | ((with_reducible refine gate_callee (f := 99) rfl ?_); refine gl_ (some 51) Try.func99 #[.int .i64 t204] ?_; (with_reducible refine (r2_Two.calls k t204 t205 _ A24.out).mono ?_); rintro e w' ⟨rfl, ⟨nd, rfl⟩⟩; refine ⟨_, rfl, ?_⟩; (try (rw [drewN_self w25]; generalize hq_ : World.drewN w25 _ = w25; have n0_ : Aside0 (w25.heap[gb195]? = some (.cells #[.bool false, .int .i64 0, .int .i64 0, .int .u64 0] 59 (0, 0))) := ⟨by rw [← hq_]; exact (bk_ BK195.out)⟩; have n1_ : Aside0 (Below w.heap.size w w25) := ⟨by rw [← hq_]; exact (hb1_ HB.out GE195.out)⟩; clear BK195 HB hq_; have BK195 := n0_; have HB := n1_; clear n0_ n1_)); have hcz26_0 : w25.cell? ⟨gb195, 0, none⟩ = some (.bool false) := bc_ BK195.out 0; have hcz26_1 : w25.cell? ⟨gb195, 1, none⟩ = some (.int .i64 0) := bc_ BK195.out 1; have hcz26_2 : w25.cell? ⟨gb195, 2, none⟩ = some (.int .i64 0) := bc_ BK195.out 2; have hcz26_3 : w25.cell? ⟨gb195, 3, none⟩ = some (.int .u64 0) := bc_ BK195.out 3; have hfz26_0 := blk_frozen BK195.out 0; have hfz26_1 := blk_frozen BK195.out 1; have hfz26_2 := blk_frozen BK195.out 2; have hfz26_3 := blk_frozen BK195.out 3))
   refine bodyPost_ret (results_cell_row rfl _ _ gb195 59 #[.bool t198, .int .i64 1, .int .i64 (wrap64 ((wrap64 (t196 - t202)) - t203)), .int .u64 (IntKind.u64.wrap (t205 + t197))] (0, 0) _ rfl (by (with_reducible repeat (first | refine blk_drewN ?_ _ | refine blk_drew ?_ | refine blk_alloc ?_ _)); refine blk_put (cs := #[.bool t198, .int .i64 1, .int .i64 (wrap64 ((wrap64 (t196 - t202)) - t203)), .int .u64 0]) ?_ 3 _ rfl; (with_reducible repeat (first | refine blk_drewN ?_ _ | refine blk_drew ?_ | refine blk_alloc ?_ _)); refine blk_put (cs := #[.bool t198, .int .i64 1, .int .i64 0, .int .u64 0]) ?_ 2 _ rfl; (with_reducible repeat (first | refine blk_drewN ?_ _ | refine blk_drew ?_ | refine blk_alloc ?_ _)); refine blk_put (cs := #[.bool t198, .int .i64 0, .int .i64 0, .int .u64 0]) ?_ 1 _ rfl; (with_reducible repeat (first | refine blk_drewN ?_ _ | refine blk_drew ?_ | refine blk_alloc ?_ _)); refine blk_put (cs := #[.bool false, .int .i64 0, .int .i64 0, .int .u64 0]) ?_ 0 _ rfl; (with_reducible repeat (first | refine blk_drewN ?_ _ | refine blk_drew ?_ | refine blk_alloc ?_ _)); exact BK195.out) Try.underlying59 rfl (by kernel_rfl)) rfl ?_
   exact ⟨er_, hb1_ HB.out GE195.out⟩
def r1_Div.l0 : Nat → Int → List Int → List Int → List Int → Option (List Int × List Int)
 | 0, _, _, _, _ => none
 | k + 1, x8, x252000, x255000, x256000 => if x8 ≥ 0 then ((r1_Shl.f k x252000 x8).bind fun t258 => ((r1_Cmp.f k x256000 t258).bind fun t262 => (if t262 ≥ 0 then ((r1_Sub.f k x256000 t258).bind fun t263 => ((r1_Of.f k 1).bind fun t266 => ((r1_Shl.f k t266 x8).bind fun t269 => ((r1_Add.f k x255000 t269).bind fun t272 => (r1_Div.l0 k (wrap64 (x8 - 1)) x252000 t272 t263))))) else (r1_Div.l0 k (wrap64 (x8 - 1)) x252000 x255000 x256000)))) else (some (x255000, x256000))
def r1_Div.f (k : Nat) (l0_0 : List Int) (l1_0 : List Int) : Option (List Int × List Int) := (r1_Len.f k l0_0).bind fun t256 => ((r1_Len.f k l1_0).bind fun t257 => (r1_Div.l0 k (wrap64 (t256 - t257)) l1_0 ([] : List Int) l0_0))
theorem r1_Div.mono_l : ∀ k, (∀ y0 y1 y2 y3, LeO (r1_Div.l0 k y0 y1 y2 y3) (r1_Div.l0 (k + 1) y0 y1 y2 y3))
 | 0 => fun _ _ _ _ r h => by simp [r1_Div.l0] at h
 | k + 1 => by
  have ih0 := r1_Div.mono_l k
  ·intro y0 y1 y2 y3
   unfold r1_Div.l0
   repeat' first
   | (with_reducible exact ih0 _ _ _ _)
   | (with_reducible exact r1_Add.mono _ _ _)
   | (with_reducible exact r1_Cmp.mono _ _ _)
   | (with_reducible exact r1_Len.mono _ _)
   | (with_reducible exact r1_Of.mono _ _)
   | (with_reducible exact r1_Shl.mono _ _ _)
   | (with_reducible exact r1_Sub.mono _ _ _)
   | (with_reducible exact LeO.refl _)
   | (with_reducible exact LeO.none _)
   | (with_reducible refine LeO.ite ?_ ?_)
   | (with_reducible refine LeO.bind ?_ (fun _ => ?_))
   | exact ih0 _ _ _ _
   | exact r1_Add.mono _ _ _
   | exact r1_Cmp.mono _ _ _
   | exact r1_Len.mono _ _
   | exact r1_Of.mono _ _
   | exact r1_Shl.mono _ _ _
   | exact r1_Sub.mono _ _ _
   | exact LeO.none _
   | refine LeO.ite ?_ ?_
   | refine LeO.bind ?_ (fun _ => ?_)
theorem r1_Div.mono : ∀ a0 a1 k, LeO (r1_Div.f k a0 a1) (r1_Div.f (k + 1) a0 a1) := by
 intro a0 a1 k
 have ih0 := r1_Div.mono_l k
 unfold r1_Div.f
 repeat' first
   | (with_reducible exact ih0 _ _ _ _)
   | (with_reducible exact r1_Add.mono _ _ _)
   | (with_reducible exact r1_Cmp.mono _ _ _)
   | (with_reducible exact r1_Len.mono _ _)
   | (with_reducible exact r1_Of.mono _ _)
   | (with_reducible exact r1_Shl.mono _ _ _)
   | (with_reducible exact r1_Sub.mono _ _ _)
   | (with_reducible exact LeO.refl _)
   | (with_reducible exact LeO.none _)
   | (with_reducible refine LeO.ite ?_ ?_)
   | (with_reducible refine LeO.bind ?_ (fun _ => ?_))
   | exact ih0 _ _ _ _
   | exact r1_Add.mono _ _ _
   | exact r1_Cmp.mono _ _ _
   | exact r1_Len.mono _ _
   | exact r1_Of.mono _ _
   | exact r1_Shl.mono _ _ _
   | exact r1_Sub.mono _ _ _
   | exact LeO.none _
   | refine LeO.ite ?_ ?_
   | refine LeO.bind ?_ (fun _ => ?_)
-- IMPORT Derived.Deep.RegionHeld3
-- IMPORT Derived.Test.YtgcgheilbngcoaaNr
theorem Nr.len (k : Nat) (v : Value) (l : List Int) (r : Int) (w : World) (n : Nr.Nr w v l) (h : r1_Len.f k l = some r) : Calls Try.prog 156 #[.agg #[v]] w fun e w' => e = .returned (.int .i64 r) ∧ Below w.heap.size w w' := by
 obtain ⟨A, c, rfl, hc, hC⟩ := n
 exact r1_Len.calls k A c l r w hC hc h
theorem Nr.cmp (k : Nat) (v v1 : Value) (l l1 : List Int) (r : Int) (w : World) (n : Nr.Nr w v l) (n1 : Nr.Nr w v1 l1) (h : r1_Cmp.f k l l1 = some r) : Calls Try.prog 100 #[.agg #[v], .agg #[v1]] w fun e w' => e = .returned (.int .i64 r) ∧ Below w.heap.size w w' := by
 obtain ⟨A, c, rfl, hc, hC⟩ := n
 obtain ⟨A1, c1, rfl, hc1, hC1⟩ := n1
 exact r1_Cmp.calls k A c l A1 c1 l1 r w hC hc hC1 hc1 h
theorem Nr.outR {f : Nat} {xs : Array Value} {w : World} {r : List Int} (h : Calls Try.prog f xs w fun e w' => ∃ v0_ : Value, e = .returned (.agg #[v0_]) ∧ Kd.R (Kd.int .u64) 24 w' w.heap.size (fun _ => True) v0_ r ∧ Below w.heap.size w w') : Calls Try.prog f xs w fun e w' => ∃ A c, e = .returned (.agg #[.slice A r.length c]) ∧ Nr.Ow 24 w.heap.size w' (.slice A r.length c) r ∧ Below w.heap.size w w' := by
 refine h.mono ?_
 rintro e w' ⟨v0, rfl, hR, hb⟩
 obtain ⟨A, c, rfl, _⟩ := Nr.Nr.of_R hR
 exact ⟨A, c, rfl, Nr.Ow.of_R hR (Nat.le_refl _), hb⟩
theorem Nr.shl (k : Nat) (v : Value) (l : List Int) (a : Int) (r : List Int) (w : World) (n : Nr.Nr w v l) (h : r1_Shl.f k l a = some r) : Calls Try.prog 103 #[.agg #[v], .int .i64 a] w fun e w' => ∃ A c, e = .returned (.agg #[.slice A r.length c]) ∧ Nr.Ow 24 w.heap.size w' (.slice A r.length c) r ∧ Below w.heap.size w w' := by
 obtain ⟨A, c, rfl, hc, hC⟩ := n
 exact Nr.outR (r1_Shl.calls k A c l a r w hC hc h)
theorem Nr.sub (k : Nat) (v v1 : Value) (l l1 : List Int) (r : List Int) (w : World) (n : Nr.Nr w v l) (n1 : Nr.Nr w v1 l1) (h : r1_Sub.f k l l1 = some r) : Calls Try.prog 165 #[.agg #[v], .agg #[v1]] w fun e w' => ∃ A c, e = .returned (.agg #[.slice A r.length c]) ∧ Nr.Ow 24 w.heap.size w' (.slice A r.length c) r ∧ Below w.heap.size w w' := by
 obtain ⟨A, c, rfl, hc, hC⟩ := n
 obtain ⟨A1, c1, rfl, hc1, hC1⟩ := n1
 exact Nr.outR (r1_Sub.calls k A c l A1 c1 l1 r w hC hc hC1 hc1 h)
theorem Nr.add (k : Nat) (v v1 : Value) (l l1 : List Int) (r : List Int) (w : World) (n : Nr.Nr w v l) (n1 : Nr.Nr w v1 l1) (h : r1_Add.f k l l1 = some r) : Calls Try.prog 110 #[.agg #[v], .agg #[v1]] w fun e w' => ∃ A c, e = .returned (.agg #[.slice A r.length c]) ∧ Nr.Ow 24 w.heap.size w' (.slice A r.length c) r ∧ Below w.heap.size w w' := by
 obtain ⟨A, c, rfl, hc, hC⟩ := n
 obtain ⟨A1, c1, rfl, hc1, hC1⟩ := n1
 exact Nr.outR (r1_Add.calls k A c l A1 c1 l1 r w hC hc hC1 hc1 h)
theorem Nr.of (k : Nat) (a : Int) (r : List Int) (w : World) (h : r1_Of.f k a = some r) : Calls Try.prog 46 #[.int .u64 a] w fun e w' => ∃ A c, e = .returned (.agg #[.slice A r.length c]) ∧ Nr.Ow 24 w.heap.size w' (.slice A r.length c) r ∧ Below w.heap.size w w' :=
 Nr.outR (r1_Of.calls k a r w h)
theorem Nr.lower {e b b' : Nat} {w : World} {v : Value} {l : List Int} (h : Nr.Ow e b w v l) (hb : b' ≤ b) : Nr.Ow e b' w v l := Nr.Ow.of_R h.out hb
theorem Nr.fresh {P : Nat → Prop} {e e' base : Nat} {w0 w1 : World} {vq vr : Value} {lq lr : List Int} (hq : Nr.Ow e base w0 vq lq) (hr : Nr.Ow e' w0.heap.size w1 vr lr) (hb : base ≤ w0.heap.size) : Nr.At (fun k => (P k ∨ base ≤ k) ∧ some k ≠ vq.ownBlock) vr :=
 (Nr.At.of_R hr.out).mono fun k hk => ⟨Or.inr (Nat.le_trans hb hk.1), fun e => Nat.lt_irrefl _ (Nat.lt_of_lt_of_le (Kd.R_lt hq.out k e.symm) hk.1)⟩
theorem Nr.atlt {w : World} {v : Value} {l : List Int} (h : Nr.Nr w v l) : Nr.At (fun k => k < w.heap.size) v := by
 obtain ⟨A, c, hv, hl, h1, h2, h3⟩ := h
 intro ad n c' e hn
 rw [hv] at e
 injection e with e1 e2 e3
 subst e2
 obtain ⟨ad', e4, h4⟩ := h3 hn
 rw [e1] at e4
 injection e4 with e4
 subst e4
 obtain ⟨x, hx⟩ : ∃ x, l[0]? = some x := ⟨l[0]'hn, List.getElem?_eq_getElem hn⟩
 obtain ⟨cs, k1, k2, k3⟩ := h4 0 x hx
 have k2' : cs = [Value.int .u64 x] := k2
 have := World.block_lt_of_cell? w _ (k3 0 (.int .u64 x) (by rw [k2']; rfl))
 rwa [add_block] at this
theorem Nr.other {P : Nat → Prop} {e' : Nat} {w0 w1 : World} {vq vq' vr : Value} {lq' lr : List Int} (ha : Nr.At (fun k => P k ∧ some k ≠ vq.ownBlock) vr) (hn : Nr.Nr w0 vr lr) (hq : Nr.Ow e' w0.heap.size w1 vq' lq') : Nr.At (fun k => P k ∧ some k ≠ vq'.ownBlock) vr := fun ad n c e hn' =>
 ⟨(ha ad n c e hn').1, fun e2 => Nat.lt_irrefl _ (Nat.lt_of_lt_of_le (Nr.atlt hn ad n c e hn') (Kd.R_base hq.out _ e2.symm))⟩
theorem Nr.undrew {w w1 : World} (h : Below w.drew.heap.size w.drew w1) : Below w.heap.size w w1 := below_step (below_drew1 (Below.refl _ _)) h
theorem Nr.unalloc {w w1 : World} {o : Obj} (h : Below (w.alloc o).heap.size (w.alloc o) w1) : Below w.heap.size w w1 := below_step (below_alloc (Below.refl _ _) o) h
theorem Nr.newlt {w w1 : World} {o : Obj} (h : Below (w.alloc o).heap.size (w.alloc o) w1) : w.heap.size < w1.heap.size := by
 have := h.size
 simp at this
 omega
theorem Nr.newcell {w w1 : World} {v : Value} {ty : Nat} (h : Below (w.alloc (.cells #[v] ty)).heap.size (w.alloc (.cells #[v] ty)) w1) : w1.cell? ⟨w.heap.size, 0, none⟩ = some v := by
 rw [(Nr.bcell h).1 _ _ (by simp)]
 exact (World.cell?_alloc_new _ _ _ _).trans rfl
theorem r1_Div.calls (k : Nat) (P0_0_ : Nat → Prop) (A0_0 : Option Addr) (c0_0 : Nat) (l0_0 : List Int) (A1_0 : Option Addr) (c1_0 : Nat) (l1_0 : List Int) (r1 : List Int) (r2 : List Int) (w : World) (hs0_0 : Kd.V (Kd.int .u64) 24 w w.heap.size (fun k_ => P0_0_ k_) (.slice A0_0 l0_0.length c0_0) l0_0) (hr1_0 : Kd.C (Kd.int .u64) w A1_0 l1_0.length l1_0) (hc1_0 : l1_0.length ≤ c1_0) (h : r1_Div.f k l0_0 l1_0 = some (r1, r2)) :
  Calls Try.prog 138 #[.agg #[.slice A0_0 l0_0.length c0_0], .agg #[.slice A1_0 l1_0.length c1_0]] w fun e w' => ∃ v0_ v1_ : Value, e = .returned (.tuple #[.agg #[v0_], .agg #[v1_]]) ∧ Kd.R (Kd.int .u64) 24 w' w.heap.size (fun k_ => (w.heap.size ≤ k_)) v0_ r1 ∧ Kd.V (Kd.int .u64) 24 w' w.heap.size (fun k_ => (P0_0_ k_ ∨ w.heap.size ≤ k_) ∧ some k_ ≠ (v0_ : Value).ownBlock) v1_ r2 ∧ Below w.heap.size w w' := by
 obtain ⟨t0, A0, H⟩ := ob_ h
 obtain ⟨t1, A1, H⟩ := ob_ H
 have L0 := A_ A0;have L1 := A_ A1;have HL := A_ H;clear h A0 A1 H
 have NA := Nr.Nr.of_V hs0_0
 have AA := A_ (Nr.At.of_V hs0_0)
 have NB := Nr.Nr.of_C hc1_0 hr1_0
 clear hs0_0 hr1_0
 go_enter Try.func138, Try.ntmps138
 go_wp2
 go_region_held3 (fun w' => w'.cell? ⟨w.heap.size, 0, none⟩ = some (.slice A0_0 l0_0.length c0_0) ∧ w'.cell? ⟨w.heap.size + 1, 0, none⟩ = some (.slice A1_0 l1_0.length c1_0) ∧ w'.cell? ⟨w.heap.size + 2, 0, none⟩ = some (.slice none 0 0) ∧ w'.cell? ⟨w.heap.size + 3, 0, none⟩ = some (.slice none 0 0) ∧ w'.cell? ⟨w.heap.size + 4, 0, none⟩ = some (.slice none 0 0) ∧ w'.cell? ⟨w.heap.size + 5, 0, none⟩ = some (.slice A0_0 l0_0.length c0_0) ∧ w'.frozen? ⟨w.heap.size + 2, 0, none⟩ = false ∧ w'.frozen? ⟨w.heap.size + 3, 0, none⟩ = false ∧ w'.frozen? ⟨w.heap.size + 4, 0, none⟩ = false ∧ w'.frozen? ⟨w.heap.size + 5, 0, none⟩ = false ∧ w.heap.size + 5 < w'.heap.size ∧ Nr.Nr w' (.slice A0_0 l0_0.length c0_0) l0_0 ∧ Nr.Nr w' (.slice A1_0 l1_0.length c1_0) l1_0 ∧ Nr.Ow 24 w.heap.size w' (.slice none 0 0) [] ∧ Below w.heap.size w w')
  (((try go_split_ands); (try dsimp only); (repeat' apply And.intro) <;> first | assumption | (rw [hc _ _ (by omega)]; assumption) | (rw [hf _ _ (by omega)]; assumption) | (rw [Nr.al (by omega)]; assumption) | (rw [Nr.alf (by omega)]; assumption) | (apply Nr.lt_al; assumption) | (have := hb.size; omega) | (refine Nr.Nr.below ?_ hb; assumption) | (apply Nr.Nr.drew; (repeat apply Nr.Nr.alloc); assumption) | (apply Nr.Nr.alloc; assumption) | (apply Nr.Nr.drew; assumption) | (exact Nr.Ow.nil _ _ _) | (refine Nr.Ow.below ?_ hb; assumption) | (apply Nr.Ow.alloc; assumption) | (apply Nr.Ow.drew; assumption) | (refine below_step ?_ hb; assumption) | (simp [go_sem, World.cell?_alloc_past]; done) | (repeat (first | assumption | exact Below.refl _ _ | apply below_drew1 | apply below_alloc | (refine below_set ?_ (by omega))))))
  ((first | (go_at_call 156; (try go_split_ands); refine (Nr.len k _ l0_0 t0 _ ?_ L0.out).mono ?_; (assumption); rintro e w1 ⟨rfl, hb⟩; obtain ⟨hc, hf⟩ := Nr.bcell hb) | (go_at_call 156; (try go_split_ands); refine (Nr.len k _ l1_0 t1 _ ?_ L1.out).mono ?_; (assumption); rintro e w2 ⟨rfl, hb⟩; obtain ⟨hc, hf⟩ := Nr.bcell hb)))
 rename_i hH
 obtain ⟨q0, q1, q2, q3, q4, q5, f2, f3, f4, f5, hz, nr, nb, ow, bl⟩ := hH
 (repeat clear hc hf)
 (repeat clear hb)
 go_wp2
 iterate 30 (rename_i left_; clear left_)
 rename_i hK
 clear H
 have at0 : Nr.At (fun k_ => (P0_0_ k_ ∨ w.heap.size ≤ k_) ∧ some k_ ≠ (Value.slice none 0 0).ownBlock) (.slice A0_0 l0_0.length c0_0) := AA.out.mono fun k hk => ⟨Or.inl hk, fun e => by cases e⟩
 go_loopg [8] k (fun kq v8 w' => ∃ (x : Int) (Aq : Option Addr) (cq : Nat) (lq : List Int) (Ar : Option Addr) (cr : Nat) (lr : List Int), v8 = .int .i64 x ∧ Aside0 (r1_Div.l0 kq x l1_0 lq lr = some (r1, r2)) ∧ Aside0 (w'.cell? ⟨w.heap.size + 1, 0, none⟩ = some (.slice A1_0 l1_0.length c1_0) ∧ w'.cell? ⟨w.heap.size + 2, 0, none⟩ = some (.slice none 0 0) ∧ w'.cell? ⟨w.heap.size + 3, 0, none⟩ = some (.slice none 0 0) ∧ w'.cell? ⟨w.heap.size + 4, 0, none⟩ = some (.slice Aq lq.length cq) ∧ w'.cell? ⟨w.heap.size + 5, 0, none⟩ = some (.slice Ar lr.length cr) ∧ w'.frozen? ⟨w.heap.size + 2, 0, none⟩ = false ∧ w'.frozen? ⟨w.heap.size + 3, 0, none⟩ = false ∧ w'.frozen? ⟨w.heap.size + 4, 0, none⟩ = false ∧ w'.frozen? ⟨w.heap.size + 5, 0, none⟩ = false ∧ w.heap.size + 5 < w'.heap.size ∧ Nr.Nr w' (.slice A1_0 l1_0.length c1_0) l1_0 ∧ Nr.Nr w' (.slice Ar lr.length cr) lr ∧ Nr.Ow 24 (w.heap.size + 6) w' (.slice Aq lq.length cq) lq ∧ Nr.At (fun k_ => (P0_0_ k_ ∨ w.heap.size ≤ k_) ∧ some k_ ≠ (Value.slice Aq lq.length cq).ownBlock) (.slice Ar lr.length cr) ∧ Below w.heap.size w w'))
 case atStart => exact ⟨_, none, 0, [], A0_0, c0_0, l0_0, by rw [i64_w], HL, q1, q2, q3, q4, q5, f2, f3, f4, f5, hz, nb, nr, Nr.Ow.nil _ _ _, at0, bl⟩
 case round =>
  (repeat clear q0 q1 q2 q3 q4 q5 f2 f3 f4 f5 hz nr ow bl at0 nb)
  obtain ⟨x, Aq, cq, lq, Ar, cr, lr, rfl, E, F⟩ := hrel
  obtain ⟨q1, q2, q3, q4, q5, f2, f3, f4, f5, hz, nb, nr, ow, at0, bl⟩ := F.out
  clear F HL
  obtain _ | kr := gk
  ·cases E.out
  have E := E.out
  unfold r1_Div.l0 at E
  by_cases hx : x ≥ 0
  ·rw [if_pos hx] at E
   have c0 : decide (0 ≤ x) = true := decide_eq_true hx
   obtain ⟨t, T0, E⟩ := ob_ E
   obtain ⟨u, T1, E⟩ := ob_ E
   replace T0 := A_ T0;replace T1 := A_ T1;replace hx := A_ hx
   by_cases hu : u ≥ 0
   ·rw [if_pos hu] at E
    obtain ⟨s, S0, E⟩ := ob_ E
    obtain ⟨o1, S1, E⟩ := ob_ E
    obtain ⟨o2, S2, E⟩ := ob_ E
    obtain ⟨q', S3, E⟩ := ob_ E
    replace S0 := A_ S0;replace S1 := A_ S1;replace S2 := A_ S2;replace S3 := A_ S3;have EE := A_ E;clear E
    have cu : decide (0 ≤ u) = true := decide_eq_true hu
    clear hu
    go_wp2_with (first | (go_at_call 103; refine (Nr.shl kr _ l1_0 x t _ nb T0.out).mono ?_; rintro e w1 ⟨At, ct, rfl, ot, hb⟩; (try replace hb := Nr.undrew hb); obtain ⟨hc, hf⟩ := Nr.bcell hb; have hs := hb.size; replace q1 := (hc _ _ (by omega)).trans q1; replace q2 := (hc _ _ (by omega)).trans q2; replace q3 := (hc _ _ (by omega)).trans q3; replace q4 := (hc _ _ (by omega)).trans q4; replace q5 := (hc _ _ (by omega)).trans q5; replace f2 := (hf _ _ (by omega)).trans f2; replace f3 := (hf _ _ (by omega)).trans f3; replace f4 := (hf _ _ (by omega)).trans f4; replace f5 := (hf _ _ (by omega)).trans f5; replace nb := Nr.Nr.below nb hb; replace nr := Nr.Nr.below nr hb; replace ow := Nr.Ow.below ow hb; replace bl := below_step bl hb; replace hz := Nat.lt_of_lt_of_le hz hs; clear hc hf hs hb) | (go_at_call 100; refine (Nr.cmp kr _ _ lr t u _ (Nr.Nr.alloc nr _) (Nr.Nr.alloc ot.nr _) T1.out).mono ?_; rintro e w2 ⟨rfl, hb⟩; have tq := Nr.newcell hb; have ht := Nr.newlt hb; replace hb := Nr.unalloc hb; (try replace hb := Nr.undrew hb); obtain ⟨hc, hf⟩ := Nr.bcell hb; have hs := hb.size; replace q1 := (hc _ _ (by omega)).trans q1; replace q2 := (hc _ _ (by omega)).trans q2; replace q3 := (hc _ _ (by omega)).trans q3; replace q4 := (hc _ _ (by omega)).trans q4; replace q5 := (hc _ _ (by omega)).trans q5; replace f2 := (hf _ _ (by omega)).trans f2; replace f3 := (hf _ _ (by omega)).trans f3; replace f4 := (hf _ _ (by omega)).trans f4; replace f5 := (hf _ _ (by omega)).trans f5; replace nb := Nr.Nr.below nb hb; replace nr := Nr.Nr.below nr hb; replace ow := Nr.Ow.below ow hb; replace ot := Nr.Ow.below ot hb; replace bl := below_step bl hb; replace hz := Nat.lt_of_lt_of_le hz hs; clear hc hf hs hb) | (go_at_call 165; refine (Nr.sub kr _ _ lr t s _ nr ot.nr S0.out).mono ?_; rintro e w3 ⟨As, cs, rfl, os, hb⟩; have at1 := Nr.fresh (P := P0_0_) (Nr.lower ow (b' := w.heap.size) (by omega)) os (by omega); replace os := Nr.lower os (b' := w.heap.size + 6) (by omega); (try replace hb := Nr.undrew hb); obtain ⟨hc, hf⟩ := Nr.bcell hb; have hs := hb.size; replace q1 := (hc _ _ (by omega)).trans q1; replace q2 := (hc _ _ (by omega)).trans q2; replace q3 := (hc _ _ (by omega)).trans q3; replace q4 := (hc _ _ (by omega)).trans q4; replace q5 := (hc _ _ (by omega)).trans q5; replace f2 := (hf _ _ (by omega)).trans f2; replace f3 := (hf _ _ (by omega)).trans f3; replace f4 := (hf _ _ (by omega)).trans f4; replace f5 := (hf _ _ (by omega)).trans f5; replace nb := Nr.Nr.below nb hb; replace nr := Nr.Nr.below nr hb; replace ow := Nr.Ow.below ow hb; replace ot := Nr.Ow.below ot hb; replace bl := below_step bl hb; replace hz := Nat.lt_of_lt_of_le hz hs; clear hc hf hs hb))
    generalize hW : World.setCell _ _ _ = w4
    have hz4 : w4.heap.size = w3.heap.size := by rw [← hW]; simp
    have hc : ∀ b, b ≠ w.heap.size + 5 → w4.cell? ⟨b, 0, none⟩ = w3.cell? ⟨b, 0, none⟩ := fun b hb => by rw [← hW]; exact World.cell?_setCell_far _ _ _ _ (fun e => hb e.symm)
    have hf : ∀ b, w4.frozen? ⟨b, 0, none⟩ = w3.frozen? ⟨b, 0, none⟩ := fun b => by rw [← hW]; exact World.frozen?_setCell _ _ _ _
    have hi : Nr.IsRow (w3.cell? ⟨w.heap.size + 5, 0, none⟩) := by rw [q5]; exact Nr.IsRow.slice _ _ _
    replace q5 : w4.cell? ⟨w.heap.size + 5, 0, none⟩ = some (.slice As s.length cs) := by rw [← hW]; exact World.cell?_setCell_same _ _ _ q5
    replace q1 := (hc _ (by omega)).trans q1
    replace q2 := (hc _ (by omega)).trans q2
    replace q3 := (hc _ (by omega)).trans q3
    replace q4 := (hc _ (by omega)).trans q4
    replace f2 := (hf _).trans f2
    replace f3 := (hf _).trans f3
    replace f4 := (hf _).trans f4
    replace f5 := (hf _).trans f5
    replace nb : Nr.Nr w4 (.slice A1_0 l1_0.length c1_0) l1_0 := by rw [← hW]; exact Nr.Nr.set nb _ hi
    replace ow : Nr.Ow 24 (w.heap.size + 6) w4 (.slice Aq lq.length cq) lq := by rw [← hW]; exact Nr.Ow.set ow _ (fun e => by have h6 : _ ≤ w.heap.size + 5 := Kd.R_base ow.out _ e; omega)
    replace os : Nr.Ow 24 (w.heap.size + 6) w4 (.slice As s.length cs) s := by rw [← hW]; exact Nr.Ow.set os _ (fun e => by have h6 : _ ≤ w.heap.size + 5 := Kd.R_base os.out _ e; omega)
    replace bl : Below w.heap.size w w4 := by rw [← hW]; exact below_set bl (by omega)
    replace hz : w.heap.size + 5 < w4.heap.size := by omega
    clear hW hc hf hi hz4
    replace nr := os.nr
    clear os
    go_region_with (first | (go_at_call 46; refine (Nr.of kr 1 o1 _ S1.out).mono ?_; rintro e w5 ⟨Ao, co, rfl, oo, hb⟩; (try replace hb := Nr.undrew hb); obtain ⟨hc, hf⟩ := Nr.bcell hb; have hs := hb.size; replace q1 := (hc _ _ (by omega)).trans q1; replace q2 := (hc _ _ (by omega)).trans q2; replace q3 := (hc _ _ (by omega)).trans q3; replace q4 := (hc _ _ (by omega)).trans q4; replace q5 := (hc _ _ (by omega)).trans q5; replace f2 := (hf _ _ (by omega)).trans f2; replace f3 := (hf _ _ (by omega)).trans f3; replace f4 := (hf _ _ (by omega)).trans f4; replace f5 := (hf _ _ (by omega)).trans f5; replace nb := Nr.Nr.below nb hb; replace nr := Nr.Nr.below nr hb; replace ow := Nr.Ow.below ow hb; replace bl := below_step bl hb; replace hz := Nat.lt_of_lt_of_le hz hs; clear hc hf hs hb) | (go_at_call 103; refine (Nr.shl kr _ o1 x o2 _ oo.nr S2.out).mono ?_; rintro e w6 ⟨Ap, cp, rfl, op, hb⟩; (try replace hb := Nr.undrew hb); obtain ⟨hc, hf⟩ := Nr.bcell hb; have hs := hb.size; replace q1 := (hc _ _ (by omega)).trans q1; replace q2 := (hc _ _ (by omega)).trans q2; replace q3 := (hc _ _ (by omega)).trans q3; replace q4 := (hc _ _ (by omega)).trans q4; replace q5 := (hc _ _ (by omega)).trans q5; replace f2 := (hf _ _ (by omega)).trans f2; replace f3 := (hf _ _ (by omega)).trans f3; replace f4 := (hf _ _ (by omega)).trans f4; replace f5 := (hf _ _ (by omega)).trans f5; replace nb := Nr.Nr.below nb hb; replace nr := Nr.Nr.below nr hb; replace ow := Nr.Ow.below ow hb; replace oo := Nr.Ow.below oo hb; replace bl := below_step bl hb; replace hz := Nat.lt_of_lt_of_le hz hs; clear hc hf hs hb) | (go_at_call 110; refine (Nr.add kr _ _ lq o2 q' _ ow.nr op.nr S3.out).mono ?_; rintro e w7 ⟨Az, cz, rfl, oz, hb⟩; have at2 := Nr.other at1 nr oz; have oz := Nr.lower oz (b' := w.heap.size + 6) (by omega); (try replace hb := Nr.undrew hb); obtain ⟨hc, hf⟩ := Nr.bcell hb; have hs := hb.size; replace q1 := (hc _ _ (by omega)).trans q1; replace q2 := (hc _ _ (by omega)).trans q2; replace q3 := (hc _ _ (by omega)).trans q3; replace q4 := (hc _ _ (by omega)).trans q4; replace q5 := (hc _ _ (by omega)).trans q5; replace f2 := (hf _ _ (by omega)).trans f2; replace f3 := (hf _ _ (by omega)).trans f3; replace f4 := (hf _ _ (by omega)).trans f4; replace f5 := (hf _ _ (by omega)).trans f5; replace nb := Nr.Nr.below nb hb; replace nr := Nr.Nr.below nr hb; replace ow := Nr.Ow.below ow hb; replace bl := below_step bl hb; replace hz := Nat.lt_of_lt_of_le hz hs; clear hc hf hs hb))
    all_goals (
     generalize hW : World.setCell _ _ _ = w8
     have hz4 : w8.heap.size = w7.heap.size := by rw [← hW]; simp
     have hc : ∀ b, b ≠ w.heap.size + 4 → w8.cell? ⟨b, 0, none⟩ = w7.cell? ⟨b, 0, none⟩ := fun b hb => by rw [← hW]; exact World.cell?_setCell_far _ _ _ _ (fun e => hb e.symm)
     have hf : ∀ b, w8.frozen? ⟨b, 0, none⟩ = w7.frozen? ⟨b, 0, none⟩ := fun b => by rw [← hW]; exact World.frozen?_setCell _ _ _ _
     have hi : Nr.IsRow (w7.cell? ⟨w.heap.size + 4, 0, none⟩) := by rw [q4]; exact Nr.IsRow.slice _ _ _
     replace q4 : w8.cell? ⟨w.heap.size + 4, 0, none⟩ = some (.slice Az q'.length cz) := by rw [← hW]; exact World.cell?_setCell_same _ _ _ q4
     replace q1 := (hc _ (by omega)).trans q1
     replace q2 := (hc _ (by omega)).trans q2
     replace q3 := (hc _ (by omega)).trans q3
     replace q5 := (hc _ (by omega)).trans q5
     replace f2 := (hf _).trans f2
     replace f3 := (hf _).trans f3
     replace f4 := (hf _).trans f4
     replace f5 := (hf _).trans f5
     replace nb : Nr.Nr w8 (.slice A1_0 l1_0.length c1_0) l1_0 := by rw [← hW]; exact Nr.Nr.set nb _ hi
     replace nr : Nr.Nr w8 (.slice As s.length cs) s := by rw [← hW]; exact Nr.Nr.set nr _ hi
     replace oz : Nr.Ow 24 (w.heap.size + 6) w8 (.slice Az q'.length cz) q' := by rw [← hW]; exact Nr.Ow.set oz _ (fun e => by have h6 : _ ≤ w.heap.size + 4 := Kd.R_base oz.out _ e; omega)
     replace bl : Below w.heap.size w w8 := by rw [← hW]; exact below_set bl (by omega)
     replace hz : w.heap.size + 5 < w8.heap.size := by omega
     clear hW hc hf hi hz4
     go_wp2
     go_roundg kr
     case measure => omega
     case rel => exact ⟨_, Az, cz, q', As, cs, s, rfl, EE, ⟨q1, q2, q3, q4, q5, f2, f3, f4, f5, hz, nb, nr, oz, at2, bl⟩⟩)
   ·rw [if_neg hu] at E
    have EE := A_ E;clear E
    have cu : decide (0 ≤ u) = false := decide_eq_false hu
    clear hu
    go_wp2_with (first | (go_at_call 103; refine (Nr.shl kr _ l1_0 x t _ nb T0.out).mono ?_; rintro e w1 ⟨At, ct, rfl, ot, hb⟩; (try replace hb := Nr.undrew hb); obtain ⟨hc, hf⟩ := Nr.bcell hb; have hs := hb.size; replace q1 := (hc _ _ (by omega)).trans q1; replace q2 := (hc _ _ (by omega)).trans q2; replace q3 := (hc _ _ (by omega)).trans q3; replace q4 := (hc _ _ (by omega)).trans q4; replace q5 := (hc _ _ (by omega)).trans q5; replace f2 := (hf _ _ (by omega)).trans f2; replace f3 := (hf _ _ (by omega)).trans f3; replace f4 := (hf _ _ (by omega)).trans f4; replace f5 := (hf _ _ (by omega)).trans f5; replace nb := Nr.Nr.below nb hb; replace nr := Nr.Nr.below nr hb; replace ow := Nr.Ow.below ow hb; replace bl := below_step bl hb; replace hz := Nat.lt_of_lt_of_le hz hs; clear hc hf hs hb) | (go_at_call 100; refine (Nr.cmp kr _ _ lr t u _ (Nr.Nr.alloc nr _) (Nr.Nr.alloc ot.nr _) T1.out).mono ?_; rintro e w2 ⟨rfl, hb⟩; have tq := Nr.newcell hb; have ht := Nr.newlt hb; replace hb := Nr.unalloc hb; (try replace hb := Nr.undrew hb); obtain ⟨hc, hf⟩ := Nr.bcell hb; have hs := hb.size; replace q1 := (hc _ _ (by omega)).trans q1; replace q2 := (hc _ _ (by omega)).trans q2; replace q3 := (hc _ _ (by omega)).trans q3; replace q4 := (hc _ _ (by omega)).trans q4; replace q5 := (hc _ _ (by omega)).trans q5; replace f2 := (hf _ _ (by omega)).trans f2; replace f3 := (hf _ _ (by omega)).trans f3; replace f4 := (hf _ _ (by omega)).trans f4; replace f5 := (hf _ _ (by omega)).trans f5; replace nb := Nr.Nr.below nb hb; replace nr := Nr.Nr.below nr hb; replace ow := Nr.Ow.below ow hb; replace ot := Nr.Ow.below ot hb; replace bl := below_step bl hb; replace hz := Nat.lt_of_lt_of_le hz hs; clear hc hf hs hb))
    go_roundg kr
    case measure => omega
    case rel => exact ⟨_, Aq, cq, lq, Ar, cr, lr, rfl, EE, ⟨q1, q2, q3, q4, q5, f2, f3, f4, f5, hz, nb, nr, ow, at0, bl⟩⟩
  ·rw [if_neg hx] at E
   have c0 : decide (0 ≤ x) = false := decide_eq_false hx
   injection E with E
   injection E with E1 E2
   subst E1
   subst E2
   clear hx E
   go_wp2
   go_region
   go_wp2
   have i2 : Nr.IsRow (wr.cell? ⟨w.heap.size + 2, 0, none⟩) := by rw [q2]; exact Nr.IsRow.slice _ _ _
   have e2 := World.cell?_setCell_same _ _ (.slice Aq lq.length cq) q2
   have e3 : (wr.setCell ⟨w.heap.size + 2, 0, none⟩ (.slice Aq lq.length cq)).cell? ⟨w.heap.size + 3, 0, none⟩ = some (.slice none 0 0) := (World.cell?_setCell_far _ _ _ _ (by simp)).trans q3
   have i3 : Nr.IsRow ((wr.setCell ⟨w.heap.size + 2, 0, none⟩ (.slice Aq lq.length cq)).cell? ⟨w.heap.size + 3, 0, none⟩) := by rw [e3]; exact Nr.IsRow.slice _ _ _
   have e4 := World.cell?_setCell_same _ _ (.slice Ar lr.length cr) e3
   have e5 : ((wr.setCell ⟨w.heap.size + 2, 0, none⟩ (.slice Aq lq.length cq)).setCell ⟨w.heap.size + 3, 0, none⟩ (.slice Ar lr.length cr)).cell? ⟨w.heap.size + 2, 0, none⟩ = some (.slice Aq lq.length cq) := (World.cell?_setCell_far _ _ _ _ (by simp)).trans e2
   have ow' := Nr.Ow.drew (Nr.Ow.set (Nr.Ow.set ow (p := ⟨w.heap.size + 2, 0, none⟩) (.slice Aq lq.length cq) (fun e => by have h6 : _ ≤ w.heap.size + 2 := Kd.R_base ow.out _ e; omega)) (p := ⟨w.heap.size + 3, 0, none⟩) (.slice Ar lr.length cr) (fun e => by have h6 : _ ≤ w.heap.size + 3 := Kd.R_base ow.out _ e; omega))
   have nr' := Nr.Nr.drew (Nr.Nr.set (Nr.Nr.set nr (.slice Aq lq.length cq) i2) (.slice Ar lr.length cr) i3)
   exact bodyPost_ret (v := .tuple #[.agg #[.slice Aq lq.length cq], .agg #[.slice Ar lr.length cr]]) (by simp [results, Try.results138, go_sem, e4, e5]) rfl ⟨_, _, rfl, (Nr.lower ow' (by omega)).out, Nr.Nr.toV nr' at0, below_drew1 (below_set (below_set bl (by omega)) (by omega))⟩
def r1_Half.f (k : Nat) (l0_0 : List Int) (a1 : Int) : Option (List Int × Bool) := (r1_Of.f k 1).bind fun t503 => ((r1_Shl.f k t503 a1).bind fun t506 => ((r1_Div.f k l0_0 t506).bind fun bt509 => (some (bt509.1, decide ((bt509.2.length : Int) > 0)))))
theorem r1_Half.mono : ∀ a0 a1 k, LeO (r1_Half.f k a0 a1) (r1_Half.f (k + 1) a0 a1) := by
 intro a0 a1 k
 unfold r1_Half.f
 repeat' first
   | (with_reducible exact r1_Div.mono _ _ _)
   | (with_reducible exact r1_Of.mono _ _)
   | (with_reducible exact r1_Shl.mono _ _ _)
   | (with_reducible exact LeO.refl _)
   | (with_reducible exact LeO.none _)
   | (with_reducible refine LeO.ite ?_ ?_)
   | (with_reducible refine LeO.bind ?_ (fun _ => ?_))
   | exact r1_Div.mono _ _ _
   | exact r1_Of.mono _ _
   | exact r1_Shl.mono _ _ _
   | exact LeO.none _
   | refine LeO.ite ?_ ?_
   | refine LeO.bind ?_ (fun _ => ?_)
def r1_Half.T1 : Bool × List (List Nat × List Nat) := (true, [([], []), ([], []), ([], []), ([1, 2, 1], [1, 2]), ([0, 3, 3], [0, 3]), ([4], [4]), ([5], [5]), ([5], [5]), ([], []), ([], []), ([8, 6, 4, 0, 1, 2, 3, 4, 5, 6, 8, 9], [6, 8]), ([9, 7, 10, 0, 1, 2, 3, 4, 5, 6, 7, 8, 9, 10], [7, 9])])
def r1_Half.B1 : List Nat := [0, 0, 0, 6, 15, 31, 63, 63, 0, 0, 895, 2047]
theorem r1_Half.tab1 : rtab .any (opsOf Try.f160 1) = r1_Half.T1 := by kernel_rfl
theorem r1_Half.bits1 : waitsOk r1_Half.T1.2 r1_Half.B1 = true := by kernel_rfl
theorem r1_Half.calls (k : Nat) (A0_0 : Option Addr) (c0_0 : Nat) (l0_0 : List Int) (a1 : Int) (r1 : List Int) (r2 : Bool) (w : World) (hr0_0 : Kd.C (Kd.int .u64) w A0_0 l0_0.length l0_0) (hc0_0 : l0_0.length ≤ c0_0) (h : r1_Half.f k l0_0 a1 = some (r1, r2)) :
  Calls Try.prog 160 #[.agg #[.slice A0_0 l0_0.length c0_0], .int .i64 a1] w fun e w' => ∃ v0_ : Value, e = .returned (.tuple #[.agg #[v0_], .bool r2]) ∧ Kd.R (Kd.int .u64) 24 w' w.heap.size (fun _ => True) v0_ r1 ∧ Below w.heap.size w w' := by
 have hu56 := Try.underlying56
 have HR0_0 := A_ hr0_0;have HC0_0 := A_ hc0_0;clear hr0_0 hc0_0
 have HB := A_ (Below.refl w.heap.size w)
 have H : ((r1_Of.f k 1).bind fun t503 => ((r1_Shl.f k t503 a1).bind fun t506 => ((r1_Div.f k l0_0 t506).bind fun bt509 => (some (bt509.1, decide ((bt509.2.length : Int) > 0)))))) = some (r1, r2) := h
 clear h
 replace H := ob_ H
 obtain ⟨t503, A30, H⟩ := H
 replace H : ((r1_Shl.f k t503 a1).bind fun t506 => ((r1_Div.f k l0_0 t506).bind fun bt509 => (some (bt509.1, decide ((bt509.2.length : Int) > 0))))) = some (r1, r2) := H
 have A3 := A_ A30;clear A30
 replace H := ob_ H
 obtain ⟨t506, A40, H⟩ := H
 replace H : ((r1_Div.f k l0_0 t506).bind fun bt509 => (some (bt509.1, decide ((bt509.2.length : Int) > 0)))) = some (r1, r2) := H
 have A4 := A_ A40;clear A40
 replace H := ob_ H
 obtain ⟨⟨t509, t512⟩, A50, H⟩ := H
 replace H : (some (t509, decide ((t512.length : Int) > 0))) = some (r1, r2) := H
 have A5 := A_ A50;clear A50
 simp only [Option.some.injEq, Prod.mk.injEq] at H
 obtain ⟨rfl, rfl⟩ := H
 go_enter Try.func160, Try.ntmps160
 try go_wp2_with (first | ((with_reducible refine gate_dst (N := 2) rfl ?_); refine be_ 2 #[.slice A0_0 l0_0.length c0_0] 56 ?_; intro gb501 hg w6 hbox hb; have n0_ := A_ (below_step (hb_ HB.out) hb); have n1_ := A_ (hbox); have n2_ := A_ (sz_ hg (hb_ HB.out)); have n3_ := A_ (sz_ hg (hb_ HB.out)); clear HB; have HB := n0_; have BK501 := n1_; have GW501 := n2_; have GE501 := n3_; clear n0_ n1_ n2_ n3_; clear hb hbox hg) | ((with_reducible refine gate_dst (N := 4) rfl ?_); refine be_ 4 #[.slice none 0 0] 56 ?_; intro gb502 hg w7 hbox hb; have n0_ := A_ (bb_ BK501.out hb); have n1_ := A_ (below_step (hb1_ HB.out GE501.out) hb); have n2_ := A_ (hbox); have n3_ := A_ (sz_ hg (hb1_ HB.out GE501.out)); have n4_ := A_ (sz_ hg (hb1_ HB.out GE501.out)); have n5_ := A_ (nl_ hg BK501.out); have n6_ := A_ (ng_ hg BK501.out); clear BK501; clear HB; have BK501 := n0_; have HB := n1_; have BK502 := n2_; have GW502 := n3_; have GE502 := n4_; have NB501_502 := n5_; have NB502_501 := n6_; clear n0_ n1_ n2_ n3_ n4_ n5_ n6_; clear hb hbox hg))
 have n0_ := A_ (blk_drew BK501.out)
 have n1_ := A_ (blk_drew BK502.out)
 have n2_ := A_ (below_drew1 HB.out)
 clear BK501;clear BK502;clear HB;have BK501 := n0_;have BK502 := n1_;have HB := n2_;clear n0_ n1_ n2_
 refine start_ (n := 12) (S := fun w' => w'.cell? ⟨gb501, 0, none⟩ = some (.slice A0_0 l0_0.length c0_0)) (ds := []) #[false, false, false, false, false, false, false, false, false, false, false, false] (by kernel_rfl) rfl rfl (bc_ BK501.out 0) (fun hHeld => ?_); refine with_tabW r1_Half.tab1 r1_Half.bits1 (fun HT_ HW_ => ?_)
 generalize w7.drew = w8 at BK501 BK502 HB hHeld ⊢
 refine pu_ 2 (some 11) #[false, false, true, false, false, false, false, false, false, false, false, false] rfl rfl (any_of HT_.out (by kernel_rfl)) ?_
 refine tk1_ 0 (some 9) #[true, false, true, false, false, false, false, false, false, false, false, false] rfl rfl (take_ofW HT_.out HW_.out (by kernel_rfl)) hHeld ?_
 refine join_ (σ := Value × Value × Value × Value × Nat × Nat) 2 #[true, true, true, true, true, true, true, true, true, true, false, false] (fun s_ => [(10, .agg #[s_.1]), (12, .agg #[s_.2.1]), (13, .tuple #[.agg #[s_.2.2.1], .agg #[s_.2.2.2.1]]), (6, .pointer (some ⟨s_.2.2.2.2.1, 0, none⟩)), (7, .pointer (some ⟨s_.2.2.2.2.2, 0, none⟩)), (8, .tuple #[.agg #[s_.2.2.1], .agg #[s_.2.2.2.1]]), (14, .agg #[s_.2.2.1]), (15, .agg #[s_.2.2.2.1])]) (fun s_ w' => (w'.cell? ⟨gb501, 0, none⟩ = some (.slice A0_0 l0_0.length c0_0)) ∧ (Kd.R (Kd.int .u64) 24 w' w.heap.size (fun k_ => some k_ ≠ (s_.2.1 : Value).ownBlock ∧ some k_ ≠ (s_.2.2.1 : Value).ownBlock) s_.1 t503) ∧ (Kd.R (Kd.int .u64) 24 w' w.heap.size (fun k_ => some k_ ≠ (s_.1 : Value).ownBlock ∧ some k_ ≠ (s_.2.2.1 : Value).ownBlock) s_.2.1 t506) ∧ (Kd.R (Kd.int .u64) 24 w' w.heap.size (fun k_ => some k_ ≠ (s_.1 : Value).ownBlock ∧ some k_ ≠ (s_.2.1 : Value).ownBlock) s_.2.2.1 t509) ∧ (Kd.V (Kd.int .u64) 24 w' w.heap.size (fun k_ => some k_ ≠ (s_.1 : Value).ownBlock ∧ some k_ ≠ (s_.2.1 : Value).ownBlock ∧ some k_ ≠ (s_.2.2.1 : Value).ownBlock ∧ k_ ≠ gb501 ∧ k_ ≠ gb502 ∧ k_ ≠ s_.2.2.2.2.1 ∧ k_ ≠ s_.2.2.2.2.2) s_.2.2.2.1 t512) ∧ (w'.heap[gb501]? = some (.cells #[.slice A0_0 l0_0.length c0_0] 56 (0, 0))) ∧ (w'.heap[gb502]? = some (.cells #[.slice none 0 0] 56 (0, 0))) ∧ (w'.heap[s_.2.2.2.2.1]? = some (.cells #[.slice none 0 0] 56 (0, 0))) ∧ (w'.heap[s_.2.2.2.2.2]? = some (.cells #[.slice none 0 0] 56 (0, 0))) ∧ (w.heap.size ≤ s_.2.2.2.2.1) ∧ (w.heap.size ≤ s_.2.2.2.2.1) ∧ (gb501 ≠ s_.2.2.2.2.1) ∧ (s_.2.2.2.2.1 ≠ gb501) ∧ (gb502 ≠ s_.2.2.2.2.1) ∧ (s_.2.2.2.2.1 ≠ gb502) ∧ (s_.2.2.2.2.2 ≠ s_.2.2.2.2.1) ∧ (s_.2.2.2.2.1 ≠ s_.2.2.2.2.2) ∧ (w.heap.size ≤ s_.2.2.2.2.2) ∧ (w.heap.size ≤ s_.2.2.2.2.2) ∧ (gb501 ≠ s_.2.2.2.2.2) ∧ (s_.2.2.2.2.2 ≠ gb501) ∧ (gb502 ≠ s_.2.2.2.2.2) ∧ (s_.2.2.2.2.2 ≠ gb502) ∧ (Below w.heap.size w w')) ?_ ?_
 rotate_left
 ·intro hJ1_3_4_8_9
  refine join_ (σ := Value × Value × Value × Value × Nat) 3 #[true, true, true, true, true, true, true, true, true, false, false, false] (fun s_ => [(10, .agg #[s_.1]), (12, .agg #[s_.2.1]), (13, .tuple #[.agg #[s_.2.2.1], .agg #[s_.2.2.2.1]]), (6, .pointer (some ⟨s_.2.2.2.2, 0, none⟩)), (8, .tuple #[.agg #[s_.2.2.1], .agg #[s_.2.2.2.1]]), (14, .agg #[s_.2.2.1]), (15, .agg #[s_.2.2.2.1])]) (fun s_ w' => (w'.cell? ⟨gb501, 0, none⟩ = some (.slice A0_0 l0_0.length c0_0)) ∧ (Kd.R (Kd.int .u64) 24 w' w.heap.size (fun k_ => some k_ ≠ (s_.2.1 : Value).ownBlock ∧ some k_ ≠ (s_.2.2.1 : Value).ownBlock) s_.1 t503) ∧ (Kd.R (Kd.int .u64) 24 w' w.heap.size (fun k_ => some k_ ≠ (s_.1 : Value).ownBlock ∧ some k_ ≠ (s_.2.2.1 : Value).ownBlock) s_.2.1 t506) ∧ (Kd.R (Kd.int .u64) 24 w' w.heap.size (fun k_ => some k_ ≠ (s_.1 : Value).ownBlock ∧ some k_ ≠ (s_.2.1 : Value).ownBlock) s_.2.2.1 t509) ∧ (Kd.V (Kd.int .u64) 24 w' w.heap.size (fun k_ => some k_ ≠ (s_.1 : Value).ownBlock ∧ some k_ ≠ (s_.2.1 : Value).ownBlock ∧ some k_ ≠ (s_.2.2.1 : Value).ownBlock ∧ k_ ≠ gb501 ∧ k_ ≠ gb502 ∧ k_ ≠ s_.2.2.2.2) s_.2.2.2.1 t512) ∧ (w'.heap[gb501]? = some (.cells #[.slice A0_0 l0_0.length c0_0] 56 (0, 0))) ∧ (w'.heap[gb502]? = some (.cells #[.slice none 0 0] 56 (0, 0))) ∧ (w'.heap[s_.2.2.2.2]? = some (.cells #[.slice none 0 0] 56 (0, 0))) ∧ (w.heap.size ≤ s_.2.2.2.2) ∧ (w.heap.size ≤ s_.2.2.2.2) ∧ (gb501 ≠ s_.2.2.2.2) ∧ (s_.2.2.2.2 ≠ gb501) ∧ (gb502 ≠ s_.2.2.2.2) ∧ (s_.2.2.2.2 ≠ gb502) ∧ (Below w.heap.size w w')) ?_ ?_
  rotate_left
  ·intro hJ1_3_4_8
   refine join_ (σ := Value × Value × Value × Value × Nat) 3 #[true, true, true, true, true, true, true, true, false, true, false, false] (fun s_ => [(10, .agg #[s_.1]), (12, .agg #[s_.2.1]), (13, .tuple #[.agg #[s_.2.2.1], .agg #[s_.2.2.2.1]]), (7, .pointer (some ⟨s_.2.2.2.2, 0, none⟩)), (8, .tuple #[.agg #[s_.2.2.1], .agg #[s_.2.2.2.1]]), (14, .agg #[s_.2.2.1]), (15, .agg #[s_.2.2.2.1])]) (fun s_ w' => (w'.cell? ⟨gb501, 0, none⟩ = some (.slice A0_0 l0_0.length c0_0)) ∧ (Kd.R (Kd.int .u64) 24 w' w.heap.size (fun k_ => some k_ ≠ (s_.2.1 : Value).ownBlock ∧ some k_ ≠ (s_.2.2.1 : Value).ownBlock) s_.1 t503) ∧ (Kd.R (Kd.int .u64) 24 w' w.heap.size (fun k_ => some k_ ≠ (s_.1 : Value).ownBlock ∧ some k_ ≠ (s_.2.2.1 : Value).ownBlock) s_.2.1 t506) ∧ (Kd.R (Kd.int .u64) 24 w' w.heap.size (fun k_ => some k_ ≠ (s_.1 : Value).ownBlock ∧ some k_ ≠ (s_.2.1 : Value).ownBlock) s_.2.2.1 t509) ∧ (Kd.V (Kd.int .u64) 24 w' w.heap.size (fun k_ => some k_ ≠ (s_.1 : Value).ownBlock ∧ some k_ ≠ (s_.2.1 : Value).ownBlock ∧ some k_ ≠ (s_.2.2.1 : Value).ownBlock ∧ k_ ≠ gb501 ∧ k_ ≠ gb502 ∧ k_ ≠ s_.2.2.2.2) s_.2.2.2.1 t512) ∧ (w'.heap[gb501]? = some (.cells #[.slice A0_0 l0_0.length c0_0] 56 (0, 0))) ∧ (w'.heap[gb502]? = some (.cells #[.slice none 0 0] 56 (0, 0))) ∧ (w'.heap[s_.2.2.2.2]? = some (.cells #[.slice none 0 0] 56 (0, 0))) ∧ (w.heap.size ≤ s_.2.2.2.2) ∧ (w.heap.size ≤ s_.2.2.2.2) ∧ (gb501 ≠ s_.2.2.2.2) ∧ (s_.2.2.2.2 ≠ gb501) ∧ (gb502 ≠ s_.2.2.2.2) ∧ (s_.2.2.2.2 ≠ gb502) ∧ (Below w.heap.size w w')) ?_ ?_
   rotate_left
   ·intro hJ1_3_4_9
    refine join_ (σ := Value × Value × Nat × Nat) 6 #[true, true, true, true, false, false, false, false, true, true, false, false] (fun s_ => [(10, .agg #[s_.1]), (12, .agg #[s_.2.1]), (6, .pointer (some ⟨s_.2.2.1, 0, none⟩)), (7, .pointer (some ⟨s_.2.2.2, 0, none⟩))]) (fun s_ w' => (w'.cell? ⟨gb501, 0, none⟩ = some (.slice A0_0 l0_0.length c0_0)) ∧ (Kd.R (Kd.int .u64) 24 w' w.heap.size (fun k_ => some k_ ≠ (s_.2.1 : Value).ownBlock) s_.1 t503) ∧ (Kd.R (Kd.int .u64) 24 w' w.heap.size (fun k_ => some k_ ≠ (s_.1 : Value).ownBlock) s_.2.1 t506) ∧ (w'.heap[gb501]? = some (.cells #[.slice A0_0 l0_0.length c0_0] 56 (0, 0))) ∧ (w'.heap[gb502]? = some (.cells #[.slice none 0 0] 56 (0, 0))) ∧ (w'.heap[s_.2.2.1]? = some (.cells #[.slice none 0 0] 56 (0, 0))) ∧ (w'.heap[s_.2.2.2]? = some (.cells #[.slice none 0 0] 56 (0, 0))) ∧ (w.heap.size ≤ s_.2.2.1) ∧ (w.heap.size ≤ s_.2.2.1) ∧ (gb501 ≠ s_.2.2.1) ∧ (s_.2.2.1 ≠ gb501) ∧ (gb502 ≠ s_.2.2.1) ∧ (s_.2.2.1 ≠ gb502) ∧ (s_.2.2.2 ≠ s_.2.2.1) ∧ (s_.2.2.1 ≠ s_.2.2.2) ∧ (w.heap.size ≤ s_.2.2.2) ∧ (w.heap.size ≤ s_.2.2.2) ∧ (gb501 ≠ s_.2.2.2) ∧ (s_.2.2.2 ≠ gb501) ∧ (gb502 ≠ s_.2.2.2) ∧ (s_.2.2.2 ≠ gb502) ∧ (Below w.heap.size w w')) ?_ ?_
    rotate_left
    ·intro hJ1_3_8_9
     refine join_ (σ := Value × Value × Value × Value) 4 #[true, true, true, true, true, true, true, true, false, false, false, false] (fun s_ => [(10, .agg #[s_.1]), (12, .agg #[s_.2.1]), (13, .tuple #[.agg #[s_.2.2.1], .agg #[s_.2.2.2]]), (8, .tuple #[.agg #[s_.2.2.1], .agg #[s_.2.2.2]]), (14, .agg #[s_.2.2.1]), (15, .agg #[s_.2.2.2])]) (fun s_ w' => (w'.cell? ⟨gb501, 0, none⟩ = some (.slice A0_0 l0_0.length c0_0)) ∧ (Kd.R (Kd.int .u64) 24 w' w.heap.size (fun k_ => some k_ ≠ (s_.2.1 : Value).ownBlock ∧ some k_ ≠ (s_.2.2.1 : Value).ownBlock) s_.1 t503) ∧ (Kd.R (Kd.int .u64) 24 w' w.heap.size (fun k_ => some k_ ≠ (s_.1 : Value).ownBlock ∧ some k_ ≠ (s_.2.2.1 : Value).ownBlock) s_.2.1 t506) ∧ (Kd.R (Kd.int .u64) 24 w' w.heap.size (fun k_ => some k_ ≠ (s_.1 : Value).ownBlock ∧ some k_ ≠ (s_.2.1 : Value).ownBlock) s_.2.2.1 t509) ∧ (Kd.V (Kd.int .u64) 24 w' w.heap.size (fun k_ => some k_ ≠ (s_.1 : Value).ownBlock ∧ some k_ ≠ (s_.2.1 : Value).ownBlock ∧ some k_ ≠ (s_.2.2.1 : Value).ownBlock ∧ k_ ≠ gb501 ∧ k_ ≠ gb502) s_.2.2.2 t512) ∧ (w'.heap[gb501]? = some (.cells #[.slice A0_0 l0_0.length c0_0] 56 (0, 0))) ∧ (w'.heap[gb502]? = some (.cells #[.slice none 0 0] 56 (0, 0))) ∧ (Below w.heap.size w w')) ?_ ?_
     rotate_left
     ·intro hJ1_3_4
      refine join_ (σ := Value × Value × Nat) 7 #[true, true, true, true, false, false, false, false, true, false, false, false] (fun s_ => [(10, .agg #[s_.1]), (12, .agg #[s_.2.1]), (6, .pointer (some ⟨s_.2.2, 0, none⟩))]) (fun s_ w' => (w'.cell? ⟨gb501, 0, none⟩ = some (.slice A0_0 l0_0.length c0_0)) ∧ (Kd.R (Kd.int .u64) 24 w' w.heap.size (fun k_ => some k_ ≠ (s_.2.1 : Value).ownBlock) s_.1 t503) ∧ (Kd.R (Kd.int .u64) 24 w' w.heap.size (fun k_ => some k_ ≠ (s_.1 : Value).ownBlock) s_.2.1 t506) ∧ (w'.heap[gb501]? = some (.cells #[.slice A0_0 l0_0.length c0_0] 56 (0, 0))) ∧ (w'.heap[gb502]? = some (.cells #[.slice none 0 0] 56 (0, 0))) ∧ (w'.heap[s_.2.2]? = some (.cells #[.slice none 0 0] 56 (0, 0))) ∧ (w.heap.size ≤ s_.2.2) ∧ (w.heap.size ≤ s_.2.2) ∧ (gb501 ≠ s_.2.2) ∧ (s_.2.2 ≠ gb501) ∧ (gb502 ≠ s_.2.2) ∧ (s_.2.2 ≠ gb502) ∧ (Below w.heap.size w w')) ?_ ?_
      rotate_left
      ·intro hJ1_3_8
       refine join_ (σ := Value × Value × Nat) 7 #[true, true, true, true, false, false, false, false, false, true, false, false] (fun s_ => [(10, .agg #[s_.1]), (12, .agg #[s_.2.1]), (7, .pointer (some ⟨s_.2.2, 0, none⟩))]) (fun s_ w' => (w'.cell? ⟨gb501, 0, none⟩ = some (.slice A0_0 l0_0.length c0_0)) ∧ (Kd.R (Kd.int .u64) 24 w' w.heap.size (fun k_ => some k_ ≠ (s_.2.1 : Value).ownBlock) s_.1 t503) ∧ (Kd.R (Kd.int .u64) 24 w' w.heap.size (fun k_ => some k_ ≠ (s_.1 : Value).ownBlock) s_.2.1 t506) ∧ (w'.heap[gb501]? = some (.cells #[.slice A0_0 l0_0.length c0_0] 56 (0, 0))) ∧ (w'.heap[gb502]? = some (.cells #[.slice none 0 0] 56 (0, 0))) ∧ (w'.heap[s_.2.2]? = some (.cells #[.slice none 0 0] 56 (0, 0))) ∧ (w.heap.size ≤ s_.2.2) ∧ (w.heap.size ≤ s_.2.2) ∧ (gb501 ≠ s_.2.2) ∧ (s_.2.2 ≠ gb501) ∧ (gb502 ≠ s_.2.2) ∧ (s_.2.2 ≠ gb502) ∧ (Below w.heap.size w w')) ?_ ?_
       rotate_left
       ·intro hJ1_3_9
        refine join_ (σ := Value × Nat × Nat) 7 #[true, true, true, false, false, false, false, false, true, true, false, false] (fun s_ => [(10, .agg #[s_.1]), (6, .pointer (some ⟨s_.2.1, 0, none⟩)), (7, .pointer (some ⟨s_.2.2, 0, none⟩))]) (fun s_ w' => (w'.cell? ⟨gb501, 0, none⟩ = some (.slice A0_0 l0_0.length c0_0)) ∧ (Kd.R (Kd.int .u64) 24 w' w.heap.size (fun _ => True) s_.1 t503) ∧ (w'.heap[gb501]? = some (.cells #[.slice A0_0 l0_0.length c0_0] 56 (0, 0))) ∧ (w'.heap[gb502]? = some (.cells #[.slice none 0 0] 56 (0, 0))) ∧ (w'.heap[s_.2.1]? = some (.cells #[.slice none 0 0] 56 (0, 0))) ∧ (w'.heap[s_.2.2]? = some (.cells #[.slice none 0 0] 56 (0, 0))) ∧ (w.heap.size ≤ s_.2.1) ∧ (w.heap.size ≤ s_.2.1) ∧ (gb501 ≠ s_.2.1) ∧ (s_.2.1 ≠ gb501) ∧ (gb502 ≠ s_.2.1) ∧ (s_.2.1 ≠ gb502) ∧ (s_.2.2 ≠ s_.2.1) ∧ (s_.2.1 ≠ s_.2.2) ∧ (w.heap.size ≤ s_.2.2) ∧ (w.heap.size ≤ s_.2.2) ∧ (gb501 ≠ s_.2.2) ∧ (s_.2.2 ≠ gb501) ∧ (gb502 ≠ s_.2.2) ∧ (s_.2.2 ≠ gb502) ∧ (Below w.heap.size w w')) ?_ ?_
        rotate_left
        ·intro hJ1_8_9
         refine join_ (σ := Value × Value) 8 #[true, true, true, true, false, false, false, false, false, false, false, false] (fun s_ => [(10, .agg #[s_.1]), (12, .agg #[s_.2])]) (fun s_ w' => (w'.cell? ⟨gb501, 0, none⟩ = some (.slice A0_0 l0_0.length c0_0)) ∧ (Kd.R (Kd.int .u64) 24 w' w.heap.size (fun k_ => some k_ ≠ (s_.2 : Value).ownBlock) s_.1 t503) ∧ (Kd.R (Kd.int .u64) 24 w' w.heap.size (fun k_ => some k_ ≠ (s_.1 : Value).ownBlock) s_.2 t506) ∧ (w'.heap[gb501]? = some (.cells #[.slice A0_0 l0_0.length c0_0] 56 (0, 0))) ∧ (w'.heap[gb502]? = some (.cells #[.slice none 0 0] 56 (0, 0))) ∧ (Below w.heap.size w w')) ?_ ?_
         rotate_left
         ·intro hJ1_3
          refine join_ (σ := Value × Nat) 8 #[true, true, true, false, false, false, false, false, true, false, false, false] (fun s_ => [(10, .agg #[s_.1]), (6, .pointer (some ⟨s_.2, 0, none⟩))]) (fun s_ w' => (w'.cell? ⟨gb501, 0, none⟩ = some (.slice A0_0 l0_0.length c0_0)) ∧ (Kd.R (Kd.int .u64) 24 w' w.heap.size (fun _ => True) s_.1 t503) ∧ (w'.heap[gb501]? = some (.cells #[.slice A0_0 l0_0.length c0_0] 56 (0, 0))) ∧ (w'.heap[gb502]? = some (.cells #[.slice none 0 0] 56 (0, 0))) ∧ (w'.heap[s_.2]? = some (.cells #[.slice none 0 0] 56 (0, 0))) ∧ (w.heap.size ≤ s_.2) ∧ (w.heap.size ≤ s_.2) ∧ (gb501 ≠ s_.2) ∧ (s_.2 ≠ gb501) ∧ (gb502 ≠ s_.2) ∧ (s_.2 ≠ gb502) ∧ (Below w.heap.size w w')) ?_ ?_
          rotate_left
          ·intro hJ1_8
           refine join_ (σ := Value × Nat) 8 #[true, true, true, false, false, false, false, false, false, true, false, false] (fun s_ => [(10, .agg #[s_.1]), (7, .pointer (some ⟨s_.2, 0, none⟩))]) (fun s_ w' => (w'.cell? ⟨gb501, 0, none⟩ = some (.slice A0_0 l0_0.length c0_0)) ∧ (Kd.R (Kd.int .u64) 24 w' w.heap.size (fun _ => True) s_.1 t503) ∧ (w'.heap[gb501]? = some (.cells #[.slice A0_0 l0_0.length c0_0] 56 (0, 0))) ∧ (w'.heap[gb502]? = some (.cells #[.slice none 0 0] 56 (0, 0))) ∧ (w'.heap[s_.2]? = some (.cells #[.slice none 0 0] 56 (0, 0))) ∧ (w.heap.size ≤ s_.2) ∧ (w.heap.size ≤ s_.2) ∧ (gb501 ≠ s_.2) ∧ (s_.2 ≠ gb501) ∧ (gb502 ≠ s_.2) ∧ (s_.2 ≠ gb502) ∧ (Below w.heap.size w w')) ?_ ?_
           rotate_left
           ·intro hJ1_9
            refine join_ (σ := Nat × Nat) 8 #[true, false, true, false, false, false, false, false, true, true, false, false] (fun s_ => [(6, .pointer (some ⟨s_.1, 0, none⟩)), (7, .pointer (some ⟨s_.2, 0, none⟩))]) (fun s_ w' => (w'.cell? ⟨gb501, 0, none⟩ = some (.slice A0_0 l0_0.length c0_0)) ∧ (w'.heap[gb501]? = some (.cells #[.slice A0_0 l0_0.length c0_0] 56 (0, 0))) ∧ (w'.heap[gb502]? = some (.cells #[.slice none 0 0] 56 (0, 0))) ∧ (w'.heap[s_.1]? = some (.cells #[.slice none 0 0] 56 (0, 0))) ∧ (w'.heap[s_.2]? = some (.cells #[.slice none 0 0] 56 (0, 0))) ∧ (w.heap.size ≤ s_.1) ∧ (w.heap.size ≤ s_.1) ∧ (gb501 ≠ s_.1) ∧ (s_.1 ≠ gb501) ∧ (gb502 ≠ s_.1) ∧ (s_.1 ≠ gb502) ∧ (s_.2 ≠ s_.1) ∧ (s_.1 ≠ s_.2) ∧ (w.heap.size ≤ s_.2) ∧ (w.heap.size ≤ s_.2) ∧ (gb501 ≠ s_.2) ∧ (s_.2 ≠ gb501) ∧ (gb502 ≠ s_.2) ∧ (s_.2 ≠ gb502) ∧ (Below w.heap.size w w')) ?_ ?_
            rotate_left
            ·intro hJ8_9
             refine join_ (σ := Value) 9 #[true, true, true, false, false, false, false, false, false, false, false, false] (fun s_ => [(10, .agg #[s_])]) (fun s_ w' => (w'.cell? ⟨gb501, 0, none⟩ = some (.slice A0_0 l0_0.length c0_0)) ∧ (Kd.R (Kd.int .u64) 24 w' w.heap.size (fun _ => True) s_ t503) ∧ (w'.heap[gb501]? = some (.cells #[.slice A0_0 l0_0.length c0_0] 56 (0, 0))) ∧ (w'.heap[gb502]? = some (.cells #[.slice none 0 0] 56 (0, 0))) ∧ (Below w.heap.size w w')) ?_ ?_
             rotate_left
             ·intro hJ1
              refine join_ (σ := Nat) 9 #[true, false, true, false, false, false, false, false, true, false, false, false] (fun s_ => [(6, .pointer (some ⟨s_, 0, none⟩))]) (fun s_ w' => (w'.cell? ⟨gb501, 0, none⟩ = some (.slice A0_0 l0_0.length c0_0)) ∧ (w'.heap[gb501]? = some (.cells #[.slice A0_0 l0_0.length c0_0] 56 (0, 0))) ∧ (w'.heap[gb502]? = some (.cells #[.slice none 0 0] 56 (0, 0))) ∧ (w'.heap[s_]? = some (.cells #[.slice none 0 0] 56 (0, 0))) ∧ (w.heap.size ≤ s_) ∧ (w.heap.size ≤ s_) ∧ (gb501 ≠ s_) ∧ (s_ ≠ gb501) ∧ (gb502 ≠ s_) ∧ (s_ ≠ gb502) ∧ (Below w.heap.size w w')) ?_ ?_
              rotate_left
              ·intro hJ8
               refine join_ (σ := Nat) 9 #[true, false, true, false, false, false, false, false, false, true, false, false] (fun s_ => [(7, .pointer (some ⟨s_, 0, none⟩))]) (fun s_ w' => (w'.cell? ⟨gb501, 0, none⟩ = some (.slice A0_0 l0_0.length c0_0)) ∧ (w'.heap[gb501]? = some (.cells #[.slice A0_0 l0_0.length c0_0] 56 (0, 0))) ∧ (w'.heap[gb502]? = some (.cells #[.slice none 0 0] 56 (0, 0))) ∧ (w'.heap[s_]? = some (.cells #[.slice none 0 0] 56 (0, 0))) ∧ (w.heap.size ≤ s_) ∧ (w.heap.size ≤ s_) ∧ (gb501 ≠ s_) ∧ (s_ ≠ gb501) ∧ (gb502 ≠ s_) ∧ (s_ ≠ gb502) ∧ (Below w.heap.size w w')) ?_ ?_
               rotate_left
               ·intro hJ9
                refine three_ (i := 1) (j := 8) (k := 9) (Ni := some 10) (Nj := some 6) (Nk := some 7) #[true, true, true, false, false, false, false, false, false, false, false, false] #[true, false, true, false, false, false, false, false, true, false, false, false] #[true, false, true, false, false, false, false, false, false, true, false, false] rfl rfl rfl rfl rfl rfl (three_of HT_.out (by kernel_rfl)) (by decide) (by decide) (by decide) (fun K hK => ?_) (fun K hK => ?_) (fun K hK => ?_)
                ·skip
                 refine goes_ Try.func46 (by kernel_rfl) rfl #[.int .u64 1] (by rfl) rfl rfl mp_ ?_
                 with_reducible refine (r1_Of.calls k 1 t503 _ A3.out).mono ?_
                 rintro e w9 ⟨v504, rfl, ho0, hb⟩
                 refine ⟨_, rfl, ?_⟩
                 have n0_ := A_ (Kd.R_lower ho0 (below_size (hb2_ HB.out GE501.out GE502.out)))
                 have n1_ := A_ (bb_ BK501.out hb)
                 have n2_ := A_ (bb_ BK502.out hb)
                 have n3_ := A_ (below_step (hb2_ HB.out GE501.out GE502.out) hb)
                 clear BK501;clear BK502;clear HB;have HO505 := n0_;have BK501 := n1_;have BK502 := n2_;have HB := n3_;clear n0_ n1_ n2_ n3_;(try clear hb);(try clear hb2);(try clear hk);(try clear hi);(try clear ho0)
                 refine hK.out _ _ (bc_ BK501.out 0) (fun hHeld => ?_)
                 clear hK K
                 refine norm_ (a' := ?_) ?_ ?_
                 rotate_left
                 ·show Act.put _ (some 10) _ = _
                  simp only [Act.put, lI_, l0_, lS_, i64_w, i32_w]
                  rfl
                 exact norm_ pa_ (hJ1 (_) _ ⟨hHeld, (kr_ HO505.out), (bk_ BK501.out), (bk_ BK502.out), (hb2_ HB.out GE501.out GE502.out)⟩)
                ·skip
                 refine box_step ?hg (N := 6) ?hd (cs := #[.slice none 0 0]) (t := 56) ?hr ?_; (case hd => rfl); (case hg => rfl); (case hr => first | (go_simp; done) | (go_simp; rfl))
                 intro gb515 hg w9 hbox hb
                 have n0_ := A_ (bb_ BK501.out hb)
                 have n1_ := A_ (bb_ BK502.out hb)
                 have n2_ := A_ (below_step (hb2_ HB.out GE501.out GE502.out) hb)
                 have n3_ := A_ (hbox)
                 have n4_ := A_ (sz_ hg (hb2_ HB.out GE501.out GE502.out))
                 have n5_ := A_ (sz_ hg (hb2_ HB.out GE501.out GE502.out))
                 have n6_ := A_ (nl_ hg BK501.out)
                 have n7_ := A_ (ng_ hg BK501.out)
                 have n8_ := A_ (nl_ hg BK502.out)
                 have n9_ := A_ (ng_ hg BK502.out)
                 clear BK501;clear BK502;clear HB;have BK501 := n0_;have BK502 := n1_;have HB := n2_;have BK515 := n3_;have GW515 := n4_;have GE515 := n5_;have NB501_515 := n6_;have NB515_501 := n7_;have NB502_515 := n8_;have NB515_502 := n9_;clear n0_ n1_ n2_ n3_ n4_ n5_ n6_ n7_ n8_ n9_;clear hb hbox hg
                 refine hK.out _ _ (bc_ BK501.out 0) (fun hHeld => ?_)
                 clear hK K
                 refine norm_ (a' := ?_) ?_ ?_
                 rotate_left
                 ·show Act.put _ (some 6) _ = _
                  simp only [Act.put, lI_, l0_, lS_, i64_w, i32_w]
                  rfl
                 exact norm_ pa_ (hJ8 (gb515) _ ⟨hHeld, (bk_ BK501.out), (bk_ BK502.out), (bk_ BK515.out), GW515.out, GE515.out, NB501_515.out, NB515_501.out, NB502_515.out, NB515_502.out, (hb3_ HB.out GE501.out GE502.out GE515.out)⟩)
                ·skip
                 refine box_step ?hg (N := 7) ?hd (cs := #[.slice none 0 0]) (t := 56) ?hr ?_; (case hd => rfl); (case hg => rfl); (case hr => first | (go_simp; done) | (go_simp; rfl))
                 intro gb516 hg w9 hbox hb
                 have n0_ := A_ (bb_ BK501.out hb)
                 have n1_ := A_ (bb_ BK502.out hb)
                 have n2_ := A_ (below_step (hb2_ HB.out GE501.out GE502.out) hb)
                 have n3_ := A_ (hbox)
                 have n4_ := A_ (sz_ hg (hb2_ HB.out GE501.out GE502.out))
                 have n5_ := A_ (sz_ hg (hb2_ HB.out GE501.out GE502.out))
                 have n6_ := A_ (nl_ hg BK501.out)
                 have n7_ := A_ (ng_ hg BK501.out)
                 have n8_ := A_ (nl_ hg BK502.out)
                 have n9_ := A_ (ng_ hg BK502.out)
                 clear BK501;clear BK502;clear HB;have BK501 := n0_;have BK502 := n1_;have HB := n2_;have BK516 := n3_;have GW516 := n4_;have GE516 := n5_;have NB501_516 := n6_;have NB516_501 := n7_;have NB502_516 := n8_;have NB516_502 := n9_;clear n0_ n1_ n2_ n3_ n4_ n5_ n6_ n7_ n8_ n9_;clear hb hbox hg
                 refine hK.out _ _ (bc_ BK501.out 0) (fun hHeld => ?_)
                 clear hK K
                 refine norm_ (a' := ?_) ?_ ?_
                 rotate_left
                 ·show Act.put _ (some 7) _ = _
                  simp only [Act.put, lI_, l0_, lS_, i64_w, i32_w]
                  rfl
                 exact norm_ pa_ (hJ9 (gb516) _ ⟨hHeld, (bk_ BK501.out), (bk_ BK502.out), (bk_ BK516.out), GW516.out, GE516.out, NB501_516.out, NB516_501.out, NB502_516.out, NB516_502.out, (hb3_ HB.out GE501.out GE502.out GE516.out)⟩)
               ·skip
                rintro gb516 w10 ⟨hS_, h0_, h1_, h2_, h3_, h4_, h5_, h6_, h7_, h8_, h9_⟩
                have n0_ : Aside0 (w10.heap[gb501]? = some (.cells #[.slice A0_0 l0_0.length c0_0] 56 (0, 0))) := ⟨h0_⟩
                have n1_ : Aside0 (w10.heap[gb502]? = some (.cells #[.slice none 0 0] 56 (0, 0))) := ⟨h1_⟩
                have n2_ : Aside0 (w10.heap[gb516]? = some (.cells #[.slice none 0 0] 56 (0, 0))) := ⟨h2_⟩
                have n3_ : Aside0 (w.heap.size ≤ gb516) := ⟨h3_⟩
                have n4_ : Aside0 (w.heap.size ≤ gb516) := ⟨h4_⟩
                have n5_ : Aside0 (gb501 ≠ gb516) := ⟨h5_⟩
                have n6_ : Aside0 (gb516 ≠ gb501) := ⟨h6_⟩
                have n7_ : Aside0 (gb502 ≠ gb516) := ⟨h7_⟩
                have n8_ : Aside0 (gb516 ≠ gb502) := ⟨h8_⟩
                have n9_ : Aside0 (Below w.heap.size w w10) := ⟨h9_⟩
                clear BK501;clear BK502;clear HB;clear h0_ h1_ h2_ h3_ h4_ h5_ h6_ h7_ h8_ h9_;have BK501 := n0_;have BK502 := n1_;have BK516 := n2_;have GW516 := n3_;have GE516 := n4_;have NB501_516 := n5_;have NB516_501 := n6_;have NB502_516 := n7_;have NB516_502 := n8_;have HB := n9_;clear n0_ n1_ n2_ n3_ n4_ n5_ n6_ n7_ n8_ n9_
                have hHeld : w10.cell? ⟨gb501, 0, none⟩ = some (.slice A0_0 l0_0.length c0_0) := hS_
                refine norm_ (a' := ?_) ?_ ?_
                rotate_left
                ·simp only [putAll, Act.put, lI_, l0_, lS_]
                 rfl
                refine two_ (i := 1) (j := 8) (Ni := some 10) (Nj := some 6) #[true, true, true, false, false, false, false, false, false, true, false, false] #[true, false, true, false, false, false, false, false, true, true, false, false] rfl rfl rfl rfl (two_of HT_.out (by kernel_rfl)) (by decide) (by decide) (fun K hK => ?_) (fun K hK => ?_)
                ·skip
                 refine goes_ Try.func46 (by kernel_rfl) rfl #[.int .u64 1] (by rfl) rfl rfl mp_ ?_
                 with_reducible refine (r1_Of.calls k 1 t503 _ A3.out).mono ?_
                 rintro e w11 ⟨v504, rfl, ho0, hb⟩
                 refine ⟨_, rfl, ?_⟩
                 have n0_ := A_ (Kd.R_lower ho0 (below_size (hb3_ HB.out GE501.out GE502.out GE516.out)))
                 have n1_ := A_ (bb_ BK501.out hb)
                 have n2_ := A_ (bb_ BK502.out hb)
                 have n3_ := A_ (bb_ BK516.out hb)
                 have n4_ := A_ (below_step (hb3_ HB.out GE501.out GE502.out GE516.out) hb)
                 clear BK501;clear BK502;clear BK516;clear HB;have HO505 := n0_;have BK501 := n1_;have BK502 := n2_;have BK516 := n3_;have HB := n4_;clear n0_ n1_ n2_ n3_ n4_;(try clear hb);(try clear hb2);(try clear hk);(try clear hi);(try clear ho0)
                 refine hK.out _ _ (bc_ BK501.out 0) (fun hHeld => ?_)
                 clear hK K
                 refine norm_ (a' := ?_) ?_ ?_
                 rotate_left
                 ·show Act.put _ (some 10) _ = _
                  simp only [Act.put, lI_, l0_, lS_, i64_w, i32_w]
                  rfl
                 exact norm_ pa_ (hJ1_9 (_, gb516) _ ⟨hHeld, (kr_ HO505.out), (bk_ BK501.out), (bk_ BK502.out), (bk_ BK516.out), GW516.out, GE516.out, NB501_516.out, NB516_501.out, NB502_516.out, NB516_502.out, (hb3_ HB.out GE501.out GE502.out GE516.out)⟩)
                ·skip
                 refine box_step ?hg (N := 6) ?hd (cs := #[.slice none 0 0]) (t := 56) ?hr ?_; (case hd => rfl); (case hg => rfl); (case hr => first | (go_simp; done) | (go_simp; rfl))
                 intro gb515 hg w11 hbox hb
                 have n0_ := A_ (bb_ BK501.out hb)
                 have n1_ := A_ (bb_ BK502.out hb)
                 have n2_ := A_ (bb_ BK516.out hb)
                 have n3_ := A_ (below_step (hb3_ HB.out GE501.out GE502.out GE516.out) hb)
                 have n4_ := A_ (hbox)
                 have n5_ := A_ (sz_ hg (hb3_ HB.out GE501.out GE502.out GE516.out))
                 have n6_ := A_ (sz_ hg (hb3_ HB.out GE501.out GE502.out GE516.out))
                 have n7_ := A_ (nl_ hg BK501.out)
                 have n8_ := A_ (ng_ hg BK501.out)
                 have n9_ := A_ (nl_ hg BK502.out)
                 have n10_ := A_ (ng_ hg BK502.out)
                 have n11_ := A_ (nl_ hg BK516.out)
                 have n12_ := A_ (ng_ hg BK516.out)
                 clear BK501;clear BK502;clear BK516;clear HB;have BK501 := n0_;have BK502 := n1_;have BK516 := n2_;have HB := n3_;have BK515 := n4_;have GW515 := n5_;have GE515 := n6_;have NB501_515 := n7_;have NB515_501 := n8_;have NB502_515 := n9_;have NB515_502 := n10_;have NB516_515 := n11_;have NB515_516 := n12_;clear n0_ n1_ n2_ n3_ n4_ n5_ n6_ n7_ n8_ n9_ n10_ n11_ n12_;clear hb hbox hg
                 refine hK.out _ _ (bc_ BK501.out 0) (fun hHeld => ?_)
                 clear hK K
                 refine norm_ (a' := ?_) ?_ ?_
                 rotate_left
                 ·show Act.put _ (some 6) _ = _
                  simp only [Act.put, lI_, l0_, lS_, i64_w, i32_w]
                  rfl
                 exact norm_ pa_ (hJ8_9 (gb515, gb516) _ ⟨hHeld, (bk_ BK501.out), (bk_ BK502.out), (bk_ BK515.out), (bk_ BK516.out), GW515.out, GE515.out, NB501_515.out, NB515_501.out, NB502_515.out, NB515_502.out, NB516_515.out, NB515_516.out, GW516.out, GE516.out, NB501_516.out, NB516_501.out, NB502_516.out, NB516_502.out, (hb4_ HB.out GE501.out GE502.out GE516.out GE515.out)⟩)
              ·skip
               rintro gb515 w10 ⟨hS_, h0_, h1_, h2_, h3_, h4_, h5_, h6_, h7_, h8_, h9_⟩
               have n0_ : Aside0 (w10.heap[gb501]? = some (.cells #[.slice A0_0 l0_0.length c0_0] 56 (0, 0))) := ⟨h0_⟩
               have n1_ : Aside0 (w10.heap[gb502]? = some (.cells #[.slice none 0 0] 56 (0, 0))) := ⟨h1_⟩
               have n2_ : Aside0 (w10.heap[gb515]? = some (.cells #[.slice none 0 0] 56 (0, 0))) := ⟨h2_⟩
               have n3_ : Aside0 (w.heap.size ≤ gb515) := ⟨h3_⟩
               have n4_ : Aside0 (w.heap.size ≤ gb515) := ⟨h4_⟩
               have n5_ : Aside0 (gb501 ≠ gb515) := ⟨h5_⟩
               have n6_ : Aside0 (gb515 ≠ gb501) := ⟨h6_⟩
               have n7_ : Aside0 (gb502 ≠ gb515) := ⟨h7_⟩
               have n8_ : Aside0 (gb515 ≠ gb502) := ⟨h8_⟩
               have n9_ : Aside0 (Below w.heap.size w w10) := ⟨h9_⟩
               clear BK501;clear BK502;clear HB;clear h0_ h1_ h2_ h3_ h4_ h5_ h6_ h7_ h8_ h9_;have BK501 := n0_;have BK502 := n1_;have BK515 := n2_;have GW515 := n3_;have GE515 := n4_;have NB501_515 := n5_;have NB515_501 := n6_;have NB502_515 := n7_;have NB515_502 := n8_;have HB := n9_;clear n0_ n1_ n2_ n3_ n4_ n5_ n6_ n7_ n8_ n9_
               have hHeld : w10.cell? ⟨gb501, 0, none⟩ = some (.slice A0_0 l0_0.length c0_0) := hS_
               refine norm_ (a' := ?_) ?_ ?_
               rotate_left
               ·simp only [putAll, Act.put, lI_, l0_, lS_]
                rfl
               refine two_ (i := 1) (j := 9) (Ni := some 10) (Nj := some 7) #[true, true, true, false, false, false, false, false, true, false, false, false] #[true, false, true, false, false, false, false, false, true, true, false, false] rfl rfl rfl rfl (two_of HT_.out (by kernel_rfl)) (by decide) (by decide) (fun K hK => ?_) (fun K hK => ?_)
               ·skip
                refine goes_ Try.func46 (by kernel_rfl) rfl #[.int .u64 1] (by rfl) rfl rfl mp_ ?_
                with_reducible refine (r1_Of.calls k 1 t503 _ A3.out).mono ?_
                rintro e w11 ⟨v504, rfl, ho0, hb⟩
                refine ⟨_, rfl, ?_⟩
                have n0_ := A_ (Kd.R_lower ho0 (below_size (hb3_ HB.out GE501.out GE502.out GE515.out)))
                have n1_ := A_ (bb_ BK501.out hb)
                have n2_ := A_ (bb_ BK502.out hb)
                have n3_ := A_ (bb_ BK515.out hb)
                have n4_ := A_ (below_step (hb3_ HB.out GE501.out GE502.out GE515.out) hb)
                clear BK501;clear BK502;clear BK515;clear HB;have HO505 := n0_;have BK501 := n1_;have BK502 := n2_;have BK515 := n3_;have HB := n4_;clear n0_ n1_ n2_ n3_ n4_;(try clear hb);(try clear hb2);(try clear hk);(try clear hi);(try clear ho0)
                refine hK.out _ _ (bc_ BK501.out 0) (fun hHeld => ?_)
                clear hK K
                refine norm_ (a' := ?_) ?_ ?_
                rotate_left
                ·show Act.put _ (some 10) _ = _
                 simp only [Act.put, lI_, l0_, lS_, i64_w, i32_w]
                 rfl
                exact norm_ pa_ (hJ1_8 (_, gb515) _ ⟨hHeld, (kr_ HO505.out), (bk_ BK501.out), (bk_ BK502.out), (bk_ BK515.out), GW515.out, GE515.out, NB501_515.out, NB515_501.out, NB502_515.out, NB515_502.out, (hb3_ HB.out GE501.out GE502.out GE515.out)⟩)
               ·skip
                refine box_step ?hg (N := 7) ?hd (cs := #[.slice none 0 0]) (t := 56) ?hr ?_; (case hd => rfl); (case hg => rfl); (case hr => first | (go_simp; done) | (go_simp; rfl))
                intro gb516 hg w11 hbox hb
                have n0_ := A_ (bb_ BK501.out hb)
                have n1_ := A_ (bb_ BK502.out hb)
                have n2_ := A_ (bb_ BK515.out hb)
                have n3_ := A_ (below_step (hb3_ HB.out GE501.out GE502.out GE515.out) hb)
                have n4_ := A_ (hbox)
                have n5_ := A_ (sz_ hg (hb3_ HB.out GE501.out GE502.out GE515.out))
                have n6_ := A_ (sz_ hg (hb3_ HB.out GE501.out GE502.out GE515.out))
                have n7_ := A_ (nl_ hg BK501.out)
                have n8_ := A_ (ng_ hg BK501.out)
                have n9_ := A_ (nl_ hg BK502.out)
                have n10_ := A_ (ng_ hg BK502.out)
                have n11_ := A_ (nl_ hg BK515.out)
                have n12_ := A_ (ng_ hg BK515.out)
                clear BK501;clear BK502;clear BK515;clear HB;have BK501 := n0_;have BK502 := n1_;have BK515 := n2_;have HB := n3_;have BK516 := n4_;have GW516 := n5_;have GE516 := n6_;have NB501_516 := n7_;have NB516_501 := n8_;have NB502_516 := n9_;have NB516_502 := n10_;have NB515_516 := n11_;have NB516_515 := n12_;clear n0_ n1_ n2_ n3_ n4_ n5_ n6_ n7_ n8_ n9_ n10_ n11_ n12_;clear hb hbox hg
                refine hK.out _ _ (bc_ BK501.out 0) (fun hHeld => ?_)
                clear hK K
                refine norm_ (a' := ?_) ?_ ?_
                rotate_left
                ·show Act.put _ (some 7) _ = _
                 simp only [Act.put, lI_, l0_, lS_, i64_w, i32_w]
                 rfl
                exact norm_ pa_ (hJ8_9 (gb515, gb516) _ ⟨hHeld, (bk_ BK501.out), (bk_ BK502.out), (bk_ BK515.out), (bk_ BK516.out), GW515.out, GE515.out, NB501_515.out, NB515_501.out, NB502_515.out, NB515_502.out, NB516_515.out, NB515_516.out, GW516.out, GE516.out, NB501_516.out, NB516_501.out, NB502_516.out, NB516_502.out, (hb4_ HB.out GE501.out GE502.out GE515.out GE516.out)⟩)
             ·skip
              rintro v504 w10 ⟨hS_, h0_, h1_, h2_, h3_⟩
              have n0_ : Aside0 (Kd.R (Kd.int .u64) 24 w10 w.heap.size (fun _ => True) v504 t503) := ⟨h0_⟩
              have n1_ : Aside0 (w10.heap[gb501]? = some (.cells #[.slice A0_0 l0_0.length c0_0] 56 (0, 0))) := ⟨h1_⟩
              have n2_ : Aside0 (w10.heap[gb502]? = some (.cells #[.slice none 0 0] 56 (0, 0))) := ⟨h2_⟩
              have n3_ : Aside0 (Below w.heap.size w w10) := ⟨h3_⟩
              clear BK501;clear BK502;clear HB;clear h0_ h1_ h2_ h3_;have HO505 := n0_;have BK501 := n1_;have BK502 := n2_;have HB := n3_;clear n0_ n1_ n2_ n3_
              have hHeld : w10.cell? ⟨gb501, 0, none⟩ = some (.slice A0_0 l0_0.length c0_0) := hS_
              obtain ⟨Ao11, co11, eo11⟩ := Kd.R_slice HO505.out
              (first | subst eo11 | (injection eo11 with f1_ f2_ f3_; have f4_ := f1_.symm; have f5_ := f3_.symm; clear f1_ f2_ f3_; subst f4_; subst f5_))
              refine norm_ (a' := ?_) ?_ ?_
              rotate_left
              ·simp only [putAll, Act.put, lI_, l0_, lS_]
               rfl
              refine three_ (i := 3) (j := 8) (k := 9) (Ni := some 12) (Nj := some 6) (Nk := some 7) #[true, true, true, true, false, false, false, false, false, false, false, false] #[true, true, true, false, false, false, false, false, true, false, false, false] #[true, true, true, false, false, false, false, false, false, true, false, false] rfl rfl rfl rfl rfl rfl (three_of HT_.out (by kernel_rfl)) (by decide) (by decide) (by decide) (fun K hK => ?_) (fun K hK => ?_) (fun K hK => ?_)
              ·skip
               refine goes_ Try.func103 (by kernel_rfl) rfl #[.agg #[.slice Ao11 t503.length co11], .int .i64 a1] (by rfl) rfl rfl mp_ ?_
               with_reducible refine (r1_Shl.calls k _ _ t503 a1 t506 _ ?side1 ?side2 A4.out).mono ?_
               (case side1 => repeat (first | exact (Kd.R_reads' HO505.out).2.2 | (with_reducible refine Kd.C_alloc ?_ _) | (with_reducible refine Kd.C_drewN ?_ _) | (with_reducible refine Kd.C_drew ?_)))
               (case side2 => exact (Kd.R_reads' HO505.out).2.1)
               rintro e w12 ⟨v507, rfl, ho0, hb⟩
               refine ⟨_, rfl, ?_⟩
               have n0_ := A_ (Kd.R_elder' (kr_ HO505.out) (Kd.R_base ho0) hb)
               have n1_ := A_ (Kd.R_lower (Kd.R_new' ho0 (Kd.R_lt (kr_ HO505.out))) (below_size (hb2_ HB.out GE501.out GE502.out)))
               have n2_ := A_ (bb_ BK501.out hb)
               have n3_ := A_ (bb_ BK502.out hb)
               have n4_ := A_ (below_step (hb2_ HB.out GE501.out GE502.out) hb)
               clear HO505;clear BK501;clear BK502;clear HB;have HO505 := n0_;have HO508 := n1_;have BK501 := n2_;have BK502 := n3_;have HB := n4_;clear n0_ n1_ n2_ n3_ n4_;(try clear hb);(try clear hb2);(try clear hk);(try clear hi);(try clear ho0)
               refine hK.out _ _ (bc_ BK501.out 0) (fun hHeld => ?_)
               clear hK K
               refine norm_ (a' := ?_) ?_ ?_
               rotate_left
               ·show Act.put _ (some 12) _ = _
                simp only [Act.put, lI_, l0_, lS_, i64_w, i32_w]
                rfl
               exact norm_ pa_ (hJ1_3 (.slice Ao11 t503.length co11, _) _ ⟨hHeld, (by (with_reducible repeat (first | apply Kd.R_alloc | apply Kd.R_drewN | apply Kd.R_drew)); exact Kd.R_mono HO505.out (fun _ hk => hk.2)), (by (with_reducible repeat (first | apply Kd.R_alloc | apply Kd.R_drewN | apply Kd.R_drew)); exact Kd.R_mono HO508.out (fun _ hk => hk.2)), (bk_ BK501.out), (bk_ BK502.out), (hb2_ HB.out GE501.out GE502.out)⟩)
              ·skip
               refine box_step ?hg (N := 6) ?hd (cs := #[.slice none 0 0]) (t := 56) ?hr ?_; (case hd => rfl); (case hg => rfl); (case hr => first | (go_simp; done) | (go_simp; rfl))
               intro gb515 hg w11 hbox hb
               have n0_ := A_ (Kd.R_below (kr_ HO505.out) hb)
               have n1_ := A_ (bb_ BK501.out hb)
               have n2_ := A_ (bb_ BK502.out hb)
               have n3_ := A_ (below_step (hb2_ HB.out GE501.out GE502.out) hb)
               have n4_ := A_ (hbox)
               have n5_ := A_ (sz_ hg (hb2_ HB.out GE501.out GE502.out))
               have n6_ := A_ (sz_ hg (hb2_ HB.out GE501.out GE502.out))
               have n7_ := A_ (nl_ hg BK501.out)
               have n8_ := A_ (ng_ hg BK501.out)
               have n9_ := A_ (nl_ hg BK502.out)
               have n10_ := A_ (ng_ hg BK502.out)
               clear HO505;clear BK501;clear BK502;clear HB;have HO505 := n0_;have BK501 := n1_;have BK502 := n2_;have HB := n3_;have BK515 := n4_;have GW515 := n5_;have GE515 := n6_;have NB501_515 := n7_;have NB515_501 := n8_;have NB502_515 := n9_;have NB515_502 := n10_;clear n0_ n1_ n2_ n3_ n4_ n5_ n6_ n7_ n8_ n9_ n10_;clear hb hbox hg
               refine hK.out _ _ (bc_ BK501.out 0) (fun hHeld => ?_)
               clear hK K
               refine norm_ (a' := ?_) ?_ ?_
               rotate_left
               ·show Act.put _ (some 6) _ = _
                simp only [Act.put, lI_, l0_, lS_, i64_w, i32_w]
                rfl
               exact norm_ pa_ (hJ1_8 (_, gb515) _ ⟨hHeld, (kr_ HO505.out), (bk_ BK501.out), (bk_ BK502.out), (bk_ BK515.out), GW515.out, GE515.out, NB501_515.out, NB515_501.out, NB502_515.out, NB515_502.out, (hb3_ HB.out GE501.out GE502.out GE515.out)⟩)
              ·skip
               refine box_step ?hg (N := 7) ?hd (cs := #[.slice none 0 0]) (t := 56) ?hr ?_; (case hd => rfl); (case hg => rfl); (case hr => first | (go_simp; done) | (go_simp; rfl))
               intro gb516 hg w11 hbox hb
               have n0_ := A_ (Kd.R_below (kr_ HO505.out) hb)
               have n1_ := A_ (bb_ BK501.out hb)
               have n2_ := A_ (bb_ BK502.out hb)
               have n3_ := A_ (below_step (hb2_ HB.out GE501.out GE502.out) hb)
               have n4_ := A_ (hbox)
               have n5_ := A_ (sz_ hg (hb2_ HB.out GE501.out GE502.out))
               have n6_ := A_ (sz_ hg (hb2_ HB.out GE501.out GE502.out))
               have n7_ := A_ (nl_ hg BK501.out)
               have n8_ := A_ (ng_ hg BK501.out)
               have n9_ := A_ (nl_ hg BK502.out)
               have n10_ := A_ (ng_ hg BK502.out)
               clear HO505;clear BK501;clear BK502;clear HB;have HO505 := n0_;have BK501 := n1_;have BK502 := n2_;have HB := n3_;have BK516 := n4_;have GW516 := n5_;have GE516 := n6_;have NB501_516 := n7_;have NB516_501 := n8_;have NB502_516 := n9_;have NB516_502 := n10_;clear n0_ n1_ n2_ n3_ n4_ n5_ n6_ n7_ n8_ n9_ n10_;clear hb hbox hg
               refine hK.out _ _ (bc_ BK501.out 0) (fun hHeld => ?_)
               clear hK K
               refine norm_ (a' := ?_) ?_ ?_
               rotate_left
               ·show Act.put _ (some 7) _ = _
                simp only [Act.put, lI_, l0_, lS_, i64_w, i32_w]
                rfl
               exact norm_ pa_ (hJ1_9 (_, gb516) _ ⟨hHeld, (kr_ HO505.out), (bk_ BK501.out), (bk_ BK502.out), (bk_ BK516.out), GW516.out, GE516.out, NB501_516.out, NB516_501.out, NB502_516.out, NB516_502.out, (hb3_ HB.out GE501.out GE502.out GE516.out)⟩)
            ·skip
             rintro ⟨gb515, gb516⟩ w11 ⟨hS_, h0_, h1_, h2_, h3_, h4_, h5_, h6_, h7_, h8_, h9_, h10_, h11_, h12_, h13_, h14_, h15_, h16_, h17_, h18_⟩
             have n0_ : Aside0 (w11.heap[gb501]? = some (.cells #[.slice A0_0 l0_0.length c0_0] 56 (0, 0))) := ⟨h0_⟩
             have n1_ : Aside0 (w11.heap[gb502]? = some (.cells #[.slice none 0 0] 56 (0, 0))) := ⟨h1_⟩
             have n2_ : Aside0 (w11.heap[gb515]? = some (.cells #[.slice none 0 0] 56 (0, 0))) := ⟨h2_⟩
             have n3_ : Aside0 (w11.heap[gb516]? = some (.cells #[.slice none 0 0] 56 (0, 0))) := ⟨h3_⟩
             have n4_ : Aside0 (w.heap.size ≤ gb515) := ⟨h4_⟩
             have n5_ : Aside0 (w.heap.size ≤ gb515) := ⟨h5_⟩
             have n6_ : Aside0 (gb501 ≠ gb515) := ⟨h6_⟩
             have n7_ : Aside0 (gb515 ≠ gb501) := ⟨h7_⟩
             have n8_ : Aside0 (gb502 ≠ gb515) := ⟨h8_⟩
             have n9_ : Aside0 (gb515 ≠ gb502) := ⟨h9_⟩
             have n10_ : Aside0 (gb516 ≠ gb515) := ⟨h10_⟩
             have n11_ : Aside0 (gb515 ≠ gb516) := ⟨h11_⟩
             have n12_ : Aside0 (w.heap.size ≤ gb516) := ⟨h12_⟩
             have n13_ : Aside0 (w.heap.size ≤ gb516) := ⟨h13_⟩
             have n14_ : Aside0 (gb501 ≠ gb516) := ⟨h14_⟩
             have n15_ : Aside0 (gb516 ≠ gb501) := ⟨h15_⟩
             have n16_ : Aside0 (gb502 ≠ gb516) := ⟨h16_⟩
             have n17_ : Aside0 (gb516 ≠ gb502) := ⟨h17_⟩
             have n18_ : Aside0 (Below w.heap.size w w11) := ⟨h18_⟩
             clear BK501;clear BK502;clear HB;clear h0_ h1_ h2_ h3_ h4_ h5_ h6_ h7_ h8_ h9_ h10_ h11_ h12_ h13_ h14_ h15_ h16_ h17_ h18_;have BK501 := n0_;have BK502 := n1_;have BK515 := n2_;have BK516 := n3_;have GW515 := n4_;have GE515 := n5_;have NB501_515 := n6_;have NB515_501 := n7_;have NB502_515 := n8_;have NB515_502 := n9_;have NB516_515 := n10_;have NB515_516 := n11_;have GW516 := n12_;have GE516 := n13_;have NB501_516 := n14_;have NB516_501 := n15_;have NB502_516 := n16_;have NB516_502 := n17_;have HB := n18_;clear n0_ n1_ n2_ n3_ n4_ n5_ n6_ n7_ n8_ n9_ n10_ n11_ n12_ n13_ n14_ n15_ n16_ n17_ n18_
             have hHeld : w11.cell? ⟨gb501, 0, none⟩ = some (.slice A0_0 l0_0.length c0_0) := hS_
             refine norm_ (a' := ?_) ?_ ?_
             rotate_left
             ·simp only [putAll, Act.put, lI_, l0_, lS_]
              rfl
             refine one_ (i := 1) (N := some 10) #[true, true, true, false, false, false, false, false, true, true, false, false] rfl rfl (one_of HT_.out (by kernel_rfl)) (by decide) (fun K hK => ?_)
             refine goes_ Try.func46 (by kernel_rfl) rfl #[.int .u64 1] (by rfl) rfl rfl mp_ ?_
             with_reducible refine (r1_Of.calls k 1 t503 _ A3.out).mono ?_
             rintro e w12 ⟨v504, rfl, ho0, hb⟩
             refine ⟨_, rfl, ?_⟩
             have n0_ := A_ (Kd.R_lower ho0 (below_size (hb4_ HB.out GE501.out GE502.out GE515.out GE516.out)))
             have n1_ := A_ (bb_ BK501.out hb)
             have n2_ := A_ (bb_ BK502.out hb)
             have n3_ := A_ (bb_ BK515.out hb)
             have n4_ := A_ (bb_ BK516.out hb)
             have n5_ := A_ (below_step (hb4_ HB.out GE501.out GE502.out GE515.out GE516.out) hb)
             clear BK501;clear BK502;clear BK515;clear BK516;clear HB;have HO505 := n0_;have BK501 := n1_;have BK502 := n2_;have BK515 := n3_;have BK516 := n4_;have HB := n5_;clear n0_ n1_ n2_ n3_ n4_ n5_;(try clear hb);(try clear hb2);(try clear hk);(try clear hi);(try clear ho0)
             refine hK.out _ _ (bc_ BK501.out 0) (fun hHeld => ?_)
             clear hK K
             refine norm_ (a' := ?_) ?_ ?_
             rotate_left
             ·show Act.put _ (some 10) _ = _
              simp only [Act.put, lI_, l0_, lS_, i64_w, i32_w]
              rfl
             exact norm_ pa_ (hJ1_8_9 (_, gb515, gb516) _ ⟨hHeld, (kr_ HO505.out), (bk_ BK501.out), (bk_ BK502.out), (bk_ BK515.out), (bk_ BK516.out), GW515.out, GE515.out, NB501_515.out, NB515_501.out, NB502_515.out, NB515_502.out, NB516_515.out, NB515_516.out, GW516.out, GE516.out, NB501_516.out, NB516_501.out, NB502_516.out, NB516_502.out, (hb4_ HB.out GE501.out GE502.out GE515.out GE516.out)⟩)
           ·skip
            rintro ⟨v504, gb516⟩ w11 ⟨hS_, h0_, h1_, h2_, h3_, h4_, h5_, h6_, h7_, h8_, h9_, h10_⟩
            have n0_ : Aside0 (Kd.R (Kd.int .u64) 24 w11 w.heap.size (fun _ => True) v504 t503) := ⟨h0_⟩
            have n1_ : Aside0 (w11.heap[gb501]? = some (.cells #[.slice A0_0 l0_0.length c0_0] 56 (0, 0))) := ⟨h1_⟩
            have n2_ : Aside0 (w11.heap[gb502]? = some (.cells #[.slice none 0 0] 56 (0, 0))) := ⟨h2_⟩
            have n3_ : Aside0 (w11.heap[gb516]? = some (.cells #[.slice none 0 0] 56 (0, 0))) := ⟨h3_⟩
            have n4_ : Aside0 (w.heap.size ≤ gb516) := ⟨h4_⟩
            have n5_ : Aside0 (w.heap.size ≤ gb516) := ⟨h5_⟩
            have n6_ : Aside0 (gb501 ≠ gb516) := ⟨h6_⟩
            have n7_ : Aside0 (gb516 ≠ gb501) := ⟨h7_⟩
            have n8_ : Aside0 (gb502 ≠ gb516) := ⟨h8_⟩
            have n9_ : Aside0 (gb516 ≠ gb502) := ⟨h9_⟩
            have n10_ : Aside0 (Below w.heap.size w w11) := ⟨h10_⟩
            clear BK501;clear BK502;clear HB;clear h0_ h1_ h2_ h3_ h4_ h5_ h6_ h7_ h8_ h9_ h10_;have HO505 := n0_;have BK501 := n1_;have BK502 := n2_;have BK516 := n3_;have GW516 := n4_;have GE516 := n5_;have NB501_516 := n6_;have NB516_501 := n7_;have NB502_516 := n8_;have NB516_502 := n9_;have HB := n10_;clear n0_ n1_ n2_ n3_ n4_ n5_ n6_ n7_ n8_ n9_ n10_
            have hHeld : w11.cell? ⟨gb501, 0, none⟩ = some (.slice A0_0 l0_0.length c0_0) := hS_
            obtain ⟨Ao12, co12, eo12⟩ := Kd.R_slice HO505.out
            (first | subst eo12 | (injection eo12 with f1_ f2_ f3_; have f4_ := f1_.symm; have f5_ := f3_.symm; clear f1_ f2_ f3_; subst f4_; subst f5_))
            refine norm_ (a' := ?_) ?_ ?_
            rotate_left
            ·simp only [putAll, Act.put, lI_, l0_, lS_]
             rfl
            refine two_ (i := 3) (j := 8) (Ni := some 12) (Nj := some 6) #[true, true, true, true, false, false, false, false, false, true, false, false] #[true, true, true, false, false, false, false, false, true, true, false, false] rfl rfl rfl rfl (two_of HT_.out (by kernel_rfl)) (by decide) (by decide) (fun K hK => ?_) (fun K hK => ?_)
            ·skip
             refine goes_ Try.func103 (by kernel_rfl) rfl #[.agg #[.slice Ao12 t503.length co12], .int .i64 a1] (by rfl) rfl rfl mp_ ?_
             with_reducible refine (r1_Shl.calls k _ _ t503 a1 t506 _ ?side1 ?side2 A4.out).mono ?_
             (case side1 => repeat (first | exact (Kd.R_reads' HO505.out).2.2 | (with_reducible refine Kd.C_alloc ?_ _) | (with_reducible refine Kd.C_drewN ?_ _) | (with_reducible refine Kd.C_drew ?_)))
             (case side2 => exact (Kd.R_reads' HO505.out).2.1)
             rintro e w13 ⟨v507, rfl, ho0, hb⟩
             refine ⟨_, rfl, ?_⟩
             have n0_ := A_ (Kd.R_elder' (kr_ HO505.out) (Kd.R_base ho0) hb)
             have n1_ := A_ (Kd.R_lower (Kd.R_new' ho0 (Kd.R_lt (kr_ HO505.out))) (below_size (hb3_ HB.out GE501.out GE502.out GE516.out)))
             have n2_ := A_ (bb_ BK501.out hb)
             have n3_ := A_ (bb_ BK502.out hb)
             have n4_ := A_ (bb_ BK516.out hb)
             have n5_ := A_ (below_step (hb3_ HB.out GE501.out GE502.out GE516.out) hb)
             clear HO505;clear BK501;clear BK502;clear BK516;clear HB;have HO505 := n0_;have HO508 := n1_;have BK501 := n2_;have BK502 := n3_;have BK516 := n4_;have HB := n5_;clear n0_ n1_ n2_ n3_ n4_ n5_;(try clear hb);(try clear hb2);(try clear hk);(try clear hi);(try clear ho0)
             refine hK.out _ _ (bc_ BK501.out 0) (fun hHeld => ?_)
             clear hK K
             refine norm_ (a' := ?_) ?_ ?_
             rotate_left
             ·show Act.put _ (some 12) _ = _
              simp only [Act.put, lI_, l0_, lS_, i64_w, i32_w]
              rfl
             exact norm_ pa_ (hJ1_3_9 (.slice Ao12 t503.length co12, _, gb516) _ ⟨hHeld, (by (with_reducible repeat (first | apply Kd.R_alloc | apply Kd.R_drewN | apply Kd.R_drew)); exact Kd.R_mono HO505.out (fun _ hk => hk.2)), (by (with_reducible repeat (first | apply Kd.R_alloc | apply Kd.R_drewN | apply Kd.R_drew)); exact Kd.R_mono HO508.out (fun _ hk => hk.2)), (bk_ BK501.out), (bk_ BK502.out), (bk_ BK516.out), GW516.out, GE516.out, NB501_516.out, NB516_501.out, NB502_516.out, NB516_502.out, (hb3_ HB.out GE501.out GE502.out GE516.out)⟩)
            ·skip
             refine box_step ?hg (N := 6) ?hd (cs := #[.slice none 0 0]) (t := 56) ?hr ?_; (case hd => rfl); (case hg => rfl); (case hr => first | (go_simp; done) | (go_simp; rfl))
             intro gb515 hg w12 hbox hb
             have n0_ := A_ (Kd.R_below (kr_ HO505.out) hb)
             have n1_ := A_ (bb_ BK501.out hb)
             have n2_ := A_ (bb_ BK502.out hb)
             have n3_ := A_ (bb_ BK516.out hb)
             have n4_ := A_ (below_step (hb3_ HB.out GE501.out GE502.out GE516.out) hb)
             have n5_ := A_ (hbox)
             have n6_ := A_ (sz_ hg (hb3_ HB.out GE501.out GE502.out GE516.out))
             have n7_ := A_ (sz_ hg (hb3_ HB.out GE501.out GE502.out GE516.out))
             have n8_ := A_ (nl_ hg BK501.out)
             have n9_ := A_ (ng_ hg BK501.out)
             have n10_ := A_ (nl_ hg BK502.out)
             have n11_ := A_ (ng_ hg BK502.out)
             have n12_ := A_ (nl_ hg BK516.out)
             have n13_ := A_ (ng_ hg BK516.out)
             clear HO505;clear BK501;clear BK502;clear BK516;clear HB;have HO505 := n0_;have BK501 := n1_;have BK502 := n2_;have BK516 := n3_;have HB := n4_;have BK515 := n5_;have GW515 := n6_;have GE515 := n7_;have NB501_515 := n8_;have NB515_501 := n9_;have NB502_515 := n10_;have NB515_502 := n11_;have NB516_515 := n12_;have NB515_516 := n13_;clear n0_ n1_ n2_ n3_ n4_ n5_ n6_ n7_ n8_ n9_ n10_ n11_ n12_ n13_;clear hb hbox hg
             refine hK.out _ _ (bc_ BK501.out 0) (fun hHeld => ?_)
             clear hK K
             refine norm_ (a' := ?_) ?_ ?_
             rotate_left
             ·show Act.put _ (some 6) _ = _
              simp only [Act.put, lI_, l0_, lS_, i64_w, i32_w]
              rfl
             exact norm_ pa_ (hJ1_8_9 (_, gb515, gb516) _ ⟨hHeld, (kr_ HO505.out), (bk_ BK501.out), (bk_ BK502.out), (bk_ BK515.out), (bk_ BK516.out), GW515.out, GE515.out, NB501_515.out, NB515_501.out, NB502_515.out, NB515_502.out, NB516_515.out, NB515_516.out, GW516.out, GE516.out, NB501_516.out, NB516_501.out, NB502_516.out, NB516_502.out, (hb4_ HB.out GE501.out GE502.out GE516.out GE515.out)⟩)
          ·skip
           rintro ⟨v504, gb515⟩ w11 ⟨hS_, h0_, h1_, h2_, h3_, h4_, h5_, h6_, h7_, h8_, h9_, h10_⟩
           have n0_ : Aside0 (Kd.R (Kd.int .u64) 24 w11 w.heap.size (fun _ => True) v504 t503) := ⟨h0_⟩
           have n1_ : Aside0 (w11.heap[gb501]? = some (.cells #[.slice A0_0 l0_0.length c0_0] 56 (0, 0))) := ⟨h1_⟩
           have n2_ : Aside0 (w11.heap[gb502]? = some (.cells #[.slice none 0 0] 56 (0, 0))) := ⟨h2_⟩
           have n3_ : Aside0 (w11.heap[gb515]? = some (.cells #[.slice none 0 0] 56 (0, 0))) := ⟨h3_⟩
           have n4_ : Aside0 (w.heap.size ≤ gb515) := ⟨h4_⟩
           have n5_ : Aside0 (w.heap.size ≤ gb515) := ⟨h5_⟩
           have n6_ : Aside0 (gb501 ≠ gb515) := ⟨h6_⟩
           have n7_ : Aside0 (gb515 ≠ gb501) := ⟨h7_⟩
           have n8_ : Aside0 (gb502 ≠ gb515) := ⟨h8_⟩
           have n9_ : Aside0 (gb515 ≠ gb502) := ⟨h9_⟩
           have n10_ : Aside0 (Below w.heap.size w w11) := ⟨h10_⟩
           clear BK501;clear BK502;clear HB;clear h0_ h1_ h2_ h3_ h4_ h5_ h6_ h7_ h8_ h9_ h10_;have HO505 := n0_;have BK501 := n1_;have BK502 := n2_;have BK515 := n3_;have GW515 := n4_;have GE515 := n5_;have NB501_515 := n6_;have NB515_501 := n7_;have NB502_515 := n8_;have NB515_502 := n9_;have HB := n10_;clear n0_ n1_ n2_ n3_ n4_ n5_ n6_ n7_ n8_ n9_ n10_
           have hHeld : w11.cell? ⟨gb501, 0, none⟩ = some (.slice A0_0 l0_0.length c0_0) := hS_
           obtain ⟨Ao12, co12, eo12⟩ := Kd.R_slice HO505.out
           (first | subst eo12 | (injection eo12 with f1_ f2_ f3_; have f4_ := f1_.symm; have f5_ := f3_.symm; clear f1_ f2_ f3_; subst f4_; subst f5_))
           refine norm_ (a' := ?_) ?_ ?_
           rotate_left
           ·simp only [putAll, Act.put, lI_, l0_, lS_]
            rfl
           refine two_ (i := 3) (j := 9) (Ni := some 12) (Nj := some 7) #[true, true, true, true, false, false, false, false, true, false, false, false] #[true, true, true, false, false, false, false, false, true, true, false, false] rfl rfl rfl rfl (two_of HT_.out (by kernel_rfl)) (by decide) (by decide) (fun K hK => ?_) (fun K hK => ?_)
           ·skip
            refine goes_ Try.func103 (by kernel_rfl) rfl #[.agg #[.slice Ao12 t503.length co12], .int .i64 a1] (by rfl) rfl rfl mp_ ?_
            with_reducible refine (r1_Shl.calls k _ _ t503 a1 t506 _ ?side1 ?side2 A4.out).mono ?_
            (case side1 => repeat (first | exact (Kd.R_reads' HO505.out).2.2 | (with_reducible refine Kd.C_alloc ?_ _) | (with_reducible refine Kd.C_drewN ?_ _) | (with_reducible refine Kd.C_drew ?_)))
            (case side2 => exact (Kd.R_reads' HO505.out).2.1)
            rintro e w13 ⟨v507, rfl, ho0, hb⟩
            refine ⟨_, rfl, ?_⟩
            have n0_ := A_ (Kd.R_elder' (kr_ HO505.out) (Kd.R_base ho0) hb)
            have n1_ := A_ (Kd.R_lower (Kd.R_new' ho0 (Kd.R_lt (kr_ HO505.out))) (below_size (hb3_ HB.out GE501.out GE502.out GE515.out)))
            have n2_ := A_ (bb_ BK501.out hb)
            have n3_ := A_ (bb_ BK502.out hb)
            have n4_ := A_ (bb_ BK515.out hb)
            have n5_ := A_ (below_step (hb3_ HB.out GE501.out GE502.out GE515.out) hb)
            clear HO505;clear BK501;clear BK502;clear BK515;clear HB;have HO505 := n0_;have HO508 := n1_;have BK501 := n2_;have BK502 := n3_;have BK515 := n4_;have HB := n5_;clear n0_ n1_ n2_ n3_ n4_ n5_;(try clear hb);(try clear hb2);(try clear hk);(try clear hi);(try clear ho0)
            refine hK.out _ _ (bc_ BK501.out 0) (fun hHeld => ?_)
            clear hK K
            refine norm_ (a' := ?_) ?_ ?_
            rotate_left
            ·show Act.put _ (some 12) _ = _
             simp only [Act.put, lI_, l0_, lS_, i64_w, i32_w]
             rfl
            exact norm_ pa_ (hJ1_3_8 (.slice Ao12 t503.length co12, _, gb515) _ ⟨hHeld, (by (with_reducible repeat (first | apply Kd.R_alloc | apply Kd.R_drewN | apply Kd.R_drew)); exact Kd.R_mono HO505.out (fun _ hk => hk.2)), (by (with_reducible repeat (first | apply Kd.R_alloc | apply Kd.R_drewN | apply Kd.R_drew)); exact Kd.R_mono HO508.out (fun _ hk => hk.2)), (bk_ BK501.out), (bk_ BK502.out), (bk_ BK515.out), GW515.out, GE515.out, NB501_515.out, NB515_501.out, NB502_515.out, NB515_502.out, (hb3_ HB.out GE501.out GE502.out GE515.out)⟩)
           ·skip
            refine box_step ?hg (N := 7) ?hd (cs := #[.slice none 0 0]) (t := 56) ?hr ?_; (case hd => rfl); (case hg => rfl); (case hr => first | (go_simp; done) | (go_simp; rfl))
            intro gb516 hg w12 hbox hb
            have n0_ := A_ (Kd.R_below (kr_ HO505.out) hb)
            have n1_ := A_ (bb_ BK501.out hb)
            have n2_ := A_ (bb_ BK502.out hb)
            have n3_ := A_ (bb_ BK515.out hb)
            have n4_ := A_ (below_step (hb3_ HB.out GE501.out GE502.out GE515.out) hb)
            have n5_ := A_ (hbox)
            have n6_ := A_ (sz_ hg (hb3_ HB.out GE501.out GE502.out GE515.out))
            have n7_ := A_ (sz_ hg (hb3_ HB.out GE501.out GE502.out GE515.out))
            have n8_ := A_ (nl_ hg BK501.out)
            have n9_ := A_ (ng_ hg BK501.out)
            have n10_ := A_ (nl_ hg BK502.out)
            have n11_ := A_ (ng_ hg BK502.out)
            have n12_ := A_ (nl_ hg BK515.out)
            have n13_ := A_ (ng_ hg BK515.out)
            clear HO505;clear BK501;clear BK502;clear BK515;clear HB;have HO505 := n0_;have BK501 := n1_;have BK502 := n2_;have BK515 := n3_;have HB := n4_;have BK516 := n5_;have GW516 := n6_;have GE516 := n7_;have NB501_516 := n8_;have NB516_501 := n9_;have NB502_516 := n10_;have NB516_502 := n11_;have NB515_516 := n12_;have NB516_515 := n13_;clear n0_ n1_ n2_ n3_ n4_ n5_ n6_ n7_ n8_ n9_ n10_ n11_ n12_ n13_;clear hb hbox hg
            refine hK.out _ _ (bc_ BK501.out 0) (fun hHeld => ?_)
            clear hK K
            refine norm_ (a' := ?_) ?_ ?_
            rotate_left
            ·show Act.put _ (some 7) _ = _
             simp only [Act.put, lI_, l0_, lS_, i64_w, i32_w]
             rfl
            exact norm_ pa_ (hJ1_8_9 (_, gb515, gb516) _ ⟨hHeld, (kr_ HO505.out), (bk_ BK501.out), (bk_ BK502.out), (bk_ BK515.out), (bk_ BK516.out), GW515.out, GE515.out, NB501_515.out, NB515_501.out, NB502_515.out, NB515_502.out, NB516_515.out, NB515_516.out, GW516.out, GE516.out, NB501_516.out, NB516_501.out, NB502_516.out, NB516_502.out, (hb4_ HB.out GE501.out GE502.out GE515.out GE516.out)⟩)
         ·skip
          rintro ⟨v504, v507⟩ w12 ⟨hS_, h0_, h1_, h2_, h3_, h4_⟩
          have n0_ : Aside0 (Kd.R (Kd.int .u64) 24 w12 w.heap.size (fun k_ => some k_ ≠ (v507 : Value).ownBlock) v504 t503) := ⟨h0_⟩
          have n1_ : Aside0 (Kd.R (Kd.int .u64) 24 w12 w.heap.size (fun k_ => some k_ ≠ (v504 : Value).ownBlock) v507 t506) := ⟨h1_⟩
          have n2_ : Aside0 (w12.heap[gb501]? = some (.cells #[.slice A0_0 l0_0.length c0_0] 56 (0, 0))) := ⟨h2_⟩
          have n3_ : Aside0 (w12.heap[gb502]? = some (.cells #[.slice none 0 0] 56 (0, 0))) := ⟨h3_⟩
          have n4_ : Aside0 (Below w.heap.size w w12) := ⟨h4_⟩
          clear BK501;clear BK502;clear HB;clear h0_ h1_ h2_ h3_ h4_;have HO505 := n0_;have HO508 := n1_;have BK501 := n2_;have BK502 := n3_;have HB := n4_;clear n0_ n1_ n2_ n3_ n4_
          have hHeld : w12.cell? ⟨gb501, 0, none⟩ = some (.slice A0_0 l0_0.length c0_0) := hS_
          obtain ⟨Ao13, co13, eo13⟩ := Kd.R_slice HO508.out
          (first | subst eo13 | (injection eo13 with f1_ f2_ f3_; have f4_ := f1_.symm; have f5_ := f3_.symm; clear f1_ f2_ f3_; subst f4_; subst f5_))
          refine norm_ (a' := ?_) ?_ ?_
          rotate_left
          ·simp only [putAll, Act.put, lI_, l0_, lS_]
           rfl
          refine three_ (i := 4) (j := 8) (k := 9) (Ni := some 13) (Nj := some 6) (Nk := some 7) #[true, true, true, true, true, false, false, false, false, false, false, false] #[true, true, true, true, false, false, false, false, true, false, false, false] #[true, true, true, true, false, false, false, false, false, true, false, false] rfl rfl rfl rfl rfl rfl (three_of HT_.out (by kernel_rfl)) (by decide) (by decide) (by decide) (fun K hK => ?_) (fun K hK => ?_) (fun K hK => ?_)
          ·skip
           refine goes_ Try.func138 (by kernel_rfl) rfl #[.agg #[.slice A0_0 l0_0.length c0_0], .agg #[.slice Ao13 t506.length co13]] (by rfl) rfl rfl mp_ ?_
           with_reducible refine (r1_Div.calls k (fun k_ => k_ < w.heap.size) _ _ l0_0 _ _ t506 t509 t512 _ ?side1 ?side2 ?side3 A5.out).mono ?_
           (case side1 => exact Kd.V_mk HC0_0.out (Kd.F_below (Kd.C_F (Kd.heap_int .u64) HR0_0.out) (hb2_ HB.out GE501.out GE502.out)))
           (case side2 => repeat (first | exact (Kd.R_reads' HO508.out).2.2 | (with_reducible refine Kd.C_alloc ?_ _) | (with_reducible refine Kd.C_drewN ?_ _) | (with_reducible refine Kd.C_drew ?_)))
           (case side3 => exact (Kd.R_reads' HO508.out).2.1)
           rintro e w14 ⟨v510, v513, rfl, ho0, ho1, hb⟩
           refine ⟨_, rfl, ?_⟩
           have n0_ := A_ (Kd.R_elder' (kr_ HO505.out) (Kd.R_base ho0) hb)
           have n1_ := A_ (Kd.R_elder' (kr_ HO508.out) (Kd.R_base ho0) hb)
           have n2_ := A_ (Kd.R_lower (Kd.R_new' (Kd.R_new' (Kd.R_mono (ok' := fun k_ => True) ho0 (fun _ hk_ => trivial)) (Kd.R_lt (kr_ HO505.out))) (Kd.R_lt (kr_ HO508.out))) (below_size (hb2_ HB.out GE501.out GE502.out)))
           have n3_ := A_ (Kd.V_lower (Kd.V_mono (ok' := fun k_ => some k_ ≠ (v510 : Value).ownBlock ∧ some k_ ≠ (v504 : Value).ownBlock ∧ some k_ ≠ (.slice Ao13 t506.length co13 : Value).ownBlock ∧ k_ ≠ gb501 ∧ k_ ≠ gb502) ho1 (fun k_ hk_ => ⟨hk_.2, Or.elim hk_.1 (fun hs_ => fun e_ => Nat.not_le.2 hs_ (Kd.R_base HO505.out k_ e_.symm)) (fun hn_ => (Kd.fresh' (Kd.R_lt (kr_ HO505.out)) k_ hn_)), Or.elim hk_.1 (fun hs_ => fun e_ => Nat.not_le.2 hs_ (Kd.R_base HO508.out k_ e_.symm)) (fun hn_ => (Kd.fresh' (Kd.R_lt (kr_ HO508.out)) k_ hn_)), Or.elim hk_.1 (fun hs_ => fun e_ => Nat.not_le.2 hs_ (by rw [e_]; exact GW501.out)) (fun hn_ => (Kd.freshB (g := gb501) (o := .cells #[.slice A0_0 l0_0.length c0_0] 56 (0, 0)) (bk_ BK501.out) k_ hn_)), Or.elim hk_.1 (fun hs_ => fun e_ => Nat.not_le.2 hs_ (by rw [e_]; exact GW502.out)) (fun hn_ => (Kd.freshB (g := gb502) (o := .cells #[.slice none 0 0] 56 (0, 0)) (bk_ BK502.out) k_ hn_))⟩)) (below_size (hb2_ HB.out GE501.out GE502.out)))
           have n4_ := A_ (bb_ BK501.out hb)
           have n5_ := A_ (bb_ BK502.out hb)
           have n6_ := A_ (below_step (hb2_ HB.out GE501.out GE502.out) hb)
           clear HO505;clear HO508;clear BK501;clear BK502;clear HB;have HO505 := n0_;have HO508 := n1_;have HO511 := n2_;have HO514 := n3_;have BK501 := n4_;have BK502 := n5_;have HB := n6_;clear n0_ n1_ n2_ n3_ n4_ n5_ n6_;(try clear hb);(try clear hb2);(try clear hk);(try clear hi);(try clear ho0);(try clear ho1)
           refine hK.out _ _ (bc_ BK501.out 0) (fun hHeld => ?_)
           clear hK K
           refine norm_ (a' := ?_) ?_ ?_
           rotate_left
           ·show Act.put _ (some 13) _ = _
            simp only [Act.put, lI_, l0_, lS_, i64_w, i32_w]
            rfl
           refine pu_ 5 (some 8) #[true, true, true, true, true, true, false, false, false, false, false, false] rfl rfl (any_of HT_.out (by kernel_rfl)) ?_
           refine pu_ 6 (some 14) #[true, true, true, true, true, true, true, false, false, false, false, false] rfl rfl (any_of HT_.out (by kernel_rfl)) ?_
           refine pu_ 7 (some 15) #[true, true, true, true, true, true, true, true, false, false, false, false] rfl rfl (any_of HT_.out (by kernel_rfl)) ?_
           exact norm_ pa_ (hJ1_3_4 (_, .slice Ao13 t506.length co13, _, _) _ ⟨hHeld, (kr_ HO505.out), (kr_ HO508.out), (by (with_reducible repeat (first | apply Kd.R_alloc | apply Kd.R_drewN | apply Kd.R_drew)); exact Kd.R_mono HO511.out (fun _ hk => ⟨hk.1.2, hk.2⟩)), (by (with_reducible repeat (first | apply Kd.V_alloc | apply Kd.V_drewN | apply Kd.V_drew)); exact Kd.V_mono HO514.out (fun _ hk => ⟨hk.2.1, ⟨hk.2.2.1, ⟨hk.1, ⟨hk.2.2.2.1, hk.2.2.2.2⟩⟩⟩⟩)), (bk_ BK501.out), (bk_ BK502.out), (hb2_ HB.out GE501.out GE502.out)⟩)
          ·skip
           refine box_step ?hg (N := 6) ?hd (cs := #[.slice none 0 0]) (t := 56) ?hr ?_; (case hd => rfl); (case hg => rfl); (case hr => first | (go_simp; done) | (go_simp; rfl))
           intro gb515 hg w13 hbox hb
           have n0_ := A_ (Kd.R_below (kr_ HO505.out) hb)
           have n1_ := A_ (Kd.R_below (kr_ HO508.out) hb)
           have n2_ := A_ (bb_ BK501.out hb)
           have n3_ := A_ (bb_ BK502.out hb)
           have n4_ := A_ (below_step (hb2_ HB.out GE501.out GE502.out) hb)
           have n5_ := A_ (hbox)
           have n6_ := A_ (sz_ hg (hb2_ HB.out GE501.out GE502.out))
           have n7_ := A_ (sz_ hg (hb2_ HB.out GE501.out GE502.out))
           have n8_ := A_ (nl_ hg BK501.out)
           have n9_ := A_ (ng_ hg BK501.out)
           have n10_ := A_ (nl_ hg BK502.out)
           have n11_ := A_ (ng_ hg BK502.out)
           clear HO505;clear HO508;clear BK501;clear BK502;clear HB;have HO505 := n0_;have HO508 := n1_;have BK501 := n2_;have BK502 := n3_;have HB := n4_;have BK515 := n5_;have GW515 := n6_;have GE515 := n7_;have NB501_515 := n8_;have NB515_501 := n9_;have NB502_515 := n10_;have NB515_502 := n11_;clear n0_ n1_ n2_ n3_ n4_ n5_ n6_ n7_ n8_ n9_ n10_ n11_;clear hb hbox hg
           refine hK.out _ _ (bc_ BK501.out 0) (fun hHeld => ?_)
           clear hK K
           refine norm_ (a' := ?_) ?_ ?_
           rotate_left
           ·show Act.put _ (some 6) _ = _
            simp only [Act.put, lI_, l0_, lS_, i64_w, i32_w]
            rfl
           exact norm_ pa_ (hJ1_3_8 (_, _, gb515) _ ⟨hHeld, (kr_ HO505.out), (kr_ HO508.out), (bk_ BK501.out), (bk_ BK502.out), (bk_ BK515.out), GW515.out, GE515.out, NB501_515.out, NB515_501.out, NB502_515.out, NB515_502.out, (hb3_ HB.out GE501.out GE502.out GE515.out)⟩)
          ·skip
           refine box_step ?hg (N := 7) ?hd (cs := #[.slice none 0 0]) (t := 56) ?hr ?_; (case hd => rfl); (case hg => rfl); (case hr => first | (go_simp; done) | (go_simp; rfl))
           intro gb516 hg w13 hbox hb
           have n0_ := A_ (Kd.R_below (kr_ HO505.out) hb)
           have n1_ := A_ (Kd.R_below (kr_ HO508.out) hb)
           have n2_ := A_ (bb_ BK501.out hb)
           have n3_ := A_ (bb_ BK502.out hb)
           have n4_ := A_ (below_step (hb2_ HB.out GE501.out GE502.out) hb)
           have n5_ := A_ (hbox)
           have n6_ := A_ (sz_ hg (hb2_ HB.out GE501.out GE502.out))
           have n7_ := A_ (sz_ hg (hb2_ HB.out GE501.out GE502.out))
           have n8_ := A_ (nl_ hg BK501.out)
           have n9_ := A_ (ng_ hg BK501.out)
           have n10_ := A_ (nl_ hg BK502.out)
           have n11_ := A_ (ng_ hg BK502.out)
           clear HO505;clear HO508;clear BK501;clear BK502;clear HB;have HO505 := n0_;have HO508 := n1_;have BK501 := n2_;have BK502 := n3_;have HB := n4_;have BK516 := n5_;have GW516 := n6_;have GE516 := n7_;have NB501_516 := n8_;have NB516_501 := n9_;have NB502_516 := n10_;have NB516_502 := n11_;clear n0_ n1_ n2_ n3_ n4_ n5_ n6_ n7_ n8_ n9_ n10_ n11_;clear hb hbox hg
           refine hK.out _ _ (bc_ BK501.out 0) (fun hHeld => ?_)
           clear hK K
           refine norm_ (a' := ?_) ?_ ?_
           rotate_left
           ·show Act.put _ (some 7) _ = _
            simp only [Act.put, lI_, l0_, lS_, i64_w, i32_w]
            rfl
           exact norm_ pa_ (hJ1_3_9 (_, _, gb516) _ ⟨hHeld, (kr_ HO505.out), (kr_ HO508.out), (bk_ BK501.out), (bk_ BK502.out), (bk_ BK516.out), GW516.out, GE516.out, NB501_516.out, NB516_501.out, NB502_516.out, NB516_502.out, (hb3_ HB.out GE501.out GE502.out GE516.out)⟩)
        ·skip
         rintro ⟨v504, gb515, gb516⟩ w12 ⟨hS_, h0_, h1_, h2_, h3_, h4_, h5_, h6_, h7_, h8_, h9_, h10_, h11_, h12_, h13_, h14_, h15_, h16_, h17_, h18_, h19_⟩
         have n0_ : Aside0 (Kd.R (Kd.int .u64) 24 w12 w.heap.size (fun _ => True) v504 t503) := ⟨h0_⟩
         have n1_ : Aside0 (w12.heap[gb501]? = some (.cells #[.slice A0_0 l0_0.length c0_0] 56 (0, 0))) := ⟨h1_⟩
         have n2_ : Aside0 (w12.heap[gb502]? = some (.cells #[.slice none 0 0] 56 (0, 0))) := ⟨h2_⟩
         have n3_ : Aside0 (w12.heap[gb515]? = some (.cells #[.slice none 0 0] 56 (0, 0))) := ⟨h3_⟩
         have n4_ : Aside0 (w12.heap[gb516]? = some (.cells #[.slice none 0 0] 56 (0, 0))) := ⟨h4_⟩
         have n5_ : Aside0 (w.heap.size ≤ gb515) := ⟨h5_⟩
         have n6_ : Aside0 (w.heap.size ≤ gb515) := ⟨h6_⟩
         have n7_ : Aside0 (gb501 ≠ gb515) := ⟨h7_⟩
         have n8_ : Aside0 (gb515 ≠ gb501) := ⟨h8_⟩
         have n9_ : Aside0 (gb502 ≠ gb515) := ⟨h9_⟩
         have n10_ : Aside0 (gb515 ≠ gb502) := ⟨h10_⟩
         have n11_ : Aside0 (gb516 ≠ gb515) := ⟨h11_⟩
         have n12_ : Aside0 (gb515 ≠ gb516) := ⟨h12_⟩
         have n13_ : Aside0 (w.heap.size ≤ gb516) := ⟨h13_⟩
         have n14_ : Aside0 (w.heap.size ≤ gb516) := ⟨h14_⟩
         have n15_ : Aside0 (gb501 ≠ gb516) := ⟨h15_⟩
         have n16_ : Aside0 (gb516 ≠ gb501) := ⟨h16_⟩
         have n17_ : Aside0 (gb502 ≠ gb516) := ⟨h17_⟩
         have n18_ : Aside0 (gb516 ≠ gb502) := ⟨h18_⟩
         have n19_ : Aside0 (Below w.heap.size w w12) := ⟨h19_⟩
         clear BK501;clear BK502;clear HB;clear h0_ h1_ h2_ h3_ h4_ h5_ h6_ h7_ h8_ h9_ h10_ h11_ h12_ h13_ h14_ h15_ h16_ h17_ h18_ h19_;have HO505 := n0_;have BK501 := n1_;have BK502 := n2_;have BK515 := n3_;have BK516 := n4_;have GW515 := n5_;have GE515 := n6_;have NB501_515 := n7_;have NB515_501 := n8_;have NB502_515 := n9_;have NB515_502 := n10_;have NB516_515 := n11_;have NB515_516 := n12_;have GW516 := n13_;have GE516 := n14_;have NB501_516 := n15_;have NB516_501 := n16_;have NB502_516 := n17_;have NB516_502 := n18_;have HB := n19_;clear n0_ n1_ n2_ n3_ n4_ n5_ n6_ n7_ n8_ n9_ n10_ n11_ n12_ n13_ n14_ n15_ n16_ n17_ n18_ n19_
         have hHeld : w12.cell? ⟨gb501, 0, none⟩ = some (.slice A0_0 l0_0.length c0_0) := hS_
         obtain ⟨Ao13, co13, eo13⟩ := Kd.R_slice HO505.out
         (first | subst eo13 | (injection eo13 with f1_ f2_ f3_; have f4_ := f1_.symm; have f5_ := f3_.symm; clear f1_ f2_ f3_; subst f4_; subst f5_))
         refine norm_ (a' := ?_) ?_ ?_
         rotate_left
         ·simp only [putAll, Act.put, lI_, l0_, lS_]
          rfl
         refine one_ (i := 3) (N := some 12) #[true, true, true, true, false, false, false, false, true, true, false, false] rfl rfl (one_of HT_.out (by kernel_rfl)) (by decide) (fun K hK => ?_)
         refine goes_ Try.func103 (by kernel_rfl) rfl #[.agg #[.slice Ao13 t503.length co13], .int .i64 a1] (by rfl) rfl rfl mp_ ?_
         with_reducible refine (r1_Shl.calls k _ _ t503 a1 t506 _ ?side1 ?side2 A4.out).mono ?_
         (case side1 => repeat (first | exact (Kd.R_reads' HO505.out).2.2 | (with_reducible refine Kd.C_alloc ?_ _) | (with_reducible refine Kd.C_drewN ?_ _) | (with_reducible refine Kd.C_drew ?_)))
         (case side2 => exact (Kd.R_reads' HO505.out).2.1)
         rintro e w14 ⟨v507, rfl, ho0, hb⟩
         refine ⟨_, rfl, ?_⟩
         have n0_ := A_ (Kd.R_elder' (kr_ HO505.out) (Kd.R_base ho0) hb)
         have n1_ := A_ (Kd.R_lower (Kd.R_new' ho0 (Kd.R_lt (kr_ HO505.out))) (below_size (hb4_ HB.out GE501.out GE502.out GE515.out GE516.out)))
         have n2_ := A_ (bb_ BK501.out hb)
         have n3_ := A_ (bb_ BK502.out hb)
         have n4_ := A_ (bb_ BK515.out hb)
         have n5_ := A_ (bb_ BK516.out hb)
         have n6_ := A_ (below_step (hb4_ HB.out GE501.out GE502.out GE515.out GE516.out) hb)
         clear HO505;clear BK501;clear BK502;clear BK515;clear BK516;clear HB;have HO505 := n0_;have HO508 := n1_;have BK501 := n2_;have BK502 := n3_;have BK515 := n4_;have BK516 := n5_;have HB := n6_;clear n0_ n1_ n2_ n3_ n4_ n5_ n6_;(try clear hb);(try clear hb2);(try clear hk);(try clear hi);(try clear ho0)
         refine hK.out _ _ (bc_ BK501.out 0) (fun hHeld => ?_)
         clear hK K
         refine norm_ (a' := ?_) ?_ ?_
         rotate_left
         ·show Act.put _ (some 12) _ = _
          simp only [Act.put, lI_, l0_, lS_, i64_w, i32_w]
          rfl
         exact norm_ pa_ (hJ1_3_8_9 (.slice Ao13 t503.length co13, _, gb515, gb516) _ ⟨hHeld, (by (with_reducible repeat (first | apply Kd.R_alloc | apply Kd.R_drewN | apply Kd.R_drew)); exact Kd.R_mono HO505.out (fun _ hk => hk.2)), (by (with_reducible repeat (first | apply Kd.R_alloc | apply Kd.R_drewN | apply Kd.R_drew)); exact Kd.R_mono HO508.out (fun _ hk => hk.2)), (bk_ BK501.out), (bk_ BK502.out), (bk_ BK515.out), (bk_ BK516.out), GW515.out, GE515.out, NB501_515.out, NB515_501.out, NB502_515.out, NB515_502.out, NB516_515.out, NB515_516.out, GW516.out, GE516.out, NB501_516.out, NB516_501.out, NB502_516.out, NB516_502.out, (hb4_ HB.out GE501.out GE502.out GE515.out GE516.out)⟩)
       ·skip
        rintro ⟨v504, v507, gb516⟩ w13 ⟨hS_, h0_, h1_, h2_, h3_, h4_, h5_, h6_, h7_, h8_, h9_, h10_, h11_⟩
        have n0_ : Aside0 (Kd.R (Kd.int .u64) 24 w13 w.heap.size (fun k_ => some k_ ≠ (v507 : Value).ownBlock) v504 t503) := ⟨h0_⟩
        have n1_ : Aside0 (Kd.R (Kd.int .u64) 24 w13 w.heap.size (fun k_ => some k_ ≠ (v504 : Value).ownBlock) v507 t506) := ⟨h1_⟩
        have n2_ : Aside0 (w13.heap[gb501]? = some (.cells #[.slice A0_0 l0_0.length c0_0] 56 (0, 0))) := ⟨h2_⟩
        have n3_ : Aside0 (w13.heap[gb502]? = some (.cells #[.slice none 0 0] 56 (0, 0))) := ⟨h3_⟩
        have n4_ : Aside0 (w13.heap[gb516]? = some (.cells #[.slice none 0 0] 56 (0, 0))) := ⟨h4_⟩
        have n5_ : Aside0 (w.heap.size ≤ gb516) := ⟨h5_⟩
        have n6_ : Aside0 (w.heap.size ≤ gb516) := ⟨h6_⟩
        have n7_ : Aside0 (gb501 ≠ gb516) := ⟨h7_⟩
        have n8_ : Aside0 (gb516 ≠ gb501) := ⟨h8_⟩
        have n9_ : Aside0 (gb502 ≠ gb516) := ⟨h9_⟩
        have n10_ : Aside0 (gb516 ≠ gb502) := ⟨h10_⟩
        have n11_ : Aside0 (Below w.heap.size w w13) := ⟨h11_⟩
        clear BK501;clear BK502;clear HB;clear h0_ h1_ h2_ h3_ h4_ h5_ h6_ h7_ h8_ h9_ h10_ h11_;have HO505 := n0_;have HO508 := n1_;have BK501 := n2_;have BK502 := n3_;have BK516 := n4_;have GW516 := n5_;have GE516 := n6_;have NB501_516 := n7_;have NB516_501 := n8_;have NB502_516 := n9_;have NB516_502 := n10_;have HB := n11_;clear n0_ n1_ n2_ n3_ n4_ n5_ n6_ n7_ n8_ n9_ n10_ n11_
        have hHeld : w13.cell? ⟨gb501, 0, none⟩ = some (.slice A0_0 l0_0.length c0_0) := hS_
        obtain ⟨Ao14, co14, eo14⟩ := Kd.R_slice HO508.out
        (first | subst eo14 | (injection eo14 with f1_ f2_ f3_; have f4_ := f1_.symm; have f5_ := f3_.symm; clear f1_ f2_ f3_; subst f4_; subst f5_))
        refine norm_ (a' := ?_) ?_ ?_
        rotate_left
        ·simp only [putAll, Act.put, lI_, l0_, lS_]
         rfl
        refine two_ (i := 4) (j := 8) (Ni := some 13) (Nj := some 6) #[true, true, true, true, true, false, false, false, false, true, false, false] #[true, true, true, true, false, false, false, false, true, true, false, false] rfl rfl rfl rfl (two_of HT_.out (by kernel_rfl)) (by decide) (by decide) (fun K hK => ?_) (fun K hK => ?_)
        ·skip
         refine goes_ Try.func138 (by kernel_rfl) rfl #[.agg #[.slice A0_0 l0_0.length c0_0], .agg #[.slice Ao14 t506.length co14]] (by rfl) rfl rfl mp_ ?_
         with_reducible refine (r1_Div.calls k (fun k_ => k_ < w.heap.size) _ _ l0_0 _ _ t506 t509 t512 _ ?side1 ?side2 ?side3 A5.out).mono ?_
         (case side1 => exact Kd.V_mk HC0_0.out (Kd.F_below (Kd.C_F (Kd.heap_int .u64) HR0_0.out) (hb3_ HB.out GE501.out GE502.out GE516.out)))
         (case side2 => repeat (first | exact (Kd.R_reads' HO508.out).2.2 | (with_reducible refine Kd.C_alloc ?_ _) | (with_reducible refine Kd.C_drewN ?_ _) | (with_reducible refine Kd.C_drew ?_)))
         (case side3 => exact (Kd.R_reads' HO508.out).2.1)
         rintro e w15 ⟨v510, v513, rfl, ho0, ho1, hb⟩
         refine ⟨_, rfl, ?_⟩
         have n0_ := A_ (Kd.R_elder' (kr_ HO505.out) (Kd.R_base ho0) hb)
         have n1_ := A_ (Kd.R_elder' (kr_ HO508.out) (Kd.R_base ho0) hb)
         have n2_ := A_ (Kd.R_lower (Kd.R_new' (Kd.R_new' (Kd.R_mono (ok' := fun k_ => True) ho0 (fun _ hk_ => trivial)) (Kd.R_lt (kr_ HO505.out))) (Kd.R_lt (kr_ HO508.out))) (below_size (hb3_ HB.out GE501.out GE502.out GE516.out)))
         have n3_ := A_ (Kd.V_lower (Kd.V_mono (ok' := fun k_ => some k_ ≠ (v510 : Value).ownBlock ∧ some k_ ≠ (v504 : Value).ownBlock ∧ some k_ ≠ (.slice Ao14 t506.length co14 : Value).ownBlock ∧ k_ ≠ gb501 ∧ k_ ≠ gb502 ∧ k_ ≠ gb516) ho1 (fun k_ hk_ => ⟨hk_.2, Or.elim hk_.1 (fun hs_ => fun e_ => Nat.not_le.2 hs_ (Kd.R_base HO505.out k_ e_.symm)) (fun hn_ => (Kd.fresh' (Kd.R_lt (kr_ HO505.out)) k_ hn_)), Or.elim hk_.1 (fun hs_ => fun e_ => Nat.not_le.2 hs_ (Kd.R_base HO508.out k_ e_.symm)) (fun hn_ => (Kd.fresh' (Kd.R_lt (kr_ HO508.out)) k_ hn_)), Or.elim hk_.1 (fun hs_ => fun e_ => Nat.not_le.2 hs_ (by rw [e_]; exact GW501.out)) (fun hn_ => (Kd.freshB (g := gb501) (o := .cells #[.slice A0_0 l0_0.length c0_0] 56 (0, 0)) (bk_ BK501.out) k_ hn_)), Or.elim hk_.1 (fun hs_ => fun e_ => Nat.not_le.2 hs_ (by rw [e_]; exact GW502.out)) (fun hn_ => (Kd.freshB (g := gb502) (o := .cells #[.slice none 0 0] 56 (0, 0)) (bk_ BK502.out) k_ hn_)), Or.elim hk_.1 (fun hs_ => fun e_ => Nat.not_le.2 hs_ (by rw [e_]; exact GW516.out)) (fun hn_ => (Kd.freshB (g := gb516) (o := .cells #[.slice none 0 0] 56 (0, 0)) (bk_ BK516.out) k_ hn_))⟩)) (below_size (hb3_ HB.out GE501.out GE502.out GE516.out)))
         have n4_ := A_ (bb_ BK501.out hb)
         have n5_ := A_ (bb_ BK502.out hb)
         have n6_ := A_ (bb_ BK516.out hb)
         have n7_ := A_ (below_step (hb3_ HB.out GE501.out GE502.out GE516.out) hb)
         clear HO505;clear HO508;clear BK501;clear BK502;clear BK516;clear HB;have HO505 := n0_;have HO508 := n1_;have HO511 := n2_;have HO514 := n3_;have BK501 := n4_;have BK502 := n5_;have BK516 := n6_;have HB := n7_;clear n0_ n1_ n2_ n3_ n4_ n5_ n6_ n7_;(try clear hb);(try clear hb2);(try clear hk);(try clear hi);(try clear ho0);(try clear ho1)
         refine hK.out _ _ (bc_ BK501.out 0) (fun hHeld => ?_)
         clear hK K
         refine norm_ (a' := ?_) ?_ ?_
         rotate_left
         ·show Act.put _ (some 13) _ = _
          simp only [Act.put, lI_, l0_, lS_, i64_w, i32_w]
          rfl
         refine pu_ 5 (some 8) #[true, true, true, true, true, true, false, false, false, true, false, false] rfl rfl (any_of HT_.out (by kernel_rfl)) ?_
         refine pu_ 6 (some 14) #[true, true, true, true, true, true, true, false, false, true, false, false] rfl rfl (any_of HT_.out (by kernel_rfl)) ?_
         refine pu_ 7 (some 15) #[true, true, true, true, true, true, true, true, false, true, false, false] rfl rfl (any_of HT_.out (by kernel_rfl)) ?_
         exact norm_ pa_ (hJ1_3_4_9 (_, .slice Ao14 t506.length co14, _, _, gb516) _ ⟨hHeld, (kr_ HO505.out), (kr_ HO508.out), (by (with_reducible repeat (first | apply Kd.R_alloc | apply Kd.R_drewN | apply Kd.R_drew)); exact Kd.R_mono HO511.out (fun _ hk => ⟨hk.1.2, hk.2⟩)), (by (with_reducible repeat (first | apply Kd.V_alloc | apply Kd.V_drewN | apply Kd.V_drew)); exact Kd.V_mono HO514.out (fun _ hk => ⟨hk.2.1, ⟨hk.2.2.1, ⟨hk.1, ⟨hk.2.2.2.1, ⟨hk.2.2.2.2.1, hk.2.2.2.2.2⟩⟩⟩⟩⟩)), (bk_ BK501.out), (bk_ BK502.out), (bk_ BK516.out), GW516.out, GE516.out, NB501_516.out, NB516_501.out, NB502_516.out, NB516_502.out, (hb3_ HB.out GE501.out GE502.out GE516.out)⟩)
        ·skip
         refine box_step ?hg (N := 6) ?hd (cs := #[.slice none 0 0]) (t := 56) ?hr ?_; (case hd => rfl); (case hg => rfl); (case hr => first | (go_simp; done) | (go_simp; rfl))
         intro gb515 hg w14 hbox hb
         have n0_ := A_ (Kd.R_below (kr_ HO505.out) hb)
         have n1_ := A_ (Kd.R_below (kr_ HO508.out) hb)
         have n2_ := A_ (bb_ BK501.out hb)
         have n3_ := A_ (bb_ BK502.out hb)
         have n4_ := A_ (bb_ BK516.out hb)
         have n5_ := A_ (below_step (hb3_ HB.out GE501.out GE502.out GE516.out) hb)
         have n6_ := A_ (hbox)
         have n7_ := A_ (sz_ hg (hb3_ HB.out GE501.out GE502.out GE516.out))
         have n8_ := A_ (sz_ hg (hb3_ HB.out GE501.out GE502.out GE516.out))
         have n9_ := A_ (nl_ hg BK501.out)
         have n10_ := A_ (ng_ hg BK501.out)
         have n11_ := A_ (nl_ hg BK502.out)
         have n12_ := A_ (ng_ hg BK502.out)
         have n13_ := A_ (nl_ hg BK516.out)
         have n14_ := A_ (ng_ hg BK516.out)
         clear HO505;clear HO508;clear BK501;clear BK502;clear BK516;clear HB;have HO505 := n0_;have HO508 := n1_;have BK501 := n2_;have BK502 := n3_;have BK516 := n4_;have HB := n5_;have BK515 := n6_;have GW515 := n7_;have GE515 := n8_;have NB501_515 := n9_;have NB515_501 := n10_;have NB502_515 := n11_;have NB515_502 := n12_;have NB516_515 := n13_;have NB515_516 := n14_;clear n0_ n1_ n2_ n3_ n4_ n5_ n6_ n7_ n8_ n9_ n10_ n11_ n12_ n13_ n14_;clear hb hbox hg
         refine hK.out _ _ (bc_ BK501.out 0) (fun hHeld => ?_)
         clear hK K
         refine norm_ (a' := ?_) ?_ ?_
         rotate_left
         ·show Act.put _ (some 6) _ = _
          simp only [Act.put, lI_, l0_, lS_, i64_w, i32_w]
          rfl
         exact norm_ pa_ (hJ1_3_8_9 (_, _, gb515, gb516) _ ⟨hHeld, (kr_ HO505.out), (kr_ HO508.out), (bk_ BK501.out), (bk_ BK502.out), (bk_ BK515.out), (bk_ BK516.out), GW515.out, GE515.out, NB501_515.out, NB515_501.out, NB502_515.out, NB515_502.out, NB516_515.out, NB515_516.out, GW516.out, GE516.out, NB501_516.out, NB516_501.out, NB502_516.out, NB516_502.out, (hb4_ HB.out GE501.out GE502.out GE516.out GE515.out)⟩)
      ·skip
       rintro ⟨v504, v507, gb515⟩ w13 ⟨hS_, h0_, h1_, h2_, h3_, h4_, h5_, h6_, h7_, h8_, h9_, h10_, h11_⟩
       have n0_ : Aside0 (Kd.R (Kd.int .u64) 24 w13 w.heap.size (fun k_ => some k_ ≠ (v507 : Value).ownBlock) v504 t503) := ⟨h0_⟩
       have n1_ : Aside0 (Kd.R (Kd.int .u64) 24 w13 w.heap.size (fun k_ => some k_ ≠ (v504 : Value).ownBlock) v507 t506) := ⟨h1_⟩
       have n2_ : Aside0 (w13.heap[gb501]? = some (.cells #[.slice A0_0 l0_0.length c0_0] 56 (0, 0))) := ⟨h2_⟩
       have n3_ : Aside0 (w13.heap[gb502]? = some (.cells #[.slice none 0 0] 56 (0, 0))) := ⟨h3_⟩
       have n4_ : Aside0 (w13.heap[gb515]? = some (.cells #[.slice none 0 0] 56 (0, 0))) := ⟨h4_⟩
       have n5_ : Aside0 (w.heap.size ≤ gb515) := ⟨h5_⟩
       have n6_ : Aside0 (w.heap.size ≤ gb515) := ⟨h6_⟩
       have n7_ : Aside0 (gb501 ≠ gb515) := ⟨h7_⟩
       have n8_ : Aside0 (gb515 ≠ gb501) := ⟨h8_⟩
       have n9_ : Aside0 (gb502 ≠ gb515) := ⟨h9_⟩
       have n10_ : Aside0 (gb515 ≠ gb502) := ⟨h10_⟩
       have n11_ : Aside0 (Below w.heap.size w w13) := ⟨h11_⟩
       clear BK501;clear BK502;clear HB;clear h0_ h1_ h2_ h3_ h4_ h5_ h6_ h7_ h8_ h9_ h10_ h11_;have HO505 := n0_;have HO508 := n1_;have BK501 := n2_;have BK502 := n3_;have BK515 := n4_;have GW515 := n5_;have GE515 := n6_;have NB501_515 := n7_;have NB515_501 := n8_;have NB502_515 := n9_;have NB515_502 := n10_;have HB := n11_;clear n0_ n1_ n2_ n3_ n4_ n5_ n6_ n7_ n8_ n9_ n10_ n11_
       have hHeld : w13.cell? ⟨gb501, 0, none⟩ = some (.slice A0_0 l0_0.length c0_0) := hS_
       obtain ⟨Ao14, co14, eo14⟩ := Kd.R_slice HO508.out
       (first | subst eo14 | (injection eo14 with f1_ f2_ f3_; have f4_ := f1_.symm; have f5_ := f3_.symm; clear f1_ f2_ f3_; subst f4_; subst f5_))
       refine norm_ (a' := ?_) ?_ ?_
       rotate_left
       ·simp only [putAll, Act.put, lI_, l0_, lS_]
        rfl
       refine two_ (i := 4) (j := 9) (Ni := some 13) (Nj := some 7) #[true, true, true, true, true, false, false, false, true, false, false, false] #[true, true, true, true, false, false, false, false, true, true, false, false] rfl rfl rfl rfl (two_of HT_.out (by kernel_rfl)) (by decide) (by decide) (fun K hK => ?_) (fun K hK => ?_)
       ·skip
        refine goes_ Try.func138 (by kernel_rfl) rfl #[.agg #[.slice A0_0 l0_0.length c0_0], .agg #[.slice Ao14 t506.length co14]] (by rfl) rfl rfl mp_ ?_
        with_reducible refine (r1_Div.calls k (fun k_ => k_ < w.heap.size) _ _ l0_0 _ _ t506 t509 t512 _ ?side1 ?side2 ?side3 A5.out).mono ?_
        (case side1 => exact Kd.V_mk HC0_0.out (Kd.F_below (Kd.C_F (Kd.heap_int .u64) HR0_0.out) (hb3_ HB.out GE501.out GE502.out GE515.out)))
        (case side2 => repeat (first | exact (Kd.R_reads' HO508.out).2.2 | (with_reducible refine Kd.C_alloc ?_ _) | (with_reducible refine Kd.C_drewN ?_ _) | (with_reducible refine Kd.C_drew ?_)))
        (case side3 => exact (Kd.R_reads' HO508.out).2.1)
        rintro e w15 ⟨v510, v513, rfl, ho0, ho1, hb⟩
        refine ⟨_, rfl, ?_⟩
        have n0_ := A_ (Kd.R_elder' (kr_ HO505.out) (Kd.R_base ho0) hb)
        have n1_ := A_ (Kd.R_elder' (kr_ HO508.out) (Kd.R_base ho0) hb)
        have n2_ := A_ (Kd.R_lower (Kd.R_new' (Kd.R_new' (Kd.R_mono (ok' := fun k_ => True) ho0 (fun _ hk_ => trivial)) (Kd.R_lt (kr_ HO505.out))) (Kd.R_lt (kr_ HO508.out))) (below_size (hb3_ HB.out GE501.out GE502.out GE515.out)))
        have n3_ := A_ (Kd.V_lower (Kd.V_mono (ok' := fun k_ => some k_ ≠ (v510 : Value).ownBlock ∧ some k_ ≠ (v504 : Value).ownBlock ∧ some k_ ≠ (.slice Ao14 t506.length co14 : Value).ownBlock ∧ k_ ≠ gb501 ∧ k_ ≠ gb502 ∧ k_ ≠ gb515) ho1 (fun k_ hk_ => ⟨hk_.2, Or.elim hk_.1 (fun hs_ => fun e_ => Nat.not_le.2 hs_ (Kd.R_base HO505.out k_ e_.symm)) (fun hn_ => (Kd.fresh' (Kd.R_lt (kr_ HO505.out)) k_ hn_)), Or.elim hk_.1 (fun hs_ => fun e_ => Nat.not_le.2 hs_ (Kd.R_base HO508.out k_ e_.symm)) (fun hn_ => (Kd.fresh' (Kd.R_lt (kr_ HO508.out)) k_ hn_)), Or.elim hk_.1 (fun hs_ => fun e_ => Nat.not_le.2 hs_ (by rw [e_]; exact GW501.out)) (fun hn_ => (Kd.freshB (g := gb501) (o := .cells #[.slice A0_0 l0_0.length c0_0] 56 (0, 0)) (bk_ BK501.out) k_ hn_)), Or.elim hk_.1 (fun hs_ => fun e_ => Nat.not_le.2 hs_ (by rw [e_]; exact GW502.out)) (fun hn_ => (Kd.freshB (g := gb502) (o := .cells #[.slice none 0 0] 56 (0, 0)) (bk_ BK502.out) k_ hn_)), Or.elim hk_.1 (fun hs_ => fun e_ => Nat.not_le.2 hs_ (by rw [e_]; exact GW515.out)) (fun hn_ => (Kd.freshB (g := gb515) (o := .cells #[.slice none 0 0] 56 (0, 0)) (bk_ BK515.out) k_ hn_))⟩)) (below_size (hb3_ HB.out GE501.out GE502.out GE515.out)))
        have n4_ := A_ (bb_ BK501.out hb)
        have n5_ := A_ (bb_ BK502.out hb)
        have n6_ := A_ (bb_ BK515.out hb)
        have n7_ := A_ (below_step (hb3_ HB.out GE501.out GE502.out GE515.out) hb)
        clear HO505;clear HO508;clear BK501;clear BK502;clear BK515;clear HB;have HO505 := n0_;have HO508 := n1_;have HO511 := n2_;have HO514 := n3_;have BK501 := n4_;have BK502 := n5_;have BK515 := n6_;have HB := n7_;clear n0_ n1_ n2_ n3_ n4_ n5_ n6_ n7_;(try clear hb);(try clear hb2);(try clear hk);(try clear hi);(try clear ho0);(try clear ho1)
        refine hK.out _ _ (bc_ BK501.out 0) (fun hHeld => ?_)
        clear hK K
        refine norm_ (a' := ?_) ?_ ?_
        rotate_left
        ·show Act.put _ (some 13) _ = _
         simp only [Act.put, lI_, l0_, lS_, i64_w, i32_w]
         rfl
        refine pu_ 5 (some 8) #[true, true, true, true, true, true, false, false, true, false, false, false] rfl rfl (any_of HT_.out (by kernel_rfl)) ?_
        refine pu_ 6 (some 14) #[true, true, true, true, true, true, true, false, true, false, false, false] rfl rfl (any_of HT_.out (by kernel_rfl)) ?_
        refine pu_ 7 (some 15) #[true, true, true, true, true, true, true, true, true, false, false, false] rfl rfl (any_of HT_.out (by kernel_rfl)) ?_
        exact norm_ pa_ (hJ1_3_4_8 (_, .slice Ao14 t506.length co14, _, _, gb515) _ ⟨hHeld, (kr_ HO505.out), (kr_ HO508.out), (by (with_reducible repeat (first | apply Kd.R_alloc | apply Kd.R_drewN | apply Kd.R_drew)); exact Kd.R_mono HO511.out (fun _ hk => ⟨hk.1.2, hk.2⟩)), (by (with_reducible repeat (first | apply Kd.V_alloc | apply Kd.V_drewN | apply Kd.V_drew)); exact Kd.V_mono HO514.out (fun _ hk => ⟨hk.2.1, ⟨hk.2.2.1, ⟨hk.1, ⟨hk.2.2.2.1, ⟨hk.2.2.2.2.1, hk.2.2.2.2.2⟩⟩⟩⟩⟩)), (bk_ BK501.out), (bk_ BK502.out), (bk_ BK515.out), GW515.out, GE515.out, NB501_515.out, NB515_501.out, NB502_515.out, NB515_502.out, (hb3_ HB.out GE501.out GE502.out GE515.out)⟩)
       ·skip
        refine box_step ?hg (N := 7) ?hd (cs := #[.slice none 0 0]) (t := 56) ?hr ?_; (case hd => rfl); (case hg => rfl); (case hr => first | (go_simp; done) | (go_simp; rfl))
        intro gb516 hg w14 hbox hb
        have n0_ := A_ (Kd.R_below (kr_ HO505.out) hb)
        have n1_ := A_ (Kd.R_below (kr_ HO508.out) hb)
        have n2_ := A_ (bb_ BK501.out hb)
        have n3_ := A_ (bb_ BK502.out hb)
        have n4_ := A_ (bb_ BK515.out hb)
        have n5_ := A_ (below_step (hb3_ HB.out GE501.out GE502.out GE515.out) hb)
        have n6_ := A_ (hbox)
        have n7_ := A_ (sz_ hg (hb3_ HB.out GE501.out GE502.out GE515.out))
        have n8_ := A_ (sz_ hg (hb3_ HB.out GE501.out GE502.out GE515.out))
        have n9_ := A_ (nl_ hg BK501.out)
        have n10_ := A_ (ng_ hg BK501.out)
        have n11_ := A_ (nl_ hg BK502.out)
        have n12_ := A_ (ng_ hg BK502.out)
        have n13_ := A_ (nl_ hg BK515.out)
        have n14_ := A_ (ng_ hg BK515.out)
        clear HO505;clear HO508;clear BK501;clear BK502;clear BK515;clear HB;have HO505 := n0_;have HO508 := n1_;have BK501 := n2_;have BK502 := n3_;have BK515 := n4_;have HB := n5_;have BK516 := n6_;have GW516 := n7_;have GE516 := n8_;have NB501_516 := n9_;have NB516_501 := n10_;have NB502_516 := n11_;have NB516_502 := n12_;have NB515_516 := n13_;have NB516_515 := n14_;clear n0_ n1_ n2_ n3_ n4_ n5_ n6_ n7_ n8_ n9_ n10_ n11_ n12_ n13_ n14_;clear hb hbox hg
        refine hK.out _ _ (bc_ BK501.out 0) (fun hHeld => ?_)
        clear hK K
        refine norm_ (a' := ?_) ?_ ?_
        rotate_left
        ·show Act.put _ (some 7) _ = _
         simp only [Act.put, lI_, l0_, lS_, i64_w, i32_w]
         rfl
        exact norm_ pa_ (hJ1_3_8_9 (_, _, gb515, gb516) _ ⟨hHeld, (kr_ HO505.out), (kr_ HO508.out), (bk_ BK501.out), (bk_ BK502.out), (bk_ BK515.out), (bk_ BK516.out), GW515.out, GE515.out, NB501_515.out, NB515_501.out, NB502_515.out, NB515_502.out, NB516_515.out, NB515_516.out, GW516.out, GE516.out, NB501_516.out, NB516_501.out, NB502_516.out, NB516_502.out, (hb4_ HB.out GE501.out GE502.out GE515.out GE516.out)⟩)
     ·skip
      rintro ⟨v504, v507, v510, v513⟩ w14 ⟨hS_, h0_, h1_, h2_, h3_, h4_, h5_, h6_⟩
      have n0_ : Aside0 (Kd.R (Kd.int .u64) 24 w14 w.heap.size (fun k_ => some k_ ≠ (v507 : Value).ownBlock ∧ some k_ ≠ (v510 : Value).ownBlock) v504 t503) := ⟨h0_⟩
      have n1_ : Aside0 (Kd.R (Kd.int .u64) 24 w14 w.heap.size (fun k_ => some k_ ≠ (v504 : Value).ownBlock ∧ some k_ ≠ (v510 : Value).ownBlock) v507 t506) := ⟨h1_⟩
      have n2_ : Aside0 (Kd.R (Kd.int .u64) 24 w14 w.heap.size (fun k_ => some k_ ≠ (v504 : Value).ownBlock ∧ some k_ ≠ (v507 : Value).ownBlock) v510 t509) := ⟨h2_⟩
      have n3_ : Aside0 (Kd.V (Kd.int .u64) 24 w14 w.heap.size (fun k_ => some k_ ≠ (v504 : Value).ownBlock ∧ some k_ ≠ (v507 : Value).ownBlock ∧ some k_ ≠ (v510 : Value).ownBlock ∧ k_ ≠ gb501 ∧ k_ ≠ gb502) v513 t512) := ⟨h3_⟩
      have n4_ : Aside0 (w14.heap[gb501]? = some (.cells #[.slice A0_0 l0_0.length c0_0] 56 (0, 0))) := ⟨h4_⟩
      have n5_ : Aside0 (w14.heap[gb502]? = some (.cells #[.slice none 0 0] 56 (0, 0))) := ⟨h5_⟩
      have n6_ : Aside0 (Below w.heap.size w w14) := ⟨h6_⟩
      clear BK501;clear BK502;clear HB;clear h0_ h1_ h2_ h3_ h4_ h5_ h6_;have HO505 := n0_;have HO508 := n1_;have HO511 := n2_;have HO514 := n3_;have BK501 := n4_;have BK502 := n5_;have HB := n6_;clear n0_ n1_ n2_ n3_ n4_ n5_ n6_
      have hHeld : w14.cell? ⟨gb501, 0, none⟩ = some (.slice A0_0 l0_0.length c0_0) := hS_
      refine norm_ (a' := ?_) ?_ ?_
      rotate_left
      ·simp only [putAll, Act.put, lI_, l0_, lS_]
       rfl
      refine two_ (i := 8) (j := 9) (Ni := some 6) (Nj := some 7) #[true, true, true, true, true, true, true, true, true, false, false, false] #[true, true, true, true, true, true, true, true, false, true, false, false] rfl rfl rfl rfl (two_of HT_.out (by kernel_rfl)) (by decide) (by decide) (fun K hK => ?_) (fun K hK => ?_)
      ·skip
       refine box_step ?hg (N := 6) ?hd (cs := #[.slice none 0 0]) (t := 56) ?hr ?_; (case hd => rfl); (case hg => rfl); (case hr => first | (go_simp; done) | (go_simp; rfl))
       intro gb515 hg w15 hbox hb
       have n0_ := A_ (Kd.R_below (kr_ HO505.out) hb)
       have n1_ := A_ (Kd.R_below (kr_ HO508.out) hb)
       have n2_ := A_ (Kd.R_below (kr_ HO511.out) hb)
       have n3_ := A_ (Kd.V_below (Kd.V_elderB (kv_ HO514.out) gb515 (Nat.le_of_eq hg.symm)) hb)
       have n4_ := A_ (bb_ BK501.out hb)
       have n5_ := A_ (bb_ BK502.out hb)
       have n6_ := A_ (below_step (hb2_ HB.out GE501.out GE502.out) hb)
       have n7_ := A_ (hbox)
       have n8_ := A_ (sz_ hg (hb2_ HB.out GE501.out GE502.out))
       have n9_ := A_ (sz_ hg (hb2_ HB.out GE501.out GE502.out))
       have n10_ := A_ (nl_ hg BK501.out)
       have n11_ := A_ (ng_ hg BK501.out)
       have n12_ := A_ (nl_ hg BK502.out)
       have n13_ := A_ (ng_ hg BK502.out)
       clear HO505;clear HO508;clear HO511;clear HO514;clear BK501;clear BK502;clear HB;have HO505 := n0_;have HO508 := n1_;have HO511 := n2_;have HO514 := n3_;have BK501 := n4_;have BK502 := n5_;have HB := n6_;have BK515 := n7_;have GW515 := n8_;have GE515 := n9_;have NB501_515 := n10_;have NB515_501 := n11_;have NB502_515 := n12_;have NB515_502 := n13_;clear n0_ n1_ n2_ n3_ n4_ n5_ n6_ n7_ n8_ n9_ n10_ n11_ n12_ n13_;clear hb hbox hg
       refine hK.out _ _ (bc_ BK501.out 0) (fun hHeld => ?_)
       clear hK K
       refine norm_ (a' := ?_) ?_ ?_
       rotate_left
       ·show Act.put _ (some 6) _ = _
        simp only [Act.put, lI_, l0_, lS_, i64_w, i32_w]
        rfl
       exact norm_ pa_ (hJ1_3_4_8 (_, _, _, _, gb515) _ ⟨hHeld, (kr_ HO505.out), (kr_ HO508.out), (kr_ HO511.out), (by (with_reducible repeat (first | apply Kd.V_alloc | apply Kd.V_drewN | apply Kd.V_drew)); exact Kd.V_mono HO514.out (fun _ hk => ⟨hk.1.1, ⟨hk.1.2.1, ⟨hk.1.2.2.1, ⟨hk.1.2.2.2.1, ⟨hk.1.2.2.2.2, hk.2⟩⟩⟩⟩⟩)), (bk_ BK501.out), (bk_ BK502.out), (bk_ BK515.out), GW515.out, GE515.out, NB501_515.out, NB515_501.out, NB502_515.out, NB515_502.out, (hb3_ HB.out GE501.out GE502.out GE515.out)⟩)
      ·skip
       refine box_step ?hg (N := 7) ?hd (cs := #[.slice none 0 0]) (t := 56) ?hr ?_; (case hd => rfl); (case hg => rfl); (case hr => first | (go_simp; done) | (go_simp; rfl))
       intro gb516 hg w15 hbox hb
       have n0_ := A_ (Kd.R_below (kr_ HO505.out) hb)
       have n1_ := A_ (Kd.R_below (kr_ HO508.out) hb)
       have n2_ := A_ (Kd.R_below (kr_ HO511.out) hb)
       have n3_ := A_ (Kd.V_below (Kd.V_elderB (kv_ HO514.out) gb516 (Nat.le_of_eq hg.symm)) hb)
       have n4_ := A_ (bb_ BK501.out hb)
       have n5_ := A_ (bb_ BK502.out hb)
       have n6_ := A_ (below_step (hb2_ HB.out GE501.out GE502.out) hb)
       have n7_ := A_ (hbox)
       have n8_ := A_ (sz_ hg (hb2_ HB.out GE501.out GE502.out))
       have n9_ := A_ (sz_ hg (hb2_ HB.out GE501.out GE502.out))
       have n10_ := A_ (nl_ hg BK501.out)
       have n11_ := A_ (ng_ hg BK501.out)
       have n12_ := A_ (nl_ hg BK502.out)
       have n13_ := A_ (ng_ hg BK502.out)
       clear HO505;clear HO508;clear HO511;clear HO514;clear BK501;clear BK502;clear HB;have HO505 := n0_;have HO508 := n1_;have HO511 := n2_;have HO514 := n3_;have BK501 := n4_;have BK502 := n5_;have HB := n6_;have BK516 := n7_;have GW516 := n8_;have GE516 := n9_;have NB501_516 := n10_;have NB516_501 := n11_;have NB502_516 := n12_;have NB516_502 := n13_;clear n0_ n1_ n2_ n3_ n4_ n5_ n6_ n7_ n8_ n9_ n10_ n11_ n12_ n13_;clear hb hbox hg
       refine hK.out _ _ (bc_ BK501.out 0) (fun hHeld => ?_)
       clear hK K
       refine norm_ (a' := ?_) ?_ ?_
       rotate_left
       ·show Act.put _ (some 7) _ = _
        simp only [Act.put, lI_, l0_, lS_, i64_w, i32_w]
        rfl
       exact norm_ pa_ (hJ1_3_4_9 (_, _, _, _, gb516) _ ⟨hHeld, (kr_ HO505.out), (kr_ HO508.out), (kr_ HO511.out), (by (with_reducible repeat (first | apply Kd.V_alloc | apply Kd.V_drewN | apply Kd.V_drew)); exact Kd.V_mono HO514.out (fun _ hk => ⟨hk.1.1, ⟨hk.1.2.1, ⟨hk.1.2.2.1, ⟨hk.1.2.2.2.1, ⟨hk.1.2.2.2.2, hk.2⟩⟩⟩⟩⟩)), (bk_ BK501.out), (bk_ BK502.out), (bk_ BK516.out), GW516.out, GE516.out, NB501_516.out, NB516_501.out, NB502_516.out, NB516_502.out, (hb3_ HB.out GE501.out GE502.out GE516.out)⟩)
    ·skip
     rintro ⟨v504, v507, gb515, gb516⟩ w14 ⟨hS_, h0_, h1_, h2_, h3_, h4_, h5_, h6_, h7_, h8_, h9_, h10_, h11_, h12_, h13_, h14_, h15_, h16_, h17_, h18_, h19_, h20_⟩
     have n0_ : Aside0 (Kd.R (Kd.int .u64) 24 w14 w.heap.size (fun k_ => some k_ ≠ (v507 : Value).ownBlock) v504 t503) := ⟨h0_⟩
     have n1_ : Aside0 (Kd.R (Kd.int .u64) 24 w14 w.heap.size (fun k_ => some k_ ≠ (v504 : Value).ownBlock) v507 t506) := ⟨h1_⟩
     have n2_ : Aside0 (w14.heap[gb501]? = some (.cells #[.slice A0_0 l0_0.length c0_0] 56 (0, 0))) := ⟨h2_⟩
     have n3_ : Aside0 (w14.heap[gb502]? = some (.cells #[.slice none 0 0] 56 (0, 0))) := ⟨h3_⟩
     have n4_ : Aside0 (w14.heap[gb515]? = some (.cells #[.slice none 0 0] 56 (0, 0))) := ⟨h4_⟩
     have n5_ : Aside0 (w14.heap[gb516]? = some (.cells #[.slice none 0 0] 56 (0, 0))) := ⟨h5_⟩
     have n6_ : Aside0 (w.heap.size ≤ gb515) := ⟨h6_⟩
     have n7_ : Aside0 (w.heap.size ≤ gb515) := ⟨h7_⟩
     have n8_ : Aside0 (gb501 ≠ gb515) := ⟨h8_⟩
     have n9_ : Aside0 (gb515 ≠ gb501) := ⟨h9_⟩
     have n10_ : Aside0 (gb502 ≠ gb515) := ⟨h10_⟩
     have n11_ : Aside0 (gb515 ≠ gb502) := ⟨h11_⟩
     have n12_ : Aside0 (gb516 ≠ gb515) := ⟨h12_⟩
     have n13_ : Aside0 (gb515 ≠ gb516) := ⟨h13_⟩
     have n14_ : Aside0 (w.heap.size ≤ gb516) := ⟨h14_⟩
     have n15_ : Aside0 (w.heap.size ≤ gb516) := ⟨h15_⟩
     have n16_ : Aside0 (gb501 ≠ gb516) := ⟨h16_⟩
     have n17_ : Aside0 (gb516 ≠ gb501) := ⟨h17_⟩
     have n18_ : Aside0 (gb502 ≠ gb516) := ⟨h18_⟩
     have n19_ : Aside0 (gb516 ≠ gb502) := ⟨h19_⟩
     have n20_ : Aside0 (Below w.heap.size w w14) := ⟨h20_⟩
     clear BK501;clear BK502;clear HB;clear h0_ h1_ h2_ h3_ h4_ h5_ h6_ h7_ h8_ h9_ h10_ h11_ h12_ h13_ h14_ h15_ h16_ h17_ h18_ h19_ h20_;have HO505 := n0_;have HO508 := n1_;have BK501 := n2_;have BK502 := n3_;have BK515 := n4_;have BK516 := n5_;have GW515 := n6_;have GE515 := n7_;have NB501_515 := n8_;have NB515_501 := n9_;have NB502_515 := n10_;have NB515_502 := n11_;have NB516_515 := n12_;have NB515_516 := n13_;have GW516 := n14_;have GE516 := n15_;have NB501_516 := n16_;have NB516_501 := n17_;have NB502_516 := n18_;have NB516_502 := n19_;have HB := n20_;clear n0_ n1_ n2_ n3_ n4_ n5_ n6_ n7_ n8_ n9_ n10_ n11_ n12_ n13_ n14_ n15_ n16_ n17_ n18_ n19_ n20_
     have hHeld : w14.cell? ⟨gb501, 0, none⟩ = some (.slice A0_0 l0_0.length c0_0) := hS_
     obtain ⟨Ao15, co15, eo15⟩ := Kd.R_slice HO508.out
     (first | subst eo15 | (injection eo15 with f1_ f2_ f3_; have f4_ := f1_.symm; have f5_ := f3_.symm; clear f1_ f2_ f3_; subst f4_; subst f5_))
     refine norm_ (a' := ?_) ?_ ?_
     rotate_left
     ·simp only [putAll, Act.put, lI_, l0_, lS_]
      rfl
     refine one_ (i := 4) (N := some 13) #[true, true, true, true, true, false, false, false, true, true, false, false] rfl rfl (one_of HT_.out (by kernel_rfl)) (by decide) (fun K hK => ?_)
     refine goes_ Try.func138 (by kernel_rfl) rfl #[.agg #[.slice A0_0 l0_0.length c0_0], .agg #[.slice Ao15 t506.length co15]] (by rfl) rfl rfl mp_ ?_
     with_reducible refine (r1_Div.calls k (fun k_ => k_ < w.heap.size) _ _ l0_0 _ _ t506 t509 t512 _ ?side1 ?side2 ?side3 A5.out).mono ?_
     (case side1 => exact Kd.V_mk HC0_0.out (Kd.F_below (Kd.C_F (Kd.heap_int .u64) HR0_0.out) (hb4_ HB.out GE501.out GE502.out GE515.out GE516.out)))
     (case side2 => repeat (first | exact (Kd.R_reads' HO508.out).2.2 | (with_reducible refine Kd.C_alloc ?_ _) | (with_reducible refine Kd.C_drewN ?_ _) | (with_reducible refine Kd.C_drew ?_)))
     (case side3 => exact (Kd.R_reads' HO508.out).2.1)
     rintro e w16 ⟨v510, v513, rfl, ho0, ho1, hb⟩
     refine ⟨_, rfl, ?_⟩
     have n0_ := A_ (Kd.R_elder' (kr_ HO505.out) (Kd.R_base ho0) hb)
     have n1_ := A_ (Kd.R_elder' (kr_ HO508.out) (Kd.R_base ho0) hb)
     have n2_ := A_ (Kd.R_lower (Kd.R_new' (Kd.R_new' (Kd.R_mono (ok' := fun k_ => True) ho0 (fun _ hk_ => trivial)) (Kd.R_lt (kr_ HO505.out))) (Kd.R_lt (kr_ HO508.out))) (below_size (hb4_ HB.out GE501.out GE502.out GE515.out GE516.out)))
     have n3_ := A_ (Kd.V_lower (Kd.V_mono (ok' := fun k_ => some k_ ≠ (v510 : Value).ownBlock ∧ some k_ ≠ (v504 : Value).ownBlock ∧ some k_ ≠ (.slice Ao15 t506.length co15 : Value).ownBlock ∧ k_ ≠ gb501 ∧ k_ ≠ gb502 ∧ k_ ≠ gb515 ∧ k_ ≠ gb516) ho1 (fun k_ hk_ => ⟨hk_.2, Or.elim hk_.1 (fun hs_ => fun e_ => Nat.not_le.2 hs_ (Kd.R_base HO505.out k_ e_.symm)) (fun hn_ => (Kd.fresh' (Kd.R_lt (kr_ HO505.out)) k_ hn_)), Or.elim hk_.1 (fun hs_ => fun e_ => Nat.not_le.2 hs_ (Kd.R_base HO508.out k_ e_.symm)) (fun hn_ => (Kd.fresh' (Kd.R_lt (kr_ HO508.out)) k_ hn_)), Or.elim hk_.1 (fun hs_ => fun e_ => Nat.not_le.2 hs_ (by rw [e_]; exact GW501.out)) (fun hn_ => (Kd.freshB (g := gb501) (o := .cells #[.slice A0_0 l0_0.length c0_0] 56 (0, 0)) (bk_ BK501.out) k_ hn_)), Or.elim hk_.1 (fun hs_ => fun e_ => Nat.not_le.2 hs_ (by rw [e_]; exact GW502.out)) (fun hn_ => (Kd.freshB (g := gb502) (o := .cells #[.slice none 0 0] 56 (0, 0)) (bk_ BK502.out) k_ hn_)), Or.elim hk_.1 (fun hs_ => fun e_ => Nat.not_le.2 hs_ (by rw [e_]; exact GW515.out)) (fun hn_ => (Kd.freshB (g := gb515) (o := .cells #[.slice none 0 0] 56 (0, 0)) (bk_ BK515.out) k_ hn_)), Or.elim hk_.1 (fun hs_ => fun e_ => Nat.not_le.2 hs_ (by rw [e_]; exact GW516.out)) (fun hn_ => (Kd.freshB (g := gb516) (o := .cells #[.slice none 0 0] 56 (0, 0)) (bk_ BK516.out) k_ hn_))⟩)) (below_size (hb4_ HB.out GE501.out GE502.out GE515.out GE516.out)))
     have n4_ := A_ (bb_ BK501.out hb)
     have n5_ := A_ (bb_ BK502.out hb)
     have n6_ := A_ (bb_ BK515.out hb)
     have n7_ := A_ (bb_ BK516.out hb)
     have n8_ := A_ (below_step (hb4_ HB.out GE501.out GE502.out GE515.out GE516.out) hb)
     clear HO505;clear HO508;clear BK501;clear BK502;clear BK515;clear BK516;clear HB;have HO505 := n0_;have HO508 := n1_;have HO511 := n2_;have HO514 := n3_;have BK501 := n4_;have BK502 := n5_;have BK515 := n6_;have BK516 := n7_;have HB := n8_;clear n0_ n1_ n2_ n3_ n4_ n5_ n6_ n7_ n8_;(try clear hb);(try clear hb2);(try clear hk);(try clear hi);(try clear ho0);(try clear ho1)
     refine hK.out _ _ (bc_ BK501.out 0) (fun hHeld => ?_)
     clear hK K
     refine norm_ (a' := ?_) ?_ ?_
     rotate_left
     ·show Act.put _ (some 13) _ = _
      simp only [Act.put, lI_, l0_, lS_, i64_w, i32_w]
      rfl
     refine pu_ 5 (some 8) #[true, true, true, true, true, true, false, false, true, true, false, false] rfl rfl (any_of HT_.out (by kernel_rfl)) ?_
     refine pu_ 6 (some 14) #[true, true, true, true, true, true, true, false, true, true, false, false] rfl rfl (any_of HT_.out (by kernel_rfl)) ?_
     refine pu_ 7 (some 15) #[true, true, true, true, true, true, true, true, true, true, false, false] rfl rfl (any_of HT_.out (by kernel_rfl)) ?_
     exact norm_ pa_ (hJ1_3_4_8_9 (_, .slice Ao15 t506.length co15, _, _, gb515, gb516) _ ⟨hHeld, (kr_ HO505.out), (kr_ HO508.out), (by (with_reducible repeat (first | apply Kd.R_alloc | apply Kd.R_drewN | apply Kd.R_drew)); exact Kd.R_mono HO511.out (fun _ hk => ⟨hk.1.2, hk.2⟩)), (by (with_reducible repeat (first | apply Kd.V_alloc | apply Kd.V_drewN | apply Kd.V_drew)); exact Kd.V_mono HO514.out (fun _ hk => ⟨hk.2.1, ⟨hk.2.2.1, ⟨hk.1, ⟨hk.2.2.2.1, ⟨hk.2.2.2.2.1, ⟨hk.2.2.2.2.2.1, hk.2.2.2.2.2.2⟩⟩⟩⟩⟩⟩)), (bk_ BK501.out), (bk_ BK502.out), (bk_ BK515.out), (bk_ BK516.out), GW515.out, GE515.out, NB501_515.out, NB515_501.out, NB502_515.out, NB515_502.out, NB516_515.out, NB515_516.out, GW516.out, GE516.out, NB501_516.out, NB516_501.out, NB502_516.out, NB516_502.out, (hb4_ HB.out GE501.out GE502.out GE515.out GE516.out)⟩)
   ·skip
    rintro ⟨v504, v507, v510, v513, gb516⟩ w15 ⟨hS_, h0_, h1_, h2_, h3_, h4_, h5_, h6_, h7_, h8_, h9_, h10_, h11_, h12_, h13_⟩
    have n0_ : Aside0 (Kd.R (Kd.int .u64) 24 w15 w.heap.size (fun k_ => some k_ ≠ (v507 : Value).ownBlock ∧ some k_ ≠ (v510 : Value).ownBlock) v504 t503) := ⟨h0_⟩
    have n1_ : Aside0 (Kd.R (Kd.int .u64) 24 w15 w.heap.size (fun k_ => some k_ ≠ (v504 : Value).ownBlock ∧ some k_ ≠ (v510 : Value).ownBlock) v507 t506) := ⟨h1_⟩
    have n2_ : Aside0 (Kd.R (Kd.int .u64) 24 w15 w.heap.size (fun k_ => some k_ ≠ (v504 : Value).ownBlock ∧ some k_ ≠ (v507 : Value).ownBlock) v510 t509) := ⟨h2_⟩
    have n3_ : Aside0 (Kd.V (Kd.int .u64) 24 w15 w.heap.size (fun k_ => some k_ ≠ (v504 : Value).ownBlock ∧ some k_ ≠ (v507 : Value).ownBlock ∧ some k_ ≠ (v510 : Value).ownBlock ∧ k_ ≠ gb501 ∧ k_ ≠ gb502 ∧ k_ ≠ gb516) v513 t512) := ⟨h3_⟩
    have n4_ : Aside0 (w15.heap[gb501]? = some (.cells #[.slice A0_0 l0_0.length c0_0] 56 (0, 0))) := ⟨h4_⟩
    have n5_ : Aside0 (w15.heap[gb502]? = some (.cells #[.slice none 0 0] 56 (0, 0))) := ⟨h5_⟩
    have n6_ : Aside0 (w15.heap[gb516]? = some (.cells #[.slice none 0 0] 56 (0, 0))) := ⟨h6_⟩
    have n7_ : Aside0 (w.heap.size ≤ gb516) := ⟨h7_⟩
    have n8_ : Aside0 (w.heap.size ≤ gb516) := ⟨h8_⟩
    have n9_ : Aside0 (gb501 ≠ gb516) := ⟨h9_⟩
    have n10_ : Aside0 (gb516 ≠ gb501) := ⟨h10_⟩
    have n11_ : Aside0 (gb502 ≠ gb516) := ⟨h11_⟩
    have n12_ : Aside0 (gb516 ≠ gb502) := ⟨h12_⟩
    have n13_ : Aside0 (Below w.heap.size w w15) := ⟨h13_⟩
    clear BK501;clear BK502;clear HB;clear h0_ h1_ h2_ h3_ h4_ h5_ h6_ h7_ h8_ h9_ h10_ h11_ h12_ h13_;have HO505 := n0_;have HO508 := n1_;have HO511 := n2_;have HO514 := n3_;have BK501 := n4_;have BK502 := n5_;have BK516 := n6_;have GW516 := n7_;have GE516 := n8_;have NB501_516 := n9_;have NB516_501 := n10_;have NB502_516 := n11_;have NB516_502 := n12_;have HB := n13_;clear n0_ n1_ n2_ n3_ n4_ n5_ n6_ n7_ n8_ n9_ n10_ n11_ n12_ n13_
    have hHeld : w15.cell? ⟨gb501, 0, none⟩ = some (.slice A0_0 l0_0.length c0_0) := hS_
    refine norm_ (a' := ?_) ?_ ?_
    rotate_left
    ·simp only [putAll, Act.put, lI_, l0_, lS_]
     rfl
    refine one_ (i := 8) (N := some 6) #[true, true, true, true, true, true, true, true, true, true, false, false] rfl rfl (one_of HT_.out (by kernel_rfl)) (by decide) (fun K hK => ?_)
    refine box_step ?hg (N := 6) ?hd (cs := #[.slice none 0 0]) (t := 56) ?hr ?_; (case hd => rfl); (case hg => rfl); (case hr => first | (go_simp; done) | (go_simp; rfl))
    intro gb515 hg w16 hbox hb
    have n0_ := A_ (Kd.R_below (kr_ HO505.out) hb)
    have n1_ := A_ (Kd.R_below (kr_ HO508.out) hb)
    have n2_ := A_ (Kd.R_below (kr_ HO511.out) hb)
    have n3_ := A_ (Kd.V_below (Kd.V_elderB (kv_ HO514.out) gb515 (Nat.le_of_eq hg.symm)) hb)
    have n4_ := A_ (bb_ BK501.out hb)
    have n5_ := A_ (bb_ BK502.out hb)
    have n6_ := A_ (bb_ BK516.out hb)
    have n7_ := A_ (below_step (hb3_ HB.out GE501.out GE502.out GE516.out) hb)
    have n8_ := A_ (hbox)
    have n9_ := A_ (sz_ hg (hb3_ HB.out GE501.out GE502.out GE516.out))
    have n10_ := A_ (sz_ hg (hb3_ HB.out GE501.out GE502.out GE516.out))
    have n11_ := A_ (nl_ hg BK501.out)
    have n12_ := A_ (ng_ hg BK501.out)
    have n13_ := A_ (nl_ hg BK502.out)
    have n14_ := A_ (ng_ hg BK502.out)
    have n15_ := A_ (nl_ hg BK516.out)
    have n16_ := A_ (ng_ hg BK516.out)
    clear HO505;clear HO508;clear HO511;clear HO514;clear BK501;clear BK502;clear BK516;clear HB;have HO505 := n0_;have HO508 := n1_;have HO511 := n2_;have HO514 := n3_;have BK501 := n4_;have BK502 := n5_;have BK516 := n6_;have HB := n7_;have BK515 := n8_;have GW515 := n9_;have GE515 := n10_;have NB501_515 := n11_;have NB515_501 := n12_;have NB502_515 := n13_;have NB515_502 := n14_;have NB516_515 := n15_;have NB515_516 := n16_;clear n0_ n1_ n2_ n3_ n4_ n5_ n6_ n7_ n8_ n9_ n10_ n11_ n12_ n13_ n14_ n15_ n16_;clear hb hbox hg
    refine hK.out _ _ (bc_ BK501.out 0) (fun hHeld => ?_)
    clear hK K
    refine norm_ (a' := ?_) ?_ ?_
    rotate_left
    ·show Act.put _ (some 6) _ = _
     simp only [Act.put, lI_, l0_, lS_, i64_w, i32_w]
     rfl
    exact norm_ pa_ (hJ1_3_4_8_9 (_, _, _, _, gb515, gb516) _ ⟨hHeld, (kr_ HO505.out), (kr_ HO508.out), (kr_ HO511.out), (by (with_reducible repeat (first | apply Kd.V_alloc | apply Kd.V_drewN | apply Kd.V_drew)); exact Kd.V_mono HO514.out (fun _ hk => ⟨hk.1.1, ⟨hk.1.2.1, ⟨hk.1.2.2.1, ⟨hk.1.2.2.2.1, ⟨hk.1.2.2.2.2.1, ⟨hk.2, hk.1.2.2.2.2.2⟩⟩⟩⟩⟩⟩)), (bk_ BK501.out), (bk_ BK502.out), (bk_ BK515.out), (bk_ BK516.out), GW515.out, GE515.out, NB501_515.out, NB515_501.out, NB502_515.out, NB515_502.out, NB516_515.out, NB515_516.out, GW516.out, GE516.out, NB501_516.out, NB516_501.out, NB502_516.out, NB516_502.out, (hb4_ HB.out GE501.out GE502.out GE516.out GE515.out)⟩)
  ·skip
   rintro ⟨v504, v507, v510, v513, gb515⟩ w15 ⟨hS_, h0_, h1_, h2_, h3_, h4_, h5_, h6_, h7_, h8_, h9_, h10_, h11_, h12_, h13_⟩
   have n0_ : Aside0 (Kd.R (Kd.int .u64) 24 w15 w.heap.size (fun k_ => some k_ ≠ (v507 : Value).ownBlock ∧ some k_ ≠ (v510 : Value).ownBlock) v504 t503) := ⟨h0_⟩
   have n1_ : Aside0 (Kd.R (Kd.int .u64) 24 w15 w.heap.size (fun k_ => some k_ ≠ (v504 : Value).ownBlock ∧ some k_ ≠ (v510 : Value).ownBlock) v507 t506) := ⟨h1_⟩
   have n2_ : Aside0 (Kd.R (Kd.int .u64) 24 w15 w.heap.size (fun k_ => some k_ ≠ (v504 : Value).ownBlock ∧ some k_ ≠ (v507 : Value).ownBlock) v510 t509) := ⟨h2_⟩
   have n3_ : Aside0 (Kd.V (Kd.int .u64) 24 w15 w.heap.size (fun k_ => some k_ ≠ (v504 : Value).ownBlock ∧ some k_ ≠ (v507 : Value).ownBlock ∧ some k_ ≠ (v510 : Value).ownBlock ∧ k_ ≠ gb501 ∧ k_ ≠ gb502 ∧ k_ ≠ gb515) v513 t512) := ⟨h3_⟩
   have n4_ : Aside0 (w15.heap[gb501]? = some (.cells #[.slice A0_0 l0_0.length c0_0] 56 (0, 0))) := ⟨h4_⟩
   have n5_ : Aside0 (w15.heap[gb502]? = some (.cells #[.slice none 0 0] 56 (0, 0))) := ⟨h5_⟩
   have n6_ : Aside0 (w15.heap[gb515]? = some (.cells #[.slice none 0 0] 56 (0, 0))) := ⟨h6_⟩
   have n7_ : Aside0 (w.heap.size ≤ gb515) := ⟨h7_⟩
   have n8_ : Aside0 (w.heap.size ≤ gb515) := ⟨h8_⟩
   have n9_ : Aside0 (gb501 ≠ gb515) := ⟨h9_⟩
   have n10_ : Aside0 (gb515 ≠ gb501) := ⟨h10_⟩
   have n11_ : Aside0 (gb502 ≠ gb515) := ⟨h11_⟩
   have n12_ : Aside0 (gb515 ≠ gb502) := ⟨h12_⟩
   have n13_ : Aside0 (Below w.heap.size w w15) := ⟨h13_⟩
   clear BK501;clear BK502;clear HB;clear h0_ h1_ h2_ h3_ h4_ h5_ h6_ h7_ h8_ h9_ h10_ h11_ h12_ h13_;have HO505 := n0_;have HO508 := n1_;have HO511 := n2_;have HO514 := n3_;have BK501 := n4_;have BK502 := n5_;have BK515 := n6_;have GW515 := n7_;have GE515 := n8_;have NB501_515 := n9_;have NB515_501 := n10_;have NB502_515 := n11_;have NB515_502 := n12_;have HB := n13_;clear n0_ n1_ n2_ n3_ n4_ n5_ n6_ n7_ n8_ n9_ n10_ n11_ n12_ n13_
   have hHeld : w15.cell? ⟨gb501, 0, none⟩ = some (.slice A0_0 l0_0.length c0_0) := hS_
   refine norm_ (a' := ?_) ?_ ?_
   rotate_left
   ·simp only [putAll, Act.put, lI_, l0_, lS_]
    rfl
   refine one_ (i := 9) (N := some 7) #[true, true, true, true, true, true, true, true, true, true, false, false] rfl rfl (one_of HT_.out (by kernel_rfl)) (by decide) (fun K hK => ?_)
   refine box_step ?hg (N := 7) ?hd (cs := #[.slice none 0 0]) (t := 56) ?hr ?_; (case hd => rfl); (case hg => rfl); (case hr => first | (go_simp; done) | (go_simp; rfl))
   intro gb516 hg w16 hbox hb
   have n0_ := A_ (Kd.R_below (kr_ HO505.out) hb)
   have n1_ := A_ (Kd.R_below (kr_ HO508.out) hb)
   have n2_ := A_ (Kd.R_below (kr_ HO511.out) hb)
   have n3_ := A_ (Kd.V_below (Kd.V_elderB (kv_ HO514.out) gb516 (Nat.le_of_eq hg.symm)) hb)
   have n4_ := A_ (bb_ BK501.out hb)
   have n5_ := A_ (bb_ BK502.out hb)
   have n6_ := A_ (bb_ BK515.out hb)
   have n7_ := A_ (below_step (hb3_ HB.out GE501.out GE502.out GE515.out) hb)
   have n8_ := A_ (hbox)
   have n9_ := A_ (sz_ hg (hb3_ HB.out GE501.out GE502.out GE515.out))
   have n10_ := A_ (sz_ hg (hb3_ HB.out GE501.out GE502.out GE515.out))
   have n11_ := A_ (nl_ hg BK501.out)
   have n12_ := A_ (ng_ hg BK501.out)
   have n13_ := A_ (nl_ hg BK502.out)
   have n14_ := A_ (ng_ hg BK502.out)
   have n15_ := A_ (nl_ hg BK515.out)
   have n16_ := A_ (ng_ hg BK515.out)
   clear HO505;clear HO508;clear HO511;clear HO514;clear BK501;clear BK502;clear BK515;clear HB;have HO505 := n0_;have HO508 := n1_;have HO511 := n2_;have HO514 := n3_;have BK501 := n4_;have BK502 := n5_;have BK515 := n6_;have HB := n7_;have BK516 := n8_;have GW516 := n9_;have GE516 := n10_;have NB501_516 := n11_;have NB516_501 := n12_;have NB502_516 := n13_;have NB516_502 := n14_;have NB515_516 := n15_;have NB516_515 := n16_;clear n0_ n1_ n2_ n3_ n4_ n5_ n6_ n7_ n8_ n9_ n10_ n11_ n12_ n13_ n14_ n15_ n16_;clear hb hbox hg
   refine hK.out _ _ (bc_ BK501.out 0) (fun hHeld => ?_)
   clear hK K
   refine norm_ (a' := ?_) ?_ ?_
   rotate_left
   ·show Act.put _ (some 7) _ = _
    simp only [Act.put, lI_, l0_, lS_, i64_w, i32_w]
    rfl
   exact norm_ pa_ (hJ1_3_4_8_9 (_, _, _, _, gb515, gb516) _ ⟨hHeld, (kr_ HO505.out), (kr_ HO508.out), (kr_ HO511.out), (by (with_reducible repeat (first | apply Kd.V_alloc | apply Kd.V_drewN | apply Kd.V_drew)); exact Kd.V_mono HO514.out (fun _ hk => ⟨hk.1.1, ⟨hk.1.2.1, ⟨hk.1.2.2.1, ⟨hk.1.2.2.2.1, ⟨hk.1.2.2.2.2.1, ⟨hk.1.2.2.2.2.2, hk.2⟩⟩⟩⟩⟩⟩)), (bk_ BK501.out), (bk_ BK502.out), (bk_ BK515.out), (bk_ BK516.out), GW515.out, GE515.out, NB501_515.out, NB515_501.out, NB502_515.out, NB515_502.out, NB516_515.out, NB515_516.out, GW516.out, GE516.out, NB501_516.out, NB516_501.out, NB502_516.out, NB516_502.out, (hb4_ HB.out GE501.out GE502.out GE515.out GE516.out)⟩)
 rintro ⟨v504, v507, v510, v513, gb515, gb516⟩ w16 ⟨hS_, h0_, h1_, h2_, h3_, h4_, h5_, h6_, h7_, h8_, h9_, h10_, h11_, h12_, h13_, h14_, h15_, h16_, h17_, h18_, h19_, h20_, h21_, h22_⟩
 have n0_ : Aside0 (Kd.R (Kd.int .u64) 24 w16 w.heap.size (fun k_ => some k_ ≠ (v507 : Value).ownBlock ∧ some k_ ≠ (v510 : Value).ownBlock) v504 t503) := ⟨h0_⟩
 have n1_ : Aside0 (Kd.R (Kd.int .u64) 24 w16 w.heap.size (fun k_ => some k_ ≠ (v504 : Value).ownBlock ∧ some k_ ≠ (v510 : Value).ownBlock) v507 t506) := ⟨h1_⟩
 have n2_ : Aside0 (Kd.R (Kd.int .u64) 24 w16 w.heap.size (fun k_ => some k_ ≠ (v504 : Value).ownBlock ∧ some k_ ≠ (v507 : Value).ownBlock) v510 t509) := ⟨h2_⟩
 have n3_ : Aside0 (Kd.V (Kd.int .u64) 24 w16 w.heap.size (fun k_ => some k_ ≠ (v504 : Value).ownBlock ∧ some k_ ≠ (v507 : Value).ownBlock ∧ some k_ ≠ (v510 : Value).ownBlock ∧ k_ ≠ gb501 ∧ k_ ≠ gb502 ∧ k_ ≠ gb515 ∧ k_ ≠ gb516) v513 t512) := ⟨h3_⟩
 have n4_ : Aside0 (w16.heap[gb501]? = some (.cells #[.slice A0_0 l0_0.length c0_0] 56 (0, 0))) := ⟨h4_⟩
 have n5_ : Aside0 (w16.heap[gb502]? = some (.cells #[.slice none 0 0] 56 (0, 0))) := ⟨h5_⟩
 have n6_ : Aside0 (w16.heap[gb515]? = some (.cells #[.slice none 0 0] 56 (0, 0))) := ⟨h6_⟩
 have n7_ : Aside0 (w16.heap[gb516]? = some (.cells #[.slice none 0 0] 56 (0, 0))) := ⟨h7_⟩
 have n8_ : Aside0 (w.heap.size ≤ gb515) := ⟨h8_⟩
 have n9_ : Aside0 (w.heap.size ≤ gb515) := ⟨h9_⟩
 have n10_ : Aside0 (gb501 ≠ gb515) := ⟨h10_⟩
 have n11_ : Aside0 (gb515 ≠ gb501) := ⟨h11_⟩
 have n12_ : Aside0 (gb502 ≠ gb515) := ⟨h12_⟩
 have n13_ : Aside0 (gb515 ≠ gb502) := ⟨h13_⟩
 have n14_ : Aside0 (gb516 ≠ gb515) := ⟨h14_⟩
 have n15_ : Aside0 (gb515 ≠ gb516) := ⟨h15_⟩
 have n16_ : Aside0 (w.heap.size ≤ gb516) := ⟨h16_⟩
 have n17_ : Aside0 (w.heap.size ≤ gb516) := ⟨h17_⟩
 have n18_ : Aside0 (gb501 ≠ gb516) := ⟨h18_⟩
 have n19_ : Aside0 (gb516 ≠ gb501) := ⟨h19_⟩
 have n20_ : Aside0 (gb502 ≠ gb516) := ⟨h20_⟩
 have n21_ : Aside0 (gb516 ≠ gb502) := ⟨h21_⟩
 have n22_ : Aside0 (Below w.heap.size w w16) := ⟨h22_⟩
 clear BK501;clear BK502;clear HB;clear h0_ h1_ h2_ h3_ h4_ h5_ h6_ h7_ h8_ h9_ h10_ h11_ h12_ h13_ h14_ h15_ h16_ h17_ h18_ h19_ h20_ h21_ h22_;have HO505 := n0_;have HO508 := n1_;have HO511 := n2_;have HO514 := n3_;have BK501 := n4_;have BK502 := n5_;have BK515 := n6_;have BK516 := n7_;have GW515 := n8_;have GE515 := n9_;have NB501_515 := n10_;have NB515_501 := n11_;have NB502_515 := n12_;have NB515_502 := n13_;have NB516_515 := n14_;have NB515_516 := n15_;have GW516 := n16_;have GE516 := n17_;have NB501_516 := n18_;have NB516_501 := n19_;have NB502_516 := n20_;have NB516_502 := n21_;have HB := n22_;clear n0_ n1_ n2_ n3_ n4_ n5_ n6_ n7_ n8_ n9_ n10_ n11_ n12_ n13_ n14_ n15_ n16_ n17_ n18_ n19_ n20_ n21_ n22_
 have hHeld : w16.cell? ⟨gb501, 0, none⟩ = some (.slice A0_0 l0_0.length c0_0) := hS_
 obtain ⟨Ao17, co17, eo17⟩ := Kd.R_slice HO511.out
 (first | subst eo17 | (injection eo17 with f1_ f2_ f3_; have f4_ := f1_.symm; have f5_ := f3_.symm; clear f1_ f2_ f3_; subst f4_; subst f5_))
 obtain ⟨Ao19, co19, eo19⟩ := Kd.V_slice HO514.out
 (first | subst eo19 | (injection eo19 with f1_ f2_ f3_; have f4_ := f1_.symm; have f5_ := f3_.symm; clear f1_ f2_ f3_; subst f4_; subst f5_))
 refine norm_ (a' := ?_) ?_ ?_
 rotate_left
 ·simp only [putAll, Act.put, lI_, l0_, lS_]
  rfl
 refine one_ (i := 10) (N := none) #[true, true, true, true, true, true, true, true, true, true, true, false] rfl rfl (one_of HT_.out (by kernel_rfl)) (by decide) (fun K hK => ?_)
 have hs18 : w16.cell? ⟨gb515, 0, none⟩ = some (.slice none 0 0) := bc_ BK515.out 0
 have hfs18 := blk_frozen BK515.out 0
 have hns18_0 := NB501_515.out
 have hns18_1 := NB502_515.out
 have hns18_3 := NB516_515.out
 have hms18_0 := NB515_501.out
 have hms18_1 := NB515_502.out
 have hms18_3 := NB515_516.out
 refine skip_ (w1 := ?_) (by rfl) rfl ?_ ?_
 rotate_left
 ·go_simp
  rfl
 refine hK.out _ _ (((cell_far (p := ⟨gb515, _, none⟩) NB501_515.out _).trans (hHeld))) (fun hHeld => ?_)
 clear hK K
 refine one_ (i := 11) (N := none) #[true, true, true, true, true, true, true, true, true, true, true, true] rfl rfl (one_of HT_.out (by kernel_rfl)) (by decide) (fun K hK => ?_)
 have hs20 : w16.cell? ⟨gb516, 0, none⟩ = some (.slice none 0 0) := bc_ BK516.out 0
 have hfs20 := blk_frozen BK516.out 0
 have hns20_0 := NB501_516.out
 have hns20_1 := NB502_516.out
 have hns20_2 := NB515_516.out
 have hms20_0 := NB516_501.out
 have hms20_1 := NB516_502.out
 have hms20_2 := NB516_515.out
 refine skip_ (w1 := ?_) (by rfl) rfl ?_ ?_
 rotate_left
 ·go_simp
  rfl
 refine hK.out _ _ (((cell_far (p := ⟨gb516, _, none⟩) NB501_516.out _).trans (hHeld))) (fun hHeld => ?_)
 clear hK K
 refine done_ (done_of HT_.out (by kernel_rfl)) ?_
 try go_wp2
 have n0_ : Aside0 (Kd.R (Kd.int .u64) 24 ((w16.setCell ⟨gb515, 0, none⟩ (.slice Ao17 t509.length co17)).setCell ⟨gb516, 0, none⟩ (.slice Ao19 t512.length co19)) w.heap.size (fun k_ => some k_ ≠ (v507 : Value).ownBlock ∧ some k_ ≠ (.slice Ao17 t509.length co17 : Value).ownBlock) v504 t503) := ⟨by (with_reducible repeat (first | apply Kd.R_alloc | apply Kd.R_drewN | apply Kd.R_drew)); exact Kd.R_mono (Kd.R_far (p := ⟨gb516, 0, none⟩) (Kd.R_far (p := ⟨gb515, 0, none⟩) (Kd.R_types (Kd.R_types HO505.out BK515.out (by decide)) BK516.out (by decide)) (fun _ hk => hk.1.2) (.slice Ao17 t509.length co17)) (fun _ hk => hk.2) (.slice Ao19 t512.length co19)) (fun _ hk => ⟨hk.1.1.1, hk.1.1.2⟩)⟩
 have n1_ : Aside0 (Kd.R (Kd.int .u64) 24 ((w16.setCell ⟨gb515, 0, none⟩ (.slice Ao17 t509.length co17)).setCell ⟨gb516, 0, none⟩ (.slice Ao19 t512.length co19)) w.heap.size (fun k_ => some k_ ≠ (v504 : Value).ownBlock ∧ some k_ ≠ (.slice Ao17 t509.length co17 : Value).ownBlock) v507 t506) := ⟨by (with_reducible repeat (first | apply Kd.R_alloc | apply Kd.R_drewN | apply Kd.R_drew)); exact Kd.R_mono (Kd.R_far (p := ⟨gb516, 0, none⟩) (Kd.R_far (p := ⟨gb515, 0, none⟩) (Kd.R_types (Kd.R_types HO508.out BK515.out (by decide)) BK516.out (by decide)) (fun _ hk => hk.1.2) (.slice Ao17 t509.length co17)) (fun _ hk => hk.2) (.slice Ao19 t512.length co19)) (fun _ hk => ⟨hk.1.1.1, hk.1.1.2⟩)⟩
 have n2_ : Aside0 (Kd.R (Kd.int .u64) 24 ((w16.setCell ⟨gb515, 0, none⟩ (.slice Ao17 t509.length co17)).setCell ⟨gb516, 0, none⟩ (.slice Ao19 t512.length co19)) w.heap.size (fun k_ => some k_ ≠ (v504 : Value).ownBlock ∧ some k_ ≠ (v507 : Value).ownBlock) (.slice Ao17 t509.length co17) t509) := ⟨by (with_reducible repeat (first | apply Kd.R_alloc | apply Kd.R_drewN | apply Kd.R_drew)); exact Kd.R_mono (Kd.R_far (p := ⟨gb516, 0, none⟩) (Kd.R_far (p := ⟨gb515, 0, none⟩) (Kd.R_types (Kd.R_types HO511.out BK515.out (by decide)) BK516.out (by decide)) (fun _ hk => hk.1.2) (.slice Ao17 t509.length co17)) (fun _ hk => hk.2) (.slice Ao19 t512.length co19)) (fun _ hk => ⟨hk.1.1.1, hk.1.1.2⟩)⟩
 have n3_ : Aside0 (Kd.V (Kd.int .u64) 24 ((w16.setCell ⟨gb515, 0, none⟩ (.slice Ao17 t509.length co17)).setCell ⟨gb516, 0, none⟩ (.slice Ao19 t512.length co19)) w.heap.size (fun k_ => some k_ ≠ (v504 : Value).ownBlock ∧ some k_ ≠ (v507 : Value).ownBlock ∧ some k_ ≠ (.slice Ao17 t509.length co17 : Value).ownBlock ∧ k_ ≠ gb501 ∧ k_ ≠ gb502 ∧ k_ ≠ gb515 ∧ k_ ≠ gb516) (.slice Ao19 t512.length co19) t512) := ⟨by (with_reducible repeat (first | apply Kd.V_alloc | apply Kd.V_drewN | apply Kd.V_drew)); exact Kd.V_mono (Kd.V_far (p := ⟨gb516, 0, none⟩) (Kd.V_far (p := ⟨gb515, 0, none⟩) (Kd.V_mono (Kd.V_mono HO514.out (fun k_ hk => (⟨hk, hk.2.2.2.2.2.1⟩ : _ ∧ k_ ≠ gb515))) (fun k_ hk => (⟨hk, hk.1.2.2.2.2.2.2⟩ : _ ∧ k_ ≠ gb516))) (fun _ hk => hk.1.2) (.slice Ao17 t509.length co17)) (fun _ hk => hk.2) (.slice Ao19 t512.length co19)) (fun _ hk => ⟨hk.1.1.1, ⟨hk.1.1.2.1, ⟨hk.1.1.2.2.1, ⟨hk.1.1.2.2.2.1, ⟨hk.1.1.2.2.2.2.1, ⟨hk.1.1.2.2.2.2.2.1, hk.1.1.2.2.2.2.2.2⟩⟩⟩⟩⟩⟩)⟩
 have n4_ : Aside0 (((w16.setCell ⟨gb515, 0, none⟩ (.slice Ao17 t509.length co17)).setCell ⟨gb516, 0, none⟩ (.slice Ao19 t512.length co19)).heap[gb501]? = some (.cells #[.slice A0_0 l0_0.length c0_0] 56 (0, 0))) := ⟨bf2_ BK501.out NB501_516.out NB501_515.out⟩
 have n5_ : Aside0 (((w16.setCell ⟨gb515, 0, none⟩ (.slice Ao17 t509.length co17)).setCell ⟨gb516, 0, none⟩ (.slice Ao19 t512.length co19)).heap[gb502]? = some (.cells #[.slice none 0 0] 56 (0, 0))) := ⟨bf2_ BK502.out NB502_516.out NB502_515.out⟩
 have n6_ : Aside0 (((w16.setCell ⟨gb515, 0, none⟩ (.slice Ao17 t509.length co17)).setCell ⟨gb516, 0, none⟩ (.slice Ao19 t512.length co19)).heap[gb515]? = some (.cells #[.slice Ao17 t509.length co17] 56 (0, 0))) := ⟨by (with_reducible repeat (first | refine blk_drewN ?_ _ | refine blk_drew ?_ | refine blk_alloc ?_ _)); refine blk_far ?_ NB515_516.out _; (with_reducible repeat (first | refine blk_drewN ?_ _ | refine blk_drew ?_ | refine blk_alloc ?_ _)); refine blk_put (cs := #[.slice none 0 0]) ?_ 0 _ rfl; (with_reducible repeat (first | refine blk_drewN ?_ _ | refine blk_drew ?_ | refine blk_alloc ?_ _)); exact BK515.out⟩
 have n7_ : Aside0 (((w16.setCell ⟨gb515, 0, none⟩ (.slice Ao17 t509.length co17)).setCell ⟨gb516, 0, none⟩ (.slice Ao19 t512.length co19)).heap[gb516]? = some (.cells #[.slice Ao19 t512.length co19] 56 (0, 0))) := ⟨by (with_reducible repeat (first | refine blk_drewN ?_ _ | refine blk_drew ?_ | refine blk_alloc ?_ _)); refine blk_put (cs := #[.slice none 0 0]) ?_ 0 _ rfl; (with_reducible repeat (first | refine blk_drewN ?_ _ | refine blk_drew ?_ | refine blk_alloc ?_ _)); refine blk_far ?_ NB516_515.out _; (with_reducible repeat (first | refine blk_drewN ?_ _ | refine blk_drew ?_ | refine blk_alloc ?_ _)); exact BK516.out⟩
 have n8_ : Aside0 (Below w.heap.size w ((w16.setCell ⟨gb515, 0, none⟩ (.slice Ao17 t509.length co17)).setCell ⟨gb516, 0, none⟩ (.slice Ao19 t512.length co19))) := ⟨hb4_ HB.out GE501.out GE502.out GE515.out GE516.out⟩
 (try clear HO505);(try clear HO508);(try clear HO511);(try clear HO514);(try clear BK501);(try clear BK502);(try clear BK515);(try clear BK516);(try clear HB)
 generalize ((w16.setCell ⟨gb515, 0, none⟩ (.slice Ao17 t509.length co17)).setCell ⟨gb516, 0, none⟩ (.slice Ao19 t512.length co19)) = w21 at n0_ n1_ n2_ n3_ n4_ n5_ n6_ n7_ n8_ ⊢
 have HO505 := n0_;have HO508 := n1_;have HO511 := n2_;have HO514 := n3_;have BK501 := n4_;have BK502 := n5_;have BK515 := n6_;have BK516 := n7_;have HB := n8_;clear n0_ n1_ n2_ n3_ n4_ n5_ n6_ n7_ n8_
 have n0_ := A_ (Kd.R_drew HO505.out)
 have n1_ := A_ (Kd.R_drew HO508.out)
 have n2_ := A_ (Kd.R_drew HO511.out)
 have n3_ := A_ (Kd.V_drew HO514.out)
 have n4_ := A_ (blk_drew BK501.out)
 have n5_ := A_ (blk_drew BK502.out)
 have n6_ := A_ (blk_drew BK515.out)
 have n7_ := A_ (blk_drew BK516.out)
 have n8_ := A_ (below_drew1 HB.out)
 clear HO505;clear HO508;clear HO511;clear HO514;clear BK501;clear BK502;clear BK515;clear BK516;clear HB;have HO505 := n0_;have HO508 := n1_;have HO511 := n2_;have HO514 := n3_;have BK501 := n4_;have BK502 := n5_;have BK515 := n6_;have BK516 := n7_;have HB := n8_;clear n0_ n1_ n2_ n3_ n4_ n5_ n6_ n7_ n8_
 refine start_ (n := 7) (S := fun w' => w'.cell? ⟨gb515, 0, none⟩ = some (.slice Ao17 t509.length co17) ∧ w'.cell? ⟨gb516, 0, none⟩ = some (.slice Ao19 t512.length co19)) (ds := []) #[false, false, false, false, false, false, false] (by kernel_rfl) rfl rfl ⟨bc_ BK515.out 0, bc_ BK516.out 0⟩ (fun hHeld => ?_)
 generalize w21.drew = w22 at HO505 HO508 HO511 HO514 BK501 BK502 BK515 BK516 HB hHeld ⊢
 refine pu_ 1 (some 17) #[false, true, false, false, false, false, false] rfl rfl (by kernel_rfl) ?_
 refine tk2_ 0 (some 16) #[true, true, false, false, false, false, false] rfl rfl (by kernel_rfl) hHeld ?_
 refine tk2_ 2 (some 18) #[true, true, true, false, false, false, false] rfl rfl (by kernel_rfl) hHeld ?_
 refine pu_ 3 (some 19) #[true, true, true, true, false, false, false] rfl rfl (by kernel_rfl) ?_
 refine pu_ 4 (some 20) #[true, true, true, true, true, false, false] rfl rfl (by kernel_rfl) ?_
 refine one_ (i := 5) (N := none) #[true, true, true, true, true, true, false] rfl rfl (by kernel_rfl) (by decide) (fun K hK => ?_)
 have hs23 : w22.cell? ⟨gb502, 0, none⟩ = some (.slice none 0 0) := bc_ BK502.out 0
 have hfs23 := blk_frozen BK502.out 0
 have hns23_0 := NB501_502.out
 have hns23_2 := NB515_502.out
 have hns23_3 := NB516_502.out
 have hms23_0 := NB502_501.out
 have hms23_2 := NB502_515.out
 have hms23_3 := NB502_516.out
 refine skip_ (w1 := ?_) (by rfl) rfl ?_ ?_
 rotate_left
 ·go_simp
  rfl
 refine hK.out _ _ ⟨((cell_far (p := ⟨gb502, _, none⟩) NB515_502.out _).trans (hHeld.1)), ((cell_far (p := ⟨gb502, _, none⟩) NB516_502.out _).trans (hHeld.2))⟩ (fun hHeld => ?_)
 clear hK K
 refine pu_ 6 (some 5) #[true, true, true, true, true, true, true] rfl rfl (by kernel_rfl) ?_
 refine done_ (by kernel_rfl) ?_
 try go_wp2
 refine bodyPost_ret (results_ct rfl _ _ gb502 56 #[.slice Ao17 t509.length co17] (0, 0) _ rfl (by (with_reducible repeat (first | refine blk_drewN ?_ _ | refine blk_drew ?_ | refine blk_alloc ?_ _)); refine blk_put (cs := #[.slice none 0 0]) ?_ 0 _ rfl; (with_reducible repeat (first | refine blk_drewN ?_ _ | refine blk_drew ?_ | refine blk_alloc ?_ _)); exact BK502.out) Try.underlying56 rfl (by kernel_rfl)) rfl ?_
 exact ⟨_, by first | rfl | (simp [errW_none, errW_some] <;> rfl) | (simp [*, errW_none, errW_some] <;> rfl), by (with_reducible repeat (first | apply Kd.R_alloc | apply Kd.R_drewN | apply Kd.R_drew)); exact Kd.R_mono (Kd.R_far (p := ⟨gb502, 0, none⟩) (Kd.R_types HO511.out BK502.out (by decide)) (fun _ hk => hk.2) (.slice Ao17 t509.length co17)) (fun _ hk => trivial), hb4_ HB.out GE501.out GE502.out GE515.out GE516.out⟩
def r3_Low.f (a0 : Int) : Option (Int) := (r2_B.f a0).bind fun t452 => ((r2_F.f a0).bind fun t453 => (some (wrap64 ((wrap64 (1 - t452)) - t453))))
theorem r3_Low.calls (a0 : Int) (r : Int) (w : World) (h : r3_Low.f a0 = some r) :
  Calls Try.prog 157 #[.int .i64 a0] w fun e w' => e = .returned (.int .i64 r) ∧ Drawn0 w w' := by
 have H : ((r2_B.f a0).bind fun t452 => ((r2_F.f a0).bind fun t453 => (some (wrap64 ((wrap64 (1 - t452)) - t453))))) = some r := h
 clear h
 replace H := ob_ H
 obtain ⟨t452, A20, H⟩ := H
 replace H : ((r2_F.f a0).bind fun t453 => (some (wrap64 ((wrap64 (1 - t452)) - t453)))) = some r := H
 have A2 := A_ A20;clear A20
 replace H := ob_ H
 obtain ⟨t453, A30, H⟩ := H
 replace H : (some (wrap64 ((wrap64 (1 - t452)) - t453))) = some r := H
 have A3 := A_ A30;clear A30
 obtain rfl := Option.some.inj H
 go_enter Try.func157, Try.ntmps157
 go_wp2_with (first | ((with_reducible refine gate_callee (f := 94) rfl ?_); refine gl_ (some 4) Try.func94 #[.int .i64 a0] ?_; (with_reducible refine (r2_B.calls a0 t452 _ A2.out).mono ?_); rintro e w' ⟨rfl, ⟨nd, rfl⟩⟩; refine ⟨_, rfl, ?_⟩) | ((with_reducible refine gate_callee (f := 130) rfl ?_); refine gl_ (some 7) Try.func130 #[.int .i64 a0] ?_; (with_reducible refine (r2_F.calls a0 t453 _ A3.out).mono ?_); rintro e w' ⟨rfl, ⟨nd, rfl⟩⟩; refine ⟨_, rfl, ?_⟩))
 go_ret
 exact ⟨sm_, by repeat (first | exact Drawn0.refl _ | apply Drawn0.step)⟩
end Go.Proofs.Ytgcgheilbngcoaa.PA
