/- What the Go functions that the statement ChopBack reaches compute, and the mathematics on it, in the order in which one leans on the other; for every input. -/
import Derived.Test.YthdeeoallfbjmaaDoorVChopBack1
import Derived.Test.YthdeeoallfbjmaaDoorMChopBack0
import Derived.Test.YthdeeoallfbjmaaDoorMChopBack7
import Derived.Test.YthdeeoallfbjmaaDoorMChopBack6
import Derived.Test.YthdeeoallfbjmaaDoorMChopBack5
import Derived.Test.YthdeeoallfbjmaaDoorMChopBack2
import Derived.Test.YthdeeoallfbjmaaDoorMChopBack1
namespace Go.Proofs.YthdeeoallfbjmaaDoor.PA
open Go.RowKit Go.Proofs.YthdeeoallfbjmaaDoorW.PrintWords Go.Proofs.YthdeeoallfbjmaaDoorW.PrintLast Go.Proofs.YthdeeoallfbjmaaDoorW.PrintMore
attribute [local go_sem] max2_int min2_int max_two min_two max_three min_three max_four min_four   -- for this text's walks alone
set_option linter.unusedVariables false
set_option linter.unusedSimpArgs false
set_option maxHeartbeats 8000000
set_option maxRecDepth 100000
def chop_chopped.j0 : Nat → Int → Bool → Int → Bool → Int → Int → Int → Option (Int × Int)
 | 0, _, _, _, _, _, _, _ => none
 | k + 1, x1, x3, x11, x645000, x645001, x645002, x645003 => if x645001 = 3 then (some (0, 1)) else (if x645001 = 2 then (some (0, x11)) else (if x645001 = 0 then (some (0, 0)) else ((chop_amount.f x645000 x645001 x645002 x645003).bind fun bt645 => (if bt645.2 = true then ((chop_sized.f k x645000 bt645.1 x1 x3).bind fun t647 => (if x645000 = true then ((shape_Cut.f x1 (IntKind.u64.wrap (-bt645.1))).bind fun t648 => (some (t648, t647))) else ((shape_Cut.f x1 bt645.1).bind fun t649 => (some (t649, t647))))) else (some (0, x11))))))
def chop_chopped.f (k : Nat) (a0 : Int) (a1 : Int) (a2 : Int) (a3 : Bool) : Option (Int × Int) := (shape_Open.f k a0 a2).bind fun bt640 => (if bt640.1 = true then (chop_chopped.j0 k a1 a3 2 bt640.1 bt640.2.1 bt640.2.2.1 bt640.2.2.2) else (chop_chopped.j0 k a1 a3 3 bt640.1 bt640.2.1 bt640.2.2.1 bt640.2.2.2))
theorem chop_chopped.mono_l : ∀ k, (∀ y0 y1 y2 y3 y4 y5 y6, LeO (chop_chopped.j0 k y0 y1 y2 y3 y4 y5 y6) (chop_chopped.j0 (k + 1) y0 y1 y2 y3 y4 y5 y6))
 | 0 => fun _ _ _ _ _ _ _ r h => by simp [chop_chopped.j0] at h
 | k + 1 => by
  have ih0 := chop_chopped.mono_l k
  ·intro y0 y1 y2 y3 y4 y5 y6
   unfold chop_chopped.j0
   repeat' first
   | (with_reducible exact ih0 _ _ _ _ _ _ _)
   | (with_reducible exact chop_sized.mono _ _ _ _ _)
   | (with_reducible exact shape_Open.mono _ _ _)
   | (with_reducible exact LeO.refl _)
   | (with_reducible exact LeO.none _)
   | (with_reducible refine LeO.ite ?_ ?_)
   | (with_reducible refine LeO.bind ?_ (fun _ => ?_))
   | exact ih0 _ _ _ _ _ _ _
   | exact chop_sized.mono _ _ _ _ _
   | exact shape_Open.mono _ _ _
   | exact LeO.none _
   | refine LeO.ite ?_ ?_
   | refine LeO.bind ?_ (fun _ => ?_)
theorem chop_chopped.mono : ∀ a0 a1 a2 a3 k, LeO (chop_chopped.f k a0 a1 a2 a3) (chop_chopped.f (k + 1) a0 a1 a2 a3) := by
 intro a0 a1 a2 a3 k
 have ih0 := chop_chopped.mono_l k
 unfold chop_chopped.f
 repeat' first
   | (with_reducible exact ih0 _ _ _ _ _ _ _)
   | (with_reducible exact chop_sized.mono _ _ _ _ _)
   | (with_reducible exact shape_Open.mono _ _ _)
   | (with_reducible exact LeO.refl _)
   | (with_reducible exact LeO.none _)
   | (with_reducible refine LeO.ite ?_ ?_)
   | (with_reducible refine LeO.bind ?_ (fun _ => ?_))
   | exact ih0 _ _ _ _ _ _ _
   | exact chop_sized.mono _ _ _ _ _
   | exact shape_Open.mono _ _ _
   | exact LeO.none _
   | refine LeO.ite ?_ ?_
   | refine LeO.bind ?_ (fun _ => ?_)
theorem chop_chopped.calls (k : Nat) (a0 : Int) (a1 : Int) (a2 : Int) (a3 : Bool) (r1 : Int) (r2 : Int) (w : World) (h : chop_chopped.f k a0 a1 a2 a3 = some (r1, r2)) :
  Calls Tryd.prog 67 #[.int .i64 a0, .int .i64 a1, .int .u64 a2, .bool a3] w fun e w' => e = .returned (.tuple #[.int .u64 r1, .int .i64 r2]) ∧ Below w.heap.size w w' := by
 have hu75 := Tryd.underlying75
 have HB := A_ (Below.refl w.heap.size w)
 have H : ((shape_Open.f k a0 a2).bind fun bt640 => (if bt640.1 = true then (chop_chopped.j0 k a1 a3 2 bt640.1 bt640.2.1 bt640.2.2.1 bt640.2.2.2) else (chop_chopped.j0 k a1 a3 3 bt640.1 bt640.2.1 bt640.2.2.1 bt640.2.2.2))) = some (r1, r2) := h
 clear h
 replace H := ob_ H
 obtain ⟨⟨t640, t641, t642, t643⟩, A50, H⟩ := H
 replace H : (if t640 = true then (chop_chopped.j0 k a1 a3 2 t640 t641 t642 t643) else (chop_chopped.j0 k a1 a3 3 t640 t641 t642 t643)) = some (r1, r2) := H
 have A5 := A_ A50;clear A50;have HC6 := A_ H;clear H
 go_enter Tryd.func67, Tryd.ntmps67
 go_upto_if 19 with (first | ((with_reducible refine gate_callee (f := 62) rfl ?_); refine goesL_ (some 17) rfl rfl Tryd.func62 (by kernel_rfl) rfl #[.int .i64 a0, .int .u64 a2] rfl mp_ ?_; (with_reducible refine (shape_Open.calls k a0 a2 t640 t641 t642 t643 _ A5.out).mono ?_); rintro e w7 ⟨rfl, hb⟩; refine ⟨_, rfl, ?_⟩; replace HB := A_ (below_step (hb_ HB.out) hb); (try clear hb); (try clear hb2); (try clear hk); (try clear hi)) | ((with_reducible refine gate_dst (N := 10) rfl ?_); refine be_ 10 #[.bool false, .int .i64 0, .int .i64 0, .int .u64 0] 75 ?_; intro gb644 hg w8 hbox hb; have BK644 := A_ (hbox); have GW644 := A_ (sz_ hg (hb_ HB.out)); have GE644 := A_ (sz_ hg (hb_ HB.out)); replace HB := A_ (below_step (hb_ HB.out) hb); clear hb hbox hg; have hcz9_0 := bv_ BK644.out 0; have hcz9_1 := bv_ BK644.out 1; have hcz9_2 := bv_ BK644.out 2; have hcz9_3 := bv_ BK644.out 3; have hfz9_0 := blk_frozen BK644.out 0; have hfz9_1 := blk_frozen BK644.out 1; have hfz9_2 := blk_frozen BK644.out 2; have hfz9_3 := blk_frozen BK644.out 3))
 (try simp only [Act.put, lI_, l0_, lS_])
 go_cut [11] (fun v11 wc => ∃ (kq : Nat) (x11_5 : Int), v11 = .int .i64 x11_5 ∧ Aside0 (chop_chopped.j0 kq a1 a3 x11_5 t640 t641 t642 t643 = some (r1, r2)) ∧ Aside0 (kq ≤ k) ∧ Aside0 (wc.heap[gb644]? = some (.cells #[.bool t640, .int .i64 t641, .int .i64 t642, .int .u64 t643] 75 (0, 0))) ∧ Aside0 (Below w.heap.size w wc))
 case first =>
  have H := HC6.out
  clear HC6
  by_cases c10 : t640 = true
  ·subst c10
   have H1 : (chop_chopped.j0 k a1 a3 2 true t641 t642 t643) = some (r1, r2) := by rw [if_pos rfl] at H; exact H
   clear H;have H := H1;clear H1
   have H' := A_ H
   clear H
   go_wp2
   go_meet
   case rel => exact ⟨_, (2), sm_, H', ⟨by first | omega | exact Nat.le_refl _⟩, ⟨by (with_reducible repeat (first | refine blk_drewN ?_ _ | refine blk_drew ?_ | refine blk_alloc ?_ _)); refine blk_put (cs := #[.bool true, .int .i64 t641, .int .i64 t642, .int .u64 0]) ?_ 3 _ rfl; (with_reducible repeat (first | refine blk_drewN ?_ _ | refine blk_drew ?_ | refine blk_alloc ?_ _)); refine blk_put (cs := #[.bool true, .int .i64 t641, .int .i64 0, .int .u64 0]) ?_ 2 _ rfl; (with_reducible repeat (first | refine blk_drewN ?_ _ | refine blk_drew ?_ | refine blk_alloc ?_ _)); refine blk_put (cs := #[.bool true, .int .i64 0, .int .i64 0, .int .u64 0]) ?_ 1 _ rfl; (with_reducible repeat (first | refine blk_drewN ?_ _ | refine blk_drew ?_ | refine blk_alloc ?_ _)); refine blk_put (cs := #[.bool false, .int .i64 0, .int .i64 0, .int .u64 0]) ?_ 0 _ rfl; (with_reducible repeat (first | refine blk_drewN ?_ _ | refine blk_drew ?_ | refine blk_alloc ?_ _)); exact BK644.out⟩, ⟨hb1_ HB.out GE644.out⟩⟩
  ·replace c10 := Bool.eq_false_iff.mpr c10
   subst c10
   have H1 : (chop_chopped.j0 k a1 a3 3 false t641 t642 t643) = some (r1, r2) := by rw [if_neg (show ¬ (false = true) by decide)] at H; exact H
   clear H;have H := H1;clear H1
   have H' := A_ H
   clear H
   go_wp2
   go_meet
   case rel => exact ⟨_, (3), sm_, H', ⟨by first | omega | exact Nat.le_refl _⟩, ⟨by (with_reducible repeat (first | refine blk_drewN ?_ _ | refine blk_drew ?_ | refine blk_alloc ?_ _)); refine blk_put (cs := #[.bool false, .int .i64 t641, .int .i64 t642, .int .u64 0]) ?_ 3 _ rfl; (with_reducible repeat (first | refine blk_drewN ?_ _ | refine blk_drew ?_ | refine blk_alloc ?_ _)); refine blk_put (cs := #[.bool false, .int .i64 t641, .int .i64 0, .int .u64 0]) ?_ 2 _ rfl; (with_reducible repeat (first | refine blk_drewN ?_ _ | refine blk_drew ?_ | refine blk_alloc ?_ _)); refine blk_put (cs := #[.bool false, .int .i64 0, .int .i64 0, .int .u64 0]) ?_ 1 _ rfl; (with_reducible repeat (first | refine blk_drewN ?_ _ | refine blk_drew ?_ | refine blk_alloc ?_ _)); refine blk_put (cs := #[.bool false, .int .i64 0, .int .i64 0, .int .u64 0]) ?_ 0 _ rfl; (with_reducible repeat (first | refine blk_drewN ?_ _ | refine blk_drew ?_ | refine blk_alloc ?_ _)); exact BK644.out⟩, ⟨hb1_ HB.out GE644.out⟩⟩
 case rest =>
  clear HC6
  try clear c1
  try clear p2
  try clear c6
  try clear c10
  try clear hcz9_0
  try clear hcz9_1
  try clear hcz9_2
  try clear hcz9_3
  try clear hfz9_0
  try clear hfz9_1
  try clear hfz9_2
  try clear hfz9_3
  obtain ⟨kq, x11_5, rfl, HA, HJ5, BK644, HB⟩ := hcut
  cases kq with
  | zero => exact absurd HA.out (by simp [chop_chopped.j0])
  | succ kj5 =>
   have H := HA.out
   clear HA
   simp only [chop_chopped.j0] at H
   by_cases c11 : t641 = 3
   ·rw [if_pos c11] at H
    have c11b0 : (t641 == 3) = true := beq_iff_eq.mpr c11
    have c11b1 : (t641 != 3) = false := bne_eq_false_iff_eq.mpr c11
    clear c11
    simp only [Option.some.injEq, Prod.mk.injEq] at H
    obtain ⟨rfl, rfl⟩ := H
    have hcz12_0 := bv_ BK644.out 0
    have hcz12_1 := bv_ BK644.out 1
    have hcz12_2 := bv_ BK644.out 2
    have hcz12_3 := bv_ BK644.out 3
    have hfz12_0 := blk_frozen BK644.out 0
    have hfz12_1 := blk_frozen BK644.out 1
    have hfz12_2 := blk_frozen BK644.out 2
    have hfz12_3 := blk_frozen BK644.out 3
    go_wp2
    go_ret2
    exact ⟨er_, hb1_ HB.out GE644.out⟩
   ·rw [if_neg c11] at H
    have c11b0 : (t641 == 3) = false := beq_eq_false_iff_ne.mpr c11
    have c11b1 : (t641 != 3) = true := bne_iff_ne.mpr c11
    by_cases c13 : t641 = 2
    ·rw [if_pos c13] at H
     have c13b0 : (t641 == 2) = true := beq_iff_eq.mpr c13
     have c13b1 : (t641 != 2) = false := bne_eq_false_iff_eq.mpr c13
     clear c13
     simp only [Option.some.injEq, Prod.mk.injEq] at H
     obtain ⟨rfl, rfl⟩ := H
     have hcz14_0 := bv_ BK644.out 0
     have hcz14_1 := bv_ BK644.out 1
     have hcz14_2 := bv_ BK644.out 2
     have hcz14_3 := bv_ BK644.out 3
     have hfz14_0 := blk_frozen BK644.out 0
     have hfz14_1 := blk_frozen BK644.out 1
     have hfz14_2 := blk_frozen BK644.out 2
     have hfz14_3 := blk_frozen BK644.out 3
     go_wp2
     go_ret2
     exact ⟨er_, hb1_ HB.out GE644.out⟩
    ·rw [if_neg c13] at H
     have c13b0 : (t641 == 2) = false := beq_eq_false_iff_ne.mpr c13
     have c13b1 : (t641 != 2) = true := bne_iff_ne.mpr c13
     by_cases c15 : t641 = 0
     ·rw [if_pos c15] at H
      have c15b0 : (t641 == 0) = true := beq_iff_eq.mpr c15
      have c15b1 : (t641 != 0) = false := bne_eq_false_iff_eq.mpr c15
      clear c15
      simp only [Option.some.injEq, Prod.mk.injEq] at H
      obtain ⟨rfl, rfl⟩ := H
      have hcz16_0 := bv_ BK644.out 0
      have hcz16_1 := bv_ BK644.out 1
      have hcz16_2 := bv_ BK644.out 2
      have hcz16_3 := bv_ BK644.out 3
      have hfz16_0 := blk_frozen BK644.out 0
      have hfz16_1 := blk_frozen BK644.out 1
      have hfz16_2 := blk_frozen BK644.out 2
      have hfz16_3 := blk_frozen BK644.out 3
      go_wp2
      go_ret2
      exact ⟨er_, hb1_ HB.out GE644.out⟩
     ·rw [if_neg c15] at H
      have c15b0 : (t641 == 0) = false := beq_eq_false_iff_ne.mpr c15
      have c15b1 : (t641 != 0) = true := bne_iff_ne.mpr c15
      replace H := ob_ H
      obtain ⟨⟨t645, t646⟩, A170, H⟩ := H
      replace H : (if t646 = true then ((chop_sized.f kj5 t640 t645 a1 a3).bind fun t647 => (if t640 = true then ((shape_Cut.f a1 (IntKind.u64.wrap (-t645))).bind fun t648 => (some (t648, t647))) else ((shape_Cut.f a1 t645).bind fun t649 => (some (t649, t647))))) else (some (0, x11_5))) = some (r1, r2) := H
      have A17 := A_ A170;clear A170
      by_cases c18 : t646 = true
      ·subst c18
       have H1 : ((chop_sized.f kj5 t640 t645 a1 a3).bind fun t647 => (if t640 = true then ((shape_Cut.f a1 (IntKind.u64.wrap (-t645))).bind fun t648 => (some (t648, t647))) else ((shape_Cut.f a1 t645).bind fun t649 => (some (t649, t647))))) = some (r1, r2) := by rw [if_pos rfl] at H; exact H
       clear H;have H := H1;clear H1
       replace H := ob_ H
       obtain ⟨t647, A190, H⟩ := H
       replace H : (if t640 = true then ((shape_Cut.f a1 (IntKind.u64.wrap (-t645))).bind fun t648 => (some (t648, t647))) else ((shape_Cut.f a1 t645).bind fun t649 => (some (t649, t647)))) = some (r1, r2) := H
       have A19 := A_ A190;clear A190
       by_cases c20 : t640 = true
       ·subst c20
        have H1 : ((shape_Cut.f a1 (IntKind.u64.wrap (-t645))).bind fun t648 => (some (t648, t647))) = some (r1, r2) := by rw [if_pos rfl] at H; exact H
        clear H;have H := H1;clear H1
        replace H := ob_ H
        obtain ⟨t648, A210, H⟩ := H
        replace H : (some (t648, t647)) = some (r1, r2) := H
        have A21 := A_ A210;clear A210
        simp only [Option.some.injEq, Prod.mk.injEq] at H
        obtain ⟨rfl, rfl⟩ := H
        have hcz22_0 := bv_ BK644.out 0
        have hcz22_1 := bv_ BK644.out 1
        have hcz22_2 := bv_ BK644.out 2
        have hcz22_3 := bv_ BK644.out 3
        have hfz22_0 := blk_frozen BK644.out 0
        have hfz22_1 := blk_frozen BK644.out 1
        have hfz22_2 := blk_frozen BK644.out 2
        have hfz22_3 := blk_frozen BK644.out 3
        go_wp2_with (first | ((with_reducible refine gate_callee (f := 90) rfl ?_); refine goesL_ (some 31) rfl rfl Tryd.func90 (by kernel_rfl) rfl #[.agg #[.bool true, .int .i64 t641, .int .i64 t642, .int .u64 t643]] rfl mp_ ?_; (with_reducible refine (chop_amount.calls true t641 t642 t643 t645 true _ A17.out).mono ?_); rintro e w23 ⟨rfl, hb⟩; refine ⟨_, rfl, ?_⟩; replace BK644 := A_ (bb_ BK644.out hb); replace HB := A_ (below_step (hb1_ HB.out GE644.out) hb); (try clear hb); (try clear hb2); (try clear hk); (try clear hi); have hcz24_0 := bv_ BK644.out 0; have hcz24_1 := bv_ BK644.out 1; have hcz24_2 := bv_ BK644.out 2; have hcz24_3 := bv_ BK644.out 3; have hfz24_0 := blk_frozen BK644.out 0; have hfz24_1 := blk_frozen BK644.out 1; have hfz24_2 := blk_frozen BK644.out 2; have hfz24_3 := blk_frozen BK644.out 3) | ((with_reducible refine gate_callee (f := 91) rfl ?_); refine goesL_ (some 42) rfl rfl Tryd.func91 (by kernel_rfl) rfl #[.bool true, .int .u64 t645, .int .i64 a1, .bool a3] rfl mp_ ?_; (with_reducible refine (chop_sized.calls kj5 true t645 a1 a3 t647 _ A19.out).mono ?_); rintro e w' ⟨rfl, ⟨nd, rfl⟩⟩; refine ⟨_, rfl, ?_⟩) | ((with_reducible refine gate_callee (f := 34) rfl ?_); refine goesL_ (some 49) rfl rfl Tryd.func34 (by kernel_rfl) rfl #[.int .i64 a1, .int .u64 (IntKind.u64.wrap (-t645))] rfl mp_ ?_; (with_reducible refine (shape_Cut.calls a1 (IntKind.u64.wrap (-t645)) t648 _ A21.out).mono ?_); rintro e w' ⟨rfl, ⟨nd, rfl⟩⟩; refine ⟨_, rfl, ?_⟩))
        go_ret2
        exact ⟨er_, hb1_ HB.out GE644.out⟩
       ·replace c20 := Bool.eq_false_iff.mpr c20
        subst c20
        have H1 : ((shape_Cut.f a1 t645).bind fun t649 => (some (t649, t647))) = some (r1, r2) := by rw [if_neg (show ¬ (false = true) by decide)] at H; exact H
        clear H;have H := H1;clear H1
        replace H := ob_ H
        obtain ⟨t649, A250, H⟩ := H
        replace H : (some (t649, t647)) = some (r1, r2) := H
        have A25 := A_ A250;clear A250
        simp only [Option.some.injEq, Prod.mk.injEq] at H
        obtain ⟨rfl, rfl⟩ := H
        have hcz26_0 := bv_ BK644.out 0
        have hcz26_1 := bv_ BK644.out 1
        have hcz26_2 := bv_ BK644.out 2
        have hcz26_3 := bv_ BK644.out 3
        have hfz26_0 := blk_frozen BK644.out 0
        have hfz26_1 := blk_frozen BK644.out 1
        have hfz26_2 := blk_frozen BK644.out 2
        have hfz26_3 := blk_frozen BK644.out 3
        go_wp2_with (first | ((with_reducible refine gate_callee (f := 90) rfl ?_); refine goesL_ (some 31) rfl rfl Tryd.func90 (by kernel_rfl) rfl #[.agg #[.bool false, .int .i64 t641, .int .i64 t642, .int .u64 t643]] rfl mp_ ?_; (with_reducible refine (chop_amount.calls false t641 t642 t643 t645 true _ A17.out).mono ?_); rintro e w27 ⟨rfl, hb⟩; refine ⟨_, rfl, ?_⟩; replace BK644 := A_ (bb_ BK644.out hb); replace HB := A_ (below_step (hb1_ HB.out GE644.out) hb); (try clear hb); (try clear hb2); (try clear hk); (try clear hi); have hcz28_0 := bv_ BK644.out 0; have hcz28_1 := bv_ BK644.out 1; have hcz28_2 := bv_ BK644.out 2; have hcz28_3 := bv_ BK644.out 3; have hfz28_0 := blk_frozen BK644.out 0; have hfz28_1 := blk_frozen BK644.out 1; have hfz28_2 := blk_frozen BK644.out 2; have hfz28_3 := blk_frozen BK644.out 3) | ((with_reducible refine gate_callee (f := 91) rfl ?_); refine goesL_ (some 42) rfl rfl Tryd.func91 (by kernel_rfl) rfl #[.bool false, .int .u64 t645, .int .i64 a1, .bool a3] rfl mp_ ?_; (with_reducible refine (chop_sized.calls kj5 false t645 a1 a3 t647 _ A19.out).mono ?_); rintro e w' ⟨rfl, ⟨nd, rfl⟩⟩; refine ⟨_, rfl, ?_⟩) | ((with_reducible refine gate_callee (f := 34) rfl ?_); refine goesL_ (some 49) rfl rfl Tryd.func34 (by kernel_rfl) rfl #[.int .i64 a1, .int .u64 t645] rfl mp_ ?_; (with_reducible refine (shape_Cut.calls a1 t645 t649 _ A25.out).mono ?_); rintro e w' ⟨rfl, ⟨nd, rfl⟩⟩; refine ⟨_, rfl, ?_⟩))
        go_ret2
        exact ⟨er_, hb1_ HB.out GE644.out⟩
      ·replace c18 := Bool.eq_false_iff.mpr c18
       subst c18
       have H1 : (some (0, x11_5)) = some (r1, r2) := by rw [if_neg (show ¬ (false = true) by decide)] at H; exact H
       clear H;have H := H1;clear H1
       simp only [Option.some.injEq, Prod.mk.injEq] at H
       obtain ⟨rfl, rfl⟩ := H
       have hcz29_0 := bv_ BK644.out 0
       have hcz29_1 := bv_ BK644.out 1
       have hcz29_2 := bv_ BK644.out 2
       have hcz29_3 := bv_ BK644.out 3
       have hfz29_0 := blk_frozen BK644.out 0
       have hfz29_1 := blk_frozen BK644.out 1
       have hfz29_2 := blk_frozen BK644.out 2
       have hfz29_3 := blk_frozen BK644.out 3
       go_wp2_with (first | ((with_reducible refine gate_callee (f := 90) rfl ?_); refine goesL_ (some 31) rfl rfl Tryd.func90 (by kernel_rfl) rfl #[.agg #[.bool t640, .int .i64 t641, .int .i64 t642, .int .u64 t643]] rfl mp_ ?_; (with_reducible refine (chop_amount.calls t640 t641 t642 t643 t645 false _ A17.out).mono ?_); rintro e w30 ⟨rfl, hb⟩; refine ⟨_, rfl, ?_⟩; replace BK644 := A_ (bb_ BK644.out hb); replace HB := A_ (below_step (hb1_ HB.out GE644.out) hb); (try clear hb); (try clear hb2); (try clear hk); (try clear hi)))
       go_ret2
       exact ⟨er_, hb1_ HB.out GE644.out⟩
def chop_Sat.j0 : Nat → Int → Int → Int → Bool → Bool → Option (Int)
 | 0, _, _, _, _, _ => none
 | k + 1, x0, x1, x2, x3, x20 => if x20 = true then (some 0) else ((chop_Ends.f x1 x3).bind fun bt656 => ((chop_chopped.f k x0 x1 x2 x3).bind fun bt658 => (if bt658.2 = 1 then (some 0) else (if bt658.2 = 2 then (some bt656.1) else (if bt658.2 = 3 then (some bt656.2) else (some bt658.1))))))
def chop_Sat.f (k : Nat) (a0 : Int) (a1 : Int) (a2 : Int) (a3 : Bool) : Option (Int) := (chop_known.f a0).bind fun t654 => (if t654 = true then ((chop_known.f a1).bind fun t655 => (chop_Sat.j0 k a0 a1 a2 a3 (!t655))) else (chop_Sat.j0 k a0 a1 a2 a3 true))
theorem chop_Sat.mono_l : ∀ k, (∀ y0 y1 y2 y3 y4, LeO (chop_Sat.j0 k y0 y1 y2 y3 y4) (chop_Sat.j0 (k + 1) y0 y1 y2 y3 y4))
 | 0 => fun _ _ _ _ _ r h => by simp [chop_Sat.j0] at h
 | k + 1 => by
  have ih0 := chop_Sat.mono_l k
  ·intro y0 y1 y2 y3 y4
   unfold chop_Sat.j0
   repeat' first
   | (with_reducible exact ih0 _ _ _ _ _)
   | (with_reducible exact chop_chopped.mono _ _ _ _ _)
   | (with_reducible exact LeO.refl _)
   | (with_reducible exact LeO.none _)
   | (with_reducible refine LeO.ite ?_ ?_)
   | (with_reducible refine LeO.bind ?_ (fun _ => ?_))
   | exact ih0 _ _ _ _ _
   | exact chop_chopped.mono _ _ _ _ _
   | exact LeO.none _
   | refine LeO.ite ?_ ?_
   | refine LeO.bind ?_ (fun _ => ?_)
theorem chop_Sat.mono : ∀ a0 a1 a2 a3 k, LeO (chop_Sat.f k a0 a1 a2 a3) (chop_Sat.f (k + 1) a0 a1 a2 a3) := by
 intro a0 a1 a2 a3 k
 have ih0 := chop_Sat.mono_l k
 unfold chop_Sat.f
 repeat' first
   | (with_reducible exact ih0 _ _ _ _ _)
   | (with_reducible exact chop_chopped.mono _ _ _ _ _)
   | (with_reducible exact LeO.refl _)
   | (with_reducible exact LeO.none _)
   | (with_reducible refine LeO.ite ?_ ?_)
   | (with_reducible refine LeO.bind ?_ (fun _ => ?_))
   | exact ih0 _ _ _ _ _
   | exact chop_chopped.mono _ _ _ _ _
   | exact LeO.none _
   | refine LeO.ite ?_ ?_
   | refine LeO.bind ?_ (fun _ => ?_)
theorem chop_Sat.calls (k : Nat) (a0 : Int) (a1 : Int) (a2 : Int) (a3 : Bool) (r : Int) (w : World) (h : chop_Sat.f k a0 a1 a2 a3 = some r) :
  Calls Tryd.prog 37 #[.int .i64 a0, .int .i64 a1, .int .u64 a2, .bool a3] w fun e w' => e = .returned (.int .u64 r) ∧ Below w.heap.size w w' := by
 have HB := A_ (Below.refl w.heap.size w)
 have H : ((chop_known.f a0).bind fun t654 => (if t654 = true then ((chop_known.f a1).bind fun t655 => (chop_Sat.j0 k a0 a1 a2 a3 (!t655))) else (chop_Sat.j0 k a0 a1 a2 a3 true))) = some r := h
 clear h;have HC5 := A_ H;clear H
 go_enter Tryd.func37, Tryd.ntmps37
 go_upto_region 1 with (fail)
 go_cut [20] (fun v20 wc => ∃ (kq : Nat) (x20_4 : Bool), v20 = .bool x20_4 ∧ Aside0 (chop_Sat.j0 kq a0 a1 a2 a3 x20_4 = some r) ∧ Aside0 (kq ≤ k) ∧ Aside0 (Below w.heap.size w wc))
 case first =>
  have H := HC5.out
  clear HC5
  replace H := ob_ H
  obtain ⟨t654, A60, H⟩ := H
  replace H : (if t654 = true then ((chop_known.f a1).bind fun t655 => (chop_Sat.j0 k a0 a1 a2 a3 (!t655))) else (chop_Sat.j0 k a0 a1 a2 a3 true)) = some r := H
  have A6 := A_ A60;clear A60
  by_cases c7 : t654 = true
  ·subst c7
   have H1 : ((chop_known.f a1).bind fun t655 => (chop_Sat.j0 k a0 a1 a2 a3 (!t655))) = some r := by rw [if_pos rfl] at H; exact H
   clear H;have H := H1;clear H1
   replace H := ob_ H
   obtain ⟨t655, A80, H⟩ := H
   replace H : (chop_Sat.j0 k a0 a1 a2 a3 (!t655)) = some r := H
   have A8 := A_ A80;clear A80
   have H' := A_ H
   clear H
   go_wp2_with (first | ((with_reducible refine gate_callee (f := 66) rfl ?_); refine goesL_ (some 14) rfl rfl Tryd.func66 (by kernel_rfl) rfl #[.int .i64 a0] rfl mp_ ?_; (with_reducible refine (chop_known.calls a0 true _ A6.out).mono ?_); rintro e w' ⟨rfl, ⟨nd, rfl⟩⟩; refine ⟨_, rfl, ?_⟩) | (go_at_call 66; (with_reducible refine (chop_known.calls a1 t655 _ A8.out).mono ?_); rintro e w' ⟨rfl, ⟨nd, rfl⟩⟩))
   go_meet
   case rel => exact ⟨_, (!t655), sm_, H', ⟨by first | omega | exact Nat.le_refl _⟩, ⟨hb_ HB.out⟩⟩
  ·replace c7 := Bool.eq_false_iff.mpr c7
   subst c7
   have H1 : (chop_Sat.j0 k a0 a1 a2 a3 true) = some r := by rw [if_neg (show ¬ (false = true) by decide)] at H; exact H
   clear H;have H := H1;clear H1
   have H' := A_ H
   clear H
   go_wp2_with (first | ((with_reducible refine gate_callee (f := 66) rfl ?_); refine goesL_ (some 14) rfl rfl Tryd.func66 (by kernel_rfl) rfl #[.int .i64 a0] rfl mp_ ?_; (with_reducible refine (chop_known.calls a0 false _ A6.out).mono ?_); rintro e w' ⟨rfl, ⟨nd, rfl⟩⟩; refine ⟨_, rfl, ?_⟩))
   go_meet
   case rel => exact ⟨_, (true), sm_, H', ⟨by first | omega | exact Nat.le_refl _⟩, ⟨hb_ HB.out⟩⟩
 case rest =>
  clear HC5
  try clear p2
  try clear c3
  try clear c6
  try clear c7
  obtain ⟨kq, x20_4, rfl, HA, HJ4, HB⟩ := hcut
  cases kq with
  | zero => exact absurd HA.out (by simp [chop_Sat.j0])
  | succ kj4 =>
   have H := HA.out
   clear HA
   simp only [chop_Sat.j0] at H
   by_cases c9 : x20_4 = true
   ·subst c9
    have H1 : (some 0) = some r := by rw [if_pos rfl] at H; exact H
    clear H;have H := H1;clear H1
    obtain rfl := Option.some.inj H
    go_wp2
    go_ret
    exact ⟨er_, hb_ HB.out⟩
   ·replace c9 := Bool.eq_false_iff.mpr c9
    subst c9
    have H1 : ((chop_Ends.f a1 a3).bind fun bt656 => ((chop_chopped.f kj4 a0 a1 a2 a3).bind fun bt658 => (if bt658.2 = 1 then (some 0) else (if bt658.2 = 2 then (some bt656.1) else (if bt658.2 = 3 then (some bt656.2) else (some bt658.1)))))) = some r := by rw [if_neg (show ¬ (false = true) by decide)] at H; exact H
    clear H;have H := H1;clear H1
    replace H := ob_ H
    obtain ⟨⟨t656, t657⟩, A100, H⟩ := H
    replace H : ((chop_chopped.f kj4 a0 a1 a2 a3).bind fun bt658 => (if bt658.2 = 1 then (some 0) else (if bt658.2 = 2 then (some t656) else (if bt658.2 = 3 then (some t657) else (some bt658.1))))) = some r := H
    have A10 := A_ A100;clear A100
    replace H := ob_ H
    obtain ⟨⟨t658, t659⟩, A110, H⟩ := H
    replace H : (if t659 = 1 then (some 0) else (if t659 = 2 then (some t656) else (if t659 = 3 then (some t657) else (some t658)))) = some r := H
    have A11 := A_ A110;clear A110
    by_cases c12 : t659 = 1
    ·rw [if_pos c12] at H
     have c12b0 : (t659 == 1) = true := beq_iff_eq.mpr c12
     have c12b1 : (t659 != 1) = false := bne_eq_false_iff_eq.mpr c12
     clear c12
     obtain rfl := Option.some.inj H
     go_wp2_with (first | ((with_reducible refine gate_callee (f := 68) rfl ?_); refine goesL_ (some 24) rfl rfl Tryd.func68 (by kernel_rfl) rfl #[.int .i64 a1, .bool a3] rfl mp_ ?_; (with_reducible refine (chop_Ends.calls a1 a3 t656 t657 _ A10.out).mono ?_); rintro e w' ⟨rfl, ⟨nd, rfl⟩⟩; refine ⟨_, rfl, ?_⟩) | ((with_reducible refine gate_callee (f := 67) rfl ?_); refine goesL_ (some 32) rfl rfl Tryd.func67 (by kernel_rfl) rfl #[.int .i64 a0, .int .i64 a1, .int .u64 a2, .bool a3] rfl mp_ ?_; (with_reducible refine (chop_chopped.calls kj4 a0 a1 a2 a3 t658 t659 _ A11.out).mono ?_); rintro e w13 ⟨rfl, hb⟩; refine ⟨_, rfl, ?_⟩; replace HB := A_ (below_step (hb_ HB.out) hb); (try clear hb); (try clear hb2); (try clear hk); (try clear hi)))
     go_ret
     exact ⟨er_, hb_ HB.out⟩
    ·rw [if_neg c12] at H
     have c12b0 : (t659 == 1) = false := beq_eq_false_iff_ne.mpr c12
     have c12b1 : (t659 != 1) = true := bne_iff_ne.mpr c12
     by_cases c14 : t659 = 2
     ·rw [if_pos c14] at H
      have c14b0 : (t659 == 2) = true := beq_iff_eq.mpr c14
      have c14b1 : (t659 != 2) = false := bne_eq_false_iff_eq.mpr c14
      clear c14
      obtain rfl := Option.some.inj H
      go_wp2_with (first | ((with_reducible refine gate_callee (f := 68) rfl ?_); refine goesL_ (some 24) rfl rfl Tryd.func68 (by kernel_rfl) rfl #[.int .i64 a1, .bool a3] rfl mp_ ?_; (with_reducible refine (chop_Ends.calls a1 a3 t656 t657 _ A10.out).mono ?_); rintro e w' ⟨rfl, ⟨nd, rfl⟩⟩; refine ⟨_, rfl, ?_⟩) | ((with_reducible refine gate_callee (f := 67) rfl ?_); refine goesL_ (some 32) rfl rfl Tryd.func67 (by kernel_rfl) rfl #[.int .i64 a0, .int .i64 a1, .int .u64 a2, .bool a3] rfl mp_ ?_; (with_reducible refine (chop_chopped.calls kj4 a0 a1 a2 a3 t658 t659 _ A11.out).mono ?_); rintro e w15 ⟨rfl, hb⟩; refine ⟨_, rfl, ?_⟩; replace HB := A_ (below_step (hb_ HB.out) hb); (try clear hb); (try clear hb2); (try clear hk); (try clear hi)))
      go_ret
      exact ⟨er_, hb_ HB.out⟩
     ·rw [if_neg c14] at H
      have c14b0 : (t659 == 2) = false := beq_eq_false_iff_ne.mpr c14
      have c14b1 : (t659 != 2) = true := bne_iff_ne.mpr c14
      by_cases c16 : t659 = 3
      ·rw [if_pos c16] at H
       have c16b0 : (t659 == 3) = true := beq_iff_eq.mpr c16
       have c16b1 : (t659 != 3) = false := bne_eq_false_iff_eq.mpr c16
       clear c16
       obtain rfl := Option.some.inj H
       go_wp2_with (first | ((with_reducible refine gate_callee (f := 68) rfl ?_); refine goesL_ (some 24) rfl rfl Tryd.func68 (by kernel_rfl) rfl #[.int .i64 a1, .bool a3] rfl mp_ ?_; (with_reducible refine (chop_Ends.calls a1 a3 t656 t657 _ A10.out).mono ?_); rintro e w' ⟨rfl, ⟨nd, rfl⟩⟩; refine ⟨_, rfl, ?_⟩) | ((with_reducible refine gate_callee (f := 67) rfl ?_); refine goesL_ (some 32) rfl rfl Tryd.func67 (by kernel_rfl) rfl #[.int .i64 a0, .int .i64 a1, .int .u64 a2, .bool a3] rfl mp_ ?_; (with_reducible refine (chop_chopped.calls kj4 a0 a1 a2 a3 t658 t659 _ A11.out).mono ?_); rintro e w17 ⟨rfl, hb⟩; refine ⟨_, rfl, ?_⟩; replace HB := A_ (below_step (hb_ HB.out) hb); (try clear hb); (try clear hb2); (try clear hk); (try clear hi)))
       go_ret
       exact ⟨er_, hb_ HB.out⟩
      ·rw [if_neg c16] at H
       have c16b0 : (t659 == 3) = false := beq_eq_false_iff_ne.mpr c16
       have c16b1 : (t659 != 3) = true := bne_iff_ne.mpr c16
       obtain rfl := Option.some.inj H
       go_wp2_with (first | ((with_reducible refine gate_callee (f := 68) rfl ?_); refine goesL_ (some 24) rfl rfl Tryd.func68 (by kernel_rfl) rfl #[.int .i64 a1, .bool a3] rfl mp_ ?_; (with_reducible refine (chop_Ends.calls a1 a3 t656 t657 _ A10.out).mono ?_); rintro e w' ⟨rfl, ⟨nd, rfl⟩⟩; refine ⟨_, rfl, ?_⟩) | ((with_reducible refine gate_callee (f := 67) rfl ?_); refine goesL_ (some 32) rfl rfl Tryd.func67 (by kernel_rfl) rfl #[.int .i64 a0, .int .i64 a1, .int .u64 a2, .bool a3] rfl mp_ ?_; (with_reducible refine (chop_chopped.calls kj4 a0 a1 a2 a3 t658 t659 _ A11.out).mono ?_); rintro e w18 ⟨rfl, hb⟩; refine ⟨_, rfl, ?_⟩; replace HB := A_ (below_step (hb_ HB.out) hb); (try clear hb); (try clear hb2); (try clear hk); (try clear hi)))
       go_ret
       exact ⟨er_, hb_ HB.out⟩
def chop_Trap.j0 : Nat → Int → Int → Int → Bool → Bool → Option (Int × Int)
 | 0, _, _, _, _, _ => none
 | k + 1, x0, x1, x2, x3, x19 => if x19 = true then (some (0, 0)) else ((chop_chopped.f k x0 x1 x2 x3).bind fun bt652 => (if bt652.2 = 1 then (some (0, 4)) else (if bt652.2 = 2 then (some (0, 3)) else (if bt652.2 = 3 then (some (0, 3)) else (some (bt652.1, 0))))))
def chop_Trap.f (k : Nat) (a0 : Int) (a1 : Int) (a2 : Int) (a3 : Bool) : Option (Int × Int) := (chop_known.f a0).bind fun t650 => (if t650 = true then ((chop_known.f a1).bind fun t651 => (chop_Trap.j0 k a0 a1 a2 a3 (!t651))) else (chop_Trap.j0 k a0 a1 a2 a3 true))
theorem chop_Trap.mono_l : ∀ k, (∀ y0 y1 y2 y3 y4, LeO (chop_Trap.j0 k y0 y1 y2 y3 y4) (chop_Trap.j0 (k + 1) y0 y1 y2 y3 y4))
 | 0 => fun _ _ _ _ _ r h => by simp [chop_Trap.j0] at h
 | k + 1 => by
  have ih0 := chop_Trap.mono_l k
  ·intro y0 y1 y2 y3 y4
   unfold chop_Trap.j0
   repeat' first
   | (with_reducible exact ih0 _ _ _ _ _)
   | (with_reducible exact chop_chopped.mono _ _ _ _ _)
   | (with_reducible exact LeO.refl _)
   | (with_reducible exact LeO.none _)
   | (with_reducible refine LeO.ite ?_ ?_)
   | (with_reducible refine LeO.bind ?_ (fun _ => ?_))
   | exact ih0 _ _ _ _ _
   | exact chop_chopped.mono _ _ _ _ _
   | exact LeO.none _
   | refine LeO.ite ?_ ?_
   | refine LeO.bind ?_ (fun _ => ?_)
theorem chop_Trap.mono : ∀ a0 a1 a2 a3 k, LeO (chop_Trap.f k a0 a1 a2 a3) (chop_Trap.f (k + 1) a0 a1 a2 a3) := by
 intro a0 a1 a2 a3 k
 have ih0 := chop_Trap.mono_l k
 unfold chop_Trap.f
 repeat' first
   | (with_reducible exact ih0 _ _ _ _ _)
   | (with_reducible exact chop_chopped.mono _ _ _ _ _)
   | (with_reducible exact LeO.refl _)
   | (with_reducible exact LeO.none _)
   | (with_reducible refine LeO.ite ?_ ?_)
   | (with_reducible refine LeO.bind ?_ (fun _ => ?_))
   | exact ih0 _ _ _ _ _
   | exact chop_chopped.mono _ _ _ _ _
   | exact LeO.none _
   | refine LeO.ite ?_ ?_
   | refine LeO.bind ?_ (fun _ => ?_)
theorem chop_Trap.calls (k : Nat) (a0 : Int) (a1 : Int) (a2 : Int) (a3 : Bool) (r1 : Int) (r2 : Int) (w : World) (h : chop_Trap.f k a0 a1 a2 a3 = some (r1, r2)) :
  Calls Tryd.prog 36 #[.int .i64 a0, .int .i64 a1, .int .u64 a2, .bool a3] w fun e w' => e = .returned (.tuple #[.int .u64 r1, .int .i64 r2]) ∧ Below w.heap.size w w' := by
 have HB := A_ (Below.refl w.heap.size w)
 have H : ((chop_known.f a0).bind fun t650 => (if t650 = true then ((chop_known.f a1).bind fun t651 => (chop_Trap.j0 k a0 a1 a2 a3 (!t651))) else (chop_Trap.j0 k a0 a1 a2 a3 true))) = some (r1, r2) := h
 clear h;have HC5 := A_ H;clear H
 go_enter Tryd.func36, Tryd.ntmps36
 go_upto_region 1 with (fail)
 go_cut [19] (fun v19 wc => ∃ (kq : Nat) (x19_4 : Bool), v19 = .bool x19_4 ∧ Aside0 (chop_Trap.j0 kq a0 a1 a2 a3 x19_4 = some (r1, r2)) ∧ Aside0 (kq ≤ k) ∧ Aside0 (Below w.heap.size w wc))
 case first =>
  have H := HC5.out
  clear HC5
  replace H := ob_ H
  obtain ⟨t650, A60, H⟩ := H
  replace H : (if t650 = true then ((chop_known.f a1).bind fun t651 => (chop_Trap.j0 k a0 a1 a2 a3 (!t651))) else (chop_Trap.j0 k a0 a1 a2 a3 true)) = some (r1, r2) := H
  have A6 := A_ A60;clear A60
  by_cases c7 : t650 = true
  ·subst c7
   have H1 : ((chop_known.f a1).bind fun t651 => (chop_Trap.j0 k a0 a1 a2 a3 (!t651))) = some (r1, r2) := by rw [if_pos rfl] at H; exact H
   clear H;have H := H1;clear H1
   replace H := ob_ H
   obtain ⟨t651, A80, H⟩ := H
   replace H : (chop_Trap.j0 k a0 a1 a2 a3 (!t651)) = some (r1, r2) := H
   have A8 := A_ A80;clear A80
   have H' := A_ H
   clear H
   go_wp2_with (first | ((with_reducible refine gate_callee (f := 66) rfl ?_); refine goesL_ (some 13) rfl rfl Tryd.func66 (by kernel_rfl) rfl #[.int .i64 a0] rfl mp_ ?_; (with_reducible refine (chop_known.calls a0 true _ A6.out).mono ?_); rintro e w' ⟨rfl, ⟨nd, rfl⟩⟩; refine ⟨_, rfl, ?_⟩) | (go_at_call 66; (with_reducible refine (chop_known.calls a1 t651 _ A8.out).mono ?_); rintro e w' ⟨rfl, ⟨nd, rfl⟩⟩))
   go_meet
   case rel => exact ⟨_, (!t651), sm_, H', ⟨by first | omega | exact Nat.le_refl _⟩, ⟨hb_ HB.out⟩⟩
  ·replace c7 := Bool.eq_false_iff.mpr c7
   subst c7
   have H1 : (chop_Trap.j0 k a0 a1 a2 a3 true) = some (r1, r2) := by rw [if_neg (show ¬ (false = true) by decide)] at H; exact H
   clear H;have H := H1;clear H1
   have H' := A_ H
   clear H
   go_wp2_with (first | ((with_reducible refine gate_callee (f := 66) rfl ?_); refine goesL_ (some 13) rfl rfl Tryd.func66 (by kernel_rfl) rfl #[.int .i64 a0] rfl mp_ ?_; (with_reducible refine (chop_known.calls a0 false _ A6.out).mono ?_); rintro e w' ⟨rfl, ⟨nd, rfl⟩⟩; refine ⟨_, rfl, ?_⟩))
   go_meet
   case rel => exact ⟨_, (true), sm_, H', ⟨by first | omega | exact Nat.le_refl _⟩, ⟨hb_ HB.out⟩⟩
 case rest =>
  clear HC5
  try clear p2
  try clear c3
  try clear c6
  try clear c7
  obtain ⟨kq, x19_4, rfl, HA, HJ4, HB⟩ := hcut
  cases kq with
  | zero => exact absurd HA.out (by simp [chop_Trap.j0])
  | succ kj4 =>
   have H := HA.out
   clear HA
   simp only [chop_Trap.j0] at H
   by_cases c9 : x19_4 = true
   ·subst c9
    have H1 : (some (0, 0)) = some (r1, r2) := by rw [if_pos rfl] at H; exact H
    clear H;have H := H1;clear H1
    simp only [Option.some.injEq, Prod.mk.injEq] at H
    obtain ⟨rfl, rfl⟩ := H
    go_wp2
    go_ret2
    exact ⟨er_, hb_ HB.out⟩
   ·replace c9 := Bool.eq_false_iff.mpr c9
    subst c9
    have H1 : ((chop_chopped.f kj4 a0 a1 a2 a3).bind fun bt652 => (if bt652.2 = 1 then (some (0, 4)) else (if bt652.2 = 2 then (some (0, 3)) else (if bt652.2 = 3 then (some (0, 3)) else (some (bt652.1, 0)))))) = some (r1, r2) := by rw [if_neg (show ¬ (false = true) by decide)] at H; exact H
    clear H;have H := H1;clear H1
    replace H := ob_ H
    obtain ⟨⟨t652, t653⟩, A100, H⟩ := H
    replace H : (if t653 = 1 then (some (0, 4)) else (if t653 = 2 then (some (0, 3)) else (if t653 = 3 then (some (0, 3)) else (some (t652, 0))))) = some (r1, r2) := H
    have A10 := A_ A100;clear A100
    by_cases c11 : t653 = 1
    ·rw [if_pos c11] at H
     have c11b0 : (t653 == 1) = true := beq_iff_eq.mpr c11
     have c11b1 : (t653 != 1) = false := bne_eq_false_iff_eq.mpr c11
     clear c11
     simp only [Option.some.injEq, Prod.mk.injEq] at H
     obtain ⟨rfl, rfl⟩ := H
     go_wp2_with (first | ((with_reducible refine gate_callee (f := 67) rfl ?_); refine goesL_ (some 25) rfl rfl Tryd.func67 (by kernel_rfl) rfl #[.int .i64 a0, .int .i64 a1, .int .u64 a2, .bool a3] rfl mp_ ?_; (with_reducible refine (chop_chopped.calls kj4 a0 a1 a2 a3 t652 t653 _ A10.out).mono ?_); rintro e w12 ⟨rfl, hb⟩; refine ⟨_, rfl, ?_⟩; replace HB := A_ (below_step (hb_ HB.out) hb); (try clear hb); (try clear hb2); (try clear hk); (try clear hi)))
     go_ret2
     exact ⟨er_, hb_ HB.out⟩
    ·rw [if_neg c11] at H
     have c11b0 : (t653 == 1) = false := beq_eq_false_iff_ne.mpr c11
     have c11b1 : (t653 != 1) = true := bne_iff_ne.mpr c11
     by_cases c13 : t653 = 2
     ·rw [if_pos c13] at H
      have c13b0 : (t653 == 2) = true := beq_iff_eq.mpr c13
      have c13b1 : (t653 != 2) = false := bne_eq_false_iff_eq.mpr c13
      clear c13
      simp only [Option.some.injEq, Prod.mk.injEq] at H
      obtain ⟨rfl, rfl⟩ := H
      go_wp2_with (first | ((with_reducible refine gate_callee (f := 67) rfl ?_); refine goesL_ (some 25) rfl rfl Tryd.func67 (by kernel_rfl) rfl #[.int .i64 a0, .int .i64 a1, .int .u64 a2, .bool a3] rfl mp_ ?_; (with_reducible refine (chop_chopped.calls kj4 a0 a1 a2 a3 t652 t653 _ A10.out).mono ?_); rintro e w14 ⟨rfl, hb⟩; refine ⟨_, rfl, ?_⟩; replace HB := A_ (below_step (hb_ HB.out) hb); (try clear hb); (try clear hb2); (try clear hk); (try clear hi)))
      go_ret2
      exact ⟨er_, hb_ HB.out⟩
     ·rw [if_neg c13] at H
      have c13b0 : (t653 == 2) = false := beq_eq_false_iff_ne.mpr c13
      have c13b1 : (t653 != 2) = true := bne_iff_ne.mpr c13
      by_cases c15 : t653 = 3
      ·rw [if_pos c15] at H
       have c15b0 : (t653 == 3) = true := beq_iff_eq.mpr c15
       have c15b1 : (t653 != 3) = false := bne_eq_false_iff_eq.mpr c15
       clear c15
       simp only [Option.some.injEq, Prod.mk.injEq] at H
       obtain ⟨rfl, rfl⟩ := H
       go_wp2_with (first | ((with_reducible refine gate_callee (f := 67) rfl ?_); refine goesL_ (some 25) rfl rfl Tryd.func67 (by kernel_rfl) rfl #[.int .i64 a0, .int .i64 a1, .int .u64 a2, .bool a3] rfl mp_ ?_; (with_reducible refine (chop_chopped.calls kj4 a0 a1 a2 a3 t652 t653 _ A10.out).mono ?_); rintro e w16 ⟨rfl, hb⟩; refine ⟨_, rfl, ?_⟩; replace HB := A_ (below_step (hb_ HB.out) hb); (try clear hb); (try clear hb2); (try clear hk); (try clear hi)))
       go_ret2
       exact ⟨er_, hb_ HB.out⟩
      ·rw [if_neg c15] at H
       have c15b0 : (t653 == 3) = false := beq_eq_false_iff_ne.mpr c15
       have c15b1 : (t653 != 3) = true := bne_iff_ne.mpr c15
       simp only [Option.some.injEq, Prod.mk.injEq] at H
       obtain ⟨rfl, rfl⟩ := H
       go_wp2_with (first | ((with_reducible refine gate_callee (f := 67) rfl ?_); refine goesL_ (some 25) rfl rfl Tryd.func67 (by kernel_rfl) rfl #[.int .i64 a0, .int .i64 a1, .int .u64 a2, .bool a3] rfl mp_ ?_; (with_reducible refine (chop_chopped.calls kj4 a0 a1 a2 a3 t652 t653 _ A10.out).mono ?_); rintro e w17 ⟨rfl, hb⟩; refine ⟨_, rfl, ?_⟩; replace HB := A_ (below_step (hb_ HB.out) hb); (try clear hb); (try clear hb2); (try clear hk); (try clear hi)))
       go_ret2
       exact ⟨er_, hb_ HB.out⟩
def L12_awake.f (k : Nat)  : Option (Bool) := (chop_Trap.f k 64 32 13829653735729319117 false).bind fun bt660 => ((chop_Trap.f k 64 32 13840687554816376832 false).bind fun bt662 => (if bt660.1 = 0 then (if bt660.2 = 0 then (if bt662.2 = 3 then ((chop_Sat.f k 64 32 13840687554816376832 false).bind fun t664 => (if t664 = 0 then ((chop_Sat.f k 64 32 4617315517961601024 true).bind fun t665 => (some (t665 == 5))) else (some false))) else (some false)) else (some false)) else (some false)))
theorem L12_awake.mono : ∀ k, LeO (L12_awake.f k ) (L12_awake.f (k + 1) ) := by
 intro  k
 unfold L12_awake.f
 repeat' first
   | (with_reducible exact chop_Sat.mono _ _ _ _ _)
   | (with_reducible exact chop_Trap.mono _ _ _ _ _)
   | (with_reducible exact LeO.refl _)
   | (with_reducible exact LeO.none _)
   | (with_reducible refine LeO.ite ?_ ?_)
   | (with_reducible refine LeO.bind ?_ (fun _ => ?_))
   | exact chop_Sat.mono _ _ _ _ _
   | exact chop_Trap.mono _ _ _ _ _
   | exact LeO.none _
   | refine LeO.ite ?_ ?_
   | refine LeO.bind ?_ (fun _ => ?_)
theorem L12_awake.calls (k : Nat)  (r : Bool) (w : World) (h : L12_awake.f k  = some r) :
  Calls Tryd.prog 35 #[] w fun e w' => e = .returned (.bool r) ∧ Below w.heap.size w w' := by
 have HB := A_ (Below.refl w.heap.size w)
 have H : ((chop_Trap.f k 64 32 13829653735729319117 false).bind fun bt660 => ((chop_Trap.f k 64 32 13840687554816376832 false).bind fun bt662 => (if bt660.1 = 0 then (if bt660.2 = 0 then (if bt662.2 = 3 then ((chop_Sat.f k 64 32 13840687554816376832 false).bind fun t664 => (if t664 = 0 then ((chop_Sat.f k 64 32 4617315517961601024 true).bind fun t665 => (some (t665 == 5))) else (some false))) else (some false)) else (some false)) else (some false)))) = some r := h
 clear h
 replace H := ob_ H
 obtain ⟨⟨t660, t661⟩, A10, H⟩ := H
 replace H : ((chop_Trap.f k 64 32 13840687554816376832 false).bind fun bt662 => (if t660 = 0 then (if t661 = 0 then (if bt662.2 = 3 then ((chop_Sat.f k 64 32 13840687554816376832 false).bind fun t664 => (if t664 = 0 then ((chop_Sat.f k 64 32 4617315517961601024 true).bind fun t665 => (some (t665 == 5))) else (some false))) else (some false)) else (some false)) else (some false))) = some r := H
 have A1 := A_ A10;clear A10
 replace H := ob_ H
 obtain ⟨⟨t662, t663⟩, A20, H⟩ := H
 replace H : (if t660 = 0 then (if t661 = 0 then (if t663 = 3 then ((chop_Sat.f k 64 32 13840687554816376832 false).bind fun t664 => (if t664 = 0 then ((chop_Sat.f k 64 32 4617315517961601024 true).bind fun t665 => (some (t665 == 5))) else (some false))) else (some false)) else (some false)) else (some false)) = some r := H
 have A2 := A_ A20;clear A20
 by_cases c3 : t660 = 0
 ·rw [if_pos c3] at H
  have c3b0 : (t660 == 0) = true := beq_iff_eq.mpr c3
  have c3b1 : (t660 != 0) = false := bne_eq_false_iff_eq.mpr c3
  clear c3
  by_cases c4 : t661 = 0
  ·rw [if_pos c4] at H
   have c4b0 : (t661 == 0) = true := beq_iff_eq.mpr c4
   have c4b1 : (t661 != 0) = false := bne_eq_false_iff_eq.mpr c4
   clear c4
   by_cases c5 : t663 = 3
   ·rw [if_pos c5] at H
    have c5b0 : (t663 == 3) = true := beq_iff_eq.mpr c5
    have c5b1 : (t663 != 3) = false := bne_eq_false_iff_eq.mpr c5
    clear c5
    replace H := ob_ H
    obtain ⟨t664, A60, H⟩ := H
    replace H : (if t664 = 0 then ((chop_Sat.f k 64 32 4617315517961601024 true).bind fun t665 => (some (t665 == 5))) else (some false)) = some r := H
    have A6 := A_ A60;clear A60
    by_cases c7 : t664 = 0
    ·rw [if_pos c7] at H
     have c7b0 : (t664 == 0) = true := beq_iff_eq.mpr c7
     have c7b1 : (t664 != 0) = false := bne_eq_false_iff_eq.mpr c7
     clear c7
     replace H := ob_ H
     obtain ⟨t665, A80, H⟩ := H
     replace H : (some (t665 == 5)) = some r := H
     have A8 := A_ A80;clear A80
     obtain rfl := Option.some.inj H
     go_enter Tryd.func35, Tryd.ntmps35
     go_wp2_with (first | ((with_reducible refine gate_callee (f := 36) rfl ?_); refine goesL_ (some 6) rfl rfl Tryd.func36 (by kernel_rfl) rfl #[.int .i64 64, .int .i64 32, .int .u64 13829653735729319117, .bool false] rfl mp_ ?_; (with_reducible refine (chop_Trap.calls k 64 32 13829653735729319117 false t660 t661 _ A1.out).mono ?_); rintro e w9 ⟨rfl, hb⟩; refine ⟨_, rfl, ?_⟩; replace HB := A_ (below_step (hb_ HB.out) hb); (try clear hb); (try clear hb2); (try clear hk); (try clear hi)) | ((with_reducible refine gate_callee (f := 36) rfl ?_); refine goesL_ (some 10) rfl rfl Tryd.func36 (by kernel_rfl) rfl #[.int .i64 64, .int .i64 32, .int .u64 13840687554816376832, .bool false] rfl mp_ ?_; (with_reducible refine (chop_Trap.calls k 64 32 13840687554816376832 false t662 t663 _ A2.out).mono ?_); rintro e w10 ⟨rfl, hb⟩; refine ⟨_, rfl, ?_⟩; replace HB := A_ (below_step (hb_ HB.out) hb); (try clear hb); (try clear hb2); (try clear hk); (try clear hi)) | (go_at_call 37; (with_reducible refine (chop_Sat.calls k 64 32 13840687554816376832 false t664 _ A6.out).mono ?_); rintro e w11 ⟨rfl, hb⟩; replace HB := A_ (below_step (hb_ HB.out) hb); (try clear hb); (try clear hb2); (try clear hk); (try clear hi)) | (go_at_call 37; (with_reducible refine (chop_Sat.calls k 64 32 4617315517961601024 true t665 _ A8.out).mono ?_); rintro e w12 ⟨rfl, hb⟩; replace HB := A_ (below_step (hb_ HB.out) hb); (try clear hb); (try clear hb2); (try clear hk); (try clear hi)))
     go_ret
     exact ⟨er_, hb_ HB.out⟩
    ·rw [if_neg c7] at H
     have c7b0 : (t664 == 0) = false := beq_eq_false_iff_ne.mpr c7
     have c7b1 : (t664 != 0) = true := bne_iff_ne.mpr c7
     obtain rfl := Option.some.inj H
     go_enter Tryd.func35, Tryd.ntmps35
     go_wp2_with (first | ((with_reducible refine gate_callee (f := 36) rfl ?_); refine goesL_ (some 6) rfl rfl Tryd.func36 (by kernel_rfl) rfl #[.int .i64 64, .int .i64 32, .int .u64 13829653735729319117, .bool false] rfl mp_ ?_; (with_reducible refine (chop_Trap.calls k 64 32 13829653735729319117 false t660 t661 _ A1.out).mono ?_); rintro e w13 ⟨rfl, hb⟩; refine ⟨_, rfl, ?_⟩; replace HB := A_ (below_step (hb_ HB.out) hb); (try clear hb); (try clear hb2); (try clear hk); (try clear hi)) | ((with_reducible refine gate_callee (f := 36) rfl ?_); refine goesL_ (some 10) rfl rfl Tryd.func36 (by kernel_rfl) rfl #[.int .i64 64, .int .i64 32, .int .u64 13840687554816376832, .bool false] rfl mp_ ?_; (with_reducible refine (chop_Trap.calls k 64 32 13840687554816376832 false t662 t663 _ A2.out).mono ?_); rintro e w14 ⟨rfl, hb⟩; refine ⟨_, rfl, ?_⟩; replace HB := A_ (below_step (hb_ HB.out) hb); (try clear hb); (try clear hb2); (try clear hk); (try clear hi)) | (go_at_call 37; (with_reducible refine (chop_Sat.calls k 64 32 13840687554816376832 false t664 _ A6.out).mono ?_); rintro e w15 ⟨rfl, hb⟩; replace HB := A_ (below_step (hb_ HB.out) hb); (try clear hb); (try clear hb2); (try clear hk); (try clear hi)))
     go_ret
     exact ⟨er_, hb_ HB.out⟩
   ·rw [if_neg c5] at H
    have c5b0 : (t663 == 3) = false := beq_eq_false_iff_ne.mpr c5
    have c5b1 : (t663 != 3) = true := bne_iff_ne.mpr c5
    obtain rfl := Option.some.inj H
    go_enter Tryd.func35, Tryd.ntmps35
    go_wp2_with (first | ((with_reducible refine gate_callee (f := 36) rfl ?_); refine goesL_ (some 6) rfl rfl Tryd.func36 (by kernel_rfl) rfl #[.int .i64 64, .int .i64 32, .int .u64 13829653735729319117, .bool false] rfl mp_ ?_; (with_reducible refine (chop_Trap.calls k 64 32 13829653735729319117 false t660 t661 _ A1.out).mono ?_); rintro e w16 ⟨rfl, hb⟩; refine ⟨_, rfl, ?_⟩; replace HB := A_ (below_step (hb_ HB.out) hb); (try clear hb); (try clear hb2); (try clear hk); (try clear hi)) | ((with_reducible refine gate_callee (f := 36) rfl ?_); refine goesL_ (some 10) rfl rfl Tryd.func36 (by kernel_rfl) rfl #[.int .i64 64, .int .i64 32, .int .u64 13840687554816376832, .bool false] rfl mp_ ?_; (with_reducible refine (chop_Trap.calls k 64 32 13840687554816376832 false t662 t663 _ A2.out).mono ?_); rintro e w17 ⟨rfl, hb⟩; refine ⟨_, rfl, ?_⟩; replace HB := A_ (below_step (hb_ HB.out) hb); (try clear hb); (try clear hb2); (try clear hk); (try clear hi)))
    go_ret
    exact ⟨er_, hb_ HB.out⟩
  ·rw [if_neg c4] at H
   have c4b0 : (t661 == 0) = false := beq_eq_false_iff_ne.mpr c4
   have c4b1 : (t661 != 0) = true := bne_iff_ne.mpr c4
   obtain rfl := Option.some.inj H
   go_enter Tryd.func35, Tryd.ntmps35
   go_wp2_with (first | ((with_reducible refine gate_callee (f := 36) rfl ?_); refine goesL_ (some 6) rfl rfl Tryd.func36 (by kernel_rfl) rfl #[.int .i64 64, .int .i64 32, .int .u64 13829653735729319117, .bool false] rfl mp_ ?_; (with_reducible refine (chop_Trap.calls k 64 32 13829653735729319117 false t660 t661 _ A1.out).mono ?_); rintro e w18 ⟨rfl, hb⟩; refine ⟨_, rfl, ?_⟩; replace HB := A_ (below_step (hb_ HB.out) hb); (try clear hb); (try clear hb2); (try clear hk); (try clear hi)) | ((with_reducible refine gate_callee (f := 36) rfl ?_); refine goesL_ (some 10) rfl rfl Tryd.func36 (by kernel_rfl) rfl #[.int .i64 64, .int .i64 32, .int .u64 13840687554816376832, .bool false] rfl mp_ ?_; (with_reducible refine (chop_Trap.calls k 64 32 13840687554816376832 false t662 t663 _ A2.out).mono ?_); rintro e w19 ⟨rfl, hb⟩; refine ⟨_, rfl, ?_⟩; replace HB := A_ (below_step (hb_ HB.out) hb); (try clear hb); (try clear hb2); (try clear hk); (try clear hi)))
   go_ret
   exact ⟨er_, hb_ HB.out⟩
 ·rw [if_neg c3] at H
  have c3b0 : (t660 == 0) = false := beq_eq_false_iff_ne.mpr c3
  have c3b1 : (t660 != 0) = true := bne_iff_ne.mpr c3
  obtain rfl := Option.some.inj H
  go_enter Tryd.func35, Tryd.ntmps35
  go_wp2_with (first | ((with_reducible refine gate_callee (f := 36) rfl ?_); refine goesL_ (some 6) rfl rfl Tryd.func36 (by kernel_rfl) rfl #[.int .i64 64, .int .i64 32, .int .u64 13829653735729319117, .bool false] rfl mp_ ?_; (with_reducible refine (chop_Trap.calls k 64 32 13829653735729319117 false t660 t661 _ A1.out).mono ?_); rintro e w20 ⟨rfl, hb⟩; refine ⟨_, rfl, ?_⟩; replace HB := A_ (below_step (hb_ HB.out) hb); (try clear hb); (try clear hb2); (try clear hk); (try clear hi)) | ((with_reducible refine gate_callee (f := 36) rfl ?_); refine goesL_ (some 10) rfl rfl Tryd.func36 (by kernel_rfl) rfl #[.int .i64 64, .int .i64 32, .int .u64 13840687554816376832, .bool false] rfl mp_ ?_; (with_reducible refine (chop_Trap.calls k 64 32 13840687554816376832 false t662 t663 _ A2.out).mono ?_); rintro e w21 ⟨rfl, hb⟩; refine ⟨_, rfl, ?_⟩; replace HB := A_ (below_step (hb_ HB.out) hb); (try clear hb); (try clear hb2); (try clear hk); (try clear hi)))
  go_ret
  exact ⟨er_, hb_ HB.out⟩
def L12_ChopBack.j0 : Nat → Int → Bool → Int → Int → Bool → Option (Bool)
 | 0, _, _, _, _, _ => none
 | k + 1, x1, x44, x667000, x667001, x667002 => if x44 = true then (some false) else ((cast_Exact.f k x667000 x667001 x1 x667002).bind fun t671 => (if t671 = true then ((cast_FromUint.f k x667000 x667001 x1).bind fun t672 => (if x667002 = true then ((cast_FromInt.f k x667000 x667001 x1).bind fun t673 => ((chop_Trap.f k x667000 x667001 t673 x667002).bind fun bt674 => (if bt674.2 = 0 then (if 0 ≤ (wrap64 (64 - x667001)) then (some (bt674.1 == (shr .u64 (shl .u64 x1 (wrap64 (64 - x667001))) (wrap64 (64 - x667001))))) else (none)) else (some false)))) else ((chop_Trap.f k x667000 x667001 t672 x667002).bind fun bt676 => (if bt676.2 = 0 then (if 0 ≤ (wrap64 (64 - x667001)) then (some (bt676.1 == (shr .u64 (shl .u64 x1 (wrap64 (64 - x667001))) (wrap64 (64 - x667001))))) else (none)) else (some false))))) else (some true)))
def L12_ChopBack.f (k : Nat) (a0_0 : Int) (a0_1 : Int) (a0_2 : Bool) (a1 : Int) : Option (Bool) := (L12_awake.f k).bind fun t667 => (if t667 = true then ((chop_Trap.f k a0_0 a0_1 a1 a0_2).bind fun bt668 => (if bt668.2 = 0 then ((chop_Sat.f k a0_0 a0_1 a1 a0_2).bind fun t670 => (if t670 = bt668.1 then (L12_ChopBack.j0 k a1 false a0_0 a0_1 a0_2) else (L12_ChopBack.j0 k a1 true a0_0 a0_1 a0_2))) else (L12_ChopBack.j0 k a1 (bt668.1 != 0) a0_0 a0_1 a0_2))) else (some false))
theorem L12_ChopBack.mono_l : ∀ k, (∀ y0 y1 y2 y3 y4, LeO (L12_ChopBack.j0 k y0 y1 y2 y3 y4) (L12_ChopBack.j0 (k + 1) y0 y1 y2 y3 y4))
 | 0 => fun _ _ _ _ _ r h => by simp [L12_ChopBack.j0] at h
 | k + 1 => by
  have ih0 := L12_ChopBack.mono_l k
  ·intro y0 y1 y2 y3 y4
   unfold L12_ChopBack.j0
   repeat' first
   | (with_reducible exact ih0 _ _ _ _ _)
   | (with_reducible exact cast_Exact.mono _ _ _ _ _)
   | (with_reducible exact cast_FromInt.mono _ _ _ _)
   | (with_reducible exact cast_FromUint.mono _ _ _ _)
   | (with_reducible exact chop_Sat.mono _ _ _ _ _)
   | (with_reducible exact chop_Trap.mono _ _ _ _ _)
   | (with_reducible exact L12_awake.mono _)
   | (with_reducible exact LeO.refl _)
   | (with_reducible exact LeO.none _)
   | (with_reducible refine LeO.ite ?_ ?_)
   | (with_reducible refine LeO.bind ?_ (fun _ => ?_))
   | exact ih0 _ _ _ _ _
   | exact cast_Exact.mono _ _ _ _ _
   | exact cast_FromInt.mono _ _ _ _
   | exact cast_FromUint.mono _ _ _ _
   | exact chop_Sat.mono _ _ _ _ _
   | exact chop_Trap.mono _ _ _ _ _
   | exact L12_awake.mono _
   | exact LeO.none _
   | refine LeO.ite ?_ ?_
   | refine LeO.bind ?_ (fun _ => ?_)
theorem L12_ChopBack.mono : ∀ a0 a1 a2 a3 k, LeO (L12_ChopBack.f k a0 a1 a2 a3) (L12_ChopBack.f (k + 1) a0 a1 a2 a3) := by
 intro a0 a1 a2 a3 k
 have ih0 := L12_ChopBack.mono_l k
 unfold L12_ChopBack.f
 repeat' first
   | (with_reducible exact ih0 _ _ _ _ _)
   | (with_reducible exact cast_Exact.mono _ _ _ _ _)
   | (with_reducible exact cast_FromInt.mono _ _ _ _)
   | (with_reducible exact cast_FromUint.mono _ _ _ _)
   | (with_reducible exact chop_Sat.mono _ _ _ _ _)
   | (with_reducible exact chop_Trap.mono _ _ _ _ _)
   | (with_reducible exact L12_awake.mono _)
   | (with_reducible exact LeO.refl _)
   | (with_reducible exact LeO.none _)
   | (with_reducible refine LeO.ite ?_ ?_)
   | (with_reducible refine LeO.bind ?_ (fun _ => ?_))
   | exact ih0 _ _ _ _ _
   | exact cast_Exact.mono _ _ _ _ _
   | exact cast_FromInt.mono _ _ _ _
   | exact cast_FromUint.mono _ _ _ _
   | exact chop_Sat.mono _ _ _ _ _
   | exact chop_Trap.mono _ _ _ _ _
   | exact L12_awake.mono _
   | exact LeO.none _
   | refine LeO.ite ?_ ?_
   | refine LeO.bind ?_ (fun _ => ?_)
theorem L12_ChopBack.calls (k : Nat) (a0_0 : Int) (a0_1 : Int) (a0_2 : Bool) (a1 : Int) (r : Bool) (w : World) (h : L12_ChopBack.f k a0_0 a0_1 a0_2 a1 = some r) (hr_ : Aside0 (r = true)) (T_ : Aside0 (TT w)) :
  Calls Tryd.prog 7 #[.agg #[.int .i64 a0_0, .int .i64 a0_1, .bool a0_2], .int .u64 a1] w fun e w' => e = .returned (.bool r) ∧ Below w.heap.size w w' := by
 have hu42 := Tryd.underlying42
 have HB := A_ (Below.refl w.heap.size w)
 have H : ((L12_awake.f k).bind fun t667 => (if t667 = true then ((chop_Trap.f k a0_0 a0_1 a1 a0_2).bind fun bt668 => (if bt668.2 = 0 then ((chop_Sat.f k a0_0 a0_1 a1 a0_2).bind fun t670 => (if t670 = bt668.1 then (L12_ChopBack.j0 k a1 false a0_0 a0_1 a0_2) else (L12_ChopBack.j0 k a1 true a0_0 a0_1 a0_2))) else (L12_ChopBack.j0 k a1 (bt668.1 != 0) a0_0 a0_1 a0_2))) else (some false))) = some r := h
 clear h
 replace H := ob_ H
 obtain ⟨t667, A30, H⟩ := H
 replace H : (if t667 = true then ((chop_Trap.f k a0_0 a0_1 a1 a0_2).bind fun bt668 => (if bt668.2 = 0 then ((chop_Sat.f k a0_0 a0_1 a1 a0_2).bind fun t670 => (if t670 = bt668.1 then (L12_ChopBack.j0 k a1 false a0_0 a0_1 a0_2) else (L12_ChopBack.j0 k a1 true a0_0 a0_1 a0_2))) else (L12_ChopBack.j0 k a1 (bt668.1 != 0) a0_0 a0_1 a0_2))) else (some false)) = some r := H
 have A3 := A_ A30;clear A30
 by_cases c4 : t667 = true
 ·subst c4
  have H1 : ((chop_Trap.f k a0_0 a0_1 a1 a0_2).bind fun bt668 => (if bt668.2 = 0 then ((chop_Sat.f k a0_0 a0_1 a1 a0_2).bind fun t670 => (if t670 = bt668.1 then (L12_ChopBack.j0 k a1 false a0_0 a0_1 a0_2) else (L12_ChopBack.j0 k a1 true a0_0 a0_1 a0_2))) else (L12_ChopBack.j0 k a1 (bt668.1 != 0) a0_0 a0_1 a0_2))) = some r := by rw [if_pos rfl] at H; exact H
  clear H;have H := H1;clear H1
  replace H := ob_ H
  obtain ⟨⟨t668, t669⟩, A50, H⟩ := H
  replace H : (if t669 = 0 then ((chop_Sat.f k a0_0 a0_1 a1 a0_2).bind fun t670 => (if t670 = t668 then (L12_ChopBack.j0 k a1 false a0_0 a0_1 a0_2) else (L12_ChopBack.j0 k a1 true a0_0 a0_1 a0_2))) else (L12_ChopBack.j0 k a1 (t668 != 0) a0_0 a0_1 a0_2)) = some r := H
  have A5 := A_ A50;clear A50;have HC6 := A_ H;clear H
  go_enter Tryd.func7, Tryd.ntmps7
  go_upto_region 4 with (first | ((with_reducible refine gate_dst (N := 2) rfl ?_); refine be_ 2 #[.int .i64 a0_0, .int .i64 a0_1, .bool a0_2] 42 ?_; intro gb666 hg w7 hbox hb; have BK666 := A_ (hbox); have GW666 := A_ (sz_ hg (hb_ HB.out)); have GE666 := A_ (sz_ hg (hb_ HB.out)); replace HB := A_ (below_step (hb_ HB.out) hb); clear hb hbox hg) | (go_at_call 35; (with_reducible refine (L12_awake.calls k  true _ A3.out).mono ?_); rintro e w8 ⟨rfl, hb⟩; replace BK666 := A_ (bb_ BK666.out hb); replace HB := A_ (below_step (hb1_ HB.out GE666.out) hb); (try clear hb); (try clear hb2); (try clear hk); (try clear hi); have hcz9_0 := bv_ BK666.out 0; have hcz9_1 := bv_ BK666.out 1; have hcz9_2 := bv_ BK666.out 2; have hfz9_0 := blk_frozen BK666.out 0; have hfz9_1 := blk_frozen BK666.out 1; have hfz9_2 := blk_frozen BK666.out 2) | (go_at_call 36; (with_reducible refine (chop_Trap.calls k a0_0 a0_1 a1 a0_2 t668 t669 _ A5.out).mono ?_); rintro e w10 ⟨rfl, hb⟩; replace BK666 := A_ (bb_ BK666.out hb); replace HB := A_ (below_step (hb1_ HB.out GE666.out) hb); (try clear hb); (try clear hb2); (try clear hk); (try clear hi)))
  repeat (go_quiet (first | ((with_reducible refine gate_dst (N := 2) rfl ?_); refine be_ 2 #[.int .i64 a0_0, .int .i64 a0_1, .bool a0_2] 42 ?_; intro gb666 hg w7 hbox hb; have BK666 := A_ (hbox); have GW666 := A_ (sz_ hg (hb_ HB.out)); have GE666 := A_ (sz_ hg (hb_ HB.out)); replace HB := A_ (below_step (hb_ HB.out) hb); clear hb hbox hg) | (go_at_call 35; (with_reducible refine (L12_awake.calls k  true _ A3.out).mono ?_); rintro e w8 ⟨rfl, hb⟩; replace BK666 := A_ (bb_ BK666.out hb); replace HB := A_ (below_step (hb1_ HB.out GE666.out) hb); (try clear hb); (try clear hb2); (try clear hk); (try clear hi); have hcz9_0 := bv_ BK666.out 0; have hcz9_1 := bv_ BK666.out 1; have hcz9_2 := bv_ BK666.out 2; have hfz9_0 := blk_frozen BK666.out 0; have hfz9_1 := blk_frozen BK666.out 1; have hfz9_2 := blk_frozen BK666.out 2) | (go_at_call 36; (with_reducible refine (chop_Trap.calls k a0_0 a0_1 a1 a0_2 t668 t669 _ A5.out).mono ?_); rintro e w10 ⟨rfl, hb⟩; replace BK666 := A_ (bb_ BK666.out hb); replace HB := A_ (below_step (hb1_ HB.out GE666.out) hb); (try clear hb); (try clear hb2); (try clear hk); (try clear hi))); go_upto_region 4 with (first | ((with_reducible refine gate_dst (N := 2) rfl ?_); refine be_ 2 #[.int .i64 a0_0, .int .i64 a0_1, .bool a0_2] 42 ?_; intro gb666 hg w7 hbox hb; have BK666 := A_ (hbox); have GW666 := A_ (sz_ hg (hb_ HB.out)); have GE666 := A_ (sz_ hg (hb_ HB.out)); replace HB := A_ (below_step (hb_ HB.out) hb); clear hb hbox hg) | (go_at_call 35; (with_reducible refine (L12_awake.calls k  true _ A3.out).mono ?_); rintro e w8 ⟨rfl, hb⟩; replace BK666 := A_ (bb_ BK666.out hb); replace HB := A_ (below_step (hb1_ HB.out GE666.out) hb); (try clear hb); (try clear hb2); (try clear hk); (try clear hi); have hcz9_0 := bv_ BK666.out 0; have hcz9_1 := bv_ BK666.out 1; have hcz9_2 := bv_ BK666.out 2; have hfz9_0 := blk_frozen BK666.out 0; have hfz9_1 := blk_frozen BK666.out 1; have hfz9_2 := blk_frozen BK666.out 2) | (go_at_call 36; (with_reducible refine (chop_Trap.calls k a0_0 a0_1 a1 a0_2 t668 t669 _ A5.out).mono ?_); rintro e w10 ⟨rfl, hb⟩; replace BK666 := A_ (bb_ BK666.out hb); replace HB := A_ (below_step (hb1_ HB.out GE666.out) hb); (try clear hb); (try clear hb2); (try clear hk); (try clear hi))))
  (try simp only [Act.put, lI_, l0_, lS_])
  go_cut [44] (fun v44 wc => ∃ (kq : Nat) (x44_5 : Bool), v44 = .bool x44_5 ∧ Aside0 (L12_ChopBack.j0 kq a1 x44_5 a0_0 a0_1 a0_2 = some r) ∧ Aside0 (kq ≤ k) ∧ Aside0 (wc.heap[gb666]? = some (.cells #[.int .i64 a0_0, .int .i64 a0_1, .bool a0_2] 42 (0, 0))) ∧ Aside0 (Below w.heap.size w wc))
  case first =>
   have H := HC6.out
   clear HC6
   by_cases c11 : t669 = 0
   ·rw [if_pos c11] at H
    have c11b0 : (t669 == 0) = true := beq_iff_eq.mpr c11
    have c11b1 : (t669 != 0) = false := bne_eq_false_iff_eq.mpr c11
    clear c11
    (first | rw [c11b0] | (simp only [i64_w, i32_w]; rw [c11b0]) | skip)
    replace H := ob_ H
    obtain ⟨t670, A120, H⟩ := H
    replace H : (if t670 = t668 then (L12_ChopBack.j0 k a1 false a0_0 a0_1 a0_2) else (L12_ChopBack.j0 k a1 true a0_0 a0_1 a0_2)) = some r := H
    have A12 := A_ A120;clear A120
    by_cases c13 : t670 = t668
    ·rw [if_pos c13] at H
     have c13b0 : (t670 == t668) = true := beq_iff_eq.mpr c13
     have c13b1 : (t670 != t668) = false := bne_eq_false_iff_eq.mpr c13
     clear c13
     have H' := A_ H
     clear H
     have hcz14_0 := bv_ BK666.out 0
     have hcz14_1 := bv_ BK666.out 1
     have hcz14_2 := bv_ BK666.out 2
     have hfz14_0 := blk_frozen BK666.out 0
     have hfz14_1 := blk_frozen BK666.out 1
     have hfz14_2 := blk_frozen BK666.out 2
     go_wp2_with (first | (go_at_call 37; (with_reducible refine (chop_Sat.calls k a0_0 a0_1 a1 a0_2 t670 _ A12.out).mono ?_); rintro e w15 ⟨rfl, hb⟩; replace BK666 := A_ (bb_ BK666.out hb); replace HB := A_ (below_step (hb1_ HB.out GE666.out) hb); (try clear hb); (try clear hb2); (try clear hk); (try clear hi)))
     repeat (go_quiet (first | (go_at_call 37; (with_reducible refine (chop_Sat.calls k a0_0 a0_1 a1 a0_2 t670 _ A12.out).mono ?_); rintro e w15 ⟨rfl, hb⟩; replace BK666 := A_ (bb_ BK666.out hb); replace HB := A_ (below_step (hb1_ HB.out GE666.out) hb); (try clear hb); (try clear hb2); (try clear hk); (try clear hi))); try go_wp2_with (first | (go_at_call 37; (with_reducible refine (chop_Sat.calls k a0_0 a0_1 a1 a0_2 t670 _ A12.out).mono ?_); rintro e w15 ⟨rfl, hb⟩; replace BK666 := A_ (bb_ BK666.out hb); replace HB := A_ (below_step (hb1_ HB.out GE666.out) hb); (try clear hb); (try clear hb2); (try clear hk); (try clear hi))))
     go_meet
     case rel => exact ⟨_, (false), sm_, H', ⟨by first | omega | exact Nat.le_refl _⟩, ⟨bk_ BK666.out⟩, ⟨hb1_ HB.out GE666.out⟩⟩
    ·rw [if_neg c13] at H
     have c13b0 : (t670 == t668) = false := beq_eq_false_iff_ne.mpr c13
     have c13b1 : (t670 != t668) = true := bne_iff_ne.mpr c13
     have H' := A_ H
     clear H
     have hcz16_0 := bv_ BK666.out 0
     have hcz16_1 := bv_ BK666.out 1
     have hcz16_2 := bv_ BK666.out 2
     have hfz16_0 := blk_frozen BK666.out 0
     have hfz16_1 := blk_frozen BK666.out 1
     have hfz16_2 := blk_frozen BK666.out 2
     go_wp2_with (first | (go_at_call 37; (with_reducible refine (chop_Sat.calls k a0_0 a0_1 a1 a0_2 t670 _ A12.out).mono ?_); rintro e w17 ⟨rfl, hb⟩; replace BK666 := A_ (bb_ BK666.out hb); replace HB := A_ (below_step (hb1_ HB.out GE666.out) hb); (try clear hb); (try clear hb2); (try clear hk); (try clear hi)))
     repeat (go_quiet (first | (go_at_call 37; (with_reducible refine (chop_Sat.calls k a0_0 a0_1 a1 a0_2 t670 _ A12.out).mono ?_); rintro e w17 ⟨rfl, hb⟩; replace BK666 := A_ (bb_ BK666.out hb); replace HB := A_ (below_step (hb1_ HB.out GE666.out) hb); (try clear hb); (try clear hb2); (try clear hk); (try clear hi))); try go_wp2_with (first | (go_at_call 37; (with_reducible refine (chop_Sat.calls k a0_0 a0_1 a1 a0_2 t670 _ A12.out).mono ?_); rintro e w17 ⟨rfl, hb⟩; replace BK666 := A_ (bb_ BK666.out hb); replace HB := A_ (below_step (hb1_ HB.out GE666.out) hb); (try clear hb); (try clear hb2); (try clear hk); (try clear hi))))
     go_meet
     case rel => exact ⟨_, (true), sm_, H', ⟨by first | omega | exact Nat.le_refl _⟩, ⟨bk_ BK666.out⟩, ⟨hb1_ HB.out GE666.out⟩⟩
   ·rw [if_neg c11] at H
    have c11b0 : (t669 == 0) = false := beq_eq_false_iff_ne.mpr c11
    have c11b1 : (t669 != 0) = true := bne_iff_ne.mpr c11
    (first | rw [c11b0] | (simp only [i64_w, i32_w]; rw [c11b0]) | skip)
    have H' := A_ H
    clear H
    go_wp2
    repeat (go_quiet (fail); try go_wp2)
    go_meet
    case rel => exact ⟨_, ((t668 != 0)), sm_, H', ⟨by first | omega | exact Nat.le_refl _⟩, ⟨bk_ BK666.out⟩, ⟨hb1_ HB.out GE666.out⟩⟩
  case rest =>
   clear HC6
   try clear c1
   try clear p2
   try clear c4
   try clear c7
   try clear c11
   try clear c11b0
   try clear c11b1
   try clear c13
   try clear c13b0
   try clear c13b1
   try clear hcz14_0
   try clear hcz14_1
   try clear hcz14_2
   try clear hcz16_0
   try clear hcz16_1
   try clear hcz16_2
   try clear hcz9_0
   try clear hcz9_1
   try clear hcz9_2
   try clear hfz14_0
   try clear hfz14_1
   try clear hfz14_2
   try clear hfz16_0
   try clear hfz16_1
   try clear hfz16_2
   try clear hfz9_0
   try clear hfz9_1
   try clear hfz9_2
   obtain ⟨kq, x44_5, rfl, HA, HJ5, BK666, HB⟩ := hcut
   cases kq with
   | zero => exact absurd HA.out (by simp [L12_ChopBack.j0])
   | succ kj5 =>
    have H := HA.out
    clear HA
    simp only [L12_ChopBack.j0] at H
    by_cases c18 : x44_5 = true
    ·subst c18
     have H1 : (some false) = some r := by rw [if_pos rfl] at H; exact H
     clear H;have H := H1;clear H1
     exact absurd ((Option.some.inj H).trans hr_.out) (by decide)
    ·replace c18 := Bool.eq_false_iff.mpr c18
     subst c18
     have H1 : ((cast_Exact.f kj5 a0_0 a0_1 a1 a0_2).bind fun t671 => (if t671 = true then ((cast_FromUint.f kj5 a0_0 a0_1 a1).bind fun t672 => (if a0_2 = true then ((cast_FromInt.f kj5 a0_0 a0_1 a1).bind fun t673 => ((chop_Trap.f kj5 a0_0 a0_1 t673 a0_2).bind fun bt674 => (if bt674.2 = 0 then (if 0 ≤ (wrap64 (64 - a0_1)) then (some (bt674.1 == (shr .u64 (shl .u64 a1 (wrap64 (64 - a0_1))) (wrap64 (64 - a0_1))))) else (none)) else (some false)))) else ((chop_Trap.f kj5 a0_0 a0_1 t672 a0_2).bind fun bt676 => (if bt676.2 = 0 then (if 0 ≤ (wrap64 (64 - a0_1)) then (some (bt676.1 == (shr .u64 (shl .u64 a1 (wrap64 (64 - a0_1))) (wrap64 (64 - a0_1))))) else (none)) else (some false))))) else (some true))) = some r := by rw [if_neg (show ¬ (false = true) by decide)] at H; exact H
     clear H;have H := H1;clear H1
     replace H := ob_ H
     obtain ⟨t671, A190, H⟩ := H
     replace H : (if t671 = true then ((cast_FromUint.f kj5 a0_0 a0_1 a1).bind fun t672 => (if a0_2 = true then ((cast_FromInt.f kj5 a0_0 a0_1 a1).bind fun t673 => ((chop_Trap.f kj5 a0_0 a0_1 t673 a0_2).bind fun bt674 => (if bt674.2 = 0 then (if 0 ≤ (wrap64 (64 - a0_1)) then (some (bt674.1 == (shr .u64 (shl .u64 a1 (wrap64 (64 - a0_1))) (wrap64 (64 - a0_1))))) else (none)) else (some false)))) else ((chop_Trap.f kj5 a0_0 a0_1 t672 a0_2).bind fun bt676 => (if bt676.2 = 0 then (if 0 ≤ (wrap64 (64 - a0_1)) then (some (bt676.1 == (shr .u64 (shl .u64 a1 (wrap64 (64 - a0_1))) (wrap64 (64 - a0_1))))) else (none)) else (some false))))) else (some true)) = some r := H
     have A19 := A_ A190;clear A190
     by_cases c20 : t671 = true
     ·subst c20
      have H1 : ((cast_FromUint.f kj5 a0_0 a0_1 a1).bind fun t672 => (if a0_2 = true then ((cast_FromInt.f kj5 a0_0 a0_1 a1).bind fun t673 => ((chop_Trap.f kj5 a0_0 a0_1 t673 a0_2).bind fun bt674 => (if bt674.2 = 0 then (if 0 ≤ (wrap64 (64 - a0_1)) then (some (bt674.1 == (shr .u64 (shl .u64 a1 (wrap64 (64 - a0_1))) (wrap64 (64 - a0_1))))) else (none)) else (some false)))) else ((chop_Trap.f kj5 a0_0 a0_1 t672 a0_2).bind fun bt676 => (if bt676.2 = 0 then (if 0 ≤ (wrap64 (64 - a0_1)) then (some (bt676.1 == (shr .u64 (shl .u64 a1 (wrap64 (64 - a0_1))) (wrap64 (64 - a0_1))))) else (none)) else (some false))))) = some r := by rw [if_pos rfl] at H; exact H
      clear H;have H := H1;clear H1
      replace H := ob_ H
      obtain ⟨t672, A210, H⟩ := H
      replace H : (if a0_2 = true then ((cast_FromInt.f kj5 a0_0 a0_1 a1).bind fun t673 => ((chop_Trap.f kj5 a0_0 a0_1 t673 a0_2).bind fun bt674 => (if bt674.2 = 0 then (if 0 ≤ (wrap64 (64 - a0_1)) then (some (bt674.1 == (shr .u64 (shl .u64 a1 (wrap64 (64 - a0_1))) (wrap64 (64 - a0_1))))) else (none)) else (some false)))) else ((chop_Trap.f kj5 a0_0 a0_1 t672 a0_2).bind fun bt676 => (if bt676.2 = 0 then (if 0 ≤ (wrap64 (64 - a0_1)) then (some (bt676.1 == (shr .u64 (shl .u64 a1 (wrap64 (64 - a0_1))) (wrap64 (64 - a0_1))))) else (none)) else (some false)))) = some r := H
      have A21 := A_ A210;clear A210
      by_cases c22 : a0_2 = true
      ·subst c22
       have H1 : ((cast_FromInt.f kj5 a0_0 a0_1 a1).bind fun t673 => ((chop_Trap.f kj5 a0_0 a0_1 t673 true).bind fun bt674 => (if bt674.2 = 0 then (if 0 ≤ (wrap64 (64 - a0_1)) then (some (bt674.1 == (shr .u64 (shl .u64 a1 (wrap64 (64 - a0_1))) (wrap64 (64 - a0_1))))) else (none)) else (some false)))) = some r := by rw [if_pos rfl] at H; exact H
       clear H;have H := H1;clear H1
       replace H := ob_ H
       obtain ⟨t673, A230, H⟩ := H
       replace H : ((chop_Trap.f kj5 a0_0 a0_1 t673 true).bind fun bt674 => (if bt674.2 = 0 then (if 0 ≤ (wrap64 (64 - a0_1)) then (some (bt674.1 == (shr .u64 (shl .u64 a1 (wrap64 (64 - a0_1))) (wrap64 (64 - a0_1))))) else (none)) else (some false))) = some r := H
       have A23 := A_ A230;clear A230
       replace H := ob_ H
       obtain ⟨⟨t674, t675⟩, A240, H⟩ := H
       replace H : (if t675 = 0 then (if 0 ≤ (wrap64 (64 - a0_1)) then (some (t674 == (shr .u64 (shl .u64 a1 (wrap64 (64 - a0_1))) (wrap64 (64 - a0_1))))) else (none)) else (some false)) = some r := H
       have A24 := A_ A240;clear A240
       by_cases c25 : t675 = 0
       ·rw [if_pos c25] at H
        have c25b0 : (t675 == 0) = true := beq_iff_eq.mpr c25
        have c25b1 : (t675 != 0) = false := bne_eq_false_iff_eq.mpr c25
        clear c25
        obtain ⟨ji26, hji26⟩ : ∃ j_ : Int, (wrap64 (64 - a0_1)) = j_ := ⟨_, rfl⟩
        replace H : (if 0 ≤ (ji26) then (some (t674 == (shr .u64 (shl .u64 a1 (ji26)) (ji26)))) else (none)) = some r := by first | (rw [hji26] at H; exact H) | (simp only [hji26] at H ⊢; exact H)
        (try rw [hji26] at A19)
        (try rw [hji26] at A21)
        (try rw [hji26] at A23)
        (try rw [hji26] at A24)
        have hji26w : (IntKind.i64.wrap (64 - a0_1)) = ji26 := (i64_w _).trans hji26
        by_cases c27 : 0 ≤ (ji26)
        ·rw [if_pos c27] at H
         have c27b0 := eq_true c27
         have c27b1 : decide (0 ≤ (ji26)) = true := decide_eq_true c27
         clear c27
         obtain ⟨ji28, hji28⟩ : ∃ j_ : Int, (shl .u64 a1 (ji26)) = j_ := ⟨_, rfl⟩
         replace H : (some (t674 == (shr .u64 (ji28) (ji26)))) = some r := by first | (rw [hji28] at H; exact H) | (simp only [hji28] at H ⊢; exact H)
         (try rw [hji28] at A19)
         (try rw [hji28] at A21)
         (try rw [hji28] at A23)
         (try rw [hji28] at A24)
         have hji28_ : (IntKind.u64.wrap (a1 * 2 ^ min (ji26).toNat 64)) = ji28 := hji28
         have hji28z : (ji26) ≤ 64 → (IntKind.u64.wrap (a1 * 2 ^ (ji26).toNat)) = ji28 := shl_small hji28
         have c29b0 := eq_true (of_decide_eq_true (by first | (with_reducible assumption) | assumption) : 0 ≤ (ji26))
         obtain ⟨ji30, hji30⟩ : ∃ j_ : Int, (shr .u64 (ji28) (ji26)) = j_ := ⟨_, rfl⟩
         replace H : (some (t674 == (ji30))) = some r := by first | (rw [hji30] at H; exact H) | (simp only [hji30] at H ⊢; exact H)
         (try rw [hji30] at A19)
         (try rw [hji30] at A21)
         (try rw [hji30] at A23)
         (try rw [hji30] at A24)
         have hji30_ : ((ji28) / 2 ^ min (ji26).toNat 64) = ji30 := hji30
         have hji30z : (ji26) ≤ 64 → ((ji28) / 2 ^ (ji26).toNat) = ji30 := shr_small hji30
         obtain rfl := Option.some.inj H
         have hcz31_0 := bv_ BK666.out 0
         have hcz31_1 := bv_ BK666.out 1
         have hcz31_2 := bv_ BK666.out 2
         have hfz31_0 := blk_frozen BK666.out 0
         have hfz31_1 := blk_frozen BK666.out 1
         have hfz31_2 := blk_frozen BK666.out 2
         go_wp2_with (first | (go_at_call 27; (refine (cast_Exact.calls kj5 a0_0 a0_1 a1 true true _ A19.out (TT.go (hb1_ HB.out GE666.out) T_)).mono ?_); rintro e w32 ⟨rfl, hb⟩; replace BK666 := A_ (bb_ BK666.out hb); replace HB := A_ (below_step (hb1_ HB.out GE666.out) hb); (try clear hb); (try clear hb2); (try clear hk); (try clear hi); have hcz33_0 := bv_ BK666.out 0; have hcz33_1 := bv_ BK666.out 1; have hcz33_2 := bv_ BK666.out 2; have hfz33_0 := blk_frozen BK666.out 0; have hfz33_1 := blk_frozen BK666.out 1; have hfz33_2 := blk_frozen BK666.out 2) | (go_at_call 25; (with_reducible refine (cast_FromUint.calls kj5 a0_0 a0_1 a1 t672 _ A21.out).mono ?_); rintro e w34 ⟨rfl, hb⟩; replace BK666 := A_ (bb_ BK666.out hb); replace HB := A_ (below_step (hb1_ HB.out GE666.out) hb); (try clear hb); (try clear hb2); (try clear hk); (try clear hi); have hcz35_0 := bv_ BK666.out 0; have hcz35_1 := bv_ BK666.out 1; have hcz35_2 := bv_ BK666.out 2; have hfz35_0 := blk_frozen BK666.out 0; have hfz35_1 := blk_frozen BK666.out 1; have hfz35_2 := blk_frozen BK666.out 2) | (go_at_call 26; (with_reducible refine (cast_FromInt.calls kj5 a0_0 a0_1 a1 t673 _ A23.out).mono ?_); rintro e w36 ⟨rfl, hb⟩; replace BK666 := A_ (bb_ BK666.out hb); replace HB := A_ (below_step (hb1_ HB.out GE666.out) hb); (try clear hb); (try clear hb2); (try clear hk); (try clear hi); have hcz37_0 := bv_ BK666.out 0; have hcz37_1 := bv_ BK666.out 1; have hcz37_2 := bv_ BK666.out 2; have hfz37_0 := blk_frozen BK666.out 0; have hfz37_1 := blk_frozen BK666.out 1; have hfz37_2 := blk_frozen BK666.out 2) | (go_at_call 36; (with_reducible refine (chop_Trap.calls kj5 a0_0 a0_1 t673 true t674 t675 _ A24.out).mono ?_); rintro e w38 ⟨rfl, hb⟩; replace BK666 := A_ (bb_ BK666.out hb); replace HB := A_ (below_step (hb1_ HB.out GE666.out) hb); (try clear hb); (try clear hb2); (try clear hk); (try clear hi); have hcz39_0 := bv_ BK666.out 0; have hcz39_1 := bv_ BK666.out 1; have hcz39_2 := bv_ BK666.out 2; have hfz39_0 := blk_frozen BK666.out 0; have hfz39_1 := blk_frozen BK666.out 1; have hfz39_2 := blk_frozen BK666.out 2))
         repeat (go_quiet (first | (go_at_call 27; (refine (cast_Exact.calls kj5 a0_0 a0_1 a1 true true _ A19.out (TT.go (hb1_ HB.out GE666.out) T_)).mono ?_); rintro e w32 ⟨rfl, hb⟩; replace BK666 := A_ (bb_ BK666.out hb); replace HB := A_ (below_step (hb1_ HB.out GE666.out) hb); (try clear hb); (try clear hb2); (try clear hk); (try clear hi); have hcz33_0 := bv_ BK666.out 0; have hcz33_1 := bv_ BK666.out 1; have hcz33_2 := bv_ BK666.out 2; have hfz33_0 := blk_frozen BK666.out 0; have hfz33_1 := blk_frozen BK666.out 1; have hfz33_2 := blk_frozen BK666.out 2) | (go_at_call 25; (with_reducible refine (cast_FromUint.calls kj5 a0_0 a0_1 a1 t672 _ A21.out).mono ?_); rintro e w34 ⟨rfl, hb⟩; replace BK666 := A_ (bb_ BK666.out hb); replace HB := A_ (below_step (hb1_ HB.out GE666.out) hb); (try clear hb); (try clear hb2); (try clear hk); (try clear hi); have hcz35_0 := bv_ BK666.out 0; have hcz35_1 := bv_ BK666.out 1; have hcz35_2 := bv_ BK666.out 2; have hfz35_0 := blk_frozen BK666.out 0; have hfz35_1 := blk_frozen BK666.out 1; have hfz35_2 := blk_frozen BK666.out 2) | (go_at_call 26; (with_reducible refine (cast_FromInt.calls kj5 a0_0 a0_1 a1 t673 _ A23.out).mono ?_); rintro e w36 ⟨rfl, hb⟩; replace BK666 := A_ (bb_ BK666.out hb); replace HB := A_ (below_step (hb1_ HB.out GE666.out) hb); (try clear hb); (try clear hb2); (try clear hk); (try clear hi); have hcz37_0 := bv_ BK666.out 0; have hcz37_1 := bv_ BK666.out 1; have hcz37_2 := bv_ BK666.out 2; have hfz37_0 := blk_frozen BK666.out 0; have hfz37_1 := blk_frozen BK666.out 1; have hfz37_2 := blk_frozen BK666.out 2) | (go_at_call 36; (with_reducible refine (chop_Trap.calls kj5 a0_0 a0_1 t673 true t674 t675 _ A24.out).mono ?_); rintro e w38 ⟨rfl, hb⟩; replace BK666 := A_ (bb_ BK666.out hb); replace HB := A_ (below_step (hb1_ HB.out GE666.out) hb); (try clear hb); (try clear hb2); (try clear hk); (try clear hi); have hcz39_0 := bv_ BK666.out 0; have hcz39_1 := bv_ BK666.out 1; have hcz39_2 := bv_ BK666.out 2; have hfz39_0 := blk_frozen BK666.out 0; have hfz39_1 := blk_frozen BK666.out 1; have hfz39_2 := blk_frozen BK666.out 2)); try go_wp2_with (first | (go_at_call 27; (refine (cast_Exact.calls kj5 a0_0 a0_1 a1 true true _ A19.out (TT.go (hb1_ HB.out GE666.out) T_)).mono ?_); rintro e w32 ⟨rfl, hb⟩; replace BK666 := A_ (bb_ BK666.out hb); replace HB := A_ (below_step (hb1_ HB.out GE666.out) hb); (try clear hb); (try clear hb2); (try clear hk); (try clear hi); have hcz33_0 := bv_ BK666.out 0; have hcz33_1 := bv_ BK666.out 1; have hcz33_2 := bv_ BK666.out 2; have hfz33_0 := blk_frozen BK666.out 0; have hfz33_1 := blk_frozen BK666.out 1; have hfz33_2 := blk_frozen BK666.out 2) | (go_at_call 25; (with_reducible refine (cast_FromUint.calls kj5 a0_0 a0_1 a1 t672 _ A21.out).mono ?_); rintro e w34 ⟨rfl, hb⟩; replace BK666 := A_ (bb_ BK666.out hb); replace HB := A_ (below_step (hb1_ HB.out GE666.out) hb); (try clear hb); (try clear hb2); (try clear hk); (try clear hi); have hcz35_0 := bv_ BK666.out 0; have hcz35_1 := bv_ BK666.out 1; have hcz35_2 := bv_ BK666.out 2; have hfz35_0 := blk_frozen BK666.out 0; have hfz35_1 := blk_frozen BK666.out 1; have hfz35_2 := blk_frozen BK666.out 2) | (go_at_call 26; (with_reducible refine (cast_FromInt.calls kj5 a0_0 a0_1 a1 t673 _ A23.out).mono ?_); rintro e w36 ⟨rfl, hb⟩; replace BK666 := A_ (bb_ BK666.out hb); replace HB := A_ (below_step (hb1_ HB.out GE666.out) hb); (try clear hb); (try clear hb2); (try clear hk); (try clear hi); have hcz37_0 := bv_ BK666.out 0; have hcz37_1 := bv_ BK666.out 1; have hcz37_2 := bv_ BK666.out 2; have hfz37_0 := blk_frozen BK666.out 0; have hfz37_1 := blk_frozen BK666.out 1; have hfz37_2 := blk_frozen BK666.out 2) | (go_at_call 36; (with_reducible refine (chop_Trap.calls kj5 a0_0 a0_1 t673 true t674 t675 _ A24.out).mono ?_); rintro e w38 ⟨rfl, hb⟩; replace BK666 := A_ (bb_ BK666.out hb); replace HB := A_ (below_step (hb1_ HB.out GE666.out) hb); (try clear hb); (try clear hb2); (try clear hk); (try clear hi); have hcz39_0 := bv_ BK666.out 0; have hcz39_1 := bv_ BK666.out 1; have hcz39_2 := bv_ BK666.out 2; have hfz39_0 := blk_frozen BK666.out 0; have hfz39_1 := blk_frozen BK666.out 1; have hfz39_2 := blk_frozen BK666.out 2)))
         go_ret
         exact ⟨by first | rfl | (simp [errW_none, errW_some] <;> rfl) | (simp only [← hji26, ← hji28, ← hji30]; first | rfl | (simp [errW_none, errW_some] <;> rfl)) | (simp [*, errW_none, errW_some] <;> rfl), hb1_ HB.out GE666.out⟩
        ·rw [if_neg c27] at H
         exact absurd H (by simp)
       ·rw [if_neg c25] at H
        have c25b0 : (t675 == 0) = false := beq_eq_false_iff_ne.mpr c25
        have c25b1 : (t675 != 0) = true := bne_iff_ne.mpr c25
        exact absurd ((Option.some.inj H).trans hr_.out) (by decide)
      ·replace c22 := Bool.eq_false_iff.mpr c22
       subst c22
       have H1 : ((chop_Trap.f kj5 a0_0 a0_1 t672 false).bind fun bt676 => (if bt676.2 = 0 then (if 0 ≤ (wrap64 (64 - a0_1)) then (some (bt676.1 == (shr .u64 (shl .u64 a1 (wrap64 (64 - a0_1))) (wrap64 (64 - a0_1))))) else (none)) else (some false))) = some r := by rw [if_neg (show ¬ (false = true) by decide)] at H; exact H
       clear H;have H := H1;clear H1
       replace H := ob_ H
       obtain ⟨⟨t676, t677⟩, A400, H⟩ := H
       replace H : (if t677 = 0 then (if 0 ≤ (wrap64 (64 - a0_1)) then (some (t676 == (shr .u64 (shl .u64 a1 (wrap64 (64 - a0_1))) (wrap64 (64 - a0_1))))) else (none)) else (some false)) = some r := H
       have A40 := A_ A400;clear A400
       by_cases c41 : t677 = 0
       ·rw [if_pos c41] at H
        have c41b0 : (t677 == 0) = true := beq_iff_eq.mpr c41
        have c41b1 : (t677 != 0) = false := bne_eq_false_iff_eq.mpr c41
        clear c41
        obtain ⟨ji42, hji42⟩ : ∃ j_ : Int, (wrap64 (64 - a0_1)) = j_ := ⟨_, rfl⟩
        replace H : (if 0 ≤ (ji42) then (some (t676 == (shr .u64 (shl .u64 a1 (ji42)) (ji42)))) else (none)) = some r := by first | (rw [hji42] at H; exact H) | (simp only [hji42] at H ⊢; exact H)
        (try rw [hji42] at A19)
        (try rw [hji42] at A21)
        (try rw [hji42] at A40)
        have hji42w : (IntKind.i64.wrap (64 - a0_1)) = ji42 := (i64_w _).trans hji42
        by_cases c43 : 0 ≤ (ji42)
        ·rw [if_pos c43] at H
         have c43b0 := eq_true c43
         have c43b1 : decide (0 ≤ (ji42)) = true := decide_eq_true c43
         clear c43
         obtain ⟨ji44, hji44⟩ : ∃ j_ : Int, (shl .u64 a1 (ji42)) = j_ := ⟨_, rfl⟩
         replace H : (some (t676 == (shr .u64 (ji44) (ji42)))) = some r := by first | (rw [hji44] at H; exact H) | (simp only [hji44] at H ⊢; exact H)
         (try rw [hji44] at A19)
         (try rw [hji44] at A21)
         (try rw [hji44] at A40)
         have hji44_ : (IntKind.u64.wrap (a1 * 2 ^ min (ji42).toNat 64)) = ji44 := hji44
         have hji44z : (ji42) ≤ 64 → (IntKind.u64.wrap (a1 * 2 ^ (ji42).toNat)) = ji44 := shl_small hji44
         have c45b0 := eq_true (of_decide_eq_true (by first | (with_reducible assumption) | assumption) : 0 ≤ (ji42))
         obtain ⟨ji46, hji46⟩ : ∃ j_ : Int, (shr .u64 (ji44) (ji42)) = j_ := ⟨_, rfl⟩
         replace H : (some (t676 == (ji46))) = some r := by first | (rw [hji46] at H; exact H) | (simp only [hji46] at H ⊢; exact H)
         (try rw [hji46] at A19)
         (try rw [hji46] at A21)
         (try rw [hji46] at A40)
         have hji46_ : ((ji44) / 2 ^ min (ji42).toNat 64) = ji46 := hji46
         have hji46z : (ji42) ≤ 64 → ((ji44) / 2 ^ (ji42).toNat) = ji46 := shr_small hji46
         obtain rfl := Option.some.inj H
         have hcz47_0 := bv_ BK666.out 0
         have hcz47_1 := bv_ BK666.out 1
         have hcz47_2 := bv_ BK666.out 2
         have hfz47_0 := blk_frozen BK666.out 0
         have hfz47_1 := blk_frozen BK666.out 1
         have hfz47_2 := blk_frozen BK666.out 2
         go_wp2_with (first | (go_at_call 27; (refine (cast_Exact.calls kj5 a0_0 a0_1 a1 false true _ A19.out (TT.go (hb1_ HB.out GE666.out) T_)).mono ?_); rintro e w48 ⟨rfl, hb⟩; replace BK666 := A_ (bb_ BK666.out hb); replace HB := A_ (below_step (hb1_ HB.out GE666.out) hb); (try clear hb); (try clear hb2); (try clear hk); (try clear hi); have hcz49_0 := bv_ BK666.out 0; have hcz49_1 := bv_ BK666.out 1; have hcz49_2 := bv_ BK666.out 2; have hfz49_0 := blk_frozen BK666.out 0; have hfz49_1 := blk_frozen BK666.out 1; have hfz49_2 := blk_frozen BK666.out 2) | (go_at_call 25; (with_reducible refine (cast_FromUint.calls kj5 a0_0 a0_1 a1 t672 _ A21.out).mono ?_); rintro e w50 ⟨rfl, hb⟩; replace BK666 := A_ (bb_ BK666.out hb); replace HB := A_ (below_step (hb1_ HB.out GE666.out) hb); (try clear hb); (try clear hb2); (try clear hk); (try clear hi); have hcz51_0 := bv_ BK666.out 0; have hcz51_1 := bv_ BK666.out 1; have hcz51_2 := bv_ BK666.out 2; have hfz51_0 := blk_frozen BK666.out 0; have hfz51_1 := blk_frozen BK666.out 1; have hfz51_2 := blk_frozen BK666.out 2) | (go_at_call 36; (with_reducible refine (chop_Trap.calls kj5 a0_0 a0_1 t672 false t676 t677 _ A40.out).mono ?_); rintro e w52 ⟨rfl, hb⟩; replace BK666 := A_ (bb_ BK666.out hb); replace HB := A_ (below_step (hb1_ HB.out GE666.out) hb); (try clear hb); (try clear hb2); (try clear hk); (try clear hi); have hcz53_0 := bv_ BK666.out 0; have hcz53_1 := bv_ BK666.out 1; have hcz53_2 := bv_ BK666.out 2; have hfz53_0 := blk_frozen BK666.out 0; have hfz53_1 := blk_frozen BK666.out 1; have hfz53_2 := blk_frozen BK666.out 2))
         repeat (go_quiet (first | (go_at_call 27; (refine (cast_Exact.calls kj5 a0_0 a0_1 a1 false true _ A19.out (TT.go (hb1_ HB.out GE666.out) T_)).mono ?_); rintro e w48 ⟨rfl, hb⟩; replace BK666 := A_ (bb_ BK666.out hb); replace HB := A_ (below_step (hb1_ HB.out GE666.out) hb); (try clear hb); (try clear hb2); (try clear hk); (try clear hi); have hcz49_0 := bv_ BK666.out 0; have hcz49_1 := bv_ BK666.out 1; have hcz49_2 := bv_ BK666.out 2; have hfz49_0 := blk_frozen BK666.out 0; have hfz49_1 := blk_frozen BK666.out 1; have hfz49_2 := blk_frozen BK666.out 2) | (go_at_call 25; (with_reducible refine (cast_FromUint.calls kj5 a0_0 a0_1 a1 t672 _ A21.out).mono ?_); rintro e w50 ⟨rfl, hb⟩; replace BK666 := A_ (bb_ BK666.out hb); replace HB := A_ (below_step (hb1_ HB.out GE666.out) hb); (try clear hb); (try clear hb2); (try clear hk); (try clear hi); have hcz51_0 := bv_ BK666.out 0; have hcz51_1 := bv_ BK666.out 1; have hcz51_2 := bv_ BK666.out 2; have hfz51_0 := blk_frozen BK666.out 0; have hfz51_1 := blk_frozen BK666.out 1; have hfz51_2 := blk_frozen BK666.out 2) | (go_at_call 36; (with_reducible refine (chop_Trap.calls kj5 a0_0 a0_1 t672 false t676 t677 _ A40.out).mono ?_); rintro e w52 ⟨rfl, hb⟩; replace BK666 := A_ (bb_ BK666.out hb); replace HB := A_ (below_step (hb1_ HB.out GE666.out) hb); (try clear hb); (try clear hb2); (try clear hk); (try clear hi); have hcz53_0 := bv_ BK666.out 0; have hcz53_1 := bv_ BK666.out 1; have hcz53_2 := bv_ BK666.out 2; have hfz53_0 := blk_frozen BK666.out 0; have hfz53_1 := blk_frozen BK666.out 1; have hfz53_2 := blk_frozen BK666.out 2)); try go_wp2_with (first | (go_at_call 27; (refine (cast_Exact.calls kj5 a0_0 a0_1 a1 false true _ A19.out (TT.go (hb1_ HB.out GE666.out) T_)).mono ?_); rintro e w48 ⟨rfl, hb⟩; replace BK666 := A_ (bb_ BK666.out hb); replace HB := A_ (below_step (hb1_ HB.out GE666.out) hb); (try clear hb); (try clear hb2); (try clear hk); (try clear hi); have hcz49_0 := bv_ BK666.out 0; have hcz49_1 := bv_ BK666.out 1; have hcz49_2 := bv_ BK666.out 2; have hfz49_0 := blk_frozen BK666.out 0; have hfz49_1 := blk_frozen BK666.out 1; have hfz49_2 := blk_frozen BK666.out 2) | (go_at_call 25; (with_reducible refine (cast_FromUint.calls kj5 a0_0 a0_1 a1 t672 _ A21.out).mono ?_); rintro e w50 ⟨rfl, hb⟩; replace BK666 := A_ (bb_ BK666.out hb); replace HB := A_ (below_step (hb1_ HB.out GE666.out) hb); (try clear hb); (try clear hb2); (try clear hk); (try clear hi); have hcz51_0 := bv_ BK666.out 0; have hcz51_1 := bv_ BK666.out 1; have hcz51_2 := bv_ BK666.out 2; have hfz51_0 := blk_frozen BK666.out 0; have hfz51_1 := blk_frozen BK666.out 1; have hfz51_2 := blk_frozen BK666.out 2) | (go_at_call 36; (with_reducible refine (chop_Trap.calls kj5 a0_0 a0_1 t672 false t676 t677 _ A40.out).mono ?_); rintro e w52 ⟨rfl, hb⟩; replace BK666 := A_ (bb_ BK666.out hb); replace HB := A_ (below_step (hb1_ HB.out GE666.out) hb); (try clear hb); (try clear hb2); (try clear hk); (try clear hi); have hcz53_0 := bv_ BK666.out 0; have hcz53_1 := bv_ BK666.out 1; have hcz53_2 := bv_ BK666.out 2; have hfz53_0 := blk_frozen BK666.out 0; have hfz53_1 := blk_frozen BK666.out 1; have hfz53_2 := blk_frozen BK666.out 2)))
         go_ret
         exact ⟨by first | rfl | (simp [errW_none, errW_some] <;> rfl) | (simp only [← hji42, ← hji44, ← hji46]; first | rfl | (simp [errW_none, errW_some] <;> rfl)) | (simp [*, errW_none, errW_some] <;> rfl), hb1_ HB.out GE666.out⟩
        ·rw [if_neg c43] at H
         exact absurd H (by simp)
       ·rw [if_neg c41] at H
        have c41b0 : (t677 == 0) = false := beq_eq_false_iff_ne.mpr c41
        have c41b1 : (t677 != 0) = true := bne_iff_ne.mpr c41
        exact absurd ((Option.some.inj H).trans hr_.out) (by decide)
     ·replace c20 := Bool.eq_false_iff.mpr c20
      subst c20
      have H1 : (some true) = some r := by rw [if_neg (show ¬ (false = true) by decide)] at H; exact H
      clear H;have H := H1;clear H1
      obtain rfl := Option.some.inj H
      have hcz54_0 := bv_ BK666.out 0
      have hcz54_1 := bv_ BK666.out 1
      have hcz54_2 := bv_ BK666.out 2
      have hfz54_0 := blk_frozen BK666.out 0
      have hfz54_1 := blk_frozen BK666.out 1
      have hfz54_2 := blk_frozen BK666.out 2
      go_wp2_with (first | (go_at_call 27; (refine (cast_Exact.calls kj5 a0_0 a0_1 a1 a0_2 false _ A19.out (TT.go (hb1_ HB.out GE666.out) T_)).mono ?_); rintro e w55 ⟨rfl, hb⟩; replace BK666 := A_ (bb_ BK666.out hb); replace HB := A_ (below_step (hb1_ HB.out GE666.out) hb); (try clear hb); (try clear hb2); (try clear hk); (try clear hi)))
      repeat (go_quiet (first | (go_at_call 27; (refine (cast_Exact.calls kj5 a0_0 a0_1 a1 a0_2 false _ A19.out (TT.go (hb1_ HB.out GE666.out) T_)).mono ?_); rintro e w55 ⟨rfl, hb⟩; replace BK666 := A_ (bb_ BK666.out hb); replace HB := A_ (below_step (hb1_ HB.out GE666.out) hb); (try clear hb); (try clear hb2); (try clear hk); (try clear hi))); try go_wp2_with (first | (go_at_call 27; (refine (cast_Exact.calls kj5 a0_0 a0_1 a1 a0_2 false _ A19.out (TT.go (hb1_ HB.out GE666.out) T_)).mono ?_); rintro e w55 ⟨rfl, hb⟩; replace BK666 := A_ (bb_ BK666.out hb); replace HB := A_ (below_step (hb1_ HB.out GE666.out) hb); (try clear hb); (try clear hb2); (try clear hk); (try clear hi))))
      go_ret
      exact ⟨er_, hb1_ HB.out GE666.out⟩
 ·replace c4 := Bool.eq_false_iff.mpr c4
  subst c4
  have H1 : (some false) = some r := by rw [if_neg (show ¬ (false = true) by decide)] at H; exact H
  clear H;have H := H1;clear H1
  exact absurd ((Option.some.inj H).trans hr_.out) (by decide)
def L12_ChopBack.Pure : Prop := ∀ (a0_0 : Int) (a0_1 : Int) (a0_2 : Bool) (a1 : Int), (Lit.int .i64 a0_0).wf = true → (Lit.int .i64 a0_1).wf = true → (Lit.int .u64 a1).wf = true → ∃ k, L12_ChopBack.f k a0_0 a0_1 a0_2 a1 = some true
theorem L12_ChopBack.walk (P : L12_ChopBack.Pure) (a0_0 : Int) (a0_1 : Int) (a0_2 : Bool) (a1 : Int) (w : World) (w0_0 : (Lit.int .i64 a0_0).wf = true) (w0_1 : (Lit.int .i64 a0_1).wf = true) (w1 : (Lit.int .u64 a1).wf = true) (T_ : Aside0 (TT w)) :
  Calls Tryd.prog 7 #[.agg #[.int .i64 a0_0, .int .i64 a0_1, .bool a0_2], .int .u64 a1] w fun e w' => e = .returned (.bool true) ∧ Below w.heap.size w w' := by
 obtain ⟨k, h⟩ := P a0_0 a0_1 a0_2 a1 w0_0 w0_1 w1
 refine (L12_ChopBack.calls k a0_0 a0_1 a0_2 a1 true w h ⟨rfl⟩ T_).mono ?_
 rintro e w' ⟨rfl, hd⟩
 exact ⟨rfl, hd⟩
def ints_signed.f (a0 : Int) (a1 : Int) : Option (Int) := if a0 = 32 then (some (wrap64 (wrap32 ((a1) % 4294967296)))) else (some (wrap64 (a1)))
theorem ints_signed.calls (a0 : Int) (a1 : Int) (r : Int) (w : World) (h : ints_signed.f a0 a1 = some r) :
  Calls Tryd.prog 48 #[.int .i64 a0, .int .u64 a1] w fun e w' => e = .returned (.int .i64 r) ∧ Drawn0 w w' := by
 have H : (if a0 = 32 then (some (wrap64 (wrap32 ((a1) % 4294967296)))) else (some (wrap64 (a1)))) = some r := h
 clear h
 by_cases c3 : a0 = 32
 ·rw [if_pos c3] at H
  have c3b0 : (a0 == 32) = true := beq_iff_eq.mpr c3
  have c3b1 : (a0 != 32) = false := bne_eq_false_iff_eq.mpr c3
  clear c3
  obtain rfl := Option.some.inj H
  go_enter Tryd.func48, Tryd.ntmps48
  go_wp2
  go_ret
  exact ⟨sm_, by repeat (first | exact Drawn0.refl _ | apply Drawn0.step)⟩
 ·rw [if_neg c3] at H
  have c3b0 : (a0 == 32) = false := beq_eq_false_iff_ne.mpr c3
  have c3b1 : (a0 != 32) = true := bne_iff_ne.mpr c3
  obtain rfl := Option.some.inj H
  go_enter Tryd.func48, Tryd.ntmps48
  go_wp2
  go_ret
  exact ⟨sm_, by repeat (first | exact Drawn0.refl _ | apply Drawn0.step)⟩
end Go.Proofs.YthdeeoallfbjmaaDoor.PA
section
set_option linter.unusedVariables false
set_option linter.unusedSimpArgs false
namespace Go.Proofs.YthdeeoallfbjmaaDoor.Th
open Go.RowKit Go.Proofs.YthdeeoallfbjmaaDoorW.PrintWords Go.Proofs.YthdeeoallfbjmaaDoorW.PrintLast Go.Proofs.YthdeeoallfbjmaaDoorW.PrintMore Go.Proofs.YthdeeoallfbjmaaDoor.PA Bit Dig
def pw (w : Int) : Nat := if w = 32 then 4294967296 else 18446744073709551616
theorem cutP (w : Int) (hw : w = 32 ∨ w = 64) (a : Nat) (ha : a < 18446744073709551616) : cutN w a = a % pw w := by
  unfold cutN pw; rcases hw with rfl | rfl
  · rfl
  · rw [if_neg (by decide), if_pos rfl, if_neg (by decide)]; omega
theorem u64_nat (n : Nat) : IntKind.u64.wrap (n : Int) = ((n % 18446744073709551616 : Nat) : Int) := by rw [IntKind.wrap_u64]; omega
theorem pw_64 (w : Int) : pw w ≤ 18446744073709551616 := by unfold pw; split <;> omega
theorem pw_0 (w : Int) : 0 < pw w := by unfold pw; split <;> decide
theorem getD_in {α : Type} (d : α) (l : List α) (i : Nat) (h : i < l.length) : l.getD i d = l[i] := by simp [List.getD, h]
def tb (c : Nat) (w n : Int) (rd inn : Bool) (i : Nat) : Bool := if 0 ≤ (i : Int) - n ∧ (i : Int) - n < w then c.testBit ((i : Int) - n).toNat else if rd then c.testBit (((i : Int) - n + w) % w).toNat else inn
theorem shrN (c n : Nat) (hn : n < 64) : shr .u64 (c : Int) (n : Int) = ((c / 2 ^ n : Nat) : Int) := by
  unfold shr
  rw [show min ((n : Int)).toNat IntKind.u64.bits = n by rw [show IntKind.u64.bits = 64 by decide]; omega]
  rw [Int.natCast_ediv, Int.natCast_pow]; rfl
def sgn (w : Int) (a : Nat) : Int := (a % pw w : Nat) - (if sgB w a then (pw w : Int) else 0)
theorem signedS (w : Int) (hw : w = 32 ∨ w = 64) (a : Nat) (ha : a < 18446744073709551616) : ints_signed.f w a = some (sgn w a) := by
  unfold ints_signed.f sgn sgB pw sb
  rcases hw with rfl | rfl
  · simp only [if_true, decide_eq_true_eq]
    rw [show wrap32 ((a : Int) % 4294967296) = if a / 2147483648 % 2 = 1 then ((a % 4294967296 : Nat) : Int) - 4294967296 else ((a % 4294967296 : Nat) : Int) by unfold wrap32; split <;> omega]
    congr 1
    split
    · rw [w64_id (by omega) (by omega)]; rfl
    · rw [w64_id (by omega) (by omega)]; omega
  · simp only [show ¬ ((64 : Int) = 32) by decide, if_false, decide_eq_true_eq]
    congr 1
    unfold wrap64
    split <;> omega
end Go.Proofs.YthdeeoallfbjmaaDoor.Th
end
set_option linter.unusedVariables false
namespace Pop
def ds (B : Nat) : Nat → Nat → Nat
  | 0, _ => 0
  | n + 1, x => x % B + ds B n (x / B)
def mk (B : Nat) : Nat → Nat
  | 0 => 0
  | n + 1 => (B - 1) + B * B * mk B n
theorem and_rec (k x m : Nat) : x &&& ((2 ^ k - 1) + 2 ^ k * 2 ^ k * m) = x % 2 ^ k + 2 ^ k * 2 ^ k * (x / (2 ^ k * 2 ^ k) &&& m) := by
  have h1 : 2 ^ k - 1 < 2 ^ (k + k) := by
    have a : 0 < 2 ^ k := Nat.pow_pos (by decide)
    have b : 2 ^ k ≤ 2 ^ (k + k) := Nat.pow_le_pow_right (by decide) (by omega)
    omega
  have h2 : x % 2 ^ k < 2 ^ (k + k) := by
    have a : x % 2 ^ k < 2 ^ k := Nat.mod_lt _ (Nat.pow_pos (by decide))
    have b : 2 ^ k ≤ 2 ^ (k + k) := Nat.pow_le_pow_right (by decide) (by omega)
    omega
  rw [← Nat.pow_add]
  refine Nat.eq_of_testBit_eq fun j => ?_
  rw [Nat.testBit_and, Nat.add_comm (2 ^ k - 1), Nat.add_comm (x % 2 ^ k), Nat.testBit_two_pow_mul_add _ h1, Nat.testBit_two_pow_mul_add _ h2]
  by_cases h : j < k + k
  · rw [if_pos h, if_pos h, Nat.testBit_two_pow_sub_one, Nat.testBit_mod_two_pow, Bool.and_comm]
  · rw [if_neg h, if_neg h, Nat.testBit_and, Nat.testBit_div_two_pow, show j - (k + k) + (k + k) = j by omega]
theorem div2 (B x : Nat) : x / B / B = x / (B * B) := Nat.div_div_eq_div_mul ..
theorem step (k : Nat) (hk : 0 < k) (n : Nat) : ∀ x, ds (2 ^ k * 2 ^ k) n ((x / 2 ^ k &&& mk (2 ^ k) n) + (x &&& mk (2 ^ k) n)) = ds (2 ^ k) (n + n) x := by
  have hB : 2 ≤ 2 ^ k := by
    have : 2 ^ 1 ≤ 2 ^ k := Nat.pow_le_pow_right (by decide) hk
    simpa using this
  induction n with
  | zero => intro x; rfl
  | succ n ih =>
    intro x
    have e1 := and_rec k x (mk (2 ^ k) n)
    have e2 := and_rec k (x / 2 ^ k) (mk (2 ^ k) n)
    have hh := ih (x / (2 ^ k * 2 ^ k))
    generalize hBd : 2 ^ k = B at *
    have e3 : x / B / (B * B) = x / (B * B) / B := by rw [Nat.div_div_eq_div_mul, Nat.div_div_eq_div_mul, Nat.mul_comm]
    rw [e3] at e2
    show (_ + _) % (B * B) + ds (B * B) n ((_ + _) / (B * B)) = _
    rw [show mk B (n + 1) = (B - 1) + B * B * mk B n from rfl, e1, e2]
    have l0 := Nat.mod_lt x (show 0 < B by omega)
    have l1 := Nat.mod_lt (x / B) (show 0 < B by omega)
    have hBB : B * 2 ≤ B * B := Nat.mul_le_mul_left B hB
    generalize (x / (B * B) / B &&& mk B n) = u at *
    generalize (x / (B * B) &&& mk B n) = v at *
    have e4 : x / B % B + B * B * u + (x % B + B * B * v) = B * B * (u + v) + (x / B % B + x % B) := by rw [Nat.mul_add]; omega
    rw [e4, Nat.mul_add_mod, Nat.mul_add_div (by omega), Nat.mod_eq_of_lt (by omega), Nat.div_eq_of_lt (a := x / B % B + x % B) (by omega), Nat.add_zero, hh]
    rw [show n + 1 + (n + 1) = (n + n) + 1 + 1 by omega]
    show _ = x % B + (x / B % B + ds B (n + n) (x / B / B))
    rw [div2]; omega
def le (B c : Nat) : Nat → Nat → Prop
  | 0, _ => True
  | n + 1, x => x % B ≤ c ∧ le B c n (x / B)
end Pop
section
set_option linter.unusedVariables false
set_option linter.unusedSimpArgs false
namespace Go.Proofs.YthdeeoallfbjmaaDoor.Th
open Go.RowKit Go.Proofs.YthdeeoallfbjmaaDoorW.PrintWords Go.Proofs.YthdeeoallfbjmaaDoorW.PrintLast Go.Proofs.YthdeeoallfbjmaaDoorW.PrintMore Go.Proofs.YthdeeoallfbjmaaDoor.PA Bit Dig
theorem ctz_le (c : Nat) (hc : c < 18446744073709551616) : Lib.ctz 64 c ≤ 64 := by
  unfold Lib.ctz
  split
  · exact Nat.le_refl _
  · rename_i h
    obtain ⟨m, _, h2⟩ := Lib.ctzFrom_spec 64 c (by omega) (by simpa using hc)
    omega
theorem ctz_spec (w : Int) (hw : w = 32 ∨ w = 64) (c : Nat) (hc : c < pw w) (h0 : 0 < c) : ∃ m, c = 2 ^ Lib.ctz 64 c * (2 * m + 1) ∧ Lib.ctz 64 c < bl c := by
  have h64 := pw_64 w
  obtain ⟨m, h1, h2⟩ := Lib.ctzFrom_spec 64 c h0 (by have : c < 18446744073709551616 := by omega
                                                     simpa using this)
  have e : Lib.ctz 64 c = Lib.ctzFrom 64 c := by unfold Lib.ctz; rw [if_neg (by omega)]
  refine ⟨m, by rw [e]; exact h1, ?_⟩
  rw [e]
  rcases Nat.lt_or_ge (Lib.ctzFrom 64 c) (bl c) with h | h
  · exact h
  · exfalso
    have k := bl_le.1 h
    have : 2 ^ Lib.ctzFrom 64 c ≤ 2 ^ Lib.ctzFrom 64 c * (2 * m + 1) := Nat.le_mul_of_pos_right _ (by omega)
    omega
def mg (w : Int) (a : Nat) : Nat := if sgB w a then pw w - a % pw w else a % pw w
theorem sgn_mg (w : Int) (a : Nat) : sgn w a = if sgB w a then -((mg w a : Nat) : Int) else ((mg w a : Nat) : Int) := by
  unfold sgn mg
  have := Nat.mod_lt a (pw_0 w)
  cases sgB w a
  · simp
  · simp only [if_true]; omega
theorem mg_bd (w : Int) (hw : w = 32 ∨ w = 64) (a : Nat) : mg w a ≤ sb w ∧ (sgB w a = false → mg w a < sb w) ∧ (sgB w a = true → 0 < mg w a) ∧ pw w = 2 * sb w := by
  rcases hw with rfl | rfl
  · simp only [mg, sgB, pw, sb, if_true]
    by_cases h : a / 2147483648 % 2 = 1
    · simp only [h, decide_true, if_true]; exact ⟨by omega, (fun h => by cases h), (fun _ => by omega), by first | trivial | omega⟩
    · simp only [h, decide_false, if_neg (show ¬ (false = true) by decide)]; exact ⟨by omega, (fun _ => by omega), (fun h => by cases h), by first | trivial | omega⟩
  · simp only [mg, sgB, pw, sb, show ¬ ((64 : Int) = 32) by decide, if_false]
    by_cases h : a / 9223372036854775808 % 2 = 1
    · simp only [h, decide_true, if_true]; exact ⟨by omega, (fun h => by cases h), (fun _ => by omega), by first | trivial | omega⟩
    · simp only [h, decide_false, if_neg (show ¬ (false = true) by decide)]; exact ⟨by omega, (fun _ => by omega), (fun h => by cases h), by first | trivial | omega⟩
theorem ctz_bits {c t m : Nat} (h : c = 2 ^ t * (2 * m + 1)) : (∀ i, i < t → c.testBit i = false) ∧ c.testBit t = true := by
  subst h
  constructor
  · intro i hi
    rw [Nat.testBit_eq_decide_div_mod_eq, show 2 ^ t * (2 * m + 1) = 2 ^ i * (2 * (2 ^ (t - i - 1) * (2 * m + 1))) by
      rw [show t = i + (1 + (t - i - 1)) by omega, Nat.pow_add, Nat.pow_add, show i + (1 + (t - i - 1)) - i - 1 = t - i - 1 by omega]; simp [Nat.mul_assoc], Nat.mul_div_cancel_left _ (Nat.pow_pos (by decide))]
    simp
  · rw [Nat.testBit_eq_decide_div_mod_eq, Nat.mul_div_cancel_left _ (Nat.pow_pos (by decide))]
    simp
theorem shlU (a n : Nat) (hn : n < 64) : shl .u64 (a : Int) (n : Int) = ((a * 2 ^ n % 18446744073709551616 : Nat) : Int) := by
  unfold shl
  rw [show min ((n : Int)).toNat IntKind.u64.bits = n by rw [show IntKind.u64.bits = 64 by decide]; omega, show (a : Int) * 2 ^ n = ((a * 2 ^ n : Nat) : Int) by rw [Int.natCast_mul, Int.natCast_pow]; rfl, u64_nat]
end Go.Proofs.YthdeeoallfbjmaaDoor.Th
end
section
set_option linter.unusedVariables false
set_option linter.unusedSimpArgs false
namespace Go.Proofs.YthdeeoallfbjmaaDoor.Th
open Go.RowKit Go.Proofs.YthdeeoallfbjmaaDoorW.PrintWords Go.Proofs.YthdeeoallfbjmaaDoorW.PrintLast Go.Proofs.YthdeeoallfbjmaaDoorW.PrintMore Go.Proofs.YthdeeoallfbjmaaDoor.PA Bit Flo
def nn (w : Int) (a : Nat) : Bool := (opn w a).2.1 == 3
theorem nn_eq (w : Int) (hw : w = 32 ∨ w = 64) (a : Nat) : nn w a = decide ((fmt w).inf < magN w a) := by
  have h0 : 0 < (fmt w).inf := by rcases hw with rfl | rfl <;> decide
  unfold nn opn
  simp only
  split
  · rename_i h; simp [h]
  · split
    · rename_i h; simp; omega
    · split
      · rename_i h; simp [h]
      · simp; omega
end Go.Proofs.YthdeeoallfbjmaaDoor.Th
end
section
set_option linter.unusedVariables false
set_option linter.unusedSimpArgs false
namespace Go.Proofs.YthdeeoallfbjmaaDoor.Th
open Go.RowKit Go.Proofs.YthdeeoallfbjmaaDoorW.PrintWords Go.Proofs.YthdeeoallfbjmaaDoorW.PrintLast Go.Proofs.YthdeeoallfbjmaaDoorW.PrintMore Go.Proofs.YthdeeoallfbjmaaDoor.PA Bit Flo Dig
theorem inf_pos (w : Int) (hw : w = 32 ∨ w = 64) : 0 < (fmt w).inf := by rcases hw with rfl | rfl <;> decide
theorem kinds (w : Int) (hw : w = 32 ∨ w = 64) (a : Nat) : (magN w a = 0 ∧ opn w a = (sgB w a, 0, 0, 0)) ∨ (0 < magN w a ∧ magN w a < (fmt w).inf ∧ opn w a = (sgB w a, 1, (fmt w).ex (magN w a), ((fmt w).sg (magN w a) : Int))) ∨ (magN w a = (fmt w).inf ∧ opn w a = (sgB w a, 2, 0, 0)) ∨ ((fmt w).inf < magN w a ∧ opn w a = (false, 3, 0, 0)) := by
  have h0 := inf_pos w hw
  unfold opn; simp only
  by_cases h1 : magN w a = 0
  · left; rw [if_pos h1]; exact ⟨h1, rfl⟩
  · right; rw [if_neg h1]
    by_cases h2 : magN w a < (fmt w).inf
    · left; rw [if_pos h2]; exact ⟨by omega, h2, rfl⟩
    · right; rw [if_neg h2]
      by_cases h3 : magN w a = (fmt w).inf
      · left; rw [if_pos h3]; exact ⟨h3, rfl⟩
      · right; rw [if_neg h3]; exact ⟨by omega, rfl⟩
theorem ex_bd (w : Int) (hw : w = 32 ∨ w = 64) (m : Nat) (h : m < (fmt w).inf) : -1074 ≤ (fmt w).ex m ∧ (fmt w).ex m ≤ 971 := by
  rcases hw with rfl | rfl
  · rw [fmt32, inf32] at h; rw [fmt32, ex32]; split <;> omega
  · rw [fmt64, inf64] at h; rw [fmt64, ex64]; split <;> omega
theorem sg_64 (w : Int) (hw : w = 32 ∨ w = 64) (m : Nat) : (fmt w).sg m < 9007199254740992 := by
  have h := (fmt w).sg_lt m
  rcases hw with rfl | rfl
  · rw [fmt32] at h ⊢; rw [show (2 : Nat) ^ (f32.f + 1) = 16777216 by decide] at h; omega
  · rw [fmt64] at h ⊢; rw [show (2 : Nat) ^ (f64.f + 1) = 9007199254740992 by decide] at h; omega
theorem mn_le (a b : Int) : mn a b ≤ a ∧ mn a b ≤ b := by unfold mn; split <;> omega
end Go.Proofs.YthdeeoallfbjmaaDoor.Th
end
