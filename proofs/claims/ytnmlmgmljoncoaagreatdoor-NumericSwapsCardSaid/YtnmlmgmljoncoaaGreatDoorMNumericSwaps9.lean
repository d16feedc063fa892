/- What the Go functions that the statement NumericSwaps reaches compute, and the mathematics on it, in the order in which one leans on the other; for every input. -/
import Derived.Test.YtnmlmgmljoncoaaGreatDoorVNumericSwaps0
import Derived.Test.YtnmlmgmljoncoaaGreatDoorMNumericSwaps0
import Derived.Test.YtnmlmgmljoncoaaGreatDoorMNumericSwaps7
import Derived.Test.YtnmlmgmljoncoaaGreatDoorMNumericSwaps2
import Derived.Test.YtnmlmgmljoncoaaGreatDoorMNumericSwaps8
import Derived.Test.YtnmlmgmljoncoaaGreatDoorMNumericSwaps3
import Derived.Test.YtnmlmgmljoncoaaGreatDoorMNumericSwaps6
import Derived.Test.YtnmlmgmljoncoaaGreatDoorMNumericSwaps4
namespace Go.Proofs.YtnmlmgmljoncoaaGreatDoor.PA
open Go.RowKit Go.Proofs.YtnmlmgmljoncoaaGreatDoorW.PrintWords Go.Proofs.YtnmlmgmljoncoaaGreatDoorW.PrintLast Go.Proofs.YtnmlmgmljoncoaaGreatDoorW.PrintMore
attribute [local go_sem] max2_int min2_int max_two min_two max_three min_three max_four min_four   -- for this text's walks alone
set_option linter.unusedVariables false
set_option linter.unusedSimpArgs false
set_option maxHeartbeats 8000000
set_option maxRecDepth 100000
def sum_finite.j0 : Nat → Int → Bool → Int → Int → Int → Bool → Int → Int → Int → Option (Int)
 | 0, _, _, _, _, _, _, _, _, _ => none
 | k + 1, x0, x405000, x405001, x405002, x405003, x406000, x406001, x406002, x406003 => (sum_align.f x405000 x405001 x405002 x405003 x406000 x406001 x406002 x406003).bind fun bt406 => (if (x405000 == x406000) = true then ((wide_Add.f bt406.1 bt406.2.1 bt406.2.2.1 bt406.2.2.2.1).bind fun bt413 => ((round_Pack.f x0 x405000 bt413.1 bt413.2 bt406.2.2.2.2.1 bt406.2.2.2.2.2).bind fun t415 => (some t415))) else ((wide_Cmp.f bt406.1 bt406.2.1 bt406.2.2.1 bt406.2.2.2.1).bind fun t416 => (if t416 = 0 then ((shape_Zero.f x0 false).bind fun t417 => (some t417)) else (if t416 = (-1) then ((wide_Sub.f bt406.2.2.1 bt406.2.2.2.1 bt406.1 bt406.2.1).bind fun bt418 => ((round_Pack.f x0 x406000 bt418.1 bt418.2 bt406.2.2.2.2.1 false).bind fun t420 => (some t420))) else ((wide_Sub.f bt406.1 bt406.2.1 bt406.2.2.1 bt406.2.2.2.1).bind fun bt421 => (if bt406.2.2.2.2.2 = true then ((wide_Of.f 1).bind fun bt424 => ((wide_Sub.f bt421.1 bt421.2 bt424.1 bt424.2).bind fun bt426 => ((round_Pack.f x0 x405000 bt426.1 bt426.2 bt406.2.2.2.2.1 bt406.2.2.2.2.2).bind fun t428 => (some t428)))) else ((round_Pack.f x0 x405000 bt421.1 bt421.2 bt406.2.2.2.2.1 bt406.2.2.2.2.2).bind fun t429 => (some t429))))))))
def sum_finite.f (k : Nat) (a0 : Int) (a1_0 : Bool) (a1_1 : Int) (a1_2 : Int) (a1_3 : Int) (a2_0 : Bool) (a2_1 : Int) (a2_2 : Int) (a2_3 : Int) : Option (Int) := if a1_2 < a2_2 then (sum_finite.j0 k a0 a2_0 a2_1 a2_2 a2_3 a1_0 a1_1 a1_2 a1_3) else (sum_finite.j0 k a0 a1_0 a1_1 a1_2 a1_3 a2_0 a2_1 a2_2 a2_3)
theorem sum_finite.mono_l : ∀ k, (∀ y0 y1 y2 y3 y4 y5 y6 y7 y8, LeO (sum_finite.j0 k y0 y1 y2 y3 y4 y5 y6 y7 y8) (sum_finite.j0 (k + 1) y0 y1 y2 y3 y4 y5 y6 y7 y8))
 | 0 => fun _ _ _ _ _ _ _ _ _ r h => by simp [sum_finite.j0] at h
 | k + 1 => by
  have ih0 := sum_finite.mono_l k
  ·intro y0 y1 y2 y3 y4 y5 y6 y7 y8
   unfold sum_finite.j0
   repeat' first
   | (with_reducible exact ih0 _ _ _ _ _ _ _ _ _)
   | (with_reducible exact LeO.refl _)
   | (with_reducible exact LeO.none _)
   | (with_reducible refine LeO.ite ?_ ?_)
   | (with_reducible refine LeO.bind ?_ (fun _ => ?_))
   | exact ih0 _ _ _ _ _ _ _ _ _
   | exact LeO.none _
   | refine LeO.ite ?_ ?_
   | refine LeO.bind ?_ (fun _ => ?_)
theorem sum_finite.mono : ∀ a0 a1 a2 a3 a4 a5 a6 a7 a8 k, LeO (sum_finite.f k a0 a1 a2 a3 a4 a5 a6 a7 a8) (sum_finite.f (k + 1) a0 a1 a2 a3 a4 a5 a6 a7 a8) := by
 intro a0 a1 a2 a3 a4 a5 a6 a7 a8 k
 have ih0 := sum_finite.mono_l k
 unfold sum_finite.f
 repeat' first
   | (with_reducible exact ih0 _ _ _ _ _ _ _ _ _)
   | (with_reducible exact LeO.refl _)
   | (with_reducible exact LeO.none _)
   | (with_reducible refine LeO.ite ?_ ?_)
   | (with_reducible refine LeO.bind ?_ (fun _ => ?_))
   | exact ih0 _ _ _ _ _ _ _ _ _
   | exact LeO.none _
   | refine LeO.ite ?_ ?_
   | refine LeO.bind ?_ (fun _ => ?_)
def sum_finite.T5 : Bool × List (List Nat × List Nat) := (true, [([], []), ([], []), ([1], [1]), ([], []), ([3], [3]), ([], []), ([5], [5]), ([4, 6], [4, 6]), ([], []), ([8], [8]), ([], []), ([10], [10]), ([0, 2, 7, 9, 11, 7], [0, 2, 7, 9, 11]), ([12, 12, 0, 1, 2, 3, 4, 5, 6, 7, 8, 9, 10, 11, 12], [12])])
def sum_finite.B5 : List Nat := [0, 0, 2, 0, 8, 0, 32, 120, 0, 256, 0, 1024, 4095, 8191]
theorem sum_finite.tab5 : rtab .any (opsOf Tryz.f219 5) = sum_finite.T5 := by kernel_rfl
theorem sum_finite.bits5 : waitsOk sum_finite.T5.2 sum_finite.B5 = true := by kernel_rfl
def sum_finite.T10 : Bool × List (List Nat × List Nat) := (true, [([], []), ([], []), ([1], [1]), ([], []), ([3], [3]), ([], []), ([5], [5]), ([4, 6], [4, 6]), ([], []), ([8], [8]), ([0, 2, 7, 9, 7], [0, 2, 7, 9]), ([10, 10, 0, 1, 2, 3, 4, 5, 6, 7, 8, 9, 10], [10])])
def sum_finite.B10 : List Nat := [0, 0, 2, 0, 8, 0, 32, 120, 0, 256, 1023, 2047]
theorem sum_finite.tab10 : rtab .any (opsOf Tryz.f219 10) = sum_finite.T10 := by kernel_rfl
theorem sum_finite.bits10 : waitsOk sum_finite.T10.2 sum_finite.B10 = true := by kernel_rfl
theorem sum_finite.calls (k : Nat) (a0 : Int) (a1_0 : Bool) (a1_1 : Int) (a1_2 : Int) (a1_3 : Int) (a2_0 : Bool) (a2_1 : Int) (a2_2 : Int) (a2_3 : Int) (r : Int) (w : World) (h : sum_finite.f k a0 a1_0 a1_1 a1_2 a1_3 a2_0 a2_1 a2_2 a2_3 = some r) :
  Calls Tryz.prog 219 #[.int .i64 a0, .agg #[.bool a1_0, .int .i64 a1_1, .int .i64 a1_2, .int .u64 a1_3], .agg #[.bool a2_0, .int .i64 a2_1, .int .i64 a2_2, .int .u64 a2_3]] w fun e w' => e = .returned (.int .u64 r) ∧ Below w.heap.size w w' := by
 have hu27 := Tryz.underlying27
 have hu202 := Tryz.underlying202
 have hu166 := Tryz.underlying166
 have HB := A_ (Below.refl w.heap.size w)
 have H : (if a1_2 < a2_2 then (sum_finite.j0 k a0 a2_0 a2_1 a2_2 a2_3 a1_0 a1_1 a1_2 a1_3) else (sum_finite.j0 k a0 a1_0 a1_1 a1_2 a1_3 a2_0 a2_1 a2_2 a2_3)) = some r := h
 clear h;have HC4 := A_ H;clear H
 go_enter Tryz.func219, Tryz.ntmps219
 go_upto_if 13 with (first | ((with_reducible refine gate_dst (N := 4) rfl ?_); refine be_ 4 #[.bool a1_0, .int .i64 a1_1, .int .i64 a1_2, .int .u64 a1_3] 27 ?_; intro gb404 hg w5 hbox hb; have BK404 := A_ (hbox); have GW404 := A_ (sz_ hg (hb_ HB.out)); have GE404 := A_ (sz_ hg (hb_ HB.out)); replace HB := A_ (below_step (hb_ HB.out) hb); clear hb hbox hg) | ((with_reducible refine gate_dst (N := 5) rfl ?_); refine be_ 5 #[.bool a2_0, .int .i64 a2_1, .int .i64 a2_2, .int .u64 a2_3] 27 ?_; intro gb405 hg w6 hbox hb; have BK405 := A_ (hbox); have GW405 := A_ (sz_ hg (hb1_ HB.out GE404.out)); have GE405 := A_ (sz_ hg (hb1_ HB.out GE404.out)); have NB404_405 := A_ (nl_ hg BK404.out); have NB405_404 := A_ (ng_ hg BK404.out); replace BK404 := A_ (bb_ BK404.out hb); replace HB := A_ (below_step (hb1_ HB.out GE404.out) hb); clear hb hbox hg; have hnb7 := NB404_405.out; have hnc7 := NB405_404.out; have hcz8_0 := bv_ BK404.out 0; have hcz8_1 := bv_ BK404.out 1; have hcz8_2 := bv_ BK404.out 2; have hcz8_3 := bv_ BK404.out 3; have hfz8_0 := blk_frozen BK404.out 0; have hfz8_1 := blk_frozen BK404.out 1; have hfz8_2 := blk_frozen BK404.out 2; have hfz8_3 := blk_frozen BK404.out 3; have hcz9_0 := bv_ BK405.out 0; have hcz9_1 := bv_ BK405.out 1; have hcz9_2 := bv_ BK405.out 2; have hcz9_3 := bv_ BK405.out 3; have hfz9_0 := blk_frozen BK405.out 0; have hfz9_1 := blk_frozen BK405.out 1; have hfz9_2 := blk_frozen BK405.out 2; have hfz9_3 := blk_frozen BK405.out 3))
 (try simp only [Act.put, lI_, l0_, lS_])
 go_cut [] (fun wc => ∃ (kq : Nat) (x405000_3 : Bool) (x405001_3 : Int) (x405002_3 : Int) (x405003_3 : Int) (x406000_3 : Bool) (x406001_3 : Int) (x406002_3 : Int) (x406003_3 : Int), Aside0 (sum_finite.j0 kq a0 x405000_3 x405001_3 x405002_3 x405003_3 x406000_3 x406001_3 x406002_3 x406003_3 = some r) ∧ Aside0 (kq ≤ k) ∧ Aside0 (wc.heap[gb404]? = some (.cells #[.bool x405000_3, .int .i64 x405001_3, .int .i64 x405002_3, .int .u64 x405003_3] 27 (0, 0))) ∧ Aside0 (wc.heap[gb405]? = some (.cells #[.bool x406000_3, .int .i64 x406001_3, .int .i64 x406002_3, .int .u64 x406003_3] 27 (0, 0))) ∧ Aside0 (Below w.heap.size w wc))
 case first =>
  have H := HC4.out
  clear HC4
  by_cases c10 : a1_2 < a2_2
  ·rw [if_pos c10] at H
   have c10b0 : decide (a1_2 < a2_2) = true := decide_eq_true c10
   clear c10
   (first | rw [c10b0] | (simp only [i64_w, i32_w]; rw [c10b0]) | skip)
   have H' := A_ H
   clear H
   have hnb11 := NB405_404.out
   have hnc11 := NB404_405.out
   have hcz12_0 := bv_ BK405.out 0
   have hcz12_1 := bv_ BK405.out 1
   have hcz12_2 := bv_ BK405.out 2
   have hcz12_3 := bv_ BK405.out 3
   have hfz12_0 := blk_frozen BK405.out 0
   have hfz12_1 := blk_frozen BK405.out 1
   have hfz12_2 := blk_frozen BK405.out 2
   have hfz12_3 := blk_frozen BK405.out 3
   have hcz13_0 := bv_ BK404.out 0
   have hcz13_1 := bv_ BK404.out 1
   have hcz13_2 := bv_ BK404.out 2
   have hcz13_3 := bv_ BK404.out 3
   have hfz13_0 := blk_frozen BK404.out 0
   have hfz13_1 := blk_frozen BK404.out 1
   have hfz13_2 := blk_frozen BK404.out 2
   have hfz13_3 := blk_frozen BK404.out 3
   go_wp2
   go_meet
   case rel => exact ⟨_, (a2_0), (a2_1), (a2_2), (a2_3), (a1_0), (a1_1), (a1_2), (a1_3), H', ⟨by first | omega | exact Nat.le_refl _⟩, ⟨by (with_reducible repeat (first | refine blk_drewN ?_ _ | refine blk_drew ?_ | refine blk_alloc ?_ _)); refine blk_far ?_ NB404_405.out _; (with_reducible repeat (first | refine blk_drewN ?_ _ | refine blk_drew ?_ | refine blk_alloc ?_ _)); refine blk_far ?_ NB404_405.out _; (with_reducible repeat (first | refine blk_drewN ?_ _ | refine blk_drew ?_ | refine blk_alloc ?_ _)); refine blk_far ?_ NB404_405.out _; (with_reducible repeat (first | refine blk_drewN ?_ _ | refine blk_drew ?_ | refine blk_alloc ?_ _)); refine blk_far ?_ NB404_405.out _; (with_reducible repeat (first | refine blk_drewN ?_ _ | refine blk_drew ?_ | refine blk_alloc ?_ _)); refine blk_put (cs := #[.bool a2_0, .int .i64 a2_1, .int .i64 a2_2, .int .u64 a1_3]) ?_ 3 _ rfl; (with_reducible repeat (first | refine blk_drewN ?_ _ | refine blk_drew ?_ | refine blk_alloc ?_ _)); refine blk_put (cs := #[.bool a2_0, .int .i64 a2_1, .int .i64 a1_2, .int .u64 a1_3]) ?_ 2 _ rfl; (with_reducible repeat (first | refine blk_drewN ?_ _ | refine blk_drew ?_ | refine blk_alloc ?_ _)); refine blk_put (cs := #[.bool a2_0, .int .i64 a1_1, .int .i64 a1_2, .int .u64 a1_3]) ?_ 1 _ rfl; (with_reducible repeat (first | refine blk_drewN ?_ _ | refine blk_drew ?_ | refine blk_alloc ?_ _)); refine blk_put (cs := #[.bool a1_0, .int .i64 a1_1, .int .i64 a1_2, .int .u64 a1_3]) ?_ 0 _ rfl; (with_reducible repeat (first | refine blk_drewN ?_ _ | refine blk_drew ?_ | refine blk_alloc ?_ _)); exact BK404.out⟩, ⟨by (with_reducible repeat (first | refine blk_drewN ?_ _ | refine blk_drew ?_ | refine blk_alloc ?_ _)); refine blk_put (cs := #[.bool a1_0, .int .i64 a1_1, .int .i64 a1_2, .int .u64 a2_3]) ?_ 3 _ rfl; (with_reducible repeat (first | refine blk_drewN ?_ _ | refine blk_drew ?_ | refine blk_alloc ?_ _)); refine blk_put (cs := #[.bool a1_0, .int .i64 a1_1, .int .i64 a2_2, .int .u64 a2_3]) ?_ 2 _ rfl; (with_reducible repeat (first | refine blk_drewN ?_ _ | refine blk_drew ?_ | refine blk_alloc ?_ _)); refine blk_put (cs := #[.bool a1_0, .int .i64 a2_1, .int .i64 a2_2, .int .u64 a2_3]) ?_ 1 _ rfl; (with_reducible repeat (first | refine blk_drewN ?_ _ | refine blk_drew ?_ | refine blk_alloc ?_ _)); refine blk_put (cs := #[.bool a2_0, .int .i64 a2_1, .int .i64 a2_2, .int .u64 a2_3]) ?_ 0 _ rfl; (with_reducible repeat (first | refine blk_drewN ?_ _ | refine blk_drew ?_ | refine blk_alloc ?_ _)); refine blk_far ?_ NB405_404.out _; (with_reducible repeat (first | refine blk_drewN ?_ _ | refine blk_drew ?_ | refine blk_alloc ?_ _)); refine blk_far ?_ NB405_404.out _; (with_reducible repeat (first | refine blk_drewN ?_ _ | refine blk_drew ?_ | refine blk_alloc ?_ _)); refine blk_far ?_ NB405_404.out _; (with_reducible repeat (first | refine blk_drewN ?_ _ | refine blk_drew ?_ | refine blk_alloc ?_ _)); refine blk_far ?_ NB405_404.out _; (with_reducible repeat (first | refine blk_drewN ?_ _ | refine blk_drew ?_ | refine blk_alloc ?_ _)); exact BK405.out⟩, ⟨hb2_ HB.out GE404.out GE405.out⟩⟩
  ·rw [if_neg c10] at H
   have c10b0 : decide (a1_2 < a2_2) = false := decide_eq_false c10
   clear c10
   (first | rw [c10b0] | (simp only [i64_w, i32_w]; rw [c10b0]) | skip)
   have H' := A_ H
   clear H
   go_wp2
   go_meet
   case rel => exact ⟨_, (a1_0), (a1_1), (a1_2), (a1_3), (a2_0), (a2_1), (a2_2), (a2_3), H', ⟨by first | omega | exact Nat.le_refl _⟩, ⟨bk_ BK404.out⟩, ⟨bk_ BK405.out⟩, ⟨hb2_ HB.out GE404.out GE405.out⟩⟩
 case rest =>
  clear HC4
  try clear c1
  try clear c2
  try clear p2
  try clear c7
  try clear c10
  try clear c10b0
  try clear c11
  try clear hcz12_0
  try clear hcz12_1
  try clear hcz12_2
  try clear hcz12_3
  try clear hcz13_0
  try clear hcz13_1
  try clear hcz13_2
  try clear hcz13_3
  try clear hcz8_0
  try clear hcz8_1
  try clear hcz8_2
  try clear hcz8_3
  try clear hcz9_0
  try clear hcz9_1
  try clear hcz9_2
  try clear hcz9_3
  try clear hfz12_0
  try clear hfz12_1
  try clear hfz12_2
  try clear hfz12_3
  try clear hfz13_0
  try clear hfz13_1
  try clear hfz13_2
  try clear hfz13_3
  try clear hfz8_0
  try clear hfz8_1
  try clear hfz8_2
  try clear hfz8_3
  try clear hfz9_0
  try clear hfz9_1
  try clear hfz9_2
  try clear hfz9_3
  obtain ⟨kq, x405000_3, x405001_3, x405002_3, x405003_3, x406000_3, x406001_3, x406002_3, x406003_3, HA, HJ3, BK404, BK405, HB⟩ := hcut
  cases kq with
  | zero => exact absurd HA.out (by simp [sum_finite.j0])
  | succ kj3 =>
   have H := HA.out
   clear HA
   simp only [sum_finite.j0] at H
   replace H := ob_ H
   obtain ⟨⟨t406, t407, t408, t409, t410, t411⟩, A140, H⟩ := H
   replace H : (if (x405000_3 == x406000_3) = true then ((wide_Add.f t406 t407 t408 t409).bind fun bt413 => ((round_Pack.f a0 x405000_3 bt413.1 bt413.2 t410 t411).bind fun t415 => (some t415))) else ((wide_Cmp.f t406 t407 t408 t409).bind fun t416 => (if t416 = 0 then ((shape_Zero.f a0 false).bind fun t417 => (some t417)) else (if t416 = (-1) then ((wide_Sub.f t408 t409 t406 t407).bind fun bt418 => ((round_Pack.f a0 x406000_3 bt418.1 bt418.2 t410 false).bind fun t420 => (some t420))) else ((wide_Sub.f t406 t407 t408 t409).bind fun bt421 => (if t411 = true then ((wide_Of.f 1).bind fun bt424 => ((wide_Sub.f bt421.1 bt421.2 bt424.1 bt424.2).bind fun bt426 => ((round_Pack.f a0 x405000_3 bt426.1 bt426.2 t410 t411).bind fun t428 => (some t428)))) else ((round_Pack.f a0 x405000_3 bt421.1 bt421.2 t410 t411).bind fun t429 => (some t429)))))))) = some r := H
   have A14 := A_ A140;clear A140
   by_cases c15 : (x405000_3 == x406000_3) = true
   ·rw [if_pos c15] at H
    have c15b0 : (x405000_3 == x406000_3) = true := c15
    (try (have c15b1 : decide (x405000_3 = x406000_3) = true := by simpa using c15))
    (try (have c15b2 : (x405000_3 == x406000_3) = true := by simpa using c15))
    clear c15
    replace H := ob_ H
    obtain ⟨⟨t413, t414⟩, A160, H⟩ := H
    replace H : ((round_Pack.f a0 x405000_3 t413 t414 t410 t411).bind fun t415 => (some t415)) = some r := H
    have A16 := A_ A160;clear A160
    replace H := ob_ H
    obtain ⟨t415, A170, H⟩ := H
    replace H : (some t415) = some r := H
    have A17 := A_ A170;clear A170
    obtain rfl := Option.some.inj H
    have hnb18 := NB404_405.out
    have hnc18 := NB405_404.out
    have hcz19_0 := bv_ BK404.out 0
    have hcz19_1 := bv_ BK404.out 1
    have hcz19_2 := bv_ BK404.out 2
    have hcz19_3 := bv_ BK404.out 3
    have hfz19_0 := blk_frozen BK404.out 0
    have hfz19_1 := blk_frozen BK404.out 1
    have hfz19_2 := blk_frozen BK404.out 2
    have hfz19_3 := blk_frozen BK404.out 3
    have hcz20_0 := bv_ BK405.out 0
    have hcz20_1 := bv_ BK405.out 1
    have hcz20_2 := bv_ BK405.out 2
    have hcz20_3 := bv_ BK405.out 3
    have hfz20_0 := blk_frozen BK405.out 0
    have hfz20_1 := blk_frozen BK405.out 1
    have hfz20_2 := blk_frozen BK405.out 2
    have hfz20_3 := blk_frozen BK405.out 3
    try go_wp2_with (first | ((with_reducible refine gate_callee (f := 247) rfl ?_); refine goesL_ (some 18) rfl rfl Tryz.func247 (by kernel_rfl) rfl #[.agg #[.bool x405000_3, .int .i64 x405001_3, .int .i64 x405002_3, .int .u64 x405003_3], .agg #[.bool x406000_3, .int .i64 x406001_3, .int .i64 x406002_3, .int .u64 x406003_3]] rfl mp_ ?_; (with_reducible refine (sum_align.calls x405000_3 x405001_3 x405002_3 x405003_3 x406000_3 x406001_3 x406002_3 x406003_3 t406 t407 t408 t409 t410 t411 _ A14.out).mono ?_); rintro e w21 ⟨rfl, hb⟩; refine ⟨_, rfl, ?_⟩; replace BK404 := A_ (bb_ BK404.out hb); replace BK405 := A_ (bb_ BK405.out hb); replace HB := A_ (below_step (hb2_ HB.out GE404.out GE405.out) hb); (try clear hb); (try clear hb2); (try clear hk); (try clear hi)) | ((with_reducible refine gate_dst (N := 7) rfl ?_); refine be_ 7 #[.int .u64 0, .int .u64 0, .int .u64 0, .int .u64 0, .int .i64 0, .bool false] 202 ?_; intro gb412 hg w22 hbox hb; have BK412 := A_ (hbox); have GW412 := A_ (sz_ hg (hb2_ HB.out GE404.out GE405.out)); have GE412 := A_ (sz_ hg (hb2_ HB.out GE404.out GE405.out)); have NB404_412 := A_ (nl_ hg BK404.out); have NB412_404 := A_ (ng_ hg BK404.out); have NB405_412 := A_ (nl_ hg BK405.out); have NB412_405 := A_ (ng_ hg BK405.out); replace BK404 := A_ (bb_ BK404.out hb); replace BK405 := A_ (bb_ BK405.out hb); replace HB := A_ (below_step (hb2_ HB.out GE404.out GE405.out) hb); clear hb hbox hg; have hnb23 := NB412_404.out; have hnc23 := NB404_412.out; have hnb24 := NB412_405.out; have hnc24 := NB405_412.out; have hcz25_0 := bv_ BK412.out 0; have hcz25_1 := bv_ BK412.out 1; have hcz25_2 := bv_ BK412.out 2; have hcz25_3 := bv_ BK412.out 3; have hcz25_4 := bv_ BK412.out 4; have hcz25_5 := bv_ BK412.out 5; have hfz25_0 := blk_frozen BK412.out 0; have hfz25_1 := blk_frozen BK412.out 1; have hfz25_2 := blk_frozen BK412.out 2; have hfz25_3 := blk_frozen BK412.out 3; have hfz25_4 := blk_frozen BK412.out 4; have hfz25_5 := blk_frozen BK412.out 5; have hcz26_0 := bv_ BK404.out 0; have hcz26_1 := bv_ BK404.out 1; have hcz26_2 := bv_ BK404.out 2; have hcz26_3 := bv_ BK404.out 3; have hfz26_0 := blk_frozen BK404.out 0; have hfz26_1 := blk_frozen BK404.out 1; have hfz26_2 := blk_frozen BK404.out 2; have hfz26_3 := blk_frozen BK404.out 3; have hcz27_0 := bv_ BK405.out 0; have hcz27_1 := bv_ BK405.out 1; have hcz27_2 := bv_ BK405.out 2; have hcz27_3 := bv_ BK405.out 3; have hfz27_0 := blk_frozen BK405.out 0; have hfz27_1 := blk_frozen BK405.out 1; have hfz27_2 := blk_frozen BK405.out 2; have hfz27_3 := blk_frozen BK405.out 3))
    have n0_ : Aside0 (((((((w22.setCell ⟨gb412, 0, none⟩ (.int .u64 t406)).setCell ⟨gb412, 1, none⟩ (.int .u64 t407)).setCell ⟨gb412, 2, none⟩ (.int .u64 t408)).setCell ⟨gb412, 3, none⟩ (.int .u64 t409)).setCell ⟨gb412, 4, none⟩ (.int .i64 t410)).setCell ⟨gb412, 5, none⟩ (.bool t411)).heap[gb404]? = some (.cells #[.bool x405000_3, .int .i64 x405001_3, .int .i64 x405002_3, .int .u64 x405003_3] 27 (0, 0))) := ⟨bf6_ BK404.out NB404_412.out NB404_412.out NB404_412.out NB404_412.out NB404_412.out NB404_412.out⟩
    have n1_ : Aside0 (((((((w22.setCell ⟨gb412, 0, none⟩ (.int .u64 t406)).setCell ⟨gb412, 1, none⟩ (.int .u64 t407)).setCell ⟨gb412, 2, none⟩ (.int .u64 t408)).setCell ⟨gb412, 3, none⟩ (.int .u64 t409)).setCell ⟨gb412, 4, none⟩ (.int .i64 t410)).setCell ⟨gb412, 5, none⟩ (.bool t411)).heap[gb405]? = some (.cells #[.bool x406000_3, .int .i64 x406001_3, .int .i64 x406002_3, .int .u64 x406003_3] 27 (0, 0))) := ⟨bf6_ BK405.out NB405_412.out NB405_412.out NB405_412.out NB405_412.out NB405_412.out NB405_412.out⟩
    have n2_ : Aside0 (((((((w22.setCell ⟨gb412, 0, none⟩ (.int .u64 t406)).setCell ⟨gb412, 1, none⟩ (.int .u64 t407)).setCell ⟨gb412, 2, none⟩ (.int .u64 t408)).setCell ⟨gb412, 3, none⟩ (.int .u64 t409)).setCell ⟨gb412, 4, none⟩ (.int .i64 t410)).setCell ⟨gb412, 5, none⟩ (.bool t411)).heap[gb412]? = some (.cells #[.int .u64 t406, .int .u64 t407, .int .u64 t408, .int .u64 t409, .int .i64 t410, .bool t411] 202 (0, 0))) := ⟨by (with_reducible repeat (first | refine blk_drewN ?_ _ | refine blk_drew ?_ | refine blk_alloc ?_ _)); refine blk_put (cs := #[.int .u64 t406, .int .u64 t407, .int .u64 t408, .int .u64 t409, .int .i64 t410, .bool false]) ?_ 5 _ rfl; (with_reducible repeat (first | refine blk_drewN ?_ _ | refine blk_drew ?_ | refine blk_alloc ?_ _)); refine blk_put (cs := #[.int .u64 t406, .int .u64 t407, .int .u64 t408, .int .u64 t409, .int .i64 0, .bool false]) ?_ 4 _ rfl; (with_reducible repeat (first | refine blk_drewN ?_ _ | refine blk_drew ?_ | refine blk_alloc ?_ _)); refine blk_put (cs := #[.int .u64 t406, .int .u64 t407, .int .u64 t408, .int .u64 0, .int .i64 0, .bool false]) ?_ 3 _ rfl; (with_reducible repeat (first | refine blk_drewN ?_ _ | refine blk_drew ?_ | refine blk_alloc ?_ _)); refine blk_put (cs := #[.int .u64 t406, .int .u64 t407, .int .u64 0, .int .u64 0, .int .i64 0, .bool false]) ?_ 2 _ rfl; (with_reducible repeat (first | refine blk_drewN ?_ _ | refine blk_drew ?_ | refine blk_alloc ?_ _)); refine blk_put (cs := #[.int .u64 t406, .int .u64 0, .int .u64 0, .int .u64 0, .int .i64 0, .bool false]) ?_ 1 _ rfl; (with_reducible repeat (first | refine blk_drewN ?_ _ | refine blk_drew ?_ | refine blk_alloc ?_ _)); refine blk_put (cs := #[.int .u64 0, .int .u64 0, .int .u64 0, .int .u64 0, .int .i64 0, .bool false]) ?_ 0 _ rfl; (with_reducible repeat (first | refine blk_drewN ?_ _ | refine blk_drew ?_ | refine blk_alloc ?_ _)); exact BK412.out⟩
    have n3_ : Aside0 (Below w.heap.size w ((((((w22.setCell ⟨gb412, 0, none⟩ (.int .u64 t406)).setCell ⟨gb412, 1, none⟩ (.int .u64 t407)).setCell ⟨gb412, 2, none⟩ (.int .u64 t408)).setCell ⟨gb412, 3, none⟩ (.int .u64 t409)).setCell ⟨gb412, 4, none⟩ (.int .i64 t410)).setCell ⟨gb412, 5, none⟩ (.bool t411))) := ⟨hb3_ HB.out GE404.out GE405.out GE412.out⟩
    (try clear BK404);(try clear BK405);(try clear BK412);(try clear HB)
    generalize ((((((w22.setCell ⟨gb412, 0, none⟩ (.int .u64 t406)).setCell ⟨gb412, 1, none⟩ (.int .u64 t407)).setCell ⟨gb412, 2, none⟩ (.int .u64 t408)).setCell ⟨gb412, 3, none⟩ (.int .u64 t409)).setCell ⟨gb412, 4, none⟩ (.int .i64 t410)).setCell ⟨gb412, 5, none⟩ (.bool t411)) = w28 at n0_ n1_ n2_ n3_ ⊢
    have BK404 := n0_;have BK405 := n1_;have BK412 := n2_;have HB := n3_;clear n0_ n1_ n2_ n3_
    replace BK404 := A_ (blk_drew BK404.out)
    replace BK405 := A_ (blk_drew BK405.out)
    replace BK412 := A_ (blk_drew BK412.out)
    replace HB := A_ (below_drew1 HB.out)
    refine start_ (n := 14) (S := fun w' => w'.cell? ⟨gb404, 0, none⟩ = some (.bool x405000_3) ∧ w'.cell? ⟨gb404, 1, none⟩ = some (.int .i64 x405001_3) ∧ w'.cell? ⟨gb404, 2, none⟩ = some (.int .i64 x405002_3) ∧ w'.cell? ⟨gb404, 3, none⟩ = some (.int .u64 x405003_3) ∧ w'.cell? ⟨gb412, 0, none⟩ = some (.int .u64 t406) ∧ w'.cell? ⟨gb412, 1, none⟩ = some (.int .u64 t407) ∧ w'.cell? ⟨gb412, 2, none⟩ = some (.int .u64 t408) ∧ w'.cell? ⟨gb412, 3, none⟩ = some (.int .u64 t409) ∧ w'.cell? ⟨gb412, 4, none⟩ = some (.int .i64 t410) ∧ w'.cell? ⟨gb412, 5, none⟩ = some (.bool t411)) (ds := []) #[false, false, false, false, false, false, false, false, false, false, false, false, false, false] (by kernel_rfl) rfl rfl ⟨bc_ BK404.out 0, bc_ BK404.out 1, bc_ BK404.out 2, bc_ BK404.out 3, bc_ BK412.out 0, bc_ BK412.out 1, bc_ BK412.out 2, bc_ BK412.out 3, bc_ BK412.out 4, bc_ BK412.out 5⟩ (fun hHeld => ?_); refine with_tabW sum_finite.tab5 sum_finite.bits5 (fun HT_ HW_ => ?_)
    generalize w28.drew = w29 at BK404 BK405 BK412 HB hHeld ⊢
    refine pu_ 0 (some 24) #[true, false, false, false, false, false, false, false, false, false, false, false, false, false] rfl rfl (any_of HT_.out (by kernel_rfl)) ?_
    refine pu_ 1 (some 25) #[true, true, false, false, false, false, false, false, false, false, false, false, false, false] rfl rfl (any_of HT_.out (by kernel_rfl)) ?_
    refine pu_ 3 (some 27) #[true, true, false, true, false, false, false, false, false, false, false, false, false, false] rfl rfl (any_of HT_.out (by kernel_rfl)) ?_
    refine pu_ 5 (some 29) #[true, true, false, true, false, true, false, false, false, false, false, false, false, false] rfl rfl (any_of HT_.out (by kernel_rfl)) ?_
    refine pu_ 8 (some 32) #[true, true, false, true, false, true, false, false, true, false, false, false, false, false] rfl rfl (any_of HT_.out (by kernel_rfl)) ?_
    refine pu_ 10 (some 34) #[true, true, false, true, false, true, false, false, true, false, true, false, false, false] rfl rfl (any_of HT_.out (by kernel_rfl)) ?_
    refine take_ (i := 2) (N := some 26) (v := ?_) (a' := ?_) #[true, true, true, true, false, true, false, false, true, false, true, false, false, false] rfl rfl (take_ofW HT_.out HW_.out (by kernel_rfl)) (fun _ _ _ h => h) (Or.inl ⟨by rfl, ?_⟩) hHeld ?_ ?_
    rotate_left
    ·rintro w' ⟨s0, s1, s2, s3, s4, s5, s6, s7, s8, s9⟩
     go_simp
     with_reducible rfl
    rotate_left
    ·simp only [Act.put, lI_, l0_, lS_, i64_w, i32_w]
     rfl
    refine take_ (i := 4) (N := some 28) (v := ?_) (a' := ?_) #[true, true, true, true, true, true, false, false, true, false, true, false, false, false] rfl rfl (take_ofW HT_.out HW_.out (by kernel_rfl)) (fun _ _ _ h => h) (Or.inl ⟨by rfl, ?_⟩) hHeld ?_ ?_
    rotate_left
    ·rintro w' ⟨s0, s1, s2, s3, s4, s5, s6, s7, s8, s9⟩
     go_simp
     with_reducible rfl
    rotate_left
    ·simp only [Act.put, lI_, l0_, lS_, i64_w, i32_w]
     rfl
    refine take_ (i := 6) (N := some 30) (v := ?_) (a' := ?_) #[true, true, true, true, true, true, true, false, true, false, true, false, false, false] rfl rfl (take_ofW HT_.out HW_.out (by kernel_rfl)) (fun _ _ _ h => h) (Or.inl ⟨by rfl, ?_⟩) hHeld ?_ ?_
    rotate_left
    ·rintro w' ⟨s0, s1, s2, s3, s4, s5, s6, s7, s8, s9⟩
     go_simp
     with_reducible rfl
    rotate_left
    ·simp only [Act.put, lI_, l0_, lS_, i64_w, i32_w]
     rfl
    refine take_ (i := 9) (N := some 33) (v := ?_) (a' := ?_) #[true, true, true, true, true, true, true, false, true, true, true, false, false, false] rfl rfl (take_ofW HT_.out HW_.out (by kernel_rfl)) (fun _ _ _ h => h) (Or.inl ⟨by rfl, ?_⟩) hHeld ?_ ?_
    rotate_left
    ·rintro w' ⟨s0, s1, s2, s3, s4, s5, s6, s7, s8, s9⟩
     go_simp
     with_reducible rfl
    rotate_left
    ·simp only [Act.put, lI_, l0_, lS_, i64_w, i32_w]
     rfl
    refine take_ (i := 11) (N := some 35) (v := ?_) (a' := ?_) #[true, true, true, true, true, true, true, false, true, true, true, true, false, false] rfl rfl (take_ofW HT_.out HW_.out (by kernel_rfl)) (fun _ _ _ h => h) (Or.inl ⟨by rfl, ?_⟩) hHeld ?_ ?_
    rotate_left
    ·rintro w' ⟨s0, s1, s2, s3, s4, s5, s6, s7, s8, s9⟩
     go_simp
     with_reducible rfl
    rotate_left
    ·simp only [Act.put, lI_, l0_, lS_, i64_w, i32_w]
     rfl
    refine one_ (i := 7) (N := some 31) #[true, true, true, true, true, true, true, true, true, true, true, true, false, false] rfl rfl (one_of HT_.out (by kernel_rfl)) (by decide) (fun K hK => ?_)
    refine goes_ Tryz.func241 (by kernel_rfl) rfl #[.agg #[.int .u64 t406, .int .u64 t407], .agg #[.int .u64 t408, .int .u64 t409]] (by rfl) rfl rfl mp_ ?_
    with_reducible refine (wide_Add.calls t406 t407 t408 t409 t413 t414 _ A16.out).mono ?_
    rintro e w30 ⟨rfl, hb⟩
    refine ⟨_, rfl, ?_⟩
    replace BK404 := A_ (bb_ BK404.out hb)
    replace BK405 := A_ (bb_ BK405.out hb)
    replace BK412 := A_ (bb_ BK412.out hb)
    replace HB := A_ (below_step (hb3_ HB.out GE404.out GE405.out GE412.out) hb);(try clear hb);(try clear hb2);(try clear hk);(try clear hi)
    refine hK.out _ _ ⟨bc_ BK404.out 0, bc_ BK404.out 1, bc_ BK404.out 2, bc_ BK404.out 3, bc_ BK412.out 0, bc_ BK412.out 1, bc_ BK412.out 2, bc_ BK412.out 3, bc_ BK412.out 4, bc_ BK412.out 5⟩ (fun hHeld => ?_)
    clear hK K
    refine norm_ (a' := ?_) ?_ ?_
    rotate_left
    ·show Act.put _ (some 31) _ = _
     simp only [Act.put, lI_, l0_, lS_, i64_w, i32_w]
     rfl
    refine one_ (i := 12) (N := some 36) #[true, true, true, true, true, true, true, true, true, true, true, true, true, false] rfl rfl (one_of HT_.out (by kernel_rfl)) (by decide) (fun K hK => ?_)
    refine goes_ Tryz.func214 (by kernel_rfl) rfl #[.int .i64 a0, .bool x405000_3, .agg #[.int .u64 t413, .int .u64 t414], .int .i64 t410, .bool t411] (by rfl) rfl rfl mp_ ?_
    with_reducible refine (round_Pack.calls a0 x405000_3 t413 t414 t410 t411 t415 _ A17.out).mono ?_
    rintro e w31 ⟨rfl, hb⟩
    refine ⟨_, rfl, ?_⟩
    replace BK404 := A_ (bb_ BK404.out hb)
    replace BK405 := A_ (bb_ BK405.out hb)
    replace BK412 := A_ (bb_ BK412.out hb)
    replace HB := A_ (below_step (hb3_ HB.out GE404.out GE405.out GE412.out) hb);(try clear hb);(try clear hb2);(try clear hk);(try clear hi)
    refine hK.out _ _ ⟨bc_ BK404.out 0, bc_ BK404.out 1, bc_ BK404.out 2, bc_ BK404.out 3, bc_ BK412.out 0, bc_ BK412.out 1, bc_ BK412.out 2, bc_ BK412.out 3, bc_ BK412.out 4, bc_ BK412.out 5⟩ (fun hHeld => ?_)
    clear hK K
    refine norm_ (a' := ?_) ?_ ?_
    rotate_left
    ·show Act.put _ (some 36) _ = _
     simp only [Act.put, lI_, l0_, lS_, i64_w, i32_w]
     rfl
    refine pu_ 13 (some 6) #[true, true, true, true, true, true, true, true, true, true, true, true, true, true] rfl rfl (any_of HT_.out (by kernel_rfl)) ?_
    refine done_ (done_of HT_.out (by kernel_rfl)) ?_
    try go_wp2
    go_ret
    exact ⟨er_, hb3_ HB.out GE404.out GE405.out GE412.out⟩
   ·rw [if_neg c15] at H
    have c15b0 : (x405000_3 == x406000_3) = false := by simpa using c15
    (try (have c15b1 : decide (x405000_3 = x406000_3) = false := by simpa using c15))
    (try (have c15b2 : (x405000_3 == x406000_3) = false := by simpa using c15))
    (try (have c15b3 : ¬ (x405000_3 = x406000_3) := by simpa using c15))
    clear c15
    replace H := ob_ H
    obtain ⟨t416, A320, H⟩ := H
    replace H : (if t416 = 0 then ((shape_Zero.f a0 false).bind fun t417 => (some t417)) else (if t416 = (-1) then ((wide_Sub.f t408 t409 t406 t407).bind fun bt418 => ((round_Pack.f a0 x406000_3 bt418.1 bt418.2 t410 false).bind fun t420 => (some t420))) else ((wide_Sub.f t406 t407 t408 t409).bind fun bt421 => (if t411 = true then ((wide_Of.f 1).bind fun bt424 => ((wide_Sub.f bt421.1 bt421.2 bt424.1 bt424.2).bind fun bt426 => ((round_Pack.f a0 x405000_3 bt426.1 bt426.2 t410 t411).bind fun t428 => (some t428)))) else ((round_Pack.f a0 x405000_3 bt421.1 bt421.2 t410 t411).bind fun t429 => (some t429)))))) = some r := H
    have A32 := A_ A320;clear A320
    by_cases c33 : t416 = 0
    ·rw [if_pos c33] at H
     have c33b0 : (t416 == 0) = true := beq_iff_eq.mpr c33
     have c33b1 : (t416 != 0) = false := bne_eq_false_iff_eq.mpr c33
     clear c33
     replace H := ob_ H
     obtain ⟨t417, A340, H⟩ := H
     replace H : (some t417) = some r := H
     have A34 := A_ A340;clear A340
     obtain rfl := Option.some.inj H
     have hnb35 := NB404_405.out
     have hnc35 := NB405_404.out
     have hcz36_0 := bv_ BK404.out 0
     have hcz36_1 := bv_ BK404.out 1
     have hcz36_2 := bv_ BK404.out 2
     have hcz36_3 := bv_ BK404.out 3
     have hfz36_0 := blk_frozen BK404.out 0
     have hfz36_1 := blk_frozen BK404.out 1
     have hfz36_2 := blk_frozen BK404.out 2
     have hfz36_3 := blk_frozen BK404.out 3
     have hcz37_0 := bv_ BK405.out 0
     have hcz37_1 := bv_ BK405.out 1
     have hcz37_2 := bv_ BK405.out 2
     have hcz37_3 := bv_ BK405.out 3
     have hfz37_0 := blk_frozen BK405.out 0
     have hfz37_1 := blk_frozen BK405.out 1
     have hfz37_2 := blk_frozen BK405.out 2
     have hfz37_3 := blk_frozen BK405.out 3
     go_wp2_with (first | ((with_reducible refine gate_callee (f := 247) rfl ?_); refine goesL_ (some 18) rfl rfl Tryz.func247 (by kernel_rfl) rfl #[.agg #[.bool x405000_3, .int .i64 x405001_3, .int .i64 x405002_3, .int .u64 x405003_3], .agg #[.bool x406000_3, .int .i64 x406001_3, .int .i64 x406002_3, .int .u64 x406003_3]] rfl mp_ ?_; (with_reducible refine (sum_align.calls x405000_3 x405001_3 x405002_3 x405003_3 x406000_3 x406001_3 x406002_3 x406003_3 t406 t407 t408 t409 t410 t411 _ A14.out).mono ?_); rintro e w38 ⟨rfl, hb⟩; refine ⟨_, rfl, ?_⟩; replace BK404 := A_ (bb_ BK404.out hb); replace BK405 := A_ (bb_ BK405.out hb); replace HB := A_ (below_step (hb2_ HB.out GE404.out GE405.out) hb); (try clear hb); (try clear hb2); (try clear hk); (try clear hi)) | ((with_reducible refine gate_dst (N := 7) rfl ?_); refine be_ 7 #[.int .u64 0, .int .u64 0, .int .u64 0, .int .u64 0, .int .i64 0, .bool false] 202 ?_; intro gb412 hg w39 hbox hb; have BK412 := A_ (hbox); have GW412 := A_ (sz_ hg (hb2_ HB.out GE404.out GE405.out)); have GE412 := A_ (sz_ hg (hb2_ HB.out GE404.out GE405.out)); have NB404_412 := A_ (nl_ hg BK404.out); have NB412_404 := A_ (ng_ hg BK404.out); have NB405_412 := A_ (nl_ hg BK405.out); have NB412_405 := A_ (ng_ hg BK405.out); replace BK404 := A_ (bb_ BK404.out hb); replace BK405 := A_ (bb_ BK405.out hb); replace HB := A_ (below_step (hb2_ HB.out GE404.out GE405.out) hb); clear hb hbox hg; have hnb40 := NB412_404.out; have hnc40 := NB404_412.out; have hnb41 := NB412_405.out; have hnc41 := NB405_412.out; have hcz42_0 := bv_ BK412.out 0; have hcz42_1 := bv_ BK412.out 1; have hcz42_2 := bv_ BK412.out 2; have hcz42_3 := bv_ BK412.out 3; have hcz42_4 := bv_ BK412.out 4; have hcz42_5 := bv_ BK412.out 5; have hfz42_0 := blk_frozen BK412.out 0; have hfz42_1 := blk_frozen BK412.out 1; have hfz42_2 := blk_frozen BK412.out 2; have hfz42_3 := blk_frozen BK412.out 3; have hfz42_4 := blk_frozen BK412.out 4; have hfz42_5 := blk_frozen BK412.out 5; have hcz43_0 := bv_ BK404.out 0; have hcz43_1 := bv_ BK404.out 1; have hcz43_2 := bv_ BK404.out 2; have hcz43_3 := bv_ BK404.out 3; have hfz43_0 := blk_frozen BK404.out 0; have hfz43_1 := blk_frozen BK404.out 1; have hfz43_2 := blk_frozen BK404.out 2; have hfz43_3 := blk_frozen BK404.out 3; have hcz44_0 := bv_ BK405.out 0; have hcz44_1 := bv_ BK405.out 1; have hcz44_2 := bv_ BK405.out 2; have hcz44_3 := bv_ BK405.out 3; have hfz44_0 := blk_frozen BK405.out 0; have hfz44_1 := blk_frozen BK405.out 1; have hfz44_2 := blk_frozen BK405.out 2; have hfz44_3 := blk_frozen BK405.out 3) | ((with_reducible refine gate_callee (f := 246) rfl ?_); refine goesL_ (some 41) rfl rfl Tryz.func246 (by kernel_rfl) rfl #[.agg #[.int .u64 t406, .int .u64 t407], .agg #[.int .u64 t408, .int .u64 t409]] rfl mp_ ?_; (with_reducible refine (wide_Cmp.calls t406 t407 t408 t409 t416 _ A32.out).mono ?_); rintro e w45 ⟨rfl, hb⟩; refine ⟨_, rfl, ?_⟩; replace BK404 := A_ (blk_below (g := gb404) (o := .cells #[.bool x405000_3, .int .i64 x405001_3, .int .i64 x405002_3, .int .u64 x405003_3] 27 (0, 0)) (bf6_ BK404.out NB404_412.out NB404_412.out NB404_412.out NB404_412.out NB404_412.out NB404_412.out) hb); replace BK405 := A_ (blk_below (g := gb405) (o := .cells #[.bool x406000_3, .int .i64 x406001_3, .int .i64 x406002_3, .int .u64 x406003_3] 27 (0, 0)) (bf6_ BK405.out NB405_412.out NB405_412.out NB405_412.out NB405_412.out NB405_412.out NB405_412.out) hb); replace BK412 := A_ (blk_below (g := gb412) (o := .cells #[.int .u64 t406, .int .u64 t407, .int .u64 t408, .int .u64 t409, .int .i64 t410, .bool t411] 202 (0, 0)) (by (with_reducible repeat (first | refine blk_drewN ?_ _ | refine blk_drew ?_ | refine blk_alloc ?_ _)); refine blk_put (cs := #[.int .u64 t406, .int .u64 t407, .int .u64 t408, .int .u64 t409, .int .i64 t410, .bool false]) ?_ 5 _ rfl; (with_reducible repeat (first | refine blk_drewN ?_ _ | refine blk_drew ?_ | refine blk_alloc ?_ _)); refine blk_put (cs := #[.int .u64 t406, .int .u64 t407, .int .u64 t408, .int .u64 t409, .int .i64 0, .bool false]) ?_ 4 _ rfl; (with_reducible repeat (first | refine blk_drewN ?_ _ | refine blk_drew ?_ | refine blk_alloc ?_ _)); refine blk_put (cs := #[.int .u64 t406, .int .u64 t407, .int .u64 t408, .int .u64 0, .int .i64 0, .bool false]) ?_ 3 _ rfl; (with_reducible repeat (first | refine blk_drewN ?_ _ | refine blk_drew ?_ | refine blk_alloc ?_ _)); refine blk_put (cs := #[.int .u64 t406, .int .u64 t407, .int .u64 0, .int .u64 0, .int .i64 0, .bool false]) ?_ 2 _ rfl; (with_reducible repeat (first | refine blk_drewN ?_ _ | refine blk_drew ?_ | refine blk_alloc ?_ _)); refine blk_put (cs := #[.int .u64 t406, .int .u64 0, .int .u64 0, .int .u64 0, .int .i64 0, .bool false]) ?_ 1 _ rfl; (with_reducible repeat (first | refine blk_drewN ?_ _ | refine blk_drew ?_ | refine blk_alloc ?_ _)); refine blk_put (cs := #[.int .u64 0, .int .u64 0, .int .u64 0, .int .u64 0, .int .i64 0, .bool false]) ?_ 0 _ rfl; (with_reducible repeat (first | refine blk_drewN ?_ _ | refine blk_drew ?_ | refine blk_alloc ?_ _)); exact BK412.out) hb); replace HB := A_ (below_step (hb3_ HB.out GE404.out GE405.out GE412.out) hb); (try clear hb); (try clear hb2); (try clear hk); (try clear hi)) | ((with_reducible refine gate_callee (f := 145) rfl ?_); refine goesL_ (some 45) rfl rfl Tryz.func145 (by kernel_rfl) rfl #[.int .i64 a0, .bool false] rfl mp_ ?_; (with_reducible refine (shape_Zero.calls a0 false t417 _ A34.out).mono ?_); rintro e w46 ⟨rfl, hb⟩; refine ⟨_, rfl, ?_⟩; replace BK404 := A_ (bb_ BK404.out hb); replace BK405 := A_ (bb_ BK405.out hb); replace BK412 := A_ (bb_ BK412.out hb); replace HB := A_ (below_step (hb3_ HB.out GE404.out GE405.out GE412.out) hb); (try clear hb); (try clear hb2); (try clear hk); (try clear hi)))
     go_ret
     exact ⟨er_, hb3_ HB.out GE404.out GE405.out GE412.out⟩
    ·rw [if_neg c33] at H
     have c33b0 : (t416 == 0) = false := beq_eq_false_iff_ne.mpr c33
     have c33b1 : (t416 != 0) = true := bne_iff_ne.mpr c33
     by_cases c47 : t416 = (-1)
     ·rw [if_pos c47] at H
      have c47b0 : (t416 == (-1)) = true := beq_iff_eq.mpr c47
      have c47b1 : (t416 != (-1)) = false := bne_eq_false_iff_eq.mpr c47
      clear c47
      replace H := ob_ H
      obtain ⟨⟨t418, t419⟩, A480, H⟩ := H
      replace H : ((round_Pack.f a0 x406000_3 t418 t419 t410 false).bind fun t420 => (some t420)) = some r := H
      have A48 := A_ A480;clear A480
      replace H := ob_ H
      obtain ⟨t420, A490, H⟩ := H
      replace H : (some t420) = some r := H
      have A49 := A_ A490;clear A490
      obtain rfl := Option.some.inj H
      have hnb50 := NB404_405.out
      have hnc50 := NB405_404.out
      have hcz51_0 := bv_ BK404.out 0
      have hcz51_1 := bv_ BK404.out 1
      have hcz51_2 := bv_ BK404.out 2
      have hcz51_3 := bv_ BK404.out 3
      have hfz51_0 := blk_frozen BK404.out 0
      have hfz51_1 := blk_frozen BK404.out 1
      have hfz51_2 := blk_frozen BK404.out 2
      have hfz51_3 := blk_frozen BK404.out 3
      have hcz52_0 := bv_ BK405.out 0
      have hcz52_1 := bv_ BK405.out 1
      have hcz52_2 := bv_ BK405.out 2
      have hcz52_3 := bv_ BK405.out 3
      have hfz52_0 := blk_frozen BK405.out 0
      have hfz52_1 := blk_frozen BK405.out 1
      have hfz52_2 := blk_frozen BK405.out 2
      have hfz52_3 := blk_frozen BK405.out 3
      try go_wp2_with (first | ((with_reducible refine gate_callee (f := 247) rfl ?_); refine goesL_ (some 18) rfl rfl Tryz.func247 (by kernel_rfl) rfl #[.agg #[.bool x405000_3, .int .i64 x405001_3, .int .i64 x405002_3, .int .u64 x405003_3], .agg #[.bool x406000_3, .int .i64 x406001_3, .int .i64 x406002_3, .int .u64 x406003_3]] rfl mp_ ?_; (with_reducible refine (sum_align.calls x405000_3 x405001_3 x405002_3 x405003_3 x406000_3 x406001_3 x406002_3 x406003_3 t406 t407 t408 t409 t410 t411 _ A14.out).mono ?_); rintro e w53 ⟨rfl, hb⟩; refine ⟨_, rfl, ?_⟩; replace BK404 := A_ (bb_ BK404.out hb); replace BK405 := A_ (bb_ BK405.out hb); replace HB := A_ (below_step (hb2_ HB.out GE404.out GE405.out) hb); (try clear hb); (try clear hb2); (try clear hk); (try clear hi)) | ((with_reducible refine gate_dst (N := 7) rfl ?_); refine be_ 7 #[.int .u64 0, .int .u64 0, .int .u64 0, .int .u64 0, .int .i64 0, .bool false] 202 ?_; intro gb412 hg w54 hbox hb; have BK412 := A_ (hbox); have GW412 := A_ (sz_ hg (hb2_ HB.out GE404.out GE405.out)); have GE412 := A_ (sz_ hg (hb2_ HB.out GE404.out GE405.out)); have NB404_412 := A_ (nl_ hg BK404.out); have NB412_404 := A_ (ng_ hg BK404.out); have NB405_412 := A_ (nl_ hg BK405.out); have NB412_405 := A_ (ng_ hg BK405.out); replace BK404 := A_ (bb_ BK404.out hb); replace BK405 := A_ (bb_ BK405.out hb); replace HB := A_ (below_step (hb2_ HB.out GE404.out GE405.out) hb); clear hb hbox hg; have hnb55 := NB412_404.out; have hnc55 := NB404_412.out; have hnb56 := NB412_405.out; have hnc56 := NB405_412.out; have hcz57_0 := bv_ BK412.out 0; have hcz57_1 := bv_ BK412.out 1; have hcz57_2 := bv_ BK412.out 2; have hcz57_3 := bv_ BK412.out 3; have hcz57_4 := bv_ BK412.out 4; have hcz57_5 := bv_ BK412.out 5; have hfz57_0 := blk_frozen BK412.out 0; have hfz57_1 := blk_frozen BK412.out 1; have hfz57_2 := blk_frozen BK412.out 2; have hfz57_3 := blk_frozen BK412.out 3; have hfz57_4 := blk_frozen BK412.out 4; have hfz57_5 := blk_frozen BK412.out 5; have hcz58_0 := bv_ BK404.out 0; have hcz58_1 := bv_ BK404.out 1; have hcz58_2 := bv_ BK404.out 2; have hcz58_3 := bv_ BK404.out 3; have hfz58_0 := blk_frozen BK404.out 0; have hfz58_1 := blk_frozen BK404.out 1; have hfz58_2 := blk_frozen BK404.out 2; have hfz58_3 := blk_frozen BK404.out 3; have hcz59_0 := bv_ BK405.out 0; have hcz59_1 := bv_ BK405.out 1; have hcz59_2 := bv_ BK405.out 2; have hcz59_3 := bv_ BK405.out 3; have hfz59_0 := blk_frozen BK405.out 0; have hfz59_1 := blk_frozen BK405.out 1; have hfz59_2 := blk_frozen BK405.out 2; have hfz59_3 := blk_frozen BK405.out 3) | ((with_reducible refine gate_callee (f := 246) rfl ?_); refine goesL_ (some 41) rfl rfl Tryz.func246 (by kernel_rfl) rfl #[.agg #[.int .u64 t406, .int .u64 t407], .agg #[.int .u64 t408, .int .u64 t409]] rfl mp_ ?_; (with_reducible refine (wide_Cmp.calls t406 t407 t408 t409 t416 _ A32.out).mono ?_); rintro e w60 ⟨rfl, hb⟩; refine ⟨_, rfl, ?_⟩; replace BK404 := A_ (blk_below (g := gb404) (o := .cells #[.bool x405000_3, .int .i64 x405001_3, .int .i64 x405002_3, .int .u64 x405003_3] 27 (0, 0)) (bf6_ BK404.out NB404_412.out NB404_412.out NB404_412.out NB404_412.out NB404_412.out NB404_412.out) hb); replace BK405 := A_ (blk_below (g := gb405) (o := .cells #[.bool x406000_3, .int .i64 x406001_3, .int .i64 x406002_3, .int .u64 x406003_3] 27 (0, 0)) (bf6_ BK405.out NB405_412.out NB405_412.out NB405_412.out NB405_412.out NB405_412.out NB405_412.out) hb); replace BK412 := A_ (blk_below (g := gb412) (o := .cells #[.int .u64 t406, .int .u64 t407, .int .u64 t408, .int .u64 t409, .int .i64 t410, .bool t411] 202 (0, 0)) (by (with_reducible repeat (first | refine blk_drewN ?_ _ | refine blk_drew ?_ | refine blk_alloc ?_ _)); refine blk_put (cs := #[.int .u64 t406, .int .u64 t407, .int .u64 t408, .int .u64 t409, .int .i64 t410, .bool false]) ?_ 5 _ rfl; (with_reducible repeat (first | refine blk_drewN ?_ _ | refine blk_drew ?_ | refine blk_alloc ?_ _)); refine blk_put (cs := #[.int .u64 t406, .int .u64 t407, .int .u64 t408, .int .u64 t409, .int .i64 0, .bool false]) ?_ 4 _ rfl; (with_reducible repeat (first | refine blk_drewN ?_ _ | refine blk_drew ?_ | refine blk_alloc ?_ _)); refine blk_put (cs := #[.int .u64 t406, .int .u64 t407, .int .u64 t408, .int .u64 0, .int .i64 0, .bool false]) ?_ 3 _ rfl; (with_reducible repeat (first | refine blk_drewN ?_ _ | refine blk_drew ?_ | refine blk_alloc ?_ _)); refine blk_put (cs := #[.int .u64 t406, .int .u64 t407, .int .u64 0, .int .u64 0, .int .i64 0, .bool false]) ?_ 2 _ rfl; (with_reducible repeat (first | refine blk_drewN ?_ _ | refine blk_drew ?_ | refine blk_alloc ?_ _)); refine blk_put (cs := #[.int .u64 t406, .int .u64 0, .int .u64 0, .int .u64 0, .int .i64 0, .bool false]) ?_ 1 _ rfl; (with_reducible repeat (first | refine blk_drewN ?_ _ | refine blk_drew ?_ | refine blk_alloc ?_ _)); refine blk_put (cs := #[.int .u64 0, .int .u64 0, .int .u64 0, .int .u64 0, .int .i64 0, .bool false]) ?_ 0 _ rfl; (with_reducible repeat (first | refine blk_drewN ?_ _ | refine blk_drew ?_ | refine blk_alloc ?_ _)); exact BK412.out) hb); replace HB := A_ (below_step (hb3_ HB.out GE404.out GE405.out GE412.out) hb); (try clear hb); (try clear hb2); (try clear hk); (try clear hi)))
      replace BK404 := A_ (blk_drew BK404.out)
      replace BK405 := A_ (blk_drew BK405.out)
      replace BK412 := A_ (blk_drew BK412.out)
      replace HB := A_ (below_drew1 HB.out)
      refine start_ (n := 12) (S := fun w' => w'.cell? ⟨gb405, 0, none⟩ = some (.bool x406000_3) ∧ w'.cell? ⟨gb405, 1, none⟩ = some (.int .i64 x406001_3) ∧ w'.cell? ⟨gb405, 2, none⟩ = some (.int .i64 x406002_3) ∧ w'.cell? ⟨gb405, 3, none⟩ = some (.int .u64 x406003_3) ∧ w'.cell? ⟨gb412, 0, none⟩ = some (.int .u64 t406) ∧ w'.cell? ⟨gb412, 1, none⟩ = some (.int .u64 t407) ∧ w'.cell? ⟨gb412, 2, none⟩ = some (.int .u64 t408) ∧ w'.cell? ⟨gb412, 3, none⟩ = some (.int .u64 t409) ∧ w'.cell? ⟨gb412, 4, none⟩ = some (.int .i64 t410) ∧ w'.cell? ⟨gb412, 5, none⟩ = some (.bool t411)) (ds := []) #[false, false, false, false, false, false, false, false, false, false, false, false] (by kernel_rfl) rfl rfl ⟨bc_ BK405.out 0, bc_ BK405.out 1, bc_ BK405.out 2, bc_ BK405.out 3, bc_ BK412.out 0, bc_ BK412.out 1, bc_ BK412.out 2, bc_ BK412.out 3, bc_ BK412.out 4, bc_ BK412.out 5⟩ (fun hHeld => ?_); refine with_tabW sum_finite.tab10 sum_finite.bits10 (fun HT_ HW_ => ?_)
      generalize w60.drew = w61 at BK404 BK405 BK412 HB hHeld ⊢
      refine pu_ 0 (some 48) #[true, false, false, false, false, false, false, false, false, false, false, false] rfl rfl (any_of HT_.out (by kernel_rfl)) ?_
      refine pu_ 1 (some 49) #[true, true, false, false, false, false, false, false, false, false, false, false] rfl rfl (any_of HT_.out (by kernel_rfl)) ?_
      refine pu_ 3 (some 51) #[true, true, false, true, false, false, false, false, false, false, false, false] rfl rfl (any_of HT_.out (by kernel_rfl)) ?_
      refine pu_ 5 (some 53) #[true, true, false, true, false, true, false, false, false, false, false, false] rfl rfl (any_of HT_.out (by kernel_rfl)) ?_
      refine pu_ 8 (some 56) #[true, true, false, true, false, true, false, false, true, false, false, false] rfl rfl (any_of HT_.out (by kernel_rfl)) ?_
      refine take_ (i := 2) (N := some 50) (v := ?_) (a' := ?_) #[true, true, true, true, false, true, false, false, true, false, false, false] rfl rfl (take_ofW HT_.out HW_.out (by kernel_rfl)) (fun _ _ _ h => h) (Or.inl ⟨by rfl, ?_⟩) hHeld ?_ ?_
      rotate_left
      ·rintro w' ⟨s0, s1, s2, s3, s4, s5, s6, s7, s8, s9⟩
       go_simp
       with_reducible rfl
      rotate_left
      ·simp only [Act.put, lI_, l0_, lS_, i64_w, i32_w]
       rfl
      refine take_ (i := 4) (N := some 52) (v := ?_) (a' := ?_) #[true, true, true, true, true, true, false, false, true, false, false, false] rfl rfl (take_ofW HT_.out HW_.out (by kernel_rfl)) (fun _ _ _ h => h) (Or.inl ⟨by rfl, ?_⟩) hHeld ?_ ?_
      rotate_left
      ·rintro w' ⟨s0, s1, s2, s3, s4, s5, s6, s7, s8, s9⟩
       go_simp
       with_reducible rfl
      rotate_left
      ·simp only [Act.put, lI_, l0_, lS_, i64_w, i32_w]
       rfl
      refine take_ (i := 6) (N := some 54) (v := ?_) (a' := ?_) #[true, true, true, true, true, true, true, false, true, false, false, false] rfl rfl (take_ofW HT_.out HW_.out (by kernel_rfl)) (fun _ _ _ h => h) (Or.inl ⟨by rfl, ?_⟩) hHeld ?_ ?_
      rotate_left
      ·rintro w' ⟨s0, s1, s2, s3, s4, s5, s6, s7, s8, s9⟩
       go_simp
       with_reducible rfl
      rotate_left
      ·simp only [Act.put, lI_, l0_, lS_, i64_w, i32_w]
       rfl
      refine take_ (i := 9) (N := some 57) (v := ?_) (a' := ?_) #[true, true, true, true, true, true, true, false, true, true, false, false] rfl rfl (take_ofW HT_.out HW_.out (by kernel_rfl)) (fun _ _ _ h => h) (Or.inl ⟨by rfl, ?_⟩) hHeld ?_ ?_
      rotate_left
      ·rintro w' ⟨s0, s1, s2, s3, s4, s5, s6, s7, s8, s9⟩
       go_simp
       with_reducible rfl
      rotate_left
      ·simp only [Act.put, lI_, l0_, lS_, i64_w, i32_w]
       rfl
      refine one_ (i := 7) (N := some 55) #[true, true, true, true, true, true, true, true, true, true, false, false] rfl rfl (one_of HT_.out (by kernel_rfl)) (by decide) (fun K hK => ?_)
      refine goes_ Tryz.func248 (by kernel_rfl) rfl #[.agg #[.int .u64 t408, .int .u64 t409], .agg #[.int .u64 t406, .int .u64 t407]] (by rfl) rfl rfl mp_ ?_
      with_reducible refine (wide_Sub.calls t408 t409 t406 t407 t418 t419 _ A48.out).mono ?_
      rintro e w62 ⟨rfl, hb⟩
      refine ⟨_, rfl, ?_⟩
      replace BK404 := A_ (bb_ BK404.out hb)
      replace BK405 := A_ (bb_ BK405.out hb)
      replace BK412 := A_ (bb_ BK412.out hb)
      replace HB := A_ (below_step (hb3_ HB.out GE404.out GE405.out GE412.out) hb);(try clear hb);(try clear hb2);(try clear hk);(try clear hi)
      refine hK.out _ _ ⟨bc_ BK405.out 0, bc_ BK405.out 1, bc_ BK405.out 2, bc_ BK405.out 3, bc_ BK412.out 0, bc_ BK412.out 1, bc_ BK412.out 2, bc_ BK412.out 3, bc_ BK412.out 4, bc_ BK412.out 5⟩ (fun hHeld => ?_)
      clear hK K
      refine norm_ (a' := ?_) ?_ ?_
      rotate_left
      ·show Act.put _ (some 55) _ = _
       simp only [Act.put, lI_, l0_, lS_, i64_w, i32_w]
       rfl
      refine one_ (i := 10) (N := some 58) #[true, true, true, true, true, true, true, true, true, true, true, false] rfl rfl (one_of HT_.out (by kernel_rfl)) (by decide) (fun K hK => ?_)
      refine goes_ Tryz.func214 (by kernel_rfl) rfl #[.int .i64 a0, .bool x406000_3, .agg #[.int .u64 t418, .int .u64 t419], .int .i64 t410, .bool false] (by rfl) rfl rfl mp_ ?_
      with_reducible refine (round_Pack.calls a0 x406000_3 t418 t419 t410 false t420 _ A49.out).mono ?_
      rintro e w63 ⟨rfl, hb⟩
      refine ⟨_, rfl, ?_⟩
      replace BK404 := A_ (bb_ BK404.out hb)
      replace BK405 := A_ (bb_ BK405.out hb)
      replace BK412 := A_ (bb_ BK412.out hb)
      replace HB := A_ (below_step (hb3_ HB.out GE404.out GE405.out GE412.out) hb);(try clear hb);(try clear hb2);(try clear hk);(try clear hi)
      refine hK.out _ _ ⟨bc_ BK405.out 0, bc_ BK405.out 1, bc_ BK405.out 2, bc_ BK405.out 3, bc_ BK412.out 0, bc_ BK412.out 1, bc_ BK412.out 2, bc_ BK412.out 3, bc_ BK412.out 4, bc_ BK412.out 5⟩ (fun hHeld => ?_)
      clear hK K
      refine norm_ (a' := ?_) ?_ ?_
      rotate_left
      ·show Act.put _ (some 58) _ = _
       simp only [Act.put, lI_, l0_, lS_, i64_w, i32_w]
       rfl
      refine pu_ 11 (some 6) #[true, true, true, true, true, true, true, true, true, true, true, true] rfl rfl (any_of HT_.out (by kernel_rfl)) ?_
      refine done_ (done_of HT_.out (by kernel_rfl)) ?_
      try go_wp2
      go_ret
      exact ⟨er_, hb3_ HB.out GE404.out GE405.out GE412.out⟩
     ·rw [if_neg c47] at H
      have c47b0 : (t416 == (-1)) = false := beq_eq_false_iff_ne.mpr c47
      have c47b1 : (t416 != (-1)) = true := bne_iff_ne.mpr c47
      replace H := ob_ H
      obtain ⟨⟨t421, t422⟩, A640, H⟩ := H
      replace H : (if t411 = true then ((wide_Of.f 1).bind fun bt424 => ((wide_Sub.f t421 t422 bt424.1 bt424.2).bind fun bt426 => ((round_Pack.f a0 x405000_3 bt426.1 bt426.2 t410 t411).bind fun t428 => (some t428)))) else ((round_Pack.f a0 x405000_3 t421 t422 t410 t411).bind fun t429 => (some t429))) = some r := H
      have A64 := A_ A640;clear A640
      by_cases c65 : t411 = true
      ·subst c65
       have H1 : ((wide_Of.f 1).bind fun bt424 => ((wide_Sub.f t421 t422 bt424.1 bt424.2).bind fun bt426 => ((round_Pack.f a0 x405000_3 bt426.1 bt426.2 t410 true).bind fun t428 => (some t428)))) = some r := by rw [if_pos rfl] at H; exact H
       clear H;have H := H1;clear H1
       replace H := ob_ H
       obtain ⟨⟨t424, t425⟩, A660, H⟩ := H
       replace H : ((wide_Sub.f t421 t422 t424 t425).bind fun bt426 => ((round_Pack.f a0 x405000_3 bt426.1 bt426.2 t410 true).bind fun t428 => (some t428))) = some r := H
       have A66 := A_ A660;clear A660
       replace H := ob_ H
       obtain ⟨⟨t426, t427⟩, A670, H⟩ := H
       replace H : ((round_Pack.f a0 x405000_3 t426 t427 t410 true).bind fun t428 => (some t428)) = some r := H
       have A67 := A_ A670;clear A670
       replace H := ob_ H
       obtain ⟨t428, A680, H⟩ := H
       replace H : (some t428) = some r := H
       have A68 := A_ A680;clear A680
       obtain rfl := Option.some.inj H
       have hnb69 := NB404_405.out
       have hnc69 := NB405_404.out
       have hcz70_0 := bv_ BK404.out 0
       have hcz70_1 := bv_ BK404.out 1
       have hcz70_2 := bv_ BK404.out 2
       have hcz70_3 := bv_ BK404.out 3
       have hfz70_0 := blk_frozen BK404.out 0
       have hfz70_1 := blk_frozen BK404.out 1
       have hfz70_2 := blk_frozen BK404.out 2
       have hfz70_3 := blk_frozen BK404.out 3
       have hcz71_0 := bv_ BK405.out 0
       have hcz71_1 := bv_ BK405.out 1
       have hcz71_2 := bv_ BK405.out 2
       have hcz71_3 := bv_ BK405.out 3
       have hfz71_0 := blk_frozen BK405.out 0
       have hfz71_1 := blk_frozen BK405.out 1
       have hfz71_2 := blk_frozen BK405.out 2
       have hfz71_3 := blk_frozen BK405.out 3
       try go_wp2_with (first | ((with_reducible refine gate_callee (f := 247) rfl ?_); refine goesL_ (some 18) rfl rfl Tryz.func247 (by kernel_rfl) rfl #[.agg #[.bool x405000_3, .int .i64 x405001_3, .int .i64 x405002_3, .int .u64 x405003_3], .agg #[.bool x406000_3, .int .i64 x406001_3, .int .i64 x406002_3, .int .u64 x406003_3]] rfl mp_ ?_; (with_reducible refine (sum_align.calls x405000_3 x405001_3 x405002_3 x405003_3 x406000_3 x406001_3 x406002_3 x406003_3 t406 t407 t408 t409 t410 true _ A14.out).mono ?_); rintro e w72 ⟨rfl, hb⟩; refine ⟨_, rfl, ?_⟩; replace BK404 := A_ (bb_ BK404.out hb); replace BK405 := A_ (bb_ BK405.out hb); replace HB := A_ (below_step (hb2_ HB.out GE404.out GE405.out) hb); (try clear hb); (try clear hb2); (try clear hk); (try clear hi)) | ((with_reducible refine gate_dst (N := 7) rfl ?_); refine be_ 7 #[.int .u64 0, .int .u64 0, .int .u64 0, .int .u64 0, .int .i64 0, .bool false] 202 ?_; intro gb412 hg w73 hbox hb; have BK412 := A_ (hbox); have GW412 := A_ (sz_ hg (hb2_ HB.out GE404.out GE405.out)); have GE412 := A_ (sz_ hg (hb2_ HB.out GE404.out GE405.out)); have NB404_412 := A_ (nl_ hg BK404.out); have NB412_404 := A_ (ng_ hg BK404.out); have NB405_412 := A_ (nl_ hg BK405.out); have NB412_405 := A_ (ng_ hg BK405.out); replace BK404 := A_ (bb_ BK404.out hb); replace BK405 := A_ (bb_ BK405.out hb); replace HB := A_ (below_step (hb2_ HB.out GE404.out GE405.out) hb); clear hb hbox hg; have hnb74 := NB412_404.out; have hnc74 := NB404_412.out; have hnb75 := NB412_405.out; have hnc75 := NB405_412.out; have hcz76_0 := bv_ BK412.out 0; have hcz76_1 := bv_ BK412.out 1; have hcz76_2 := bv_ BK412.out 2; have hcz76_3 := bv_ BK412.out 3; have hcz76_4 := bv_ BK412.out 4; have hcz76_5 := bv_ BK412.out 5; have hfz76_0 := blk_frozen BK412.out 0; have hfz76_1 := blk_frozen BK412.out 1; have hfz76_2 := blk_frozen BK412.out 2; have hfz76_3 := blk_frozen BK412.out 3; have hfz76_4 := blk_frozen BK412.out 4; have hfz76_5 := blk_frozen BK412.out 5; have hcz77_0 := bv_ BK404.out 0; have hcz77_1 := bv_ BK404.out 1; have hcz77_2 := bv_ BK404.out 2; have hcz77_3 := bv_ BK404.out 3; have hfz77_0 := blk_frozen BK404.out 0; have hfz77_1 := blk_frozen BK404.out 1; have hfz77_2 := blk_frozen BK404.out 2; have hfz77_3 := blk_frozen BK404.out 3; have hcz78_0 := bv_ BK405.out 0; have hcz78_1 := bv_ BK405.out 1; have hcz78_2 := bv_ BK405.out 2; have hcz78_3 := bv_ BK405.out 3; have hfz78_0 := blk_frozen BK405.out 0; have hfz78_1 := blk_frozen BK405.out 1; have hfz78_2 := blk_frozen BK405.out 2; have hfz78_3 := blk_frozen BK405.out 3) | ((with_reducible refine gate_callee (f := 246) rfl ?_); refine goesL_ (some 41) rfl rfl Tryz.func246 (by kernel_rfl) rfl #[.agg #[.int .u64 t406, .int .u64 t407], .agg #[.int .u64 t408, .int .u64 t409]] rfl mp_ ?_; (with_reducible refine (wide_Cmp.calls t406 t407 t408 t409 t416 _ A32.out).mono ?_); rintro e w79 ⟨rfl, hb⟩; refine ⟨_, rfl, ?_⟩; replace BK404 := A_ (blk_below (g := gb404) (o := .cells #[.bool x405000_3, .int .i64 x405001_3, .int .i64 x405002_3, .int .u64 x405003_3] 27 (0, 0)) (bf6_ BK404.out NB404_412.out NB404_412.out NB404_412.out NB404_412.out NB404_412.out NB404_412.out) hb); replace BK405 := A_ (blk_below (g := gb405) (o := .cells #[.bool x406000_3, .int .i64 x406001_3, .int .i64 x406002_3, .int .u64 x406003_3] 27 (0, 0)) (bf6_ BK405.out NB405_412.out NB405_412.out NB405_412.out NB405_412.out NB405_412.out NB405_412.out) hb); replace BK412 := A_ (blk_below (g := gb412) (o := .cells #[.int .u64 t406, .int .u64 t407, .int .u64 t408, .int .u64 t409, .int .i64 t410, .bool true] 202 (0, 0)) (by (with_reducible repeat (first | refine blk_drewN ?_ _ | refine blk_drew ?_ | refine blk_alloc ?_ _)); refine blk_put (cs := #[.int .u64 t406, .int .u64 t407, .int .u64 t408, .int .u64 t409, .int .i64 t410, .bool false]) ?_ 5 _ rfl; (with_reducible repeat (first | refine blk_drewN ?_ _ | refine blk_drew ?_ | refine blk_alloc ?_ _)); refine blk_put (cs := #[.int .u64 t406, .int .u64 t407, .int .u64 t408, .int .u64 t409, .int .i64 0, .bool false]) ?_ 4 _ rfl; (with_reducible repeat (first | refine blk_drewN ?_ _ | refine blk_drew ?_ | refine blk_alloc ?_ _)); refine blk_put (cs := #[.int .u64 t406, .int .u64 t407, .int .u64 t408, .int .u64 0, .int .i64 0, .bool false]) ?_ 3 _ rfl; (with_reducible repeat (first | refine blk_drewN ?_ _ | refine blk_drew ?_ | refine blk_alloc ?_ _)); refine blk_put (cs := #[.int .u64 t406, .int .u64 t407, .int .u64 0, .int .u64 0, .int .i64 0, .bool false]) ?_ 2 _ rfl; (with_reducible repeat (first | refine blk_drewN ?_ _ | refine blk_drew ?_ | refine blk_alloc ?_ _)); refine blk_put (cs := #[.int .u64 t406, .int .u64 0, .int .u64 0, .int .u64 0, .int .i64 0, .bool false]) ?_ 1 _ rfl; (with_reducible repeat (first | refine blk_drewN ?_ _ | refine blk_drew ?_ | refine blk_alloc ?_ _)); refine blk_put (cs := #[.int .u64 0, .int .u64 0, .int .u64 0, .int .u64 0, .int .i64 0, .bool false]) ?_ 0 _ rfl; (with_reducible repeat (first | refine blk_drewN ?_ _ | refine blk_drew ?_ | refine blk_alloc ?_ _)); exact BK412.out) hb); replace HB := A_ (below_step (hb3_ HB.out GE404.out GE405.out GE412.out) hb); (try clear hb); (try clear hb2); (try clear hk); (try clear hi); have hcz80_0 := bv_ BK412.out 0; have hcz80_1 := bv_ BK412.out 1; have hcz80_2 := bv_ BK412.out 2; have hcz80_3 := bv_ BK412.out 3; have hcz80_4 := bv_ BK412.out 4; have hcz80_5 := bv_ BK412.out 5; have hfz80_0 := blk_frozen BK412.out 0; have hfz80_1 := blk_frozen BK412.out 1; have hfz80_2 := blk_frozen BK412.out 2; have hfz80_3 := blk_frozen BK412.out 3; have hfz80_4 := blk_frozen BK412.out 4; have hfz80_5 := blk_frozen BK412.out 5) | ((with_reducible refine gate_callee (f := 248) rfl ?_); refine goesL_ (some 63) rfl rfl Tryz.func248 (by kernel_rfl) rfl #[.agg #[.int .u64 t406, .int .u64 t407], .agg #[.int .u64 t408, .int .u64 t409]] rfl mp_ ?_; (with_reducible refine (wide_Sub.calls t406 t407 t408 t409 t421 t422 _ A64.out).mono ?_); rintro e w81 ⟨rfl, hb⟩; refine ⟨_, rfl, ?_⟩; replace BK404 := A_ (bb_ BK404.out hb); replace BK405 := A_ (bb_ BK405.out hb); replace BK412 := A_ (bb_ BK412.out hb); replace HB := A_ (below_step (hb3_ HB.out GE404.out GE405.out GE412.out) hb); (try clear hb); (try clear hb2); (try clear hk); (try clear hi)) | ((with_reducible refine gate_dst (N := 8) rfl ?_); refine be_ 8 #[.int .u64 0, .int .u64 0] 166 ?_; intro gb423 hg w82 hbox hb; have BK423 := A_ (hbox); have GW423 := A_ (sz_ hg (hb3_ HB.out GE404.out GE405.out GE412.out)); have GE423 := A_ (sz_ hg (hb3_ HB.out GE404.out GE405.out GE412.out)); have NB404_423 := A_ (nl_ hg BK404.out); have NB423_404 := A_ (ng_ hg BK404.out); have NB405_423 := A_ (nl_ hg BK405.out); have NB423_405 := A_ (ng_ hg BK405.out); have NB412_423 := A_ (nl_ hg BK412.out); have NB423_412 := A_ (ng_ hg BK412.out); replace BK404 := A_ (bb_ BK404.out hb); replace BK405 := A_ (bb_ BK405.out hb); replace BK412 := A_ (bb_ BK412.out hb); replace HB := A_ (below_step (hb3_ HB.out GE404.out GE405.out GE412.out) hb); clear hb hbox hg; have hnb83 := NB423_404.out; have hnc83 := NB404_423.out; have hnb84 := NB423_405.out; have hnc84 := NB405_423.out; have hnb85 := NB423_412.out; have hnc85 := NB412_423.out; have hcz86_0 := bv_ BK423.out 0; have hcz86_1 := bv_ BK423.out 1; have hfz86_0 := blk_frozen BK423.out 0; have hfz86_1 := blk_frozen BK423.out 1; have hcz87_0 := bv_ BK412.out 0; have hcz87_1 := bv_ BK412.out 1; have hcz87_2 := bv_ BK412.out 2; have hcz87_3 := bv_ BK412.out 3; have hcz87_4 := bv_ BK412.out 4; have hcz87_5 := bv_ BK412.out 5; have hfz87_0 := blk_frozen BK412.out 0; have hfz87_1 := blk_frozen BK412.out 1; have hfz87_2 := blk_frozen BK412.out 2; have hfz87_3 := blk_frozen BK412.out 3; have hfz87_4 := blk_frozen BK412.out 4; have hfz87_5 := blk_frozen BK412.out 5))
       have n0_ : Aside0 (((w82.setCell ⟨gb423, 0, none⟩ (.int .u64 t421)).setCell ⟨gb423, 1, none⟩ (.int .u64 t422)).heap[gb404]? = some (.cells #[.bool x405000_3, .int .i64 x405001_3, .int .i64 x405002_3, .int .u64 x405003_3] 27 (0, 0))) := ⟨bf2_ BK404.out NB404_423.out NB404_423.out⟩
       have n1_ : Aside0 (((w82.setCell ⟨gb423, 0, none⟩ (.int .u64 t421)).setCell ⟨gb423, 1, none⟩ (.int .u64 t422)).heap[gb405]? = some (.cells #[.bool x406000_3, .int .i64 x406001_3, .int .i64 x406002_3, .int .u64 x406003_3] 27 (0, 0))) := ⟨bf2_ BK405.out NB405_423.out NB405_423.out⟩
       have n2_ : Aside0 (((w82.setCell ⟨gb423, 0, none⟩ (.int .u64 t421)).setCell ⟨gb423, 1, none⟩ (.int .u64 t422)).heap[gb412]? = some (.cells #[.int .u64 t406, .int .u64 t407, .int .u64 t408, .int .u64 t409, .int .i64 t410, .bool true] 202 (0, 0))) := ⟨bf2_ BK412.out NB412_423.out NB412_423.out⟩
       have n3_ : Aside0 (((w82.setCell ⟨gb423, 0, none⟩ (.int .u64 t421)).setCell ⟨gb423, 1, none⟩ (.int .u64 t422)).heap[gb423]? = some (.cells #[.int .u64 t421, .int .u64 t422] 166 (0, 0))) := ⟨by (with_reducible repeat (first | refine blk_drewN ?_ _ | refine blk_drew ?_ | refine blk_alloc ?_ _)); refine blk_put (cs := #[.int .u64 t421, .int .u64 0]) ?_ 1 _ rfl; (with_reducible repeat (first | refine blk_drewN ?_ _ | refine blk_drew ?_ | refine blk_alloc ?_ _)); refine blk_put (cs := #[.int .u64 0, .int .u64 0]) ?_ 0 _ rfl; (with_reducible repeat (first | refine blk_drewN ?_ _ | refine blk_drew ?_ | refine blk_alloc ?_ _)); exact BK423.out⟩
       have n4_ : Aside0 (Below w.heap.size w ((w82.setCell ⟨gb423, 0, none⟩ (.int .u64 t421)).setCell ⟨gb423, 1, none⟩ (.int .u64 t422))) := ⟨hb4_ HB.out GE404.out GE405.out GE412.out GE423.out⟩
       (try clear BK404);(try clear BK405);(try clear BK412);(try clear BK423);(try clear HB)
       generalize ((w82.setCell ⟨gb423, 0, none⟩ (.int .u64 t421)).setCell ⟨gb423, 1, none⟩ (.int .u64 t422)) = w88 at n0_ n1_ n2_ n3_ n4_ ⊢
       have BK404 := n0_;have BK405 := n1_;have BK412 := n2_;have BK423 := n3_;have HB := n4_;clear n0_ n1_ n2_ n3_ n4_
       replace BK404 := A_ (blk_drew BK404.out)
       replace BK405 := A_ (blk_drew BK405.out)
       replace BK412 := A_ (blk_drew BK412.out)
       replace BK423 := A_ (blk_drew BK423.out)
       replace HB := A_ (below_drew1 HB.out)
       refine start_ (n := 4) (S := fun w' => w'.cell? ⟨gb423, 0, none⟩ = some (.int .u64 t421) ∧ w'.cell? ⟨gb423, 1, none⟩ = some (.int .u64 t422)) (ds := [3]) #[false, false, false, false] (by kernel_rfl) rfl rfl ⟨bc_ BK423.out 0, bc_ BK423.out 1⟩ (fun hHeld => ?_)
       generalize w88.drew = w89 at BK404 BK405 BK412 BK423 HB hHeld ⊢
       refine tk2_ 0 (some 66) #[true, false, false, false] rfl rfl (by kernel_rfl) hHeld ?_
       refine one_ (i := 1) (N := some 67) #[true, true, false, false] rfl rfl (by kernel_rfl) (by decide) (fun K hK => ?_)
       refine goes_ Tryz.func215 (by kernel_rfl) rfl #[.int .u64 1] (by rfl) rfl rfl mp_ ?_
       with_reducible refine (wide_Of.calls 1 t424 t425 _ A66.out).mono ?_
       rintro e w90 ⟨rfl, hb⟩
       refine ⟨_, rfl, ?_⟩
       replace BK404 := A_ (bb_ BK404.out hb)
       replace BK405 := A_ (bb_ BK405.out hb)
       replace BK412 := A_ (bb_ BK412.out hb)
       replace BK423 := A_ (bb_ BK423.out hb)
       replace HB := A_ (below_step (hb4_ HB.out GE404.out GE405.out GE412.out GE423.out) hb);(try clear hb);(try clear hb2);(try clear hk);(try clear hi)
       refine hK.out _ _ ⟨bc_ BK423.out 0, bc_ BK423.out 1⟩ (fun hHeld => ?_)
       clear hK K
       refine norm_ (a' := ?_) ?_ ?_
       rotate_left
       ·show Act.put _ (some 67) _ = _
        simp only [Act.put, lI_, l0_, lS_, i64_w, i32_w]
        rfl
       refine one_ (i := 2) (N := some 68) #[true, true, true, false] rfl rfl (by kernel_rfl) (by decide) (fun K hK => ?_)
       refine goes_ Tryz.func248 (by kernel_rfl) rfl #[.agg #[.int .u64 t421, .int .u64 t422], .agg #[.int .u64 t424, .int .u64 t425]] (by rfl) rfl rfl mp_ ?_
       with_reducible refine (wide_Sub.calls t421 t422 t424 t425 t426 t427 _ A67.out).mono ?_
       rintro e w91 ⟨rfl, hb⟩
       refine ⟨_, rfl, ?_⟩
       replace BK404 := A_ (bb_ BK404.out hb)
       replace BK405 := A_ (bb_ BK405.out hb)
       replace BK412 := A_ (bb_ BK412.out hb)
       replace BK423 := A_ (bb_ BK423.out hb)
       replace HB := A_ (below_step (hb4_ HB.out GE404.out GE405.out GE412.out GE423.out) hb);(try clear hb);(try clear hb2);(try clear hk);(try clear hi)
       refine hK.out _ _ ⟨bc_ BK423.out 0, bc_ BK423.out 1⟩ (fun hHeld => ?_)
       clear hK K
       refine norm_ (a' := ?_) ?_ ?_
       rotate_left
       ·show Act.put _ (some 68) _ = _
        simp only [Act.put, lI_, l0_, lS_, i64_w, i32_w]
        rfl
       refine last_ (i := 3) (N := none) #[true, true, true, true] rfl rfl (by kernel_rfl) (by decide) (fun K hK => ?_)
       have hs92 : w91.cell? ⟨gb423, 0, none⟩ = some (.int .u64 t421) := bc_ BK423.out 0
       have hfs92 := blk_frozen BK423.out 0
       have hns92_0 := NB404_423.out
       have hns92_1 := NB405_423.out
       have hns92_2 := NB412_423.out
       have hms92_0 := NB423_404.out
       have hms92_1 := NB423_405.out
       have hms92_2 := NB423_412.out
       have hs93 : w91.cell? ⟨gb423, 1, none⟩ = some (.int .u64 t422) := bc_ BK423.out 1
       have hfs93 := blk_frozen BK423.out 1
       have hns93_0 := NB404_423.out
       have hns93_1 := NB405_423.out
       have hns93_2 := NB412_423.out
       have hms93_0 := NB423_404.out
       have hms93_1 := NB423_405.out
       have hms93_2 := NB423_412.out
       refine skip_ (w1 := ?_) (by rfl) rfl ?_ ?_
       rotate_left
       ·go_simp
        rfl
       refine hK.out _ _ ?_
       clear hK K
       refine done_ (by kernel_rfl) ?_
       have hcz94_0 := bv_ BK404.out 0
       have hcz94_1 := bv_ BK404.out 1
       have hcz94_2 := bv_ BK404.out 2
       have hcz94_3 := bv_ BK404.out 3
       have hfz94_0 := blk_frozen BK404.out 0
       have hfz94_1 := blk_frozen BK404.out 1
       have hfz94_2 := blk_frozen BK404.out 2
       have hfz94_3 := blk_frozen BK404.out 3
       have hcz95_0 := bv_ BK423.out 0
       have hcz95_1 := bv_ BK423.out 1
       have hfz95_0 := blk_frozen BK423.out 0
       have hfz95_1 := blk_frozen BK423.out 1
       have hcz96_0 := bv_ BK412.out 0
       have hcz96_1 := bv_ BK412.out 1
       have hcz96_2 := bv_ BK412.out 2
       have hcz96_3 := bv_ BK412.out 3
       have hcz96_4 := bv_ BK412.out 4
       have hcz96_5 := bv_ BK412.out 5
       have hfz96_0 := blk_frozen BK412.out 0
       have hfz96_1 := blk_frozen BK412.out 1
       have hfz96_2 := blk_frozen BK412.out 2
       have hfz96_3 := blk_frozen BK412.out 3
       have hfz96_4 := blk_frozen BK412.out 4
       have hfz96_5 := blk_frozen BK412.out 5
       try go_wp2_with (first | ((with_reducible refine gate_callee (f := 214) rfl ?_); refine goesL_ (some 77) rfl rfl Tryz.func214 (by kernel_rfl) rfl #[.int .i64 a0, .bool x405000_3, .agg #[.int .u64 t426, .int .u64 t427], .int .i64 t410, .bool true] rfl mp_ ?_; (with_reducible refine (round_Pack.calls a0 x405000_3 t426 t427 t410 true t428 _ A68.out).mono ?_); rintro e w97 ⟨rfl, hb⟩; refine ⟨_, rfl, ?_⟩; replace BK404 := A_ (blk_below (g := gb404) (o := .cells #[.bool x405000_3, .int .i64 x405001_3, .int .i64 x405002_3, .int .u64 x405003_3] 27 (0, 0)) (bf2_ BK404.out NB404_423.out NB404_423.out) hb); replace BK405 := A_ (blk_below (g := gb405) (o := .cells #[.bool x406000_3, .int .i64 x406001_3, .int .i64 x406002_3, .int .u64 x406003_3] 27 (0, 0)) (bf2_ BK405.out NB405_423.out NB405_423.out) hb); replace BK412 := A_ (blk_below (g := gb412) (o := .cells #[.int .u64 t406, .int .u64 t407, .int .u64 t408, .int .u64 t409, .int .i64 t410, .bool true] 202 (0, 0)) (bf2_ BK412.out NB412_423.out NB412_423.out) hb); replace BK423 := A_ (blk_below (g := gb423) (o := .cells #[.int .u64 t426, .int .u64 t427] 166 (0, 0)) (by (with_reducible repeat (first | refine blk_drewN ?_ _ | refine blk_drew ?_ | refine blk_alloc ?_ _)); refine blk_put (cs := #[.int .u64 t426, .int .u64 t422]) ?_ 1 _ rfl; (with_reducible repeat (first | refine blk_drewN ?_ _ | refine blk_drew ?_ | refine blk_alloc ?_ _)); refine blk_put (cs := #[.int .u64 t421, .int .u64 t422]) ?_ 0 _ rfl; (with_reducible repeat (first | refine blk_drewN ?_ _ | refine blk_drew ?_ | refine blk_alloc ?_ _)); exact BK423.out) hb); replace HB := A_ (below_step (hb4_ HB.out GE404.out GE405.out GE412.out GE423.out) hb); (try clear hb); (try clear hb2); (try clear hk); (try clear hi)))
       go_ret
       exact ⟨er_, hb4_ HB.out GE404.out GE405.out GE412.out GE423.out⟩
      ·replace c65 := Bool.eq_false_iff.mpr c65
       subst c65
       have H1 : ((round_Pack.f a0 x405000_3 t421 t422 t410 false).bind fun t429 => (some t429)) = some r := by rw [if_neg (show ¬ (false = true) by decide)] at H; exact H
       clear H;have H := H1;clear H1
       replace H := ob_ H
       obtain ⟨t429, A980, H⟩ := H
       replace H : (some t429) = some r := H
       have A98 := A_ A980;clear A980
       obtain rfl := Option.some.inj H
       have hnb99 := NB404_405.out
       have hnc99 := NB405_404.out
       have hcz100_0 := bv_ BK404.out 0
       have hcz100_1 := bv_ BK404.out 1
       have hcz100_2 := bv_ BK404.out 2
       have hcz100_3 := bv_ BK404.out 3
       have hfz100_0 := blk_frozen BK404.out 0
       have hfz100_1 := blk_frozen BK404.out 1
       have hfz100_2 := blk_frozen BK404.out 2
       have hfz100_3 := blk_frozen BK404.out 3
       have hcz101_0 := bv_ BK405.out 0
       have hcz101_1 := bv_ BK405.out 1
       have hcz101_2 := bv_ BK405.out 2
       have hcz101_3 := bv_ BK405.out 3
       have hfz101_0 := blk_frozen BK405.out 0
       have hfz101_1 := blk_frozen BK405.out 1
       have hfz101_2 := blk_frozen BK405.out 2
       have hfz101_3 := blk_frozen BK405.out 3
       go_wp2_with (first | ((with_reducible refine gate_callee (f := 247) rfl ?_); refine goesL_ (some 18) rfl rfl Tryz.func247 (by kernel_rfl) rfl #[.agg #[.bool x405000_3, .int .i64 x405001_3, .int .i64 x405002_3, .int .u64 x405003_3], .agg #[.bool x406000_3, .int .i64 x406001_3, .int .i64 x406002_3, .int .u64 x406003_3]] rfl mp_ ?_; (with_reducible refine (sum_align.calls x405000_3 x405001_3 x405002_3 x405003_3 x406000_3 x406001_3 x406002_3 x406003_3 t406 t407 t408 t409 t410 false _ A14.out).mono ?_); rintro e w102 ⟨rfl, hb⟩; refine ⟨_, rfl, ?_⟩; replace BK404 := A_ (bb_ BK404.out hb); replace BK405 := A_ (bb_ BK405.out hb); replace HB := A_ (below_step (hb2_ HB.out GE404.out GE405.out) hb); (try clear hb); (try clear hb2); (try clear hk); (try clear hi)) | ((with_reducible refine gate_dst (N := 7) rfl ?_); refine be_ 7 #[.int .u64 0, .int .u64 0, .int .u64 0, .int .u64 0, .int .i64 0, .bool false] 202 ?_; intro gb412 hg w103 hbox hb; have BK412 := A_ (hbox); have GW412 := A_ (sz_ hg (hb2_ HB.out GE404.out GE405.out)); have GE412 := A_ (sz_ hg (hb2_ HB.out GE404.out GE405.out)); have NB404_412 := A_ (nl_ hg BK404.out); have NB412_404 := A_ (ng_ hg BK404.out); have NB405_412 := A_ (nl_ hg BK405.out); have NB412_405 := A_ (ng_ hg BK405.out); replace BK404 := A_ (bb_ BK404.out hb); replace BK405 := A_ (bb_ BK405.out hb); replace HB := A_ (below_step (hb2_ HB.out GE404.out GE405.out) hb); clear hb hbox hg; have hnb104 := NB412_404.out; have hnc104 := NB404_412.out; have hnb105 := NB412_405.out; have hnc105 := NB405_412.out; have hcz106_0 := bv_ BK412.out 0; have hcz106_1 := bv_ BK412.out 1; have hcz106_2 := bv_ BK412.out 2; have hcz106_3 := bv_ BK412.out 3; have hcz106_4 := bv_ BK412.out 4; have hcz106_5 := bv_ BK412.out 5; have hfz106_0 := blk_frozen BK412.out 0; have hfz106_1 := blk_frozen BK412.out 1; have hfz106_2 := blk_frozen BK412.out 2; have hfz106_3 := blk_frozen BK412.out 3; have hfz106_4 := blk_frozen BK412.out 4; have hfz106_5 := blk_frozen BK412.out 5; have hcz107_0 := bv_ BK404.out 0; have hcz107_1 := bv_ BK404.out 1; have hcz107_2 := bv_ BK404.out 2; have hcz107_3 := bv_ BK404.out 3; have hfz107_0 := blk_frozen BK404.out 0; have hfz107_1 := blk_frozen BK404.out 1; have hfz107_2 := blk_frozen BK404.out 2; have hfz107_3 := blk_frozen BK404.out 3; have hcz108_0 := bv_ BK405.out 0; have hcz108_1 := bv_ BK405.out 1; have hcz108_2 := bv_ BK405.out 2; have hcz108_3 := bv_ BK405.out 3; have hfz108_0 := blk_frozen BK405.out 0; have hfz108_1 := blk_frozen BK405.out 1; have hfz108_2 := blk_frozen BK405.out 2; have hfz108_3 := blk_frozen BK405.out 3) | ((with_reducible refine gate_callee (f := 246) rfl ?_); refine goesL_ (some 41) rfl rfl Tryz.func246 (by kernel_rfl) rfl #[.agg #[.int .u64 t406, .int .u64 t407], .agg #[.int .u64 t408, .int .u64 t409]] rfl mp_ ?_; (with_reducible refine (wide_Cmp.calls t406 t407 t408 t409 t416 _ A32.out).mono ?_); rintro e w109 ⟨rfl, hb⟩; refine ⟨_, rfl, ?_⟩; replace BK404 := A_ (blk_below (g := gb404) (o := .cells #[.bool x405000_3, .int .i64 x405001_3, .int .i64 x405002_3, .int .u64 x405003_3] 27 (0, 0)) (bf6_ BK404.out NB404_412.out NB404_412.out NB404_412.out NB404_412.out NB404_412.out NB404_412.out) hb); replace BK405 := A_ (blk_below (g := gb405) (o := .cells #[.bool x406000_3, .int .i64 x406001_3, .int .i64 x406002_3, .int .u64 x406003_3] 27 (0, 0)) (bf6_ BK405.out NB405_412.out NB405_412.out NB405_412.out NB405_412.out NB405_412.out NB405_412.out) hb); replace BK412 := A_ (blk_below (g := gb412) (o := .cells #[.int .u64 t406, .int .u64 t407, .int .u64 t408, .int .u64 t409, .int .i64 t410, .bool false] 202 (0, 0)) (by (with_reducible repeat (first | refine blk_drewN ?_ _ | refine blk_drew ?_ | refine blk_alloc ?_ _)); refine blk_put (cs := #[.int .u64 t406, .int .u64 t407, .int .u64 t408, .int .u64 t409, .int .i64 t410, .bool false]) ?_ 5 _ rfl; (with_reducible repeat (first | refine blk_drewN ?_ _ | refine blk_drew ?_ | refine blk_alloc ?_ _)); refine blk_put (cs := #[.int .u64 t406, .int .u64 t407, .int .u64 t408, .int .u64 t409, .int .i64 0, .bool false]) ?_ 4 _ rfl; (with_reducible repeat (first | refine blk_drewN ?_ _ | refine blk_drew ?_ | refine blk_alloc ?_ _)); refine blk_put (cs := #[.int .u64 t406, .int .u64 t407, .int .u64 t408, .int .u64 0, .int .i64 0, .bool false]) ?_ 3 _ rfl; (with_reducible repeat (first | refine blk_drewN ?_ _ | refine blk_drew ?_ | refine blk_alloc ?_ _)); refine blk_put (cs := #[.int .u64 t406, .int .u64 t407, .int .u64 0, .int .u64 0, .int .i64 0, .bool false]) ?_ 2 _ rfl; (with_reducible repeat (first | refine blk_drewN ?_ _ | refine blk_drew ?_ | refine blk_alloc ?_ _)); refine blk_put (cs := #[.int .u64 t406, .int .u64 0, .int .u64 0, .int .u64 0, .int .i64 0, .bool false]) ?_ 1 _ rfl; (with_reducible repeat (first | refine blk_drewN ?_ _ | refine blk_drew ?_ | refine blk_alloc ?_ _)); refine blk_put (cs := #[.int .u64 0, .int .u64 0, .int .u64 0, .int .u64 0, .int .i64 0, .bool false]) ?_ 0 _ rfl; (with_reducible repeat (first | refine blk_drewN ?_ _ | refine blk_drew ?_ | refine blk_alloc ?_ _)); exact BK412.out) hb); replace HB := A_ (below_step (hb3_ HB.out GE404.out GE405.out GE412.out) hb); (try clear hb); (try clear hb2); (try clear hk); (try clear hi); have hcz110_0 := bv_ BK412.out 0; have hcz110_1 := bv_ BK412.out 1; have hcz110_2 := bv_ BK412.out 2; have hcz110_3 := bv_ BK412.out 3; have hcz110_4 := bv_ BK412.out 4; have hcz110_5 := bv_ BK412.out 5; have hfz110_0 := blk_frozen BK412.out 0; have hfz110_1 := blk_frozen BK412.out 1; have hfz110_2 := blk_frozen BK412.out 2; have hfz110_3 := blk_frozen BK412.out 3; have hfz110_4 := blk_frozen BK412.out 4; have hfz110_5 := blk_frozen BK412.out 5) | ((with_reducible refine gate_callee (f := 248) rfl ?_); refine goesL_ (some 63) rfl rfl Tryz.func248 (by kernel_rfl) rfl #[.agg #[.int .u64 t406, .int .u64 t407], .agg #[.int .u64 t408, .int .u64 t409]] rfl mp_ ?_; (with_reducible refine (wide_Sub.calls t406 t407 t408 t409 t421 t422 _ A64.out).mono ?_); rintro e w111 ⟨rfl, hb⟩; refine ⟨_, rfl, ?_⟩; replace BK404 := A_ (bb_ BK404.out hb); replace BK405 := A_ (bb_ BK405.out hb); replace BK412 := A_ (bb_ BK412.out hb); replace HB := A_ (below_step (hb3_ HB.out GE404.out GE405.out GE412.out) hb); (try clear hb); (try clear hb2); (try clear hk); (try clear hi)) | ((with_reducible refine gate_dst (N := 8) rfl ?_); refine be_ 8 #[.int .u64 0, .int .u64 0] 166 ?_; intro gb423 hg w112 hbox hb; have BK423 := A_ (hbox); have GW423 := A_ (sz_ hg (hb3_ HB.out GE404.out GE405.out GE412.out)); have GE423 := A_ (sz_ hg (hb3_ HB.out GE404.out GE405.out GE412.out)); have NB404_423 := A_ (nl_ hg BK404.out); have NB423_404 := A_ (ng_ hg BK404.out); have NB405_423 := A_ (nl_ hg BK405.out); have NB423_405 := A_ (ng_ hg BK405.out); have NB412_423 := A_ (nl_ hg BK412.out); have NB423_412 := A_ (ng_ hg BK412.out); replace BK404 := A_ (bb_ BK404.out hb); replace BK405 := A_ (bb_ BK405.out hb); replace BK412 := A_ (bb_ BK412.out hb); replace HB := A_ (below_step (hb3_ HB.out GE404.out GE405.out GE412.out) hb); clear hb hbox hg; have hnb113 := NB423_404.out; have hnc113 := NB404_423.out; have hnb114 := NB423_405.out; have hnc114 := NB405_423.out; have hnb115 := NB423_412.out; have hnc115 := NB412_423.out; have hcz116_0 := bv_ BK423.out 0; have hcz116_1 := bv_ BK423.out 1; have hfz116_0 := blk_frozen BK423.out 0; have hfz116_1 := blk_frozen BK423.out 1; have hcz117_0 := bv_ BK412.out 0; have hcz117_1 := bv_ BK412.out 1; have hcz117_2 := bv_ BK412.out 2; have hcz117_3 := bv_ BK412.out 3; have hcz117_4 := bv_ BK412.out 4; have hcz117_5 := bv_ BK412.out 5; have hfz117_0 := blk_frozen BK412.out 0; have hfz117_1 := blk_frozen BK412.out 1; have hfz117_2 := blk_frozen BK412.out 2; have hfz117_3 := blk_frozen BK412.out 3; have hfz117_4 := blk_frozen BK412.out 4; have hfz117_5 := blk_frozen BK412.out 5; have hcz118_0 := bv_ BK404.out 0; have hcz118_1 := bv_ BK404.out 1; have hcz118_2 := bv_ BK404.out 2; have hcz118_3 := bv_ BK404.out 3; have hfz118_0 := blk_frozen BK404.out 0; have hfz118_1 := blk_frozen BK404.out 1; have hfz118_2 := blk_frozen BK404.out 2; have hfz118_3 := blk_frozen BK404.out 3) | ((with_reducible refine gate_callee (f := 214) rfl ?_); refine goesL_ (some 77) rfl rfl Tryz.func214 (by kernel_rfl) rfl #[.int .i64 a0, .bool x405000_3, .agg #[.int .u64 t421, .int .u64 t422], .int .i64 t410, .bool false] rfl mp_ ?_; (with_reducible refine (round_Pack.calls a0 x405000_3 t421 t422 t410 false t429 _ A98.out).mono ?_); rintro e w119 ⟨rfl, hb⟩; refine ⟨_, rfl, ?_⟩; replace BK404 := A_ (blk_below (g := gb404) (o := .cells #[.bool x405000_3, .int .i64 x405001_3, .int .i64 x405002_3, .int .u64 x405003_3] 27 (0, 0)) (bf2_ BK404.out NB404_423.out NB404_423.out) hb); replace BK405 := A_ (blk_below (g := gb405) (o := .cells #[.bool x406000_3, .int .i64 x406001_3, .int .i64 x406002_3, .int .u64 x406003_3] 27 (0, 0)) (bf2_ BK405.out NB405_423.out NB405_423.out) hb); replace BK412 := A_ (blk_below (g := gb412) (o := .cells #[.int .u64 t406, .int .u64 t407, .int .u64 t408, .int .u64 t409, .int .i64 t410, .bool false] 202 (0, 0)) (bf2_ BK412.out NB412_423.out NB412_423.out) hb); replace BK423 := A_ (blk_below (g := gb423) (o := .cells #[.int .u64 t421, .int .u64 t422] 166 (0, 0)) (by (with_reducible repeat (first | refine blk_drewN ?_ _ | refine blk_drew ?_ | refine blk_alloc ?_ _)); refine blk_put (cs := #[.int .u64 t421, .int .u64 0]) ?_ 1 _ rfl; (with_reducible repeat (first | refine blk_drewN ?_ _ | refine blk_drew ?_ | refine blk_alloc ?_ _)); refine blk_put (cs := #[.int .u64 0, .int .u64 0]) ?_ 0 _ rfl; (with_reducible repeat (first | refine blk_drewN ?_ _ | refine blk_drew ?_ | refine blk_alloc ?_ _)); exact BK423.out) hb); replace HB := A_ (below_step (hb4_ HB.out GE404.out GE405.out GE412.out GE423.out) hb); (try clear hb); (try clear hb2); (try clear hk); (try clear hi)))
       go_ret
       exact ⟨er_, hb4_ HB.out GE404.out GE405.out GE412.out GE423.out⟩
def sum_infinite.j0 : Nat → Int → Bool → Bool → Int → Int → Int → Option (Int)
 | 0, _, _, _, _, _, _ => none
 | k + 1, x0, x15, x387000, x387001, x387002, x387003 => if x15 = true then ((shape_Nan.f x0).bind fun t388 => (some t388)) else ((shape_Inf.f x0 x387000).bind fun t389 => (some t389))
def sum_infinite.f (k : Nat) (a0 : Int) (a1_0 : Bool) (a1_1 : Int) (a1_2 : Int) (a1_3 : Int) (a2_0 : Bool) (a2_1 : Int) (a2_2 : Int) (a2_3 : Int) : Option (Int) := if a1_1 = 2 then (if a2_1 = 2 then (sum_infinite.j0 k a0 (a1_0 != a2_0) a1_0 a1_1 a1_2 a1_3) else (sum_infinite.j0 k a0 false a1_0 a1_1 a1_2 a1_3)) else ((shape_Inf.f a0 a2_0).bind fun t390 => (some t390))
theorem sum_infinite.mono_l : ∀ k, (∀ y0 y1 y2 y3 y4 y5, LeO (sum_infinite.j0 k y0 y1 y2 y3 y4 y5) (sum_infinite.j0 (k + 1) y0 y1 y2 y3 y4 y5))
 | 0 => fun _ _ _ _ _ _ r h => by simp [sum_infinite.j0] at h
 | k + 1 => by
  have ih0 := sum_infinite.mono_l k
  ·intro y0 y1 y2 y3 y4 y5
   unfold sum_infinite.j0
   repeat' first
   | (with_reducible exact ih0 _ _ _ _ _ _)
   | (with_reducible exact LeO.refl _)
   | (with_reducible exact LeO.none _)
   | (with_reducible refine LeO.ite ?_ ?_)
   | (with_reducible refine LeO.bind ?_ (fun _ => ?_))
   | exact ih0 _ _ _ _ _ _
   | exact LeO.none _
   | refine LeO.ite ?_ ?_
   | refine LeO.bind ?_ (fun _ => ?_)
theorem sum_infinite.mono : ∀ a0 a1 a2 a3 a4 a5 a6 a7 a8 k, LeO (sum_infinite.f k a0 a1 a2 a3 a4 a5 a6 a7 a8) (sum_infinite.f (k + 1) a0 a1 a2 a3 a4 a5 a6 a7 a8) := by
 intro a0 a1 a2 a3 a4 a5 a6 a7 a8 k
 have ih0 := sum_infinite.mono_l k
 unfold sum_infinite.f
 repeat' first
   | (with_reducible exact ih0 _ _ _ _ _ _)
   | (with_reducible exact LeO.refl _)
   | (with_reducible exact LeO.none _)
   | (with_reducible refine LeO.ite ?_ ?_)
   | (with_reducible refine LeO.bind ?_ (fun _ => ?_))
   | exact ih0 _ _ _ _ _ _
   | exact LeO.none _
   | refine LeO.ite ?_ ?_
   | refine LeO.bind ?_ (fun _ => ?_)
theorem sum_infinite.calls (k : Nat) (a0 : Int) (a1_0 : Bool) (a1_1 : Int) (a1_2 : Int) (a1_3 : Int) (a2_0 : Bool) (a2_1 : Int) (a2_2 : Int) (a2_3 : Int) (r : Int) (w : World) (h : sum_infinite.f k a0 a1_0 a1_1 a1_2 a1_3 a2_0 a2_1 a2_2 a2_3 = some r) :
  Calls Tryz.prog 218 #[.int .i64 a0, .agg #[.bool a1_0, .int .i64 a1_1, .int .i64 a1_2, .int .u64 a1_3], .agg #[.bool a2_0, .int .i64 a2_1, .int .i64 a2_2, .int .u64 a2_3]] w fun e w' => e = .returned (.int .u64 r) ∧ Below w.heap.size w w' := by
 have hu27 := Tryz.underlying27
 have HB := A_ (Below.refl w.heap.size w)
 have H : (if a1_1 = 2 then (if a2_1 = 2 then (sum_infinite.j0 k a0 (a1_0 != a2_0) a1_0 a1_1 a1_2 a1_3) else (sum_infinite.j0 k a0 false a1_0 a1_1 a1_2 a1_3)) else ((shape_Inf.f a0 a2_0).bind fun t390 => (some t390))) = some r := h
 clear h
 by_cases c4 : a1_1 = 2
 ·rw [if_pos c4] at H
  have c4b0 : (a1_1 == 2) = true := beq_iff_eq.mpr c4
  have c4b1 : (a1_1 != 2) = false := bne_eq_false_iff_eq.mpr c4
  clear c4;have HC5 := A_ H;clear H
  go_enter Tryz.func218, Tryz.ntmps218
  go_upto_region 3 with (first | ((with_reducible refine gate_dst (N := 4) rfl ?_); refine be_ 4 #[.bool a1_0, .int .i64 a1_1, .int .i64 a1_2, .int .u64 a1_3] 27 ?_; intro gb386 hg w6 hbox hb; have BK386 := A_ (hbox); have GW386 := A_ (sz_ hg (hb_ HB.out)); have GE386 := A_ (sz_ hg (hb_ HB.out)); replace HB := A_ (below_step (hb_ HB.out) hb); clear hb hbox hg) | ((with_reducible refine gate_dst (N := 5) rfl ?_); refine be_ 5 #[.bool a2_0, .int .i64 a2_1, .int .i64 a2_2, .int .u64 a2_3] 27 ?_; intro gb387 hg w7 hbox hb; have BK387 := A_ (hbox); have GW387 := A_ (sz_ hg (hb1_ HB.out GE386.out)); have GE387 := A_ (sz_ hg (hb1_ HB.out GE386.out)); have NB386_387 := A_ (nl_ hg BK386.out); have NB387_386 := A_ (ng_ hg BK386.out); replace BK386 := A_ (bb_ BK386.out hb); replace HB := A_ (below_step (hb1_ HB.out GE386.out) hb); clear hb hbox hg; have hnb8 := NB386_387.out; have hnc8 := NB387_386.out; have hcz9_0 := bv_ BK386.out 0; have hcz9_1 := bv_ BK386.out 1; have hcz9_2 := bv_ BK386.out 2; have hcz9_3 := bv_ BK386.out 3; have hfz9_0 := blk_frozen BK386.out 0; have hfz9_1 := blk_frozen BK386.out 1; have hfz9_2 := blk_frozen BK386.out 2; have hfz9_3 := blk_frozen BK386.out 3))
  (try simp only [Act.put, lI_, l0_, lS_])
  go_cut [15] (fun v15 wc => ∃ (kq : Nat) (x15_4 : Bool), v15 = .bool x15_4 ∧ Aside0 (sum_infinite.j0 kq a0 x15_4 a1_0 a1_1 a1_2 a1_3 = some r) ∧ Aside0 (kq ≤ k) ∧ Aside0 (wc.heap[gb386]? = some (.cells #[.bool a1_0, .int .i64 a1_1, .int .i64 a1_2, .int .u64 a1_3] 27 (0, 0))) ∧ Aside0 (wc.heap[gb387]? = some (.cells #[.bool a2_0, .int .i64 a2_1, .int .i64 a2_2, .int .u64 a2_3] 27 (0, 0))) ∧ Aside0 (Below w.heap.size w wc))
  case first =>
   have H := HC5.out
   clear HC5
   by_cases c10 : a2_1 = 2
   ·rw [if_pos c10] at H
    have c10b0 : (a2_1 == 2) = true := beq_iff_eq.mpr c10
    have c10b1 : (a2_1 != 2) = false := bne_eq_false_iff_eq.mpr c10
    clear c10
    (first | rw [c10b0] | (simp only [i64_w, i32_w]; rw [c10b0]) | skip)
    have H' := A_ H
    clear H
    have hnb11 := NB387_386.out
    have hnc11 := NB386_387.out
    have hcz12_0 := bv_ BK387.out 0
    have hcz12_1 := bv_ BK387.out 1
    have hcz12_2 := bv_ BK387.out 2
    have hcz12_3 := bv_ BK387.out 3
    have hfz12_0 := blk_frozen BK387.out 0
    have hfz12_1 := blk_frozen BK387.out 1
    have hfz12_2 := blk_frozen BK387.out 2
    have hfz12_3 := blk_frozen BK387.out 3
    have hcz13_0 := bv_ BK386.out 0
    have hcz13_1 := bv_ BK386.out 1
    have hcz13_2 := bv_ BK386.out 2
    have hcz13_3 := bv_ BK386.out 3
    have hfz13_0 := blk_frozen BK386.out 0
    have hfz13_1 := blk_frozen BK386.out 1
    have hfz13_2 := blk_frozen BK386.out 2
    have hfz13_3 := blk_frozen BK386.out 3
    go_wp2
    go_meet
    case rel => exact ⟨_, ((a1_0 != a2_0)), sm_, H', ⟨by first | omega | exact Nat.le_refl _⟩, ⟨bk_ BK386.out⟩, ⟨bk_ BK387.out⟩, ⟨hb2_ HB.out GE386.out GE387.out⟩⟩
   ·rw [if_neg c10] at H
    have c10b0 : (a2_1 == 2) = false := beq_eq_false_iff_ne.mpr c10
    have c10b1 : (a2_1 != 2) = true := bne_iff_ne.mpr c10
    (first | rw [c10b0] | (simp only [i64_w, i32_w]; rw [c10b0]) | skip)
    have H' := A_ H
    clear H
    have hnb14 := NB387_386.out
    have hnc14 := NB386_387.out
    have hcz15_0 := bv_ BK387.out 0
    have hcz15_1 := bv_ BK387.out 1
    have hcz15_2 := bv_ BK387.out 2
    have hcz15_3 := bv_ BK387.out 3
    have hfz15_0 := blk_frozen BK387.out 0
    have hfz15_1 := blk_frozen BK387.out 1
    have hfz15_2 := blk_frozen BK387.out 2
    have hfz15_3 := blk_frozen BK387.out 3
    go_wp2
    go_meet
    case rel => exact ⟨_, (false), sm_, H', ⟨by first | omega | exact Nat.le_refl _⟩, ⟨bk_ BK386.out⟩, ⟨bk_ BK387.out⟩, ⟨hb2_ HB.out GE386.out GE387.out⟩⟩
  case rest =>
   clear HC5
   try clear c1
   try clear c2
   try clear p2
   try clear c4
   try clear c4b0
   try clear c4b1
   try clear c8
   try clear c10
   try clear c10b0
   try clear c10b1
   try clear c11
   try clear c14
   try clear hcz12_0
   try clear hcz12_1
   try clear hcz12_2
   try clear hcz12_3
   try clear hcz13_0
   try clear hcz13_1
   try clear hcz13_2
   try clear hcz13_3
   try clear hcz15_0
   try clear hcz15_1
   try clear hcz15_2
   try clear hcz15_3
   try clear hcz9_0
   try clear hcz9_1
   try clear hcz9_2
   try clear hcz9_3
   try clear hfz12_0
   try clear hfz12_1
   try clear hfz12_2
   try clear hfz12_3
   try clear hfz13_0
   try clear hfz13_1
   try clear hfz13_2
   try clear hfz13_3
   try clear hfz15_0
   try clear hfz15_1
   try clear hfz15_2
   try clear hfz15_3
   try clear hfz9_0
   try clear hfz9_1
   try clear hfz9_2
   try clear hfz9_3
   obtain ⟨kq, x15_4, rfl, HA, HJ4, BK386, BK387, HB⟩ := hcut
   cases kq with
   | zero => exact absurd HA.out (by simp [sum_infinite.j0])
   | succ kj4 =>
    have H := HA.out
    clear HA
    simp only [sum_infinite.j0] at H
    by_cases c16 : x15_4 = true
    ·subst c16
     have H1 : ((shape_Nan.f a0).bind fun t388 => (some t388)) = some r := by rw [if_pos rfl] at H; exact H
     clear H;have H := H1;clear H1
     replace H := ob_ H
     obtain ⟨t388, A170, H⟩ := H
     replace H : (some t388) = some r := H
     have A17 := A_ A170;clear A170
     obtain rfl := Option.some.inj H
     go_wp2_with (first | ((with_reducible refine gate_callee (f := 146) rfl ?_); refine goesL_ (some 27) rfl rfl Tryz.func146 (by kernel_rfl) rfl #[.int .i64 a0] rfl mp_ ?_; (with_reducible refine (shape_Nan.calls a0 t388 _ A17.out).mono ?_); rintro e w18 ⟨rfl, hb⟩; refine ⟨_, rfl, ?_⟩; replace BK386 := A_ (bb_ BK386.out hb); replace BK387 := A_ (bb_ BK387.out hb); replace HB := A_ (below_step (hb2_ HB.out GE386.out GE387.out) hb); (try clear hb); (try clear hb2); (try clear hk); (try clear hi)))
     go_ret
     exact ⟨er_, hb2_ HB.out GE386.out GE387.out⟩
    ·replace c16 := Bool.eq_false_iff.mpr c16
     subst c16
     have H1 : ((shape_Inf.f a0 a1_0).bind fun t389 => (some t389)) = some r := by rw [if_neg (show ¬ (false = true) by decide)] at H; exact H
     clear H;have H := H1;clear H1
     replace H := ob_ H
     obtain ⟨t389, A190, H⟩ := H
     replace H : (some t389) = some r := H
     have A19 := A_ A190;clear A190
     obtain rfl := Option.some.inj H
     have hnb20 := NB386_387.out
     have hnc20 := NB387_386.out
     have hcz21_0 := bv_ BK386.out 0
     have hcz21_1 := bv_ BK386.out 1
     have hcz21_2 := bv_ BK386.out 2
     have hcz21_3 := bv_ BK386.out 3
     have hfz21_0 := blk_frozen BK386.out 0
     have hfz21_1 := blk_frozen BK386.out 1
     have hfz21_2 := blk_frozen BK386.out 2
     have hfz21_3 := blk_frozen BK386.out 3
     go_wp2_with (first | ((with_reducible refine gate_callee (f := 147) rfl ?_); refine goesL_ (some 31) rfl rfl Tryz.func147 (by kernel_rfl) rfl #[.int .i64 a0, .bool a1_0] rfl mp_ ?_; (with_reducible refine (shape_Inf.calls a0 a1_0 t389 _ A19.out).mono ?_); rintro e w22 ⟨rfl, hb⟩; refine ⟨_, rfl, ?_⟩; replace BK386 := A_ (bb_ BK386.out hb); replace BK387 := A_ (bb_ BK387.out hb); replace HB := A_ (below_step (hb2_ HB.out GE386.out GE387.out) hb); (try clear hb); (try clear hb2); (try clear hk); (try clear hi)))
     go_ret
     exact ⟨er_, hb2_ HB.out GE386.out GE387.out⟩
 ·rw [if_neg c4] at H
  have c4b0 : (a1_1 == 2) = false := beq_eq_false_iff_ne.mpr c4
  have c4b1 : (a1_1 != 2) = true := bne_iff_ne.mpr c4
  replace H := ob_ H
  obtain ⟨t390, A230, H⟩ := H
  replace H : (some t390) = some r := H
  have A23 := A_ A230;clear A230
  obtain rfl := Option.some.inj H
  go_enter Tryz.func218, Tryz.ntmps218
  go_wp2_with (first | ((with_reducible refine gate_dst (N := 4) rfl ?_); refine be_ 4 #[.bool a1_0, .int .i64 a1_1, .int .i64 a1_2, .int .u64 a1_3] 27 ?_; intro gb386 hg w24 hbox hb; have BK386 := A_ (hbox); have GW386 := A_ (sz_ hg (hb_ HB.out)); have GE386 := A_ (sz_ hg (hb_ HB.out)); replace HB := A_ (below_step (hb_ HB.out) hb); clear hb hbox hg) | ((with_reducible refine gate_dst (N := 5) rfl ?_); refine be_ 5 #[.bool a2_0, .int .i64 a2_1, .int .i64 a2_2, .int .u64 a2_3] 27 ?_; intro gb387 hg w25 hbox hb; have BK387 := A_ (hbox); have GW387 := A_ (sz_ hg (hb1_ HB.out GE386.out)); have GE387 := A_ (sz_ hg (hb1_ HB.out GE386.out)); have NB386_387 := A_ (nl_ hg BK386.out); have NB387_386 := A_ (ng_ hg BK386.out); replace BK386 := A_ (bb_ BK386.out hb); replace HB := A_ (below_step (hb1_ HB.out GE386.out) hb); clear hb hbox hg; have hnb26 := NB386_387.out; have hnc26 := NB387_386.out; have hcz27_0 := bv_ BK386.out 0; have hcz27_1 := bv_ BK386.out 1; have hcz27_2 := bv_ BK386.out 2; have hcz27_3 := bv_ BK386.out 3; have hfz27_0 := blk_frozen BK386.out 0; have hfz27_1 := blk_frozen BK386.out 1; have hfz27_2 := blk_frozen BK386.out 2; have hfz27_3 := blk_frozen BK386.out 3; have hcz28_0 := bv_ BK387.out 0; have hcz28_1 := bv_ BK387.out 1; have hcz28_2 := bv_ BK387.out 2; have hcz28_3 := bv_ BK387.out 3; have hfz28_0 := blk_frozen BK387.out 0; have hfz28_1 := blk_frozen BK387.out 1; have hfz28_2 := blk_frozen BK387.out 2; have hfz28_3 := blk_frozen BK387.out 3) | ((with_reducible refine gate_callee (f := 147) rfl ?_); refine goesL_ (some 14) rfl rfl Tryz.func147 (by kernel_rfl) rfl #[.int .i64 a0, .bool a2_0] rfl mp_ ?_; (with_reducible refine (shape_Inf.calls a0 a2_0 t390 _ A23.out).mono ?_); rintro e w29 ⟨rfl, hb⟩; refine ⟨_, rfl, ?_⟩; replace BK386 := A_ (bb_ BK386.out hb); replace BK387 := A_ (bb_ BK387.out hb); replace HB := A_ (below_step (hb2_ HB.out GE386.out GE387.out) hb); (try clear hb); (try clear hb2); (try clear hk); (try clear hi)))
  go_ret
  exact ⟨er_, hb2_ HB.out GE386.out GE387.out⟩
end Go.Proofs.YtnmlmgmljoncoaaGreatDoor.PA
