/- What the Go functions that the statement SumClose reaches compute, and the mathematics on it, in the order in which one leans on the other; for every input. -/
import Derived.Test.YtbpmnmceajmmcaaVSumClose0
import Derived.Test.YtbpmnmceajmmcaaMSumClose0
import Derived.Test.YtbpmnmceajmmcaaMSumClose6
import Derived.Test.YtbpmnmceajmmcaaMSumClose1
import Derived.Test.YtbpmnmceajmmcaaMSumClose5
import Derived.Test.YtbpmnmceajmmcaaMSumClose2
namespace Go.Proofs.Ytbpmnmceajmmcaa.PA
open Go.RowKit Go.Proofs.YtbpmnmceajmmcaaW.PrintWords Go.Proofs.YtbpmnmceajmmcaaW.PrintLast Go.Proofs.YtbpmnmceajmmcaaW.PrintMore
attribute [local go_sem] max2_int min2_int max_two min_two max_three min_three max_four min_four   -- for this text's walks alone
set_option linter.unusedVariables false
set_option linter.unusedSimpArgs false
set_option maxHeartbeats 8000000
set_option maxRecDepth 100000
def sum_finite.j0 : Nat → Int → Bool → Int → Int → Int → Bool → Int → Int → Int → Option (Int)
 | 0, _, _, _, _, _, _, _, _, _ => none
 | k + 1, x0, x268000, x268001, x268002, x268003, x269000, x269001, x269002, x269003 => (sum_align.f x268000 x268001 x268002 x268003 x269000 x269001 x269002 x269003).bind fun bt269 => (if (x268000 == x269000) = true then ((wide_Add.f bt269.1 bt269.2.1 bt269.2.2.1 bt269.2.2.2.1).bind fun bt276 => ((round_Pack.f x0 x268000 bt276.1 bt276.2 bt269.2.2.2.2.1 bt269.2.2.2.2.2).bind fun t278 => (some t278))) else ((wide_Cmp.f bt269.1 bt269.2.1 bt269.2.2.1 bt269.2.2.2.1).bind fun t279 => (if t279 = 0 then ((shape_Zero.f x0 false).bind fun t280 => (some t280)) else (if t279 = (-1) then ((wide_Sub.f bt269.2.2.1 bt269.2.2.2.1 bt269.1 bt269.2.1).bind fun bt281 => ((round_Pack.f x0 x269000 bt281.1 bt281.2 bt269.2.2.2.2.1 false).bind fun t283 => (some t283))) else ((wide_Sub.f bt269.1 bt269.2.1 bt269.2.2.1 bt269.2.2.2.1).bind fun bt284 => (if bt269.2.2.2.2.2 = true then ((wide_Of.f 1).bind fun bt287 => ((wide_Sub.f bt284.1 bt284.2 bt287.1 bt287.2).bind fun bt289 => ((round_Pack.f x0 x268000 bt289.1 bt289.2 bt269.2.2.2.2.1 bt269.2.2.2.2.2).bind fun t291 => (some t291)))) else ((round_Pack.f x0 x268000 bt284.1 bt284.2 bt269.2.2.2.2.1 bt269.2.2.2.2.2).bind fun t292 => (some t292))))))))
def sum_finite.f (k : Nat) (a0 : Int) (a1_0 : Bool) (a1_1 : Int) (a1_2 : Int) (a1_3 : Int) (a2_0 : Bool) (a2_1 : Int) (a2_2 : Int) (a2_3 : Int) : Option (Int) := if a1_2 < a2_2 then (sum_finite.j0 k a0 a2_0 a2_1 a2_2 a2_3 a1_0 a1_1 a1_2 a1_3) else (sum_finite.j0 k a0 a1_0 a1_1 a1_2 a1_3 a2_0 a2_1 a2_2 a2_3)
theorem sum_finite.mono_l : ∀ k, (∀ y0 y1 y2 y3 y4 y5 y6 y7 y8, LeO (sum_finite.j0 k y0 y1 y2 y3 y4 y5 y6 y7 y8) (sum_finite.j0 (k + 1) y0 y1 y2 y3 y4 y5 y6 y7 y8))
 | 0 => fun _ _ _ _ _ _ _ _ _ r h => by simp [sum_finite.j0] at h
 | k + 1 => by
  have ih0 := sum_finite.mono_l k
  ·intro y0 y1 y2 y3 y4 y5 y6 y7 y8
   unfold sum_finite.j0
   repeat' first
   | (with_reducible exact ih0 _ _ _ _ _ _ _ _ _)
   | (with_reducible exact LeO.refl _)
   | (with_reducible exact LeO.none _)
   | (with_reducible refine LeO.ite ?_ ?_)
   | (with_reducible refine LeO.bind ?_ (fun _ => ?_))
   | exact ih0 _ _ _ _ _ _ _ _ _
   | exact LeO.none _
   | refine LeO.ite ?_ ?_
   | refine LeO.bind ?_ (fun _ => ?_)
theorem sum_finite.mono : ∀ a0 a1 a2 a3 a4 a5 a6 a7 a8 k, LeO (sum_finite.f k a0 a1 a2 a3 a4 a5 a6 a7 a8) (sum_finite.f (k + 1) a0 a1 a2 a3 a4 a5 a6 a7 a8) := by
 intro a0 a1 a2 a3 a4 a5 a6 a7 a8 k
 have ih0 := sum_finite.mono_l k
 unfold sum_finite.f
 repeat' first
   | (with_reducible exact ih0 _ _ _ _ _ _ _ _ _)
   | (with_reducible exact LeO.refl _)
   | (with_reducible exact LeO.none _)
   | (with_reducible refine LeO.ite ?_ ?_)
   | (with_reducible refine LeO.bind ?_ (fun _ => ?_))
   | exact ih0 _ _ _ _ _ _ _ _ _
   | exact LeO.none _
   | refine LeO.ite ?_ ?_
   | refine LeO.bind ?_ (fun _ => ?_)
def sum_finite.T5 : Bool × List (List Nat × List Nat) := (true, [([], []), ([], []), ([1], [1]), ([], []), ([3], [3]), ([], []), ([5], [5]), ([4, 6], [4, 6]), ([], []), ([8], [8]), ([], []), ([10], [10]), ([0, 2, 7, 9, 11, 7], [0, 2, 7, 9, 11]), ([12, 12, 0, 1, 2, 3, 4, 5, 6, 7, 8, 9, 10, 11, 12], [12])])
def sum_finite.B5 : List Nat := [0, 0, 2, 0, 8, 0, 32, 120, 0, 256, 0, 1024, 4095, 8191]
theorem sum_finite.tab5 : rtab .any (opsOf Try.f92 5) = sum_finite.T5 := by kernel_rfl
theorem sum_finite.bits5 : waitsOk sum_finite.T5.2 sum_finite.B5 = true := by kernel_rfl
def sum_finite.T10 : Bool × List (List Nat × List Nat) := (true, [([], []), ([], []), ([1], [1]), ([], []), ([3], [3]), ([], []), ([5], [5]), ([4, 6], [4, 6]), ([], []), ([8], [8]), ([0, 2, 7, 9, 7], [0, 2, 7, 9]), ([10, 10, 0, 1, 2, 3, 4, 5, 6, 7, 8, 9, 10], [10])])
def sum_finite.B10 : List Nat := [0, 0, 2, 0, 8, 0, 32, 120, 0, 256, 1023, 2047]
theorem sum_finite.tab10 : rtab .any (opsOf Try.f92 10) = sum_finite.T10 := by kernel_rfl
theorem sum_finite.bits10 : waitsOk sum_finite.T10.2 sum_finite.B10 = true := by kernel_rfl
theorem sum_finite.calls (k : Nat) (a0 : Int) (a1_0 : Bool) (a1_1 : Int) (a1_2 : Int) (a1_3 : Int) (a2_0 : Bool) (a2_1 : Int) (a2_2 : Int) (a2_3 : Int) (r : Int) (w : World) (h : sum_finite.f k a0 a1_0 a1_1 a1_2 a1_3 a2_0 a2_1 a2_2 a2_3 = some r) :
  Calls Try.prog 92 #[.int .i64 a0, .agg #[.bool a1_0, .int .i64 a1_1, .int .i64 a1_2, .int .u64 a1_3], .agg #[.bool a2_0, .int .i64 a2_1, .int .i64 a2_2, .int .u64 a2_3]] w fun e w' => e = .returned (.int .u64 r) ∧ Below w.heap.size w w' := by
 have hu38 := Try.underlying38
 have hu122 := Try.underlying122
 have hu42 := Try.underlying42
 have HB := A_ (Below.refl w.heap.size w)
 have H : (if a1_2 < a2_2 then (sum_finite.j0 k a0 a2_0 a2_1 a2_2 a2_3 a1_0 a1_1 a1_2 a1_3) else (sum_finite.j0 k a0 a1_0 a1_1 a1_2 a1_3 a2_0 a2_1 a2_2 a2_3)) = some r := h
 clear h;have HC4 := A_ H;clear H
 go_enter Try.func92, Try.ntmps92
 go_upto_if 13 with (first | ((with_reducible refine gate_dst (N := 4) rfl ?_); refine be_ 4 #[.bool a1_0, .int .i64 a1_1, .int .i64 a1_2, .int .u64 a1_3] 38 ?_; intro gb267 hg w5 hbox hb; have BK267 := A_ (hbox); have GW267 := A_ (sz_ hg (hb_ HB.out)); have GE267 := A_ (sz_ hg (hb_ HB.out)); replace HB := A_ (below_step (hb_ HB.out) hb); clear hb hbox hg) | ((with_reducible refine gate_dst (N := 5) rfl ?_); refine be_ 5 #[.bool a2_0, .int .i64 a2_1, .int .i64 a2_2, .int .u64 a2_3] 38 ?_; intro gb268 hg w6 hbox hb; have BK268 := A_ (hbox); have GW268 := A_ (sz_ hg (hb1_ HB.out GE267.out)); have GE268 := A_ (sz_ hg (hb1_ HB.out GE267.out)); have NB267_268 := A_ (nl_ hg BK267.out); have NB268_267 := A_ (ng_ hg BK267.out); replace BK267 := A_ (bb_ BK267.out hb); replace HB := A_ (below_step (hb1_ HB.out GE267.out) hb); clear hb hbox hg; have hnb7 := NB267_268.out; have hnc7 := NB268_267.out; have hcz8_0 := bv_ BK267.out 0; have hcz8_1 := bv_ BK267.out 1; have hcz8_2 := bv_ BK267.out 2; have hcz8_3 := bv_ BK267.out 3; have hfz8_0 := blk_frozen BK267.out 0; have hfz8_1 := blk_frozen BK267.out 1; have hfz8_2 := blk_frozen BK267.out 2; have hfz8_3 := blk_frozen BK267.out 3; have hcz9_0 := bv_ BK268.out 0; have hcz9_1 := bv_ BK268.out 1; have hcz9_2 := bv_ BK268.out 2; have hcz9_3 := bv_ BK268.out 3; have hfz9_0 := blk_frozen BK268.out 0; have hfz9_1 := blk_frozen BK268.out 1; have hfz9_2 := blk_frozen BK268.out 2; have hfz9_3 := blk_frozen BK268.out 3))
 (try simp only [Act.put, lI_, l0_, lS_])
 go_cut [] (fun wc => ∃ (kq : Nat) (x268000_3 : Bool) (x268001_3 : Int) (x268002_3 : Int) (x268003_3 : Int) (x269000_3 : Bool) (x269001_3 : Int) (x269002_3 : Int) (x269003_3 : Int), Aside0 (sum_finite.j0 kq a0 x268000_3 x268001_3 x268002_3 x268003_3 x269000_3 x269001_3 x269002_3 x269003_3 = some r) ∧ Aside0 (kq ≤ k) ∧ Aside0 (wc.heap[gb267]? = some (.cells #[.bool x268000_3, .int .i64 x268001_3, .int .i64 x268002_3, .int .u64 x268003_3] 38 (0, 0))) ∧ Aside0 (wc.heap[gb268]? = some (.cells #[.bool x269000_3, .int .i64 x269001_3, .int .i64 x269002_3, .int .u64 x269003_3] 38 (0, 0))) ∧ Aside0 (Below w.heap.size w wc))
 case first =>
  have H := HC4.out
  clear HC4
  by_cases c10 : a1_2 < a2_2
  ·rw [if_pos c10] at H
   have c10b0 : decide (a1_2 < a2_2) = true := decide_eq_true c10
   clear c10
   (first | rw [c10b0] | (simp only [i64_w, i32_w]; rw [c10b0]) | skip)
   have H' := A_ H
   clear H
   have hnb11 := NB268_267.out
   have hnc11 := NB267_268.out
   have hcz12_0 := bv_ BK268.out 0
   have hcz12_1 := bv_ BK268.out 1
   have hcz12_2 := bv_ BK268.out 2
   have hcz12_3 := bv_ BK268.out 3
   have hfz12_0 := blk_frozen BK268.out 0
   have hfz12_1 := blk_frozen BK268.out 1
   have hfz12_2 := blk_frozen BK268.out 2
   have hfz12_3 := blk_frozen BK268.out 3
   have hcz13_0 := bv_ BK267.out 0
   have hcz13_1 := bv_ BK267.out 1
   have hcz13_2 := bv_ BK267.out 2
   have hcz13_3 := bv_ BK267.out 3
   have hfz13_0 := blk_frozen BK267.out 0
   have hfz13_1 := blk_frozen BK267.out 1
   have hfz13_2 := blk_frozen BK267.out 2
   have hfz13_3 := blk_frozen BK267.out 3
   go_wp2
   go_meet
   case rel => exact ⟨_, (a2_0), (a2_1), (a2_2), (a2_3), (a1_0), (a1_1), (a1_2), (a1_3), H', ⟨by first | omega | exact Nat.le_refl _⟩, ⟨by (with_reducible repeat (first | refine blk_drewN ?_ _ | refine blk_drew ?_ | refine blk_alloc ?_ _)); refine blk_far ?_ NB267_268.out _; (with_reducible repeat (first | refine blk_drewN ?_ _ | refine blk_drew ?_ | refine blk_alloc ?_ _)); refine blk_far ?_ NB267_268.out _; (with_reducible repeat (first | refine blk_drewN ?_ _ | refine blk_drew ?_ | refine blk_alloc ?_ _)); refine blk_far ?_ NB267_268.out _; (with_reducible repeat (first | refine blk_drewN ?_ _ | refine blk_drew ?_ | refine blk_alloc ?_ _)); refine blk_far ?_ NB267_268.out _; (with_reducible repeat (first | refine blk_drewN ?_ _ | refine blk_drew ?_ | refine blk_alloc ?_ _)); refine blk_put (cs := #[.bool a2_0, .int .i64 a2_1, .int .i64 a2_2, .int .u64 a1_3]) ?_ 3 _ rfl; (with_reducible repeat (first | refine blk_drewN ?_ _ | refine blk_drew ?_ | refine blk_alloc ?_ _)); refine blk_put (cs := #[.bool a2_0, .int .i64 a2_1, .int .i64 a1_2, .int .u64 a1_3]) ?_ 2 _ rfl; (with_reducible repeat (first | refine blk_drewN ?_ _ | refine blk_drew ?_ | refine blk_alloc ?_ _)); refine blk_put (cs := #[.bool a2_0, .int .i64 a1_1, .int .i64 a1_2, .int .u64 a1_3]) ?_ 1 _ rfl; (with_reducible repeat (first | refine blk_drewN ?_ _ | refine blk_drew ?_ | refine blk_alloc ?_ _)); refine blk_put (cs := #[.bool a1_0, .int .i64 a1_1, .int .i64 a1_2, .int .u64 a1_3]) ?_ 0 _ rfl; (with_reducible repeat (first | refine blk_drewN ?_ _ | refine blk_drew ?_ | refine blk_alloc ?_ _)); exact BK267.out⟩, ⟨by (with_reducible repeat (first | refine blk_drewN ?_ _ | refine blk_drew ?_ | refine blk_alloc ?_ _)); refine blk_put (cs := #[.bool a1_0, .int .i64 a1_1, .int .i64 a1_2, .int .u64 a2_3]) ?_ 3 _ rfl; (with_reducible repeat (first | refine blk_drewN ?_ _ | refine blk_drew ?_ | refine blk_alloc ?_ _)); refine blk_put (cs := #[.bool a1_0, .int .i64 a1_1, .int .i64 a2_2, .int .u64 a2_3]) ?_ 2 _ rfl; (with_reducible repeat (first | refine blk_drewN ?_ _ | refine blk_drew ?_ | refine blk_alloc ?_ _)); refine blk_put (cs := #[.bool a1_0, .int .i64 a2_1, .int .i64 a2_2, .int .u64 a2_3]) ?_ 1 _ rfl; (with_reducible repeat (first | refine blk_drewN ?_ _ | refine blk_drew ?_ | refine blk_alloc ?_ _)); refine blk_put (cs := #[.bool a2_0, .int .i64 a2_1, .int .i64 a2_2, .int .u64 a2_3]) ?_ 0 _ rfl; (with_reducible repeat (first | refine blk_drewN ?_ _ | refine blk_drew ?_ | refine blk_alloc ?_ _)); refine blk_far ?_ NB268_267.out _; (with_reducible repeat (first | refine blk_drewN ?_ _ | refine blk_drew ?_ | refine blk_alloc ?_ _)); refine blk_far ?_ NB268_267.out _; (with_reducible repeat (first | refine blk_drewN ?_ _ | refine blk_drew ?_ | refine blk_alloc ?_ _)); refine blk_far ?_ NB268_267.out _; (with_reducible repeat (first | refine blk_drewN ?_ _ | refine blk_drew ?_ | refine blk_alloc ?_ _)); refine blk_far ?_ NB268_267.out _; (with_reducible repeat (first | refine blk_drewN ?_ _ | refine blk_drew ?_ | refine blk_alloc ?_ _)); exact BK268.out⟩, ⟨hb2_ HB.out GE267.out GE268.out⟩⟩
  ·rw [if_neg c10] at H
   have c10b0 : decide (a1_2 < a2_2) = false := decide_eq_false c10
   clear c10
   (first | rw [c10b0] | (simp only [i64_w, i32_w]; rw [c10b0]) | skip)
   have H' := A_ H
   clear H
   go_wp2
   go_meet
   case rel => exact ⟨_, (a1_0), (a1_1), (a1_2), (a1_3), (a2_0), (a2_1), (a2_2), (a2_3), H', ⟨by first | omega | exact Nat.le_refl _⟩, ⟨bk_ BK267.out⟩, ⟨bk_ BK268.out⟩, ⟨hb2_ HB.out GE267.out GE268.out⟩⟩
 case rest =>
  clear HC4
  try clear c1
  try clear p2
  try clear c7
  try clear c9
  try clear c10
  try clear c10b0
  try clear c11
  try clear hcz12_0
  try clear hcz12_1
  try clear hcz12_2
  try clear hcz12_3
  try clear hcz13_0
  try clear hcz13_1
  try clear hcz13_2
  try clear hcz13_3
  try clear hcz8_0
  try clear hcz8_1
  try clear hcz8_2
  try clear hcz8_3
  try clear hcz9_0
  try clear hcz9_1
  try clear hcz9_2
  try clear hcz9_3
  try clear hfz12_0
  try clear hfz12_1
  try clear hfz12_2
  try clear hfz12_3
  try clear hfz13_0
  try clear hfz13_1
  try clear hfz13_2
  try clear hfz13_3
  try clear hfz8_0
  try clear hfz8_1
  try clear hfz8_2
  try clear hfz8_3
  try clear hfz9_0
  try clear hfz9_1
  try clear hfz9_2
  try clear hfz9_3
  obtain ⟨kq, x268000_3, x268001_3, x268002_3, x268003_3, x269000_3, x269001_3, x269002_3, x269003_3, HA, HJ3, BK267, BK268, HB⟩ := hcut
  cases kq with
  | zero => exact absurd HA.out (by simp [sum_finite.j0])
  | succ kj3 =>
   have H := HA.out
   clear HA
   simp only [sum_finite.j0] at H
   replace H := ob_ H
   obtain ⟨⟨t269, t270, t271, t272, t273, t274⟩, A140, H⟩ := H
   replace H : (if (x268000_3 == x269000_3) = true then ((wide_Add.f t269 t270 t271 t272).bind fun bt276 => ((round_Pack.f a0 x268000_3 bt276.1 bt276.2 t273 t274).bind fun t278 => (some t278))) else ((wide_Cmp.f t269 t270 t271 t272).bind fun t279 => (if t279 = 0 then ((shape_Zero.f a0 false).bind fun t280 => (some t280)) else (if t279 = (-1) then ((wide_Sub.f t271 t272 t269 t270).bind fun bt281 => ((round_Pack.f a0 x269000_3 bt281.1 bt281.2 t273 false).bind fun t283 => (some t283))) else ((wide_Sub.f t269 t270 t271 t272).bind fun bt284 => (if t274 = true then ((wide_Of.f 1).bind fun bt287 => ((wide_Sub.f bt284.1 bt284.2 bt287.1 bt287.2).bind fun bt289 => ((round_Pack.f a0 x268000_3 bt289.1 bt289.2 t273 t274).bind fun t291 => (some t291)))) else ((round_Pack.f a0 x268000_3 bt284.1 bt284.2 t273 t274).bind fun t292 => (some t292)))))))) = some r := H
   have A14 := A_ A140;clear A140
   by_cases c15 : (x268000_3 == x269000_3) = true
   ·rw [if_pos c15] at H
    have c15b0 : (x268000_3 == x269000_3) = true := c15
    (try (have c15b1 : decide (x268000_3 = x269000_3) = true := by simpa using c15))
    (try (have c15b2 : (x268000_3 == x269000_3) = true := by simpa using c15))
    clear c15
    replace H := ob_ H
    obtain ⟨⟨t276, t277⟩, A160, H⟩ := H
    replace H : ((round_Pack.f a0 x268000_3 t276 t277 t273 t274).bind fun t278 => (some t278)) = some r := H
    have A16 := A_ A160;clear A160
    replace H := ob_ H
    obtain ⟨t278, A170, H⟩ := H
    replace H : (some t278) = some r := H
    have A17 := A_ A170;clear A170
    obtain rfl := Option.some.inj H
    have hnb18 := NB267_268.out
    have hnc18 := NB268_267.out
    have hcz19_0 := bv_ BK267.out 0
    have hcz19_1 := bv_ BK267.out 1
    have hcz19_2 := bv_ BK267.out 2
    have hcz19_3 := bv_ BK267.out 3
    have hfz19_0 := blk_frozen BK267.out 0
    have hfz19_1 := blk_frozen BK267.out 1
    have hfz19_2 := blk_frozen BK267.out 2
    have hfz19_3 := blk_frozen BK267.out 3
    have hcz20_0 := bv_ BK268.out 0
    have hcz20_1 := bv_ BK268.out 1
    have hcz20_2 := bv_ BK268.out 2
    have hcz20_3 := bv_ BK268.out 3
    have hfz20_0 := blk_frozen BK268.out 0
    have hfz20_1 := blk_frozen BK268.out 1
    have hfz20_2 := blk_frozen BK268.out 2
    have hfz20_3 := blk_frozen BK268.out 3
    try go_wp2_with (first | ((with_reducible refine gate_callee (f := 108) rfl ?_); refine gl_ (some 18) Try.func108 #[.agg #[.bool x268000_3, .int .i64 x268001_3, .int .i64 x268002_3, .int .u64 x268003_3], .agg #[.bool x269000_3, .int .i64 x269001_3, .int .i64 x269002_3, .int .u64 x269003_3]] ?_; (with_reducible refine (sum_align.calls x268000_3 x268001_3 x268002_3 x268003_3 x269000_3 x269001_3 x269002_3 x269003_3 t269 t270 t271 t272 t273 t274 _ A14.out).mono ?_); rintro e w21 ⟨rfl, hb⟩; refine ⟨_, rfl, ?_⟩; replace BK267 := A_ (bb_ BK267.out hb); replace BK268 := A_ (bb_ BK268.out hb); replace HB := A_ (below_step (hb2_ HB.out GE267.out GE268.out) hb); (try clear hb); (try clear hb2); (try clear hk); (try clear hi)) | ((with_reducible refine gate_dst (N := 7) rfl ?_); refine be_ 7 #[.int .u64 0, .int .u64 0, .int .u64 0, .int .u64 0, .int .i64 0, .bool false] 122 ?_; intro gb275 hg w22 hbox hb; have BK275 := A_ (hbox); have GW275 := A_ (sz_ hg (hb2_ HB.out GE267.out GE268.out)); have GE275 := A_ (sz_ hg (hb2_ HB.out GE267.out GE268.out)); have NB267_275 := A_ (nl_ hg BK267.out); have NB275_267 := A_ (ng_ hg BK267.out); have NB268_275 := A_ (nl_ hg BK268.out); have NB275_268 := A_ (ng_ hg BK268.out); replace BK267 := A_ (bb_ BK267.out hb); replace BK268 := A_ (bb_ BK268.out hb); replace HB := A_ (below_step (hb2_ HB.out GE267.out GE268.out) hb); clear hb hbox hg; have hnb23 := NB275_267.out; have hnc23 := NB267_275.out; have hnb24 := NB275_268.out; have hnc24 := NB268_275.out; have hcz25_0 := bv_ BK275.out 0; have hcz25_1 := bv_ BK275.out 1; have hcz25_2 := bv_ BK275.out 2; have hcz25_3 := bv_ BK275.out 3; have hcz25_4 := bv_ BK275.out 4; have hcz25_5 := bv_ BK275.out 5; have hfz25_0 := blk_frozen BK275.out 0; have hfz25_1 := blk_frozen BK275.out 1; have hfz25_2 := blk_frozen BK275.out 2; have hfz25_3 := blk_frozen BK275.out 3; have hfz25_4 := blk_frozen BK275.out 4; have hfz25_5 := blk_frozen BK275.out 5; have hcz26_0 := bv_ BK267.out 0; have hcz26_1 := bv_ BK267.out 1; have hcz26_2 := bv_ BK267.out 2; have hcz26_3 := bv_ BK267.out 3; have hfz26_0 := blk_frozen BK267.out 0; have hfz26_1 := blk_frozen BK267.out 1; have hfz26_2 := blk_frozen BK267.out 2; have hfz26_3 := blk_frozen BK267.out 3; have hcz27_0 := bv_ BK268.out 0; have hcz27_1 := bv_ BK268.out 1; have hcz27_2 := bv_ BK268.out 2; have hcz27_3 := bv_ BK268.out 3; have hfz27_0 := blk_frozen BK268.out 0; have hfz27_1 := blk_frozen BK268.out 1; have hfz27_2 := blk_frozen BK268.out 2; have hfz27_3 := blk_frozen BK268.out 3))
    have n0_ : Aside0 (((((((w22.setCell ⟨gb275, 0, none⟩ (.int .u64 t269)).setCell ⟨gb275, 1, none⟩ (.int .u64 t270)).setCell ⟨gb275, 2, none⟩ (.int .u64 t271)).setCell ⟨gb275, 3, none⟩ (.int .u64 t272)).setCell ⟨gb275, 4, none⟩ (.int .i64 t273)).setCell ⟨gb275, 5, none⟩ (.bool t274)).heap[gb267]? = some (.cells #[.bool x268000_3, .int .i64 x268001_3, .int .i64 x268002_3, .int .u64 x268003_3] 38 (0, 0))) := ⟨bf6_ BK267.out NB267_275.out NB267_275.out NB267_275.out NB267_275.out NB267_275.out NB267_275.out⟩
    have n1_ : Aside0 (((((((w22.setCell ⟨gb275, 0, none⟩ (.int .u64 t269)).setCell ⟨gb275, 1, none⟩ (.int .u64 t270)).setCell ⟨gb275, 2, none⟩ (.int .u64 t271)).setCell ⟨gb275, 3, none⟩ (.int .u64 t272)).setCell ⟨gb275, 4, none⟩ (.int .i64 t273)).setCell ⟨gb275, 5, none⟩ (.bool t274)).heap[gb268]? = some (.cells #[.bool x269000_3, .int .i64 x269001_3, .int .i64 x269002_3, .int .u64 x269003_3] 38 (0, 0))) := ⟨bf6_ BK268.out NB268_275.out NB268_275.out NB268_275.out NB268_275.out NB268_275.out NB268_275.out⟩
    have n2_ : Aside0 (((((((w22.setCell ⟨gb275, 0, none⟩ (.int .u64 t269)).setCell ⟨gb275, 1, none⟩ (.int .u64 t270)).setCell ⟨gb275, 2, none⟩ (.int .u64 t271)).setCell ⟨gb275, 3, none⟩ (.int .u64 t272)).setCell ⟨gb275, 4, none⟩ (.int .i64 t273)).setCell ⟨gb275, 5, none⟩ (.bool t274)).heap[gb275]? = some (.cells #[.int .u64 t269, .int .u64 t270, .int .u64 t271, .int .u64 t272, .int .i64 t273, .bool t274] 122 (0, 0))) := ⟨by (with_reducible repeat (first | refine blk_drewN ?_ _ | refine blk_drew ?_ | refine blk_alloc ?_ _)); refine blk_put (cs := #[.int .u64 t269, .int .u64 t270, .int .u64 t271, .int .u64 t272, .int .i64 t273, .bool false]) ?_ 5 _ rfl; (with_reducible repeat (first | refine blk_drewN ?_ _ | refine blk_drew ?_ | refine blk_alloc ?_ _)); refine blk_put (cs := #[.int .u64 t269, .int .u64 t270, .int .u64 t271, .int .u64 t272, .int .i64 0, .bool false]) ?_ 4 _ rfl; (with_reducible repeat (first | refine blk_drewN ?_ _ | refine blk_drew ?_ | refine blk_alloc ?_ _)); refine blk_put (cs := #[.int .u64 t269, .int .u64 t270, .int .u64 t271, .int .u64 0, .int .i64 0, .bool false]) ?_ 3 _ rfl; (with_reducible repeat (first | refine blk_drewN ?_ _ | refine blk_drew ?_ | refine blk_alloc ?_ _)); refine blk_put (cs := #[.int .u64 t269, .int .u64 t270, .int .u64 0, .int .u64 0, .int .i64 0, .bool false]) ?_ 2 _ rfl; (with_reducible repeat (first | refine blk_drewN ?_ _ | refine blk_drew ?_ | refine blk_alloc ?_ _)); refine blk_put (cs := #[.int .u64 t269, .int .u64 0, .int .u64 0, .int .u64 0, .int .i64 0, .bool false]) ?_ 1 _ rfl; (with_reducible repeat (first | refine blk_drewN ?_ _ | refine blk_drew ?_ | refine blk_alloc ?_ _)); refine blk_put (cs := #[.int .u64 0, .int .u64 0, .int .u64 0, .int .u64 0, .int .i64 0, .bool false]) ?_ 0 _ rfl; (with_reducible repeat (first | refine blk_drewN ?_ _ | refine blk_drew ?_ | refine blk_alloc ?_ _)); exact BK275.out⟩
    have n3_ : Aside0 (Below w.heap.size w ((((((w22.setCell ⟨gb275, 0, none⟩ (.int .u64 t269)).setCell ⟨gb275, 1, none⟩ (.int .u64 t270)).setCell ⟨gb275, 2, none⟩ (.int .u64 t271)).setCell ⟨gb275, 3, none⟩ (.int .u64 t272)).setCell ⟨gb275, 4, none⟩ (.int .i64 t273)).setCell ⟨gb275, 5, none⟩ (.bool t274))) := ⟨hb3_ HB.out GE267.out GE268.out GE275.out⟩
    (try clear BK267);(try clear BK268);(try clear BK275);(try clear HB)
    generalize ((((((w22.setCell ⟨gb275, 0, none⟩ (.int .u64 t269)).setCell ⟨gb275, 1, none⟩ (.int .u64 t270)).setCell ⟨gb275, 2, none⟩ (.int .u64 t271)).setCell ⟨gb275, 3, none⟩ (.int .u64 t272)).setCell ⟨gb275, 4, none⟩ (.int .i64 t273)).setCell ⟨gb275, 5, none⟩ (.bool t274)) = w28 at n0_ n1_ n2_ n3_ ⊢
    have BK267 := n0_;have BK268 := n1_;have BK275 := n2_;have HB := n3_;clear n0_ n1_ n2_ n3_
    replace BK267 := A_ (blk_drew BK267.out)
    replace BK268 := A_ (blk_drew BK268.out)
    replace BK275 := A_ (blk_drew BK275.out)
    replace HB := A_ (below_drew1 HB.out)
    refine start_ (n := 14) (S := fun w' => w'.cell? ⟨gb267, 0, none⟩ = some (.bool x268000_3) ∧ w'.cell? ⟨gb267, 1, none⟩ = some (.int .i64 x268001_3) ∧ w'.cell? ⟨gb267, 2, none⟩ = some (.int .i64 x268002_3) ∧ w'.cell? ⟨gb267, 3, none⟩ = some (.int .u64 x268003_3) ∧ w'.cell? ⟨gb275, 0, none⟩ = some (.int .u64 t269) ∧ w'.cell? ⟨gb275, 1, none⟩ = some (.int .u64 t270) ∧ w'.cell? ⟨gb275, 2, none⟩ = some (.int .u64 t271) ∧ w'.cell? ⟨gb275, 3, none⟩ = some (.int .u64 t272) ∧ w'.cell? ⟨gb275, 4, none⟩ = some (.int .i64 t273) ∧ w'.cell? ⟨gb275, 5, none⟩ = some (.bool t274)) (ds := []) #[false, false, false, false, false, false, false, false, false, false, false, false, false, false] (by kernel_rfl) rfl rfl ⟨bc_ BK267.out 0, bc_ BK267.out 1, bc_ BK267.out 2, bc_ BK267.out 3, bc_ BK275.out 0, bc_ BK275.out 1, bc_ BK275.out 2, bc_ BK275.out 3, bc_ BK275.out 4, bc_ BK275.out 5⟩ (fun hHeld => ?_); refine with_tabW sum_finite.tab5 sum_finite.bits5 (fun HT_ HW_ => ?_)
    generalize w28.drew = w29 at BK267 BK268 BK275 HB hHeld ⊢
    refine pu_ 0 (some 24) #[true, false, false, false, false, false, false, false, false, false, false, false, false, false] rfl rfl (any_of HT_.out (by kernel_rfl)) ?_
    refine pu_ 1 (some 25) #[true, true, false, false, false, false, false, false, false, false, false, false, false, false] rfl rfl (any_of HT_.out (by kernel_rfl)) ?_
    refine pu_ 3 (some 27) #[true, true, false, true, false, false, false, false, false, false, false, false, false, false] rfl rfl (any_of HT_.out (by kernel_rfl)) ?_
    refine pu_ 5 (some 29) #[true, true, false, true, false, true, false, false, false, false, false, false, false, false] rfl rfl (any_of HT_.out (by kernel_rfl)) ?_
    refine pu_ 8 (some 32) #[true, true, false, true, false, true, false, false, true, false, false, false, false, false] rfl rfl (any_of HT_.out (by kernel_rfl)) ?_
    refine pu_ 10 (some 34) #[true, true, false, true, false, true, false, false, true, false, true, false, false, false] rfl rfl (any_of HT_.out (by kernel_rfl)) ?_
    refine take_ (i := 2) (N := some 26) (v := ?_) (a' := ?_) #[true, true, true, true, false, true, false, false, true, false, true, false, false, false] rfl rfl (take_ofW HT_.out HW_.out (by kernel_rfl)) (fun _ _ _ h => h) (Or.inl ⟨by rfl, ?_⟩) hHeld ?_ ?_
    rotate_left
    ·rintro w' ⟨s0, s1, s2, s3, s4, s5, s6, s7, s8, s9⟩
     go_simp
     with_reducible rfl
    rotate_left
    ·simp only [Act.put, lI_, l0_, lS_, i64_w, i32_w]
     rfl
    refine take_ (i := 4) (N := some 28) (v := ?_) (a' := ?_) #[true, true, true, true, true, true, false, false, true, false, true, false, false, false] rfl rfl (take_ofW HT_.out HW_.out (by kernel_rfl)) (fun _ _ _ h => h) (Or.inl ⟨by rfl, ?_⟩) hHeld ?_ ?_
    rotate_left
    ·rintro w' ⟨s0, s1, s2, s3, s4, s5, s6, s7, s8, s9⟩
     go_simp
     with_reducible rfl
    rotate_left
    ·simp only [Act.put, lI_, l0_, lS_, i64_w, i32_w]
     rfl
    refine take_ (i := 6) (N := some 30) (v := ?_) (a' := ?_) #[true, true, true, true, true, true, true, false, true, false, true, false, false, false] rfl rfl (take_ofW HT_.out HW_.out (by kernel_rfl)) (fun _ _ _ h => h) (Or.inl ⟨by rfl, ?_⟩) hHeld ?_ ?_
    rotate_left
    ·rintro w' ⟨s0, s1, s2, s3, s4, s5, s6, s7, s8, s9⟩
     go_simp
     with_reducible rfl
    rotate_left
    ·simp only [Act.put, lI_, l0_, lS_, i64_w, i32_w]
     rfl
    refine take_ (i := 9) (N := some 33) (v := ?_) (a' := ?_) #[true, true, true, true, true, true, true, false, true, true, true, false, false, false] rfl rfl (take_ofW HT_.out HW_.out (by kernel_rfl)) (fun _ _ _ h => h) (Or.inl ⟨by rfl, ?_⟩) hHeld ?_ ?_
    rotate_left
    ·rintro w' ⟨s0, s1, s2, s3, s4, s5, s6, s7, s8, s9⟩
     go_simp
     with_reducible rfl
    rotate_left
    ·simp only [Act.put, lI_, l0_, lS_, i64_w, i32_w]
     rfl
    refine take_ (i := 11) (N := some 35) (v := ?_) (a' := ?_) #[true, true, true, true, true, true, true, false, true, true, true, true, false, false] rfl rfl (take_ofW HT_.out HW_.out (by kernel_rfl)) (fun _ _ _ h => h) (Or.inl ⟨by rfl, ?_⟩) hHeld ?_ ?_
    rotate_left
    ·rintro w' ⟨s0, s1, s2, s3, s4, s5, s6, s7, s8, s9⟩
     go_simp
     with_reducible rfl
    rotate_left
    ·simp only [Act.put, lI_, l0_, lS_, i64_w, i32_w]
     rfl
    refine one_ (i := 7) (N := some 31) #[true, true, true, true, true, true, true, true, true, true, true, true, false, false] rfl rfl (one_of HT_.out (by kernel_rfl)) (by decide) (fun K hK => ?_)
    refine goes_ Try.func38 (by kernel_rfl) rfl #[.agg #[.int .u64 t269, .int .u64 t270], .agg #[.int .u64 t271, .int .u64 t272]] (by rfl) rfl rfl mp_ ?_
    with_reducible refine (wide_Add.calls t269 t270 t271 t272 t276 t277 _ A16.out).mono ?_
    rintro e w30 ⟨rfl, hb⟩
    refine ⟨_, rfl, ?_⟩
    replace BK267 := A_ (bb_ BK267.out hb)
    replace BK268 := A_ (bb_ BK268.out hb)
    replace BK275 := A_ (bb_ BK275.out hb)
    replace HB := A_ (below_step (hb3_ HB.out GE267.out GE268.out GE275.out) hb);(try clear hb);(try clear hb2);(try clear hk);(try clear hi)
    refine hK.out _ _ ⟨bc_ BK267.out 0, bc_ BK267.out 1, bc_ BK267.out 2, bc_ BK267.out 3, bc_ BK275.out 0, bc_ BK275.out 1, bc_ BK275.out 2, bc_ BK275.out 3, bc_ BK275.out 4, bc_ BK275.out 5⟩ (fun hHeld => ?_)
    clear hK K
    refine norm_ (a' := ?_) ?_ ?_
    rotate_left
    ·show Act.put _ (some 31) _ = _
     simp only [Act.put, lI_, l0_, lS_, i64_w, i32_w]
     rfl
    refine one_ (i := 12) (N := some 36) #[true, true, true, true, true, true, true, true, true, true, true, true, true, false] rfl rfl (one_of HT_.out (by kernel_rfl)) (by decide) (fun K hK => ?_)
    refine goes_ Try.func36 (by kernel_rfl) rfl #[.int .i64 a0, .bool x268000_3, .agg #[.int .u64 t276, .int .u64 t277], .int .i64 t273, .bool t274] (by rfl) rfl rfl mp_ ?_
    with_reducible refine (round_Pack.calls a0 x268000_3 t276 t277 t273 t274 t278 _ A17.out).mono ?_
    rintro e w31 ⟨rfl, hb⟩
    refine ⟨_, rfl, ?_⟩
    replace BK267 := A_ (bb_ BK267.out hb)
    replace BK268 := A_ (bb_ BK268.out hb)
    replace BK275 := A_ (bb_ BK275.out hb)
    replace HB := A_ (below_step (hb3_ HB.out GE267.out GE268.out GE275.out) hb);(try clear hb);(try clear hb2);(try clear hk);(try clear hi)
    refine hK.out _ _ ⟨bc_ BK267.out 0, bc_ BK267.out 1, bc_ BK267.out 2, bc_ BK267.out 3, bc_ BK275.out 0, bc_ BK275.out 1, bc_ BK275.out 2, bc_ BK275.out 3, bc_ BK275.out 4, bc_ BK275.out 5⟩ (fun hHeld => ?_)
    clear hK K
    refine norm_ (a' := ?_) ?_ ?_
    rotate_left
    ·show Act.put _ (some 36) _ = _
     simp only [Act.put, lI_, l0_, lS_, i64_w, i32_w]
     rfl
    refine pu_ 13 (some 6) #[true, true, true, true, true, true, true, true, true, true, true, true, true, true] rfl rfl (any_of HT_.out (by kernel_rfl)) ?_
    refine done_ (done_of HT_.out (by kernel_rfl)) ?_
    try go_wp2
    go_ret
    exact ⟨er_, hb3_ HB.out GE267.out GE268.out GE275.out⟩
   ·rw [if_neg c15] at H
    have c15b0 : (x268000_3 == x269000_3) = false := by simpa using c15
    (try (have c15b1 : decide (x268000_3 = x269000_3) = false := by simpa using c15))
    (try (have c15b2 : (x268000_3 == x269000_3) = false := by simpa using c15))
    (try (have c15b3 : ¬ (x268000_3 = x269000_3) := by simpa using c15))
    clear c15
    replace H := ob_ H
    obtain ⟨t279, A320, H⟩ := H
    replace H : (if t279 = 0 then ((shape_Zero.f a0 false).bind fun t280 => (some t280)) else (if t279 = (-1) then ((wide_Sub.f t271 t272 t269 t270).bind fun bt281 => ((round_Pack.f a0 x269000_3 bt281.1 bt281.2 t273 false).bind fun t283 => (some t283))) else ((wide_Sub.f t269 t270 t271 t272).bind fun bt284 => (if t274 = true then ((wide_Of.f 1).bind fun bt287 => ((wide_Sub.f bt284.1 bt284.2 bt287.1 bt287.2).bind fun bt289 => ((round_Pack.f a0 x268000_3 bt289.1 bt289.2 t273 t274).bind fun t291 => (some t291)))) else ((round_Pack.f a0 x268000_3 bt284.1 bt284.2 t273 t274).bind fun t292 => (some t292)))))) = some r := H
    have A32 := A_ A320;clear A320
    by_cases c33 : t279 = 0
    ·rw [if_pos c33] at H
     have c33b0 : (t279 == 0) = true := beq_iff_eq.mpr c33
     have c33b1 : (t279 != 0) = false := bne_eq_false_iff_eq.mpr c33
     clear c33
     replace H := ob_ H
     obtain ⟨t280, A340, H⟩ := H
     replace H : (some t280) = some r := H
     have A34 := A_ A340;clear A340
     obtain rfl := Option.some.inj H
     have hnb35 := NB267_268.out
     have hnc35 := NB268_267.out
     have hcz36_0 := bv_ BK267.out 0
     have hcz36_1 := bv_ BK267.out 1
     have hcz36_2 := bv_ BK267.out 2
     have hcz36_3 := bv_ BK267.out 3
     have hfz36_0 := blk_frozen BK267.out 0
     have hfz36_1 := blk_frozen BK267.out 1
     have hfz36_2 := blk_frozen BK267.out 2
     have hfz36_3 := blk_frozen BK267.out 3
     have hcz37_0 := bv_ BK268.out 0
     have hcz37_1 := bv_ BK268.out 1
     have hcz37_2 := bv_ BK268.out 2
     have hcz37_3 := bv_ BK268.out 3
     have hfz37_0 := blk_frozen BK268.out 0
     have hfz37_1 := blk_frozen BK268.out 1
     have hfz37_2 := blk_frozen BK268.out 2
     have hfz37_3 := blk_frozen BK268.out 3
     go_wp2_with (first | ((with_reducible refine gate_callee (f := 108) rfl ?_); refine gl_ (some 18) Try.func108 #[.agg #[.bool x268000_3, .int .i64 x268001_3, .int .i64 x268002_3, .int .u64 x268003_3], .agg #[.bool x269000_3, .int .i64 x269001_3, .int .i64 x269002_3, .int .u64 x269003_3]] ?_; (with_reducible refine (sum_align.calls x268000_3 x268001_3 x268002_3 x268003_3 x269000_3 x269001_3 x269002_3 x269003_3 t269 t270 t271 t272 t273 t274 _ A14.out).mono ?_); rintro e w38 ⟨rfl, hb⟩; refine ⟨_, rfl, ?_⟩; replace BK267 := A_ (bb_ BK267.out hb); replace BK268 := A_ (bb_ BK268.out hb); replace HB := A_ (below_step (hb2_ HB.out GE267.out GE268.out) hb); (try clear hb); (try clear hb2); (try clear hk); (try clear hi)) | ((with_reducible refine gate_dst (N := 7) rfl ?_); refine be_ 7 #[.int .u64 0, .int .u64 0, .int .u64 0, .int .u64 0, .int .i64 0, .bool false] 122 ?_; intro gb275 hg w39 hbox hb; have BK275 := A_ (hbox); have GW275 := A_ (sz_ hg (hb2_ HB.out GE267.out GE268.out)); have GE275 := A_ (sz_ hg (hb2_ HB.out GE267.out GE268.out)); have NB267_275 := A_ (nl_ hg BK267.out); have NB275_267 := A_ (ng_ hg BK267.out); have NB268_275 := A_ (nl_ hg BK268.out); have NB275_268 := A_ (ng_ hg BK268.out); replace BK267 := A_ (bb_ BK267.out hb); replace BK268 := A_ (bb_ BK268.out hb); replace HB := A_ (below_step (hb2_ HB.out GE267.out GE268.out) hb); clear hb hbox hg; have hnb40 := NB275_267.out; have hnc40 := NB267_275.out; have hnb41 := NB275_268.out; have hnc41 := NB268_275.out; have hcz42_0 := bv_ BK275.out 0; have hcz42_1 := bv_ BK275.out 1; have hcz42_2 := bv_ BK275.out 2; have hcz42_3 := bv_ BK275.out 3; have hcz42_4 := bv_ BK275.out 4; have hcz42_5 := bv_ BK275.out 5; have hfz42_0 := blk_frozen BK275.out 0; have hfz42_1 := blk_frozen BK275.out 1; have hfz42_2 := blk_frozen BK275.out 2; have hfz42_3 := blk_frozen BK275.out 3; have hfz42_4 := blk_frozen BK275.out 4; have hfz42_5 := blk_frozen BK275.out 5; have hcz43_0 := bv_ BK267.out 0; have hcz43_1 := bv_ BK267.out 1; have hcz43_2 := bv_ BK267.out 2; have hcz43_3 := bv_ BK267.out 3; have hfz43_0 := blk_frozen BK267.out 0; have hfz43_1 := blk_frozen BK267.out 1; have hfz43_2 := blk_frozen BK267.out 2; have hfz43_3 := blk_frozen BK267.out 3; have hcz44_0 := bv_ BK268.out 0; have hcz44_1 := bv_ BK268.out 1; have hcz44_2 := bv_ BK268.out 2; have hcz44_3 := bv_ BK268.out 3; have hfz44_0 := blk_frozen BK268.out 0; have hfz44_1 := blk_frozen BK268.out 1; have hfz44_2 := blk_frozen BK268.out 2; have hfz44_3 := blk_frozen BK268.out 3) | ((with_reducible refine gate_callee (f := 109) rfl ?_); refine gl_ (some 41) Try.func109 #[.agg #[.int .u64 t269, .int .u64 t270], .agg #[.int .u64 t271, .int .u64 t272]] ?_; (with_reducible refine (wide_Cmp.calls t269 t270 t271 t272 t279 _ A32.out).mono ?_); rintro e w45 ⟨rfl, hb⟩; refine ⟨_, rfl, ?_⟩; replace BK267 := A_ (blk_below (g := gb267) (o := .cells #[.bool x268000_3, .int .i64 x268001_3, .int .i64 x268002_3, .int .u64 x268003_3] 38 (0, 0)) (bf6_ BK267.out NB267_275.out NB267_275.out NB267_275.out NB267_275.out NB267_275.out NB267_275.out) hb); replace BK268 := A_ (blk_below (g := gb268) (o := .cells #[.bool x269000_3, .int .i64 x269001_3, .int .i64 x269002_3, .int .u64 x269003_3] 38 (0, 0)) (bf6_ BK268.out NB268_275.out NB268_275.out NB268_275.out NB268_275.out NB268_275.out NB268_275.out) hb); replace BK275 := A_ (blk_below (g := gb275) (o := .cells #[.int .u64 t269, .int .u64 t270, .int .u64 t271, .int .u64 t272, .int .i64 t273, .bool t274] 122 (0, 0)) (by (with_reducible repeat (first | refine blk_drewN ?_ _ | refine blk_drew ?_ | refine blk_alloc ?_ _)); refine blk_put (cs := #[.int .u64 t269, .int .u64 t270, .int .u64 t271, .int .u64 t272, .int .i64 t273, .bool false]) ?_ 5 _ rfl; (with_reducible repeat (first | refine blk_drewN ?_ _ | refine blk_drew ?_ | refine blk_alloc ?_ _)); refine blk_put (cs := #[.int .u64 t269, .int .u64 t270, .int .u64 t271, .int .u64 t272, .int .i64 0, .bool false]) ?_ 4 _ rfl; (with_reducible repeat (first | refine blk_drewN ?_ _ | refine blk_drew ?_ | refine blk_alloc ?_ _)); refine blk_put (cs := #[.int .u64 t269, .int .u64 t270, .int .u64 t271, .int .u64 0, .int .i64 0, .bool false]) ?_ 3 _ rfl; (with_reducible repeat (first | refine blk_drewN ?_ _ | refine blk_drew ?_ | refine blk_alloc ?_ _)); refine blk_put (cs := #[.int .u64 t269, .int .u64 t270, .int .u64 0, .int .u64 0, .int .i64 0, .bool false]) ?_ 2 _ rfl; (with_reducible repeat (first | refine blk_drewN ?_ _ | refine blk_drew ?_ | refine blk_alloc ?_ _)); refine blk_put (cs := #[.int .u64 t269, .int .u64 0, .int .u64 0, .int .u64 0, .int .i64 0, .bool false]) ?_ 1 _ rfl; (with_reducible repeat (first | refine blk_drewN ?_ _ | refine blk_drew ?_ | refine blk_alloc ?_ _)); refine blk_put (cs := #[.int .u64 0, .int .u64 0, .int .u64 0, .int .u64 0, .int .i64 0, .bool false]) ?_ 0 _ rfl; (with_reducible repeat (first | refine blk_drewN ?_ _ | refine blk_drew ?_ | refine blk_alloc ?_ _)); exact BK275.out) hb); replace HB := A_ (below_step (hb3_ HB.out GE267.out GE268.out GE275.out) hb); (try clear hb); (try clear hb2); (try clear hk); (try clear hi)) | ((with_reducible refine gate_callee (f := 30) rfl ?_); refine gl_ (some 45) Try.func30 #[.int .i64 a0, .bool false] ?_; (with_reducible refine (shape_Zero.calls a0 false t280 _ A34.out).mono ?_); rintro e w46 ⟨rfl, hb⟩; refine ⟨_, rfl, ?_⟩; replace BK267 := A_ (bb_ BK267.out hb); replace BK268 := A_ (bb_ BK268.out hb); replace BK275 := A_ (bb_ BK275.out hb); replace HB := A_ (below_step (hb3_ HB.out GE267.out GE268.out GE275.out) hb); (try clear hb); (try clear hb2); (try clear hk); (try clear hi)))
     go_ret
     exact ⟨er_, hb3_ HB.out GE267.out GE268.out GE275.out⟩
    ·rw [if_neg c33] at H
     have c33b0 : (t279 == 0) = false := beq_eq_false_iff_ne.mpr c33
     have c33b1 : (t279 != 0) = true := bne_iff_ne.mpr c33
     by_cases c47 : t279 = (-1)
     ·rw [if_pos c47] at H
      have c47b0 : (t279 == (-1)) = true := beq_iff_eq.mpr c47
      have c47b1 : (t279 != (-1)) = false := bne_eq_false_iff_eq.mpr c47
      clear c47
      replace H := ob_ H
      obtain ⟨⟨t281, t282⟩, A480, H⟩ := H
      replace H : ((round_Pack.f a0 x269000_3 t281 t282 t273 false).bind fun t283 => (some t283)) = some r := H
      have A48 := A_ A480;clear A480
      replace H := ob_ H
      obtain ⟨t283, A490, H⟩ := H
      replace H : (some t283) = some r := H
      have A49 := A_ A490;clear A490
      obtain rfl := Option.some.inj H
      have hnb50 := NB267_268.out
      have hnc50 := NB268_267.out
      have hcz51_0 := bv_ BK267.out 0
      have hcz51_1 := bv_ BK267.out 1
      have hcz51_2 := bv_ BK267.out 2
      have hcz51_3 := bv_ BK267.out 3
      have hfz51_0 := blk_frozen BK267.out 0
      have hfz51_1 := blk_frozen BK267.out 1
      have hfz51_2 := blk_frozen BK267.out 2
      have hfz51_3 := blk_frozen BK267.out 3
      have hcz52_0 := bv_ BK268.out 0
      have hcz52_1 := bv_ BK268.out 1
      have hcz52_2 := bv_ BK268.out 2
      have hcz52_3 := bv_ BK268.out 3
      have hfz52_0 := blk_frozen BK268.out 0
      have hfz52_1 := blk_frozen BK268.out 1
      have hfz52_2 := blk_frozen BK268.out 2
      have hfz52_3 := blk_frozen BK268.out 3
      try go_wp2_with (first | ((with_reducible refine gate_callee (f := 108) rfl ?_); refine gl_ (some 18) Try.func108 #[.agg #[.bool x268000_3, .int .i64 x268001_3, .int .i64 x268002_3, .int .u64 x268003_3], .agg #[.bool x269000_3, .int .i64 x269001_3, .int .i64 x269002_3, .int .u64 x269003_3]] ?_; (with_reducible refine (sum_align.calls x268000_3 x268001_3 x268002_3 x268003_3 x269000_3 x269001_3 x269002_3 x269003_3 t269 t270 t271 t272 t273 t274 _ A14.out).mono ?_); rintro e w53 ⟨rfl, hb⟩; refine ⟨_, rfl, ?_⟩; replace BK267 := A_ (bb_ BK267.out hb); replace BK268 := A_ (bb_ BK268.out hb); replace HB := A_ (below_step (hb2_ HB.out GE267.out GE268.out) hb); (try clear hb); (try clear hb2); (try clear hk); (try clear hi)) | ((with_reducible refine gate_dst (N := 7) rfl ?_); refine be_ 7 #[.int .u64 0, .int .u64 0, .int .u64 0, .int .u64 0, .int .i64 0, .bool false] 122 ?_; intro gb275 hg w54 hbox hb; have BK275 := A_ (hbox); have GW275 := A_ (sz_ hg (hb2_ HB.out GE267.out GE268.out)); have GE275 := A_ (sz_ hg (hb2_ HB.out GE267.out GE268.out)); have NB267_275 := A_ (nl_ hg BK267.out); have NB275_267 := A_ (ng_ hg BK267.out); have NB268_275 := A_ (nl_ hg BK268.out); have NB275_268 := A_ (ng_ hg BK268.out); replace BK267 := A_ (bb_ BK267.out hb); replace BK268 := A_ (bb_ BK268.out hb); replace HB := A_ (below_step (hb2_ HB.out GE267.out GE268.out) hb); clear hb hbox hg; have hnb55 := NB275_267.out; have hnc55 := NB267_275.out; have hnb56 := NB275_268.out; have hnc56 := NB268_275.out; have hcz57_0 := bv_ BK275.out 0; have hcz57_1 := bv_ BK275.out 1; have hcz57_2 := bv_ BK275.out 2; have hcz57_3 := bv_ BK275.out 3; have hcz57_4 := bv_ BK275.out 4; have hcz57_5 := bv_ BK275.out 5; have hfz57_0 := blk_frozen BK275.out 0; have hfz57_1 := blk_frozen BK275.out 1; have hfz57_2 := blk_frozen BK275.out 2; have hfz57_3 := blk_frozen BK275.out 3; have hfz57_4 := blk_frozen BK275.out 4; have hfz57_5 := blk_frozen BK275.out 5; have hcz58_0 := bv_ BK267.out 0; have hcz58_1 := bv_ BK267.out 1; have hcz58_2 := bv_ BK267.out 2; have hcz58_3 := bv_ BK267.out 3; have hfz58_0 := blk_frozen BK267.out 0; have hfz58_1 := blk_frozen BK267.out 1; have hfz58_2 := blk_frozen BK267.out 2; have hfz58_3 := blk_frozen BK267.out 3; have hcz59_0 := bv_ BK268.out 0; have hcz59_1 := bv_ BK268.out 1; have hcz59_2 := bv_ BK268.out 2; have hcz59_3 := bv_ BK268.out 3; have hfz59_0 := blk_frozen BK268.out 0; have hfz59_1 := blk_frozen BK268.out 1; have hfz59_2 := blk_frozen BK268.out 2; have hfz59_3 := blk_frozen BK268.out 3) | ((with_reducible refine gate_callee (f := 109) rfl ?_); refine gl_ (some 41) Try.func109 #[.agg #[.int .u64 t269, .int .u64 t270], .agg #[.int .u64 t271, .int .u64 t272]] ?_; (with_reducible refine (wide_Cmp.calls t269 t270 t271 t272 t279 _ A32.out).mono ?_); rintro e w60 ⟨rfl, hb⟩; refine ⟨_, rfl, ?_⟩; replace BK267 := A_ (blk_below (g := gb267) (o := .cells #[.bool x268000_3, .int .i64 x268001_3, .int .i64 x268002_3, .int .u64 x268003_3] 38 (0, 0)) (bf6_ BK267.out NB267_275.out NB267_275.out NB267_275.out NB267_275.out NB267_275.out NB267_275.out) hb); replace BK268 := A_ (blk_below (g := gb268) (o := .cells #[.bool x269000_3, .int .i64 x269001_3, .int .i64 x269002_3, .int .u64 x269003_3] 38 (0, 0)) (bf6_ BK268.out NB268_275.out NB268_275.out NB268_275.out NB268_275.out NB268_275.out NB268_275.out) hb); replace BK275 := A_ (blk_below (g := gb275) (o := .cells #[.int .u64 t269, .int .u64 t270, .int .u64 t271, .int .u64 t272, .int .i64 t273, .bool t274] 122 (0, 0)) (by (with_reducible repeat (first | refine blk_drewN ?_ _ | refine blk_drew ?_ | refine blk_alloc ?_ _)); refine blk_put (cs := #[.int .u64 t269, .int .u64 t270, .int .u64 t271, .int .u64 t272, .int .i64 t273, .bool false]) ?_ 5 _ rfl; (with_reducible repeat (first | refine blk_drewN ?_ _ | refine blk_drew ?_ | refine blk_alloc ?_ _)); refine blk_put (cs := #[.int .u64 t269, .int .u64 t270, .int .u64 t271, .int .u64 t272, .int .i64 0, .bool false]) ?_ 4 _ rfl; (with_reducible repeat (first | refine blk_drewN ?_ _ | refine blk_drew ?_ | refine blk_alloc ?_ _)); refine blk_put (cs := #[.int .u64 t269, .int .u64 t270, .int .u64 t271, .int .u64 0, .int .i64 0, .bool false]) ?_ 3 _ rfl; (with_reducible repeat (first | refine blk_drewN ?_ _ | refine blk_drew ?_ | refine blk_alloc ?_ _)); refine blk_put (cs := #[.int .u64 t269, .int .u64 t270, .int .u64 0, .int .u64 0, .int .i64 0, .bool false]) ?_ 2 _ rfl; (with_reducible repeat (first | refine blk_drewN ?_ _ | refine blk_drew ?_ | refine blk_alloc ?_ _)); refine blk_put (cs := #[.int .u64 t269, .int .u64 0, .int .u64 0, .int .u64 0, .int .i64 0, .bool false]) ?_ 1 _ rfl; (with_reducible repeat (first | refine blk_drewN ?_ _ | refine blk_drew ?_ | refine blk_alloc ?_ _)); refine blk_put (cs := #[.int .u64 0, .int .u64 0, .int .u64 0, .int .u64 0, .int .i64 0, .bool false]) ?_ 0 _ rfl; (with_reducible repeat (first | refine blk_drewN ?_ _ | refine blk_drew ?_ | refine blk_alloc ?_ _)); exact BK275.out) hb); replace HB := A_ (below_step (hb3_ HB.out GE267.out GE268.out GE275.out) hb); (try clear hb); (try clear hb2); (try clear hk); (try clear hi)))
      replace BK267 := A_ (blk_drew BK267.out)
      replace BK268 := A_ (blk_drew BK268.out)
      replace BK275 := A_ (blk_drew BK275.out)
      replace HB := A_ (below_drew1 HB.out)
      refine start_ (n := 12) (S := fun w' => w'.cell? ⟨gb268, 0, none⟩ = some (.bool x269000_3) ∧ w'.cell? ⟨gb268, 1, none⟩ = some (.int .i64 x269001_3) ∧ w'.cell? ⟨gb268, 2, none⟩ = some (.int .i64 x269002_3) ∧ w'.cell? ⟨gb268, 3, none⟩ = some (.int .u64 x269003_3) ∧ w'.cell? ⟨gb275, 0, none⟩ = some (.int .u64 t269) ∧ w'.cell? ⟨gb275, 1, none⟩ = some (.int .u64 t270) ∧ w'.cell? ⟨gb275, 2, none⟩ = some (.int .u64 t271) ∧ w'.cell? ⟨gb275, 3, none⟩ = some (.int .u64 t272) ∧ w'.cell? ⟨gb275, 4, none⟩ = some (.int .i64 t273) ∧ w'.cell? ⟨gb275, 5, none⟩ = some (.bool t274)) (ds := []) #[false, false, false, false, false, false, false, false, false, false, false, false] (by kernel_rfl) rfl rfl ⟨bc_ BK268.out 0, bc_ BK268.out 1, bc_ BK268.out 2, bc_ BK268.out 3, bc_ BK275.out 0, bc_ BK275.out 1, bc_ BK275.out 2, bc_ BK275.out 3, bc_ BK275.out 4, bc_ BK275.out 5⟩ (fun hHeld => ?_); refine with_tabW sum_finite.tab10 sum_finite.bits10 (fun HT_ HW_ => ?_)
      generalize w60.drew = w61 at BK267 BK268 BK275 HB hHeld ⊢
      refine pu_ 0 (some 48) #[true, false, false, false, false, false, false, false, false, false, false, false] rfl rfl (any_of HT_.out (by kernel_rfl)) ?_
      refine pu_ 1 (some 49) #[true, true, false, false, false, false, false, false, false, false, false, false] rfl rfl (any_of HT_.out (by kernel_rfl)) ?_
      refine pu_ 3 (some 51) #[true, true, false, true, false, false, false, false, false, false, false, false] rfl rfl (any_of HT_.out (by kernel_rfl)) ?_
      refine pu_ 5 (some 53) #[true, true, false, true, false, true, false, false, false, false, false, false] rfl rfl (any_of HT_.out (by kernel_rfl)) ?_
      refine pu_ 8 (some 56) #[true, true, false, true, false, true, false, false, true, false, false, false] rfl rfl (any_of HT_.out (by kernel_rfl)) ?_
      refine take_ (i := 2) (N := some 50) (v := ?_) (a' := ?_) #[true, true, true, true, false, true, false, false, true, false, false, false] rfl rfl (take_ofW HT_.out HW_.out (by kernel_rfl)) (fun _ _ _ h => h) (Or.inl ⟨by rfl, ?_⟩) hHeld ?_ ?_
      rotate_left
      ·rintro w' ⟨s0, s1, s2, s3, s4, s5, s6, s7, s8, s9⟩
       go_simp
       with_reducible rfl
      rotate_left
      ·simp only [Act.put, lI_, l0_, lS_, i64_w, i32_w]
       rfl
      refine take_ (i := 4) (N := some 52) (v := ?_) (a' := ?_) #[true, true, true, true, true, true, false, false, true, false, false, false] rfl rfl (take_ofW HT_.out HW_.out (by kernel_rfl)) (fun _ _ _ h => h) (Or.inl ⟨by rfl, ?_⟩) hHeld ?_ ?_
      rotate_left
      ·rintro w' ⟨s0, s1, s2, s3, s4, s5, s6, s7, s8, s9⟩
       go_simp
       with_reducible rfl
      rotate_left
      ·simp only [Act.put, lI_, l0_, lS_, i64_w, i32_w]
       rfl
      refine take_ (i := 6) (N := some 54) (v := ?_) (a' := ?_) #[true, true, true, true, true, true, true, false, true, false, false, false] rfl rfl (take_ofW HT_.out HW_.out (by kernel_rfl)) (fun _ _ _ h => h) (Or.inl ⟨by rfl, ?_⟩) hHeld ?_ ?_
      rotate_left
      ·rintro w' ⟨s0, s1, s2, s3, s4, s5, s6, s7, s8, s9⟩
       go_simp
       with_reducible rfl
      rotate_left
      ·simp only [Act.put, lI_, l0_, lS_, i64_w, i32_w]
       rfl
      refine take_ (i := 9) (N := some 57) (v := ?_) (a' := ?_) #[true, true, true, true, true, true, true, false, true, true, false, false] rfl rfl (take_ofW HT_.out HW_.out (by kernel_rfl)) (fun _ _ _ h => h) (Or.inl ⟨by rfl, ?_⟩) hHeld ?_ ?_
      rotate_left
      ·rintro w' ⟨s0, s1, s2, s3, s4, s5, s6, s7, s8, s9⟩
       go_simp
       with_reducible rfl
      rotate_left
      ·simp only [Act.put, lI_, l0_, lS_, i64_w, i32_w]
       rfl
      refine one_ (i := 7) (N := some 55) #[true, true, true, true, true, true, true, true, true, true, false, false] rfl rfl (one_of HT_.out (by kernel_rfl)) (by decide) (fun K hK => ?_)
      refine goes_ Try.func110 (by kernel_rfl) rfl #[.agg #[.int .u64 t271, .int .u64 t272], .agg #[.int .u64 t269, .int .u64 t270]] (by rfl) rfl rfl mp_ ?_
      with_reducible refine (wide_Sub.calls t271 t272 t269 t270 t281 t282 _ A48.out).mono ?_
      rintro e w62 ⟨rfl, hb⟩
      refine ⟨_, rfl, ?_⟩
      replace BK267 := A_ (bb_ BK267.out hb)
      replace BK268 := A_ (bb_ BK268.out hb)
      replace BK275 := A_ (bb_ BK275.out hb)
      replace HB := A_ (below_step (hb3_ HB.out GE267.out GE268.out GE275.out) hb);(try clear hb);(try clear hb2);(try clear hk);(try clear hi)
      refine hK.out _ _ ⟨bc_ BK268.out 0, bc_ BK268.out 1, bc_ BK268.out 2, bc_ BK268.out 3, bc_ BK275.out 0, bc_ BK275.out 1, bc_ BK275.out 2, bc_ BK275.out 3, bc_ BK275.out 4, bc_ BK275.out 5⟩ (fun hHeld => ?_)
      clear hK K
      refine norm_ (a' := ?_) ?_ ?_
      rotate_left
      ·show Act.put _ (some 55) _ = _
       simp only [Act.put, lI_, l0_, lS_, i64_w, i32_w]
       rfl
      refine one_ (i := 10) (N := some 58) #[true, true, true, true, true, true, true, true, true, true, true, false] rfl rfl (one_of HT_.out (by kernel_rfl)) (by decide) (fun K hK => ?_)
      refine goes_ Try.func36 (by kernel_rfl) rfl #[.int .i64 a0, .bool x269000_3, .agg #[.int .u64 t281, .int .u64 t282], .int .i64 t273, .bool false] (by rfl) rfl rfl mp_ ?_
      with_reducible refine (round_Pack.calls a0 x269000_3 t281 t282 t273 false t283 _ A49.out).mono ?_
      rintro e w63 ⟨rfl, hb⟩
      refine ⟨_, rfl, ?_⟩
      replace BK267 := A_ (bb_ BK267.out hb)
      replace BK268 := A_ (bb_ BK268.out hb)
      replace BK275 := A_ (bb_ BK275.out hb)
      replace HB := A_ (below_step (hb3_ HB.out GE267.out GE268.out GE275.out) hb);(try clear hb);(try clear hb2);(try clear hk);(try clear hi)
      refine hK.out _ _ ⟨bc_ BK268.out 0, bc_ BK268.out 1, bc_ BK268.out 2, bc_ BK268.out 3, bc_ BK275.out 0, bc_ BK275.out 1, bc_ BK275.out 2, bc_ BK275.out 3, bc_ BK275.out 4, bc_ BK275.out 5⟩ (fun hHeld => ?_)
      clear hK K
      refine norm_ (a' := ?_) ?_ ?_
      rotate_left
      ·show Act.put _ (some 58) _ = _
       simp only [Act.put, lI_, l0_, lS_, i64_w, i32_w]
       rfl
      refine pu_ 11 (some 6) #[true, true, true, true, true, true, true, true, true, true, true, true] rfl rfl (any_of HT_.out (by kernel_rfl)) ?_
      refine done_ (done_of HT_.out (by kernel_rfl)) ?_
      try go_wp2
      go_ret
      exact ⟨er_, hb3_ HB.out GE267.out GE268.out GE275.out⟩
     ·rw [if_neg c47] at H
      have c47b0 : (t279 == (-1)) = false := beq_eq_false_iff_ne.mpr c47
      have c47b1 : (t279 != (-1)) = true := bne_iff_ne.mpr c47
      replace H := ob_ H
      obtain ⟨⟨t284, t285⟩, A640, H⟩ := H
      replace H : (if t274 = true then ((wide_Of.f 1).bind fun bt287 => ((wide_Sub.f t284 t285 bt287.1 bt287.2).bind fun bt289 => ((round_Pack.f a0 x268000_3 bt289.1 bt289.2 t273 t274).bind fun t291 => (some t291)))) else ((round_Pack.f a0 x268000_3 t284 t285 t273 t274).bind fun t292 => (some t292))) = some r := H
      have A64 := A_ A640;clear A640
      by_cases c65 : t274 = true
      ·subst c65
       have H1 : ((wide_Of.f 1).bind fun bt287 => ((wide_Sub.f t284 t285 bt287.1 bt287.2).bind fun bt289 => ((round_Pack.f a0 x268000_3 bt289.1 bt289.2 t273 true).bind fun t291 => (some t291)))) = some r := by rw [if_pos rfl] at H; exact H
       clear H;have H := H1;clear H1
       replace H := ob_ H
       obtain ⟨⟨t287, t288⟩, A660, H⟩ := H
       replace H : ((wide_Sub.f t284 t285 t287 t288).bind fun bt289 => ((round_Pack.f a0 x268000_3 bt289.1 bt289.2 t273 true).bind fun t291 => (some t291))) = some r := H
       have A66 := A_ A660;clear A660
       replace H := ob_ H
       obtain ⟨⟨t289, t290⟩, A670, H⟩ := H
       replace H : ((round_Pack.f a0 x268000_3 t289 t290 t273 true).bind fun t291 => (some t291)) = some r := H
       have A67 := A_ A670;clear A670
       replace H := ob_ H
       obtain ⟨t291, A680, H⟩ := H
       replace H : (some t291) = some r := H
       have A68 := A_ A680;clear A680
       obtain rfl := Option.some.inj H
       have hnb69 := NB267_268.out
       have hnc69 := NB268_267.out
       have hcz70_0 := bv_ BK267.out 0
       have hcz70_1 := bv_ BK267.out 1
       have hcz70_2 := bv_ BK267.out 2
       have hcz70_3 := bv_ BK267.out 3
       have hfz70_0 := blk_frozen BK267.out 0
       have hfz70_1 := blk_frozen BK267.out 1
       have hfz70_2 := blk_frozen BK267.out 2
       have hfz70_3 := blk_frozen BK267.out 3
       have hcz71_0 := bv_ BK268.out 0
       have hcz71_1 := bv_ BK268.out 1
       have hcz71_2 := bv_ BK268.out 2
       have hcz71_3 := bv_ BK268.out 3
       have hfz71_0 := blk_frozen BK268.out 0
       have hfz71_1 := blk_frozen BK268.out 1
       have hfz71_2 := blk_frozen BK268.out 2
       have hfz71_3 := blk_frozen BK268.out 3
       try go_wp2_with (first | ((with_reducible refine gate_callee (f := 108) rfl ?_); refine gl_ (some 18) Try.func108 #[.agg #[.bool x268000_3, .int .i64 x268001_3, .int .i64 x268002_3, .int .u64 x268003_3], .agg #[.bool x269000_3, .int .i64 x269001_3, .int .i64 x269002_3, .int .u64 x269003_3]] ?_; (with_reducible refine (sum_align.calls x268000_3 x268001_3 x268002_3 x268003_3 x269000_3 x269001_3 x269002_3 x269003_3 t269 t270 t271 t272 t273 true _ A14.out).mono ?_); rintro e w72 ⟨rfl, hb⟩; refine ⟨_, rfl, ?_⟩; replace BK267 := A_ (bb_ BK267.out hb); replace BK268 := A_ (bb_ BK268.out hb); replace HB := A_ (below_step (hb2_ HB.out GE267.out GE268.out) hb); (try clear hb); (try clear hb2); (try clear hk); (try clear hi)) | ((with_reducible refine gate_dst (N := 7) rfl ?_); refine be_ 7 #[.int .u64 0, .int .u64 0, .int .u64 0, .int .u64 0, .int .i64 0, .bool false] 122 ?_; intro gb275 hg w73 hbox hb; have BK275 := A_ (hbox); have GW275 := A_ (sz_ hg (hb2_ HB.out GE267.out GE268.out)); have GE275 := A_ (sz_ hg (hb2_ HB.out GE267.out GE268.out)); have NB267_275 := A_ (nl_ hg BK267.out); have NB275_267 := A_ (ng_ hg BK267.out); have NB268_275 := A_ (nl_ hg BK268.out); have NB275_268 := A_ (ng_ hg BK268.out); replace BK267 := A_ (bb_ BK267.out hb); replace BK268 := A_ (bb_ BK268.out hb); replace HB := A_ (below_step (hb2_ HB.out GE267.out GE268.out) hb); clear hb hbox hg; have hnb74 := NB275_267.out; have hnc74 := NB267_275.out; have hnb75 := NB275_268.out; have hnc75 := NB268_275.out; have hcz76_0 := bv_ BK275.out 0; have hcz76_1 := bv_ BK275.out 1; have hcz76_2 := bv_ BK275.out 2; have hcz76_3 := bv_ BK275.out 3; have hcz76_4 := bv_ BK275.out 4; have hcz76_5 := bv_ BK275.out 5; have hfz76_0 := blk_frozen BK275.out 0; have hfz76_1 := blk_frozen BK275.out 1; have hfz76_2 := blk_frozen BK275.out 2; have hfz76_3 := blk_frozen BK275.out 3; have hfz76_4 := blk_frozen BK275.out 4; have hfz76_5 := blk_frozen BK275.out 5; have hcz77_0 := bv_ BK267.out 0; have hcz77_1 := bv_ BK267.out 1; have hcz77_2 := bv_ BK267.out 2; have hcz77_3 := bv_ BK267.out 3; have hfz77_0 := blk_frozen BK267.out 0; have hfz77_1 := blk_frozen BK267.out 1; have hfz77_2 := blk_frozen BK267.out 2; have hfz77_3 := blk_frozen BK267.out 3; have hcz78_0 := bv_ BK268.out 0; have hcz78_1 := bv_ BK268.out 1; have hcz78_2 := bv_ BK268.out 2; have hcz78_3 := bv_ BK268.out 3; have hfz78_0 := blk_frozen BK268.out 0; have hfz78_1 := blk_frozen BK268.out 1; have hfz78_2 := blk_frozen BK268.out 2; have hfz78_3 := blk_frozen BK268.out 3) | ((with_reducible refine gate_callee (f := 109) rfl ?_); refine gl_ (some 41) Try.func109 #[.agg #[.int .u64 t269, .int .u64 t270], .agg #[.int .u64 t271, .int .u64 t272]] ?_; (with_reducible refine (wide_Cmp.calls t269 t270 t271 t272 t279 _ A32.out).mono ?_); rintro e w79 ⟨rfl, hb⟩; refine ⟨_, rfl, ?_⟩; replace BK267 := A_ (blk_below (g := gb267) (o := .cells #[.bool x268000_3, .int .i64 x268001_3, .int .i64 x268002_3, .int .u64 x268003_3] 38 (0, 0)) (bf6_ BK267.out NB267_275.out NB267_275.out NB267_275.out NB267_275.out NB267_275.out NB267_275.out) hb); replace BK268 := A_ (blk_below (g := gb268) (o := .cells #[.bool x269000_3, .int .i64 x269001_3, .int .i64 x269002_3, .int .u64 x269003_3] 38 (0, 0)) (bf6_ BK268.out NB268_275.out NB268_275.out NB268_275.out NB268_275.out NB268_275.out NB268_275.out) hb); replace BK275 := A_ (blk_below (g := gb275) (o := .cells #[.int .u64 t269, .int .u64 t270, .int .u64 t271, .int .u64 t272, .int .i64 t273, .bool true] 122 (0, 0)) (by (with_reducible repeat (first | refine blk_drewN ?_ _ | refine blk_drew ?_ | refine blk_alloc ?_ _)); refine blk_put (cs := #[.int .u64 t269, .int .u64 t270, .int .u64 t271, .int .u64 t272, .int .i64 t273, .bool false]) ?_ 5 _ rfl; (with_reducible repeat (first | refine blk_drewN ?_ _ | refine blk_drew ?_ | refine blk_alloc ?_ _)); refine blk_put (cs := #[.int .u64 t269, .int .u64 t270, .int .u64 t271, .int .u64 t272, .int .i64 0, .bool false]) ?_ 4 _ rfl; (with_reducible repeat (first | refine blk_drewN ?_ _ | refine blk_drew ?_ | refine blk_alloc ?_ _)); refine blk_put (cs := #[.int .u64 t269, .int .u64 t270, .int .u64 t271, .int .u64 0, .int .i64 0, .bool false]) ?_ 3 _ rfl; (with_reducible repeat (first | refine blk_drewN ?_ _ | refine blk_drew ?_ | refine blk_alloc ?_ _)); refine blk_put (cs := #[.int .u64 t269, .int .u64 t270, .int .u64 0, .int .u64 0, .int .i64 0, .bool false]) ?_ 2 _ rfl; (with_reducible repeat (first | refine blk_drewN ?_ _ | refine blk_drew ?_ | refine blk_alloc ?_ _)); refine blk_put (cs := #[.int .u64 t269, .int .u64 0, .int .u64 0, .int .u64 0, .int .i64 0, .bool false]) ?_ 1 _ rfl; (with_reducible repeat (first | refine blk_drewN ?_ _ | refine blk_drew ?_ | refine blk_alloc ?_ _)); refine blk_put (cs := #[.int .u64 0, .int .u64 0, .int .u64 0, .int .u64 0, .int .i64 0, .bool false]) ?_ 0 _ rfl; (with_reducible repeat (first | refine blk_drewN ?_ _ | refine blk_drew ?_ | refine blk_alloc ?_ _)); exact BK275.out) hb); replace HB := A_ (below_step (hb3_ HB.out GE267.out GE268.out GE275.out) hb); (try clear hb); (try clear hb2); (try clear hk); (try clear hi); have hcz80_0 := bv_ BK275.out 0; have hcz80_1 := bv_ BK275.out 1; have hcz80_2 := bv_ BK275.out 2; have hcz80_3 := bv_ BK275.out 3; have hcz80_4 := bv_ BK275.out 4; have hcz80_5 := bv_ BK275.out 5; have hfz80_0 := blk_frozen BK275.out 0; have hfz80_1 := blk_frozen BK275.out 1; have hfz80_2 := blk_frozen BK275.out 2; have hfz80_3 := blk_frozen BK275.out 3; have hfz80_4 := blk_frozen BK275.out 4; have hfz80_5 := blk_frozen BK275.out 5) | ((with_reducible refine gate_callee (f := 110) rfl ?_); refine gl_ (some 63) Try.func110 #[.agg #[.int .u64 t269, .int .u64 t270], .agg #[.int .u64 t271, .int .u64 t272]] ?_; (with_reducible refine (wide_Sub.calls t269 t270 t271 t272 t284 t285 _ A64.out).mono ?_); rintro e w81 ⟨rfl, hb⟩; refine ⟨_, rfl, ?_⟩; replace BK267 := A_ (bb_ BK267.out hb); replace BK268 := A_ (bb_ BK268.out hb); replace BK275 := A_ (bb_ BK275.out hb); replace HB := A_ (below_step (hb3_ HB.out GE267.out GE268.out GE275.out) hb); (try clear hb); (try clear hb2); (try clear hk); (try clear hi)) | ((with_reducible refine gate_dst (N := 8) rfl ?_); refine be_ 8 #[.int .u64 0, .int .u64 0] 42 ?_; intro gb286 hg w82 hbox hb; have BK286 := A_ (hbox); have GW286 := A_ (sz_ hg (hb3_ HB.out GE267.out GE268.out GE275.out)); have GE286 := A_ (sz_ hg (hb3_ HB.out GE267.out GE268.out GE275.out)); have NB267_286 := A_ (nl_ hg BK267.out); have NB286_267 := A_ (ng_ hg BK267.out); have NB268_286 := A_ (nl_ hg BK268.out); have NB286_268 := A_ (ng_ hg BK268.out); have NB275_286 := A_ (nl_ hg BK275.out); have NB286_275 := A_ (ng_ hg BK275.out); replace BK267 := A_ (bb_ BK267.out hb); replace BK268 := A_ (bb_ BK268.out hb); replace BK275 := A_ (bb_ BK275.out hb); replace HB := A_ (below_step (hb3_ HB.out GE267.out GE268.out GE275.out) hb); clear hb hbox hg; have hnb83 := NB286_267.out; have hnc83 := NB267_286.out; have hnb84 := NB286_268.out; have hnc84 := NB268_286.out; have hnb85 := NB286_275.out; have hnc85 := NB275_286.out; have hcz86_0 := bv_ BK286.out 0; have hcz86_1 := bv_ BK286.out 1; have hfz86_0 := blk_frozen BK286.out 0; have hfz86_1 := blk_frozen BK286.out 1; have hcz87_0 := bv_ BK275.out 0; have hcz87_1 := bv_ BK275.out 1; have hcz87_2 := bv_ BK275.out 2; have hcz87_3 := bv_ BK275.out 3; have hcz87_4 := bv_ BK275.out 4; have hcz87_5 := bv_ BK275.out 5; have hfz87_0 := blk_frozen BK275.out 0; have hfz87_1 := blk_frozen BK275.out 1; have hfz87_2 := blk_frozen BK275.out 2; have hfz87_3 := blk_frozen BK275.out 3; have hfz87_4 := blk_frozen BK275.out 4; have hfz87_5 := blk_frozen BK275.out 5))
       have n0_ : Aside0 (((w82.setCell ⟨gb286, 0, none⟩ (.int .u64 t284)).setCell ⟨gb286, 1, none⟩ (.int .u64 t285)).heap[gb267]? = some (.cells #[.bool x268000_3, .int .i64 x268001_3, .int .i64 x268002_3, .int .u64 x268003_3] 38 (0, 0))) := ⟨bf2_ BK267.out NB267_286.out NB267_286.out⟩
       have n1_ : Aside0 (((w82.setCell ⟨gb286, 0, none⟩ (.int .u64 t284)).setCell ⟨gb286, 1, none⟩ (.int .u64 t285)).heap[gb268]? = some (.cells #[.bool x269000_3, .int .i64 x269001_3, .int .i64 x269002_3, .int .u64 x269003_3] 38 (0, 0))) := ⟨bf2_ BK268.out NB268_286.out NB268_286.out⟩
       have n2_ : Aside0 (((w82.setCell ⟨gb286, 0, none⟩ (.int .u64 t284)).setCell ⟨gb286, 1, none⟩ (.int .u64 t285)).heap[gb275]? = some (.cells #[.int .u64 t269, .int .u64 t270, .int .u64 t271, .int .u64 t272, .int .i64 t273, .bool true] 122 (0, 0))) := ⟨bf2_ BK275.out NB275_286.out NB275_286.out⟩
       have n3_ : Aside0 (((w82.setCell ⟨gb286, 0, none⟩ (.int .u64 t284)).setCell ⟨gb286, 1, none⟩ (.int .u64 t285)).heap[gb286]? = some (.cells #[.int .u64 t284, .int .u64 t285] 42 (0, 0))) := ⟨by (with_reducible repeat (first | refine blk_drewN ?_ _ | refine blk_drew ?_ | refine blk_alloc ?_ _)); refine blk_put (cs := #[.int .u64 t284, .int .u64 0]) ?_ 1 _ rfl; (with_reducible repeat (first | refine blk_drewN ?_ _ | refine blk_drew ?_ | refine blk_alloc ?_ _)); refine blk_put (cs := #[.int .u64 0, .int .u64 0]) ?_ 0 _ rfl; (with_reducible repeat (first | refine blk_drewN ?_ _ | refine blk_drew ?_ | refine blk_alloc ?_ _)); exact BK286.out⟩
       have n4_ : Aside0 (Below w.heap.size w ((w82.setCell ⟨gb286, 0, none⟩ (.int .u64 t284)).setCell ⟨gb286, 1, none⟩ (.int .u64 t285))) := ⟨hb4_ HB.out GE267.out GE268.out GE275.out GE286.out⟩
       (try clear BK267);(try clear BK268);(try clear BK275);(try clear BK286);(try clear HB)
       generalize ((w82.setCell ⟨gb286, 0, none⟩ (.int .u64 t284)).setCell ⟨gb286, 1, none⟩ (.int .u64 t285)) = w88 at n0_ n1_ n2_ n3_ n4_ ⊢
       have BK267 := n0_;have BK268 := n1_;have BK275 := n2_;have BK286 := n3_;have HB := n4_;clear n0_ n1_ n2_ n3_ n4_
       replace BK267 := A_ (blk_drew BK267.out)
       replace BK268 := A_ (blk_drew BK268.out)
       replace BK275 := A_ (blk_drew BK275.out)
       replace BK286 := A_ (blk_drew BK286.out)
       replace HB := A_ (below_drew1 HB.out)
       refine start_ (n := 4) (S := fun w' => w'.cell? ⟨gb286, 0, none⟩ = some (.int .u64 t284) ∧ w'.cell? ⟨gb286, 1, none⟩ = some (.int .u64 t285)) (ds := [3]) #[false, false, false, false] (by kernel_rfl) rfl rfl ⟨bc_ BK286.out 0, bc_ BK286.out 1⟩ (fun hHeld => ?_)
       generalize w88.drew = w89 at BK267 BK268 BK275 BK286 HB hHeld ⊢
       refine tk2_ 0 (some 66) #[true, false, false, false] rfl rfl (by kernel_rfl) hHeld ?_
       refine one_ (i := 1) (N := some 67) #[true, true, false, false] rfl rfl (by kernel_rfl) (by decide) (fun K hK => ?_)
       refine goes_ Try.func39 (by kernel_rfl) rfl #[.int .u64 1] (by rfl) rfl rfl mp_ ?_
       with_reducible refine (wide_Of.calls 1 t287 t288 _ A66.out).mono ?_
       rintro e w90 ⟨rfl, hb⟩
       refine ⟨_, rfl, ?_⟩
       replace BK267 := A_ (bb_ BK267.out hb)
       replace BK268 := A_ (bb_ BK268.out hb)
       replace BK275 := A_ (bb_ BK275.out hb)
       replace BK286 := A_ (bb_ BK286.out hb)
       replace HB := A_ (below_step (hb4_ HB.out GE267.out GE268.out GE275.out GE286.out) hb);(try clear hb);(try clear hb2);(try clear hk);(try clear hi)
       refine hK.out _ _ ⟨bc_ BK286.out 0, bc_ BK286.out 1⟩ (fun hHeld => ?_)
       clear hK K
       refine norm_ (a' := ?_) ?_ ?_
       rotate_left
       ·show Act.put _ (some 67) _ = _
        simp only [Act.put, lI_, l0_, lS_, i64_w, i32_w]
        rfl
       refine one_ (i := 2) (N := some 68) #[true, true, true, false] rfl rfl (by kernel_rfl) (by decide) (fun K hK => ?_)
       refine goes_ Try.func110 (by kernel_rfl) rfl #[.agg #[.int .u64 t284, .int .u64 t285], .agg #[.int .u64 t287, .int .u64 t288]] (by rfl) rfl rfl mp_ ?_
       with_reducible refine (wide_Sub.calls t284 t285 t287 t288 t289 t290 _ A67.out).mono ?_
       rintro e w91 ⟨rfl, hb⟩
       refine ⟨_, rfl, ?_⟩
       replace BK267 := A_ (bb_ BK267.out hb)
       replace BK268 := A_ (bb_ BK268.out hb)
       replace BK275 := A_ (bb_ BK275.out hb)
       replace BK286 := A_ (bb_ BK286.out hb)
       replace HB := A_ (below_step (hb4_ HB.out GE267.out GE268.out GE275.out GE286.out) hb);(try clear hb);(try clear hb2);(try clear hk);(try clear hi)
       refine hK.out _ _ ⟨bc_ BK286.out 0, bc_ BK286.out 1⟩ (fun hHeld => ?_)
       clear hK K
       refine norm_ (a' := ?_) ?_ ?_
       rotate_left
       ·show Act.put _ (some 68) _ = _
        simp only [Act.put, lI_, l0_, lS_, i64_w, i32_w]
        rfl
       refine last_ (i := 3) (N := none) #[true, true, true, true] rfl rfl (by kernel_rfl) (by decide) (fun K hK => ?_)
       have hs92 : w91.cell? ⟨gb286, 0, none⟩ = some (.int .u64 t284) := bc_ BK286.out 0
       have hfs92 := blk_frozen BK286.out 0
       have hns92_0 := NB267_286.out
       have hns92_1 := NB268_286.out
       have hns92_2 := NB275_286.out
       have hms92_0 := NB286_267.out
       have hms92_1 := NB286_268.out
       have hms92_2 := NB286_275.out
       have hs93 : w91.cell? ⟨gb286, 1, none⟩ = some (.int .u64 t285) := bc_ BK286.out 1
       have hfs93 := blk_frozen BK286.out 1
       have hns93_0 := NB267_286.out
       have hns93_1 := NB268_286.out
       have hns93_2 := NB275_286.out
       have hms93_0 := NB286_267.out
       have hms93_1 := NB286_268.out
       have hms93_2 := NB286_275.out
       refine skip_ (w1 := ?_) (by rfl) rfl ?_ ?_
       rotate_left
       ·go_simp
        rfl
       refine hK.out _ _ ?_
       clear hK K
       refine done_ (by kernel_rfl) ?_
       have hcz94_0 := bv_ BK267.out 0
       have hcz94_1 := bv_ BK267.out 1
       have hcz94_2 := bv_ BK267.out 2
       have hcz94_3 := bv_ BK267.out 3
       have hfz94_0 := blk_frozen BK267.out 0
       have hfz94_1 := blk_frozen BK267.out 1
       have hfz94_2 := blk_frozen BK267.out 2
       have hfz94_3 := blk_frozen BK267.out 3
       have hcz95_0 := bv_ BK286.out 0
       have hcz95_1 := bv_ BK286.out 1
       have hfz95_0 := blk_frozen BK286.out 0
       have hfz95_1 := blk_frozen BK286.out 1
       have hcz96_0 := bv_ BK275.out 0
       have hcz96_1 := bv_ BK275.out 1
       have hcz96_2 := bv_ BK275.out 2
       have hcz96_3 := bv_ BK275.out 3
       have hcz96_4 := bv_ BK275.out 4
       have hcz96_5 := bv_ BK275.out 5
       have hfz96_0 := blk_frozen BK275.out 0
       have hfz96_1 := blk_frozen BK275.out 1
       have hfz96_2 := blk_frozen BK275.out 2
       have hfz96_3 := blk_frozen BK275.out 3
       have hfz96_4 := blk_frozen BK275.out 4
       have hfz96_5 := blk_frozen BK275.out 5
       try go_wp2_with (first | ((with_reducible refine gate_callee (f := 36) rfl ?_); refine gl_ (some 77) Try.func36 #[.int .i64 a0, .bool x268000_3, .agg #[.int .u64 t289, .int .u64 t290], .int .i64 t273, .bool true] ?_; (with_reducible refine (round_Pack.calls a0 x268000_3 t289 t290 t273 true t291 _ A68.out).mono ?_); rintro e w97 ⟨rfl, hb⟩; refine ⟨_, rfl, ?_⟩; replace BK267 := A_ (blk_below (g := gb267) (o := .cells #[.bool x268000_3, .int .i64 x268001_3, .int .i64 x268002_3, .int .u64 x268003_3] 38 (0, 0)) (bf2_ BK267.out NB267_286.out NB267_286.out) hb); replace BK268 := A_ (blk_below (g := gb268) (o := .cells #[.bool x269000_3, .int .i64 x269001_3, .int .i64 x269002_3, .int .u64 x269003_3] 38 (0, 0)) (bf2_ BK268.out NB268_286.out NB268_286.out) hb); replace BK275 := A_ (blk_below (g := gb275) (o := .cells #[.int .u64 t269, .int .u64 t270, .int .u64 t271, .int .u64 t272, .int .i64 t273, .bool true] 122 (0, 0)) (bf2_ BK275.out NB275_286.out NB275_286.out) hb); replace BK286 := A_ (blk_below (g := gb286) (o := .cells #[.int .u64 t289, .int .u64 t290] 42 (0, 0)) (by (with_reducible repeat (first | refine blk_drewN ?_ _ | refine blk_drew ?_ | refine blk_alloc ?_ _)); refine blk_put (cs := #[.int .u64 t289, .int .u64 t285]) ?_ 1 _ rfl; (with_reducible repeat (first | refine blk_drewN ?_ _ | refine blk_drew ?_ | refine blk_alloc ?_ _)); refine blk_put (cs := #[.int .u64 t284, .int .u64 t285]) ?_ 0 _ rfl; (with_reducible repeat (first | refine blk_drewN ?_ _ | refine blk_drew ?_ | refine blk_alloc ?_ _)); exact BK286.out) hb); replace HB := A_ (below_step (hb4_ HB.out GE267.out GE268.out GE275.out GE286.out) hb); (try clear hb); (try clear hb2); (try clear hk); (try clear hi)))
       go_ret
       exact ⟨er_, hb4_ HB.out GE267.out GE268.out GE275.out GE286.out⟩
      ·replace c65 := Bool.eq_false_iff.mpr c65
       subst c65
       have H1 : ((round_Pack.f a0 x268000_3 t284 t285 t273 false).bind fun t292 => (some t292)) = some r := by rw [if_neg (show ¬ (false = true) by decide)] at H; exact H
       clear H;have H := H1;clear H1
       replace H := ob_ H
       obtain ⟨t292, A980, H⟩ := H
       replace H : (some t292) = some r := H
       have A98 := A_ A980;clear A980
       obtain rfl := Option.some.inj H
       have hnb99 := NB267_268.out
       have hnc99 := NB268_267.out
       have hcz100_0 := bv_ BK267.out 0
       have hcz100_1 := bv_ BK267.out 1
       have hcz100_2 := bv_ BK267.out 2
       have hcz100_3 := bv_ BK267.out 3
       have hfz100_0 := blk_frozen BK267.out 0
       have hfz100_1 := blk_frozen BK267.out 1
       have hfz100_2 := blk_frozen BK267.out 2
       have hfz100_3 := blk_frozen BK267.out 3
       have hcz101_0 := bv_ BK268.out 0
       have hcz101_1 := bv_ BK268.out 1
       have hcz101_2 := bv_ BK268.out 2
       have hcz101_3 := bv_ BK268.out 3
       have hfz101_0 := blk_frozen BK268.out 0
       have hfz101_1 := blk_frozen BK268.out 1
       have hfz101_2 := blk_frozen BK268.out 2
       have hfz101_3 := blk_frozen BK268.out 3
       go_wp2_with (first | ((with_reducible refine gate_callee (f := 108) rfl ?_); refine gl_ (some 18) Try.func108 #[.agg #[.bool x268000_3, .int .i64 x268001_3, .int .i64 x268002_3, .int .u64 x268003_3], .agg #[.bool x269000_3, .int .i64 x269001_3, .int .i64 x269002_3, .int .u64 x269003_3]] ?_; (with_reducible refine (sum_align.calls x268000_3 x268001_3 x268002_3 x268003_3 x269000_3 x269001_3 x269002_3 x269003_3 t269 t270 t271 t272 t273 false _ A14.out).mono ?_); rintro e w102 ⟨rfl, hb⟩; refine ⟨_, rfl, ?_⟩; replace BK267 := A_ (bb_ BK267.out hb); replace BK268 := A_ (bb_ BK268.out hb); replace HB := A_ (below_step (hb2_ HB.out GE267.out GE268.out) hb); (try clear hb); (try clear hb2); (try clear hk); (try clear hi)) | ((with_reducible refine gate_dst (N := 7) rfl ?_); refine be_ 7 #[.int .u64 0, .int .u64 0, .int .u64 0, .int .u64 0, .int .i64 0, .bool false] 122 ?_; intro gb275 hg w103 hbox hb; have BK275 := A_ (hbox); have GW275 := A_ (sz_ hg (hb2_ HB.out GE267.out GE268.out)); have GE275 := A_ (sz_ hg (hb2_ HB.out GE267.out GE268.out)); have NB267_275 := A_ (nl_ hg BK267.out); have NB275_267 := A_ (ng_ hg BK267.out); have NB268_275 := A_ (nl_ hg BK268.out); have NB275_268 := A_ (ng_ hg BK268.out); replace BK267 := A_ (bb_ BK267.out hb); replace BK268 := A_ (bb_ BK268.out hb); replace HB := A_ (below_step (hb2_ HB.out GE267.out GE268.out) hb); clear hb hbox hg; have hnb104 := NB275_267.out; have hnc104 := NB267_275.out; have hnb105 := NB275_268.out; have hnc105 := NB268_275.out; have hcz106_0 := bv_ BK275.out 0; have hcz106_1 := bv_ BK275.out 1; have hcz106_2 := bv_ BK275.out 2; have hcz106_3 := bv_ BK275.out 3; have hcz106_4 := bv_ BK275.out 4; have hcz106_5 := bv_ BK275.out 5; have hfz106_0 := blk_frozen BK275.out 0; have hfz106_1 := blk_frozen BK275.out 1; have hfz106_2 := blk_frozen BK275.out 2; have hfz106_3 := blk_frozen BK275.out 3; have hfz106_4 := blk_frozen BK275.out 4; have hfz106_5 := blk_frozen BK275.out 5; have hcz107_0 := bv_ BK267.out 0; have hcz107_1 := bv_ BK267.out 1; have hcz107_2 := bv_ BK267.out 2; have hcz107_3 := bv_ BK267.out 3; have hfz107_0 := blk_frozen BK267.out 0; have hfz107_1 := blk_frozen BK267.out 1; have hfz107_2 := blk_frozen BK267.out 2; have hfz107_3 := blk_frozen BK267.out 3; have hcz108_0 := bv_ BK268.out 0; have hcz108_1 := bv_ BK268.out 1; have hcz108_2 := bv_ BK268.out 2; have hcz108_3 := bv_ BK268.out 3; have hfz108_0 := blk_frozen BK268.out 0; have hfz108_1 := blk_frozen BK268.out 1; have hfz108_2 := blk_frozen BK268.out 2; have hfz108_3 := blk_frozen BK268.out 3) | ((with_reducible refine gate_callee (f := 109) rfl ?_); refine gl_ (some 41) Try.func109 #[.agg #[.int .u64 t269, .int .u64 t270], .agg #[.int .u64 t271, .int .u64 t272]] ?_; (with_reducible refine (wide_Cmp.calls t269 t270 t271 t272 t279 _ A32.out).mono ?_); rintro e w109 ⟨rfl, hb⟩; refine ⟨_, rfl, ?_⟩; replace BK267 := A_ (blk_below (g := gb267) (o := .cells #[.bool x268000_3, .int .i64 x268001_3, .int .i64 x268002_3, .int .u64 x268003_3] 38 (0, 0)) (bf6_ BK267.out NB267_275.out NB267_275.out NB267_275.out NB267_275.out NB267_275.out NB267_275.out) hb); replace BK268 := A_ (blk_below (g := gb268) (o := .cells #[.bool x269000_3, .int .i64 x269001_3, .int .i64 x269002_3, .int .u64 x269003_3] 38 (0, 0)) (bf6_ BK268.out NB268_275.out NB268_275.out NB268_275.out NB268_275.out NB268_275.out NB268_275.out) hb); replace BK275 := A_ (blk_below (g := gb275) (o := .cells #[.int .u64 t269, .int .u64 t270, .int .u64 t271, .int .u64 t272, .int .i64 t273, .bool false] 122 (0, 0)) (by (with_reducible repeat (first | refine blk_drewN ?_ _ | refine blk_drew ?_ | refine blk_alloc ?_ _)); refine blk_put (cs := #[.int .u64 t269, .int .u64 t270, .int .u64 t271, .int .u64 t272, .int .i64 t273, .bool false]) ?_ 5 _ rfl; (with_reducible repeat (first | refine blk_drewN ?_ _ | refine blk_drew ?_ | refine blk_alloc ?_ _)); refine blk_put (cs := #[.int .u64 t269, .int .u64 t270, .int .u64 t271, .int .u64 t272, .int .i64 0, .bool false]) ?_ 4 _ rfl; (with_reducible repeat (first | refine blk_drewN ?_ _ | refine blk_drew ?_ | refine blk_alloc ?_ _)); refine blk_put (cs := #[.int .u64 t269, .int .u64 t270, .int .u64 t271, .int .u64 0, .int .i64 0, .bool false]) ?_ 3 _ rfl; (with_reducible repeat (first | refine blk_drewN ?_ _ | refine blk_drew ?_ | refine blk_alloc ?_ _)); refine blk_put (cs := #[.int .u64 t269, .int .u64 t270, .int .u64 0, .int .u64 0, .int .i64 0, .bool false]) ?_ 2 _ rfl; (with_reducible repeat (first | refine blk_drewN ?_ _ | refine blk_drew ?_ | refine blk_alloc ?_ _)); refine blk_put (cs := #[.int .u64 t269, .int .u64 0, .int .u64 0, .int .u64 0, .int .i64 0, .bool false]) ?_ 1 _ rfl; (with_reducible repeat (first | refine blk_drewN ?_ _ | refine blk_drew ?_ | refine blk_alloc ?_ _)); refine blk_put (cs := #[.int .u64 0, .int .u64 0, .int .u64 0, .int .u64 0, .int .i64 0, .bool false]) ?_ 0 _ rfl; (with_reducible repeat (first | refine blk_drewN ?_ _ | refine blk_drew ?_ | refine blk_alloc ?_ _)); exact BK275.out) hb); replace HB := A_ (below_step (hb3_ HB.out GE267.out GE268.out GE275.out) hb); (try clear hb); (try clear hb2); (try clear hk); (try clear hi); have hcz110_0 := bv_ BK275.out 0; have hcz110_1 := bv_ BK275.out 1; have hcz110_2 := bv_ BK275.out 2; have hcz110_3 := bv_ BK275.out 3; have hcz110_4 := bv_ BK275.out 4; have hcz110_5 := bv_ BK275.out 5; have hfz110_0 := blk_frozen BK275.out 0; have hfz110_1 := blk_frozen BK275.out 1; have hfz110_2 := blk_frozen BK275.out 2; have hfz110_3 := blk_frozen BK275.out 3; have hfz110_4 := blk_frozen BK275.out 4; have hfz110_5 := blk_frozen BK275.out 5) | ((with_reducible refine gate_callee (f := 110) rfl ?_); refine gl_ (some 63) Try.func110 #[.agg #[.int .u64 t269, .int .u64 t270], .agg #[.int .u64 t271, .int .u64 t272]] ?_; (with_reducible refine (wide_Sub.calls t269 t270 t271 t272 t284 t285 _ A64.out).mono ?_); rintro e w111 ⟨rfl, hb⟩; refine ⟨_, rfl, ?_⟩; replace BK267 := A_ (bb_ BK267.out hb); replace BK268 := A_ (bb_ BK268.out hb); replace BK275 := A_ (bb_ BK275.out hb); replace HB := A_ (below_step (hb3_ HB.out GE267.out GE268.out GE275.out) hb); (try clear hb); (try clear hb2); (try clear hk); (try clear hi)) | ((with_reducible refine gate_dst (N := 8) rfl ?_); refine be_ 8 #[.int .u64 0, .int .u64 0] 42 ?_; intro gb286 hg w112 hbox hb; have BK286 := A_ (hbox); have GW286 := A_ (sz_ hg (hb3_ HB.out GE267.out GE268.out GE275.out)); have GE286 := A_ (sz_ hg (hb3_ HB.out GE267.out GE268.out GE275.out)); have NB267_286 := A_ (nl_ hg BK267.out); have NB286_267 := A_ (ng_ hg BK267.out); have NB268_286 := A_ (nl_ hg BK268.out); have NB286_268 := A_ (ng_ hg BK268.out); have NB275_286 := A_ (nl_ hg BK275.out); have NB286_275 := A_ (ng_ hg BK275.out); replace BK267 := A_ (bb_ BK267.out hb); replace BK268 := A_ (bb_ BK268.out hb); replace BK275 := A_ (bb_ BK275.out hb); replace HB := A_ (below_step (hb3_ HB.out GE267.out GE268.out GE275.out) hb); clear hb hbox hg; have hnb113 := NB286_267.out; have hnc113 := NB267_286.out; have hnb114 := NB286_268.out; have hnc114 := NB268_286.out; have hnb115 := NB286_275.out; have hnc115 := NB275_286.out; have hcz116_0 := bv_ BK286.out 0; have hcz116_1 := bv_ BK286.out 1; have hfz116_0 := blk_frozen BK286.out 0; have hfz116_1 := blk_frozen BK286.out 1; have hcz117_0 := bv_ BK275.out 0; have hcz117_1 := bv_ BK275.out 1; have hcz117_2 := bv_ BK275.out 2; have hcz117_3 := bv_ BK275.out 3; have hcz117_4 := bv_ BK275.out 4; have hcz117_5 := bv_ BK275.out 5; have hfz117_0 := blk_frozen BK275.out 0; have hfz117_1 := blk_frozen BK275.out 1; have hfz117_2 := blk_frozen BK275.out 2; have hfz117_3 := blk_frozen BK275.out 3; have hfz117_4 := blk_frozen BK275.out 4; have hfz117_5 := blk_frozen BK275.out 5; have hcz118_0 := bv_ BK267.out 0; have hcz118_1 := bv_ BK267.out 1; have hcz118_2 := bv_ BK267.out 2; have hcz118_3 := bv_ BK267.out 3; have hfz118_0 := blk_frozen BK267.out 0; have hfz118_1 := blk_frozen BK267.out 1; have hfz118_2 := blk_frozen BK267.out 2; have hfz118_3 := blk_frozen BK267.out 3) | ((with_reducible refine gate_callee (f := 36) rfl ?_); refine gl_ (some 77) Try.func36 #[.int .i64 a0, .bool x268000_3, .agg #[.int .u64 t284, .int .u64 t285], .int .i64 t273, .bool false] ?_; (with_reducible refine (round_Pack.calls a0 x268000_3 t284 t285 t273 false t292 _ A98.out).mono ?_); rintro e w119 ⟨rfl, hb⟩; refine ⟨_, rfl, ?_⟩; replace BK267 := A_ (blk_below (g := gb267) (o := .cells #[.bool x268000_3, .int .i64 x268001_3, .int .i64 x268002_3, .int .u64 x268003_3] 38 (0, 0)) (bf2_ BK267.out NB267_286.out NB267_286.out) hb); replace BK268 := A_ (blk_below (g := gb268) (o := .cells #[.bool x269000_3, .int .i64 x269001_3, .int .i64 x269002_3, .int .u64 x269003_3] 38 (0, 0)) (bf2_ BK268.out NB268_286.out NB268_286.out) hb); replace BK275 := A_ (blk_below (g := gb275) (o := .cells #[.int .u64 t269, .int .u64 t270, .int .u64 t271, .int .u64 t272, .int .i64 t273, .bool false] 122 (0, 0)) (bf2_ BK275.out NB275_286.out NB275_286.out) hb); replace BK286 := A_ (blk_below (g := gb286) (o := .cells #[.int .u64 t284, .int .u64 t285] 42 (0, 0)) (by (with_reducible repeat (first | refine blk_drewN ?_ _ | refine blk_drew ?_ | refine blk_alloc ?_ _)); refine blk_put (cs := #[.int .u64 t284, .int .u64 0]) ?_ 1 _ rfl; (with_reducible repeat (first | refine blk_drewN ?_ _ | refine blk_drew ?_ | refine blk_alloc ?_ _)); refine blk_put (cs := #[.int .u64 0, .int .u64 0]) ?_ 0 _ rfl; (with_reducible repeat (first | refine blk_drewN ?_ _ | refine blk_drew ?_ | refine blk_alloc ?_ _)); exact BK286.out) hb); replace HB := A_ (below_step (hb4_ HB.out GE267.out GE268.out GE275.out GE286.out) hb); (try clear hb); (try clear hb2); (try clear hk); (try clear hi)))
       go_ret
       exact ⟨er_, hb4_ HB.out GE267.out GE268.out GE275.out GE286.out⟩
def sum_infinite.j0 : Nat → Int → Bool → Bool → Int → Int → Int → Option (Int)
 | 0, _, _, _, _, _, _ => none
 | k + 1, x0, x15, x246000, x246001, x246002, x246003 => if x15 = true then ((shape_Nan.f x0).bind fun t247 => (some t247)) else ((shape_Inf.f x0 x246000).bind fun t248 => (some t248))
def sum_infinite.f (k : Nat) (a0 : Int) (a1_0 : Bool) (a1_1 : Int) (a1_2 : Int) (a1_3 : Int) (a2_0 : Bool) (a2_1 : Int) (a2_2 : Int) (a2_3 : Int) : Option (Int) := if a1_1 = 2 then (if a2_1 = 2 then (sum_infinite.j0 k a0 (a1_0 != a2_0) a1_0 a1_1 a1_2 a1_3) else (sum_infinite.j0 k a0 false a1_0 a1_1 a1_2 a1_3)) else ((shape_Inf.f a0 a2_0).bind fun t249 => (some t249))
theorem sum_infinite.mono_l : ∀ k, (∀ y0 y1 y2 y3 y4 y5, LeO (sum_infinite.j0 k y0 y1 y2 y3 y4 y5) (sum_infinite.j0 (k + 1) y0 y1 y2 y3 y4 y5))
 | 0 => fun _ _ _ _ _ _ r h => by simp [sum_infinite.j0] at h
 | k + 1 => by
  have ih0 := sum_infinite.mono_l k
  ·intro y0 y1 y2 y3 y4 y5
   unfold sum_infinite.j0
   repeat' first
   | (with_reducible exact ih0 _ _ _ _ _ _)
   | (with_reducible exact LeO.refl _)
   | (with_reducible exact LeO.none _)
   | (with_reducible refine LeO.ite ?_ ?_)
   | (with_reducible refine LeO.bind ?_ (fun _ => ?_))
   | exact ih0 _ _ _ _ _ _
   | exact LeO.none _
   | refine LeO.ite ?_ ?_
   | refine LeO.bind ?_ (fun _ => ?_)
theorem sum_infinite.mono : ∀ a0 a1 a2 a3 a4 a5 a6 a7 a8 k, LeO (sum_infinite.f k a0 a1 a2 a3 a4 a5 a6 a7 a8) (sum_infinite.f (k + 1) a0 a1 a2 a3 a4 a5 a6 a7 a8) := by
 intro a0 a1 a2 a3 a4 a5 a6 a7 a8 k
 have ih0 := sum_infinite.mono_l k
 unfold sum_infinite.f
 repeat' first
   | (with_reducible exact ih0 _ _ _ _ _ _)
   | (with_reducible exact LeO.refl _)
   | (with_reducible exact LeO.none _)
   | (with_reducible refine LeO.ite ?_ ?_)
   | (with_reducible refine LeO.bind ?_ (fun _ => ?_))
   | exact ih0 _ _ _ _ _ _
   | exact LeO.none _
   | refine LeO.ite ?_ ?_
   | refine LeO.bind ?_ (fun _ => ?_)
theorem sum_infinite.calls (k : Nat) (a0 : Int) (a1_0 : Bool) (a1_1 : Int) (a1_2 : Int) (a1_3 : Int) (a2_0 : Bool) (a2_1 : Int) (a2_2 : Int) (a2_3 : Int) (r : Int) (w : World) (h : sum_infinite.f k a0 a1_0 a1_1 a1_2 a1_3 a2_0 a2_1 a2_2 a2_3 = some r) :
  Calls Try.prog 91 #[.int .i64 a0, .agg #[.bool a1_0, .int .i64 a1_1, .int .i64 a1_2, .int .u64 a1_3], .agg #[.bool a2_0, .int .i64 a2_1, .int .i64 a2_2, .int .u64 a2_3]] w fun e w' => e = .returned (.int .u64 r) ∧ Below w.heap.size w w' := by
 have hu38 := Try.underlying38
 have HB := A_ (Below.refl w.heap.size w)
 have H : (if a1_1 = 2 then (if a2_1 = 2 then (sum_infinite.j0 k a0 (a1_0 != a2_0) a1_0 a1_1 a1_2 a1_3) else (sum_infinite.j0 k a0 false a1_0 a1_1 a1_2 a1_3)) else ((shape_Inf.f a0 a2_0).bind fun t249 => (some t249))) = some r := h
 clear h
 by_cases c4 : a1_1 = 2
 ·rw [if_pos c4] at H
  have c4b0 : (a1_1 == 2) = true := beq_iff_eq.mpr c4
  have c4b1 : (a1_1 != 2) = false := bne_eq_false_iff_eq.mpr c4
  clear c4;have HC5 := A_ H;clear H
  go_enter Try.func91, Try.ntmps91
  go_upto_region 3 with (first | ((with_reducible refine gate_dst (N := 4) rfl ?_); refine be_ 4 #[.bool a1_0, .int .i64 a1_1, .int .i64 a1_2, .int .u64 a1_3] 38 ?_; intro gb245 hg w6 hbox hb; have BK245 := A_ (hbox); have GW245 := A_ (sz_ hg (hb_ HB.out)); have GE245 := A_ (sz_ hg (hb_ HB.out)); replace HB := A_ (below_step (hb_ HB.out) hb); clear hb hbox hg) | ((with_reducible refine gate_dst (N := 5) rfl ?_); refine be_ 5 #[.bool a2_0, .int .i64 a2_1, .int .i64 a2_2, .int .u64 a2_3] 38 ?_; intro gb246 hg w7 hbox hb; have BK246 := A_ (hbox); have GW246 := A_ (sz_ hg (hb1_ HB.out GE245.out)); have GE246 := A_ (sz_ hg (hb1_ HB.out GE245.out)); have NB245_246 := A_ (nl_ hg BK245.out); have NB246_245 := A_ (ng_ hg BK245.out); replace BK245 := A_ (bb_ BK245.out hb); replace HB := A_ (below_step (hb1_ HB.out GE245.out) hb); clear hb hbox hg; have hnb8 := NB245_246.out; have hnc8 := NB246_245.out; have hcz9_0 := bv_ BK245.out 0; have hcz9_1 := bv_ BK245.out 1; have hcz9_2 := bv_ BK245.out 2; have hcz9_3 := bv_ BK245.out 3; have hfz9_0 := blk_frozen BK245.out 0; have hfz9_1 := blk_frozen BK245.out 1; have hfz9_2 := blk_frozen BK245.out 2; have hfz9_3 := blk_frozen BK245.out 3))
  (try simp only [Act.put, lI_, l0_, lS_])
  go_cut [15] (fun v15 wc => ∃ (kq : Nat) (x15_4 : Bool), v15 = .bool x15_4 ∧ Aside0 (sum_infinite.j0 kq a0 x15_4 a1_0 a1_1 a1_2 a1_3 = some r) ∧ Aside0 (kq ≤ k) ∧ Aside0 (wc.heap[gb245]? = some (.cells #[.bool a1_0, .int .i64 a1_1, .int .i64 a1_2, .int .u64 a1_3] 38 (0, 0))) ∧ Aside0 (wc.heap[gb246]? = some (.cells #[.bool a2_0, .int .i64 a2_1, .int .i64 a2_2, .int .u64 a2_3] 38 (0, 0))) ∧ Aside0 (Below w.heap.size w wc))
  case first =>
   have H := HC5.out
   clear HC5
   by_cases c10 : a2_1 = 2
   ·rw [if_pos c10] at H
    have c10b0 : (a2_1 == 2) = true := beq_iff_eq.mpr c10
    have c10b1 : (a2_1 != 2) = false := bne_eq_false_iff_eq.mpr c10
    clear c10
    (first | rw [c10b0] | (simp only [i64_w, i32_w]; rw [c10b0]) | skip)
    have H' := A_ H
    clear H
    have hnb11 := NB246_245.out
    have hnc11 := NB245_246.out
    have hcz12_0 := bv_ BK246.out 0
    have hcz12_1 := bv_ BK246.out 1
    have hcz12_2 := bv_ BK246.out 2
    have hcz12_3 := bv_ BK246.out 3
    have hfz12_0 := blk_frozen BK246.out 0
    have hfz12_1 := blk_frozen BK246.out 1
    have hfz12_2 := blk_frozen BK246.out 2
    have hfz12_3 := blk_frozen BK246.out 3
    have hcz13_0 := bv_ BK245.out 0
    have hcz13_1 := bv_ BK245.out 1
    have hcz13_2 := bv_ BK245.out 2
    have hcz13_3 := bv_ BK245.out 3
    have hfz13_0 := blk_frozen BK245.out 0
    have hfz13_1 := blk_frozen BK245.out 1
    have hfz13_2 := blk_frozen BK245.out 2
    have hfz13_3 := blk_frozen BK245.out 3
    go_wp2
    go_meet
    case rel => exact ⟨_, ((a1_0 != a2_0)), sm_, H', ⟨by first | omega | exact Nat.le_refl _⟩, ⟨bk_ BK245.out⟩, ⟨bk_ BK246.out⟩, ⟨hb2_ HB.out GE245.out GE246.out⟩⟩
   ·rw [if_neg c10] at H
    have c10b0 : (a2_1 == 2) = false := beq_eq_false_iff_ne.mpr c10
    have c10b1 : (a2_1 != 2) = true := bne_iff_ne.mpr c10
    (first | rw [c10b0] | (simp only [i64_w, i32_w]; rw [c10b0]) | skip)
    have H' := A_ H
    clear H
    have hnb14 := NB246_245.out
    have hnc14 := NB245_246.out
    have hcz15_0 := bv_ BK246.out 0
    have hcz15_1 := bv_ BK246.out 1
    have hcz15_2 := bv_ BK246.out 2
    have hcz15_3 := bv_ BK246.out 3
    have hfz15_0 := blk_frozen BK246.out 0
    have hfz15_1 := blk_frozen BK246.out 1
    have hfz15_2 := blk_frozen BK246.out 2
    have hfz15_3 := blk_frozen BK246.out 3
    go_wp2
    go_meet
    case rel => exact ⟨_, (false), sm_, H', ⟨by first | omega | exact Nat.le_refl _⟩, ⟨bk_ BK245.out⟩, ⟨bk_ BK246.out⟩, ⟨hb2_ HB.out GE245.out GE246.out⟩⟩
  case rest =>
   clear HC5
   try clear c1
   try clear p2
   try clear c4
   try clear c4b0
   try clear c4b1
   try clear c8
   try clear c9
   try clear c10
   try clear c10b0
   try clear c10b1
   try clear c11
   try clear c14
   try clear hcz12_0
   try clear hcz12_1
   try clear hcz12_2
   try clear hcz12_3
   try clear hcz13_0
   try clear hcz13_1
   try clear hcz13_2
   try clear hcz13_3
   try clear hcz15_0
   try clear hcz15_1
   try clear hcz15_2
   try clear hcz15_3
   try clear hcz9_0
   try clear hcz9_1
   try clear hcz9_2
   try clear hcz9_3
   try clear hfz12_0
   try clear hfz12_1
   try clear hfz12_2
   try clear hfz12_3
   try clear hfz13_0
   try clear hfz13_1
   try clear hfz13_2
   try clear hfz13_3
   try clear hfz15_0
   try clear hfz15_1
   try clear hfz15_2
   try clear hfz15_3
   try clear hfz9_0
   try clear hfz9_1
   try clear hfz9_2
   try clear hfz9_3
   obtain ⟨kq, x15_4, rfl, HA, HJ4, BK245, BK246, HB⟩ := hcut
   cases kq with
   | zero => exact absurd HA.out (by simp [sum_infinite.j0])
   | succ kj4 =>
    have H := HA.out
    clear HA
    simp only [sum_infinite.j0] at H
    by_cases c16 : x15_4 = true
    ·subst c16
     have H1 : ((shape_Nan.f a0).bind fun t247 => (some t247)) = some r := by rw [if_pos rfl] at H; exact H
     clear H;have H := H1;clear H1
     replace H := ob_ H
     obtain ⟨t247, A170, H⟩ := H
     replace H : (some t247) = some r := H
     have A17 := A_ A170;clear A170
     obtain rfl := Option.some.inj H
     go_wp2_with (first | ((with_reducible refine gate_callee (f := 34) rfl ?_); refine gl_ (some 27) Try.func34 #[.int .i64 a0] ?_; (with_reducible refine (shape_Nan.calls a0 t247 _ A17.out).mono ?_); rintro e w18 ⟨rfl, hb⟩; refine ⟨_, rfl, ?_⟩; replace BK245 := A_ (bb_ BK245.out hb); replace BK246 := A_ (bb_ BK246.out hb); replace HB := A_ (below_step (hb2_ HB.out GE245.out GE246.out) hb); (try clear hb); (try clear hb2); (try clear hk); (try clear hi)))
     go_ret
     exact ⟨er_, hb2_ HB.out GE245.out GE246.out⟩
    ·replace c16 := Bool.eq_false_iff.mpr c16
     subst c16
     have H1 : ((shape_Inf.f a0 a1_0).bind fun t248 => (some t248)) = some r := by rw [if_neg (show ¬ (false = true) by decide)] at H; exact H
     clear H;have H := H1;clear H1
     replace H := ob_ H
     obtain ⟨t248, A190, H⟩ := H
     replace H : (some t248) = some r := H
     have A19 := A_ A190;clear A190
     obtain rfl := Option.some.inj H
     have hnb20 := NB245_246.out
     have hnc20 := NB246_245.out
     have hcz21_0 := bv_ BK245.out 0
     have hcz21_1 := bv_ BK245.out 1
     have hcz21_2 := bv_ BK245.out 2
     have hcz21_3 := bv_ BK245.out 3
     have hfz21_0 := blk_frozen BK245.out 0
     have hfz21_1 := blk_frozen BK245.out 1
     have hfz21_2 := blk_frozen BK245.out 2
     have hfz21_3 := blk_frozen BK245.out 3
     go_wp2_with (first | ((with_reducible refine gate_callee (f := 42) rfl ?_); refine gl_ (some 31) Try.func42 #[.int .i64 a0, .bool a1_0] ?_; (with_reducible refine (shape_Inf.calls a0 a1_0 t248 _ A19.out).mono ?_); rintro e w22 ⟨rfl, hb⟩; refine ⟨_, rfl, ?_⟩; replace BK245 := A_ (bb_ BK245.out hb); replace BK246 := A_ (bb_ BK246.out hb); replace HB := A_ (below_step (hb2_ HB.out GE245.out GE246.out) hb); (try clear hb); (try clear hb2); (try clear hk); (try clear hi)))
     go_ret
     exact ⟨er_, hb2_ HB.out GE245.out GE246.out⟩
 ·rw [if_neg c4] at H
  have c4b0 : (a1_1 == 2) = false := beq_eq_false_iff_ne.mpr c4
  have c4b1 : (a1_1 != 2) = true := bne_iff_ne.mpr c4
  replace H := ob_ H
  obtain ⟨t249, A230, H⟩ := H
  replace H : (some t249) = some r := H
  have A23 := A_ A230;clear A230
  obtain rfl := Option.some.inj H
  go_enter Try.func91, Try.ntmps91
  go_wp2_with (first | ((with_reducible refine gate_dst (N := 4) rfl ?_); refine be_ 4 #[.bool a1_0, .int .i64 a1_1, .int .i64 a1_2, .int .u64 a1_3] 38 ?_; intro gb245 hg w24 hbox hb; have BK245 := A_ (hbox); have GW245 := A_ (sz_ hg (hb_ HB.out)); have GE245 := A_ (sz_ hg (hb_ HB.out)); replace HB := A_ (below_step (hb_ HB.out) hb); clear hb hbox hg) | ((with_reducible refine gate_dst (N := 5) rfl ?_); refine be_ 5 #[.bool a2_0, .int .i64 a2_1, .int .i64 a2_2, .int .u64 a2_3] 38 ?_; intro gb246 hg w25 hbox hb; have BK246 := A_ (hbox); have GW246 := A_ (sz_ hg (hb1_ HB.out GE245.out)); have GE246 := A_ (sz_ hg (hb1_ HB.out GE245.out)); have NB245_246 := A_ (nl_ hg BK245.out); have NB246_245 := A_ (ng_ hg BK245.out); replace BK245 := A_ (bb_ BK245.out hb); replace HB := A_ (below_step (hb1_ HB.out GE245.out) hb); clear hb hbox hg; have hnb26 := NB245_246.out; have hnc26 := NB246_245.out; have hcz27_0 := bv_ BK245.out 0; have hcz27_1 := bv_ BK245.out 1; have hcz27_2 := bv_ BK245.out 2; have hcz27_3 := bv_ BK245.out 3; have hfz27_0 := blk_frozen BK245.out 0; have hfz27_1 := blk_frozen BK245.out 1; have hfz27_2 := blk_frozen BK245.out 2; have hfz27_3 := blk_frozen BK245.out 3; have hcz28_0 := bv_ BK246.out 0; have hcz28_1 := bv_ BK246.out 1; have hcz28_2 := bv_ BK246.out 2; have hcz28_3 := bv_ BK246.out 3; have hfz28_0 := blk_frozen BK246.out 0; have hfz28_1 := blk_frozen BK246.out 1; have hfz28_2 := blk_frozen BK246.out 2; have hfz28_3 := blk_frozen BK246.out 3) | ((with_reducible refine gate_callee (f := 42) rfl ?_); refine gl_ (some 14) Try.func42 #[.int .i64 a0, .bool a2_0] ?_; (with_reducible refine (shape_Inf.calls a0 a2_0 t249 _ A23.out).mono ?_); rintro e w29 ⟨rfl, hb⟩; refine ⟨_, rfl, ?_⟩; replace BK245 := A_ (bb_ BK245.out hb); replace BK246 := A_ (bb_ BK246.out hb); replace HB := A_ (below_step (hb2_ HB.out GE245.out GE246.out) hb); (try clear hb); (try clear hb2); (try clear hk); (try clear hi)))
  go_ret
  exact ⟨er_, hb2_ HB.out GE245.out GE246.out⟩
end Go.Proofs.Ytbpmnmceajmmcaa.PA
