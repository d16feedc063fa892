/- What the Go functions that the statement WholeHalf reaches compute, and the mathematics on it, in the order in which one leans on the other; for every input. -/
import Derived.Test.YthdeeoallfbjmaaVWholeHalf1
import Derived.Test.YthdeeoallfbjmaaMWholeHalf0
import Derived.Test.YthdeeoallfbjmaaMWholeHalf5
import Derived.Test.YthdeeoallfbjmaaMWholeHalf4
import Derived.Test.YthdeeoallfbjmaaMWholeHalf8
import Derived.Test.YthdeeoallfbjmaaMWholeHalf3
import Derived.Test.YthdeeoallfbjmaaMWholeHalf1
namespace Go.Proofs.Ythdeeoallfbjmaa.PA
open Go.RowKit Go.Proofs.YthdeeoallfbjmaaW.PrintWords Go.Proofs.YthdeeoallfbjmaaW.PrintLast Go.Proofs.YthdeeoallfbjmaaW.PrintMore
attribute [local go_sem] max2_int min2_int max_two min_two max_three min_three max_four min_four   -- for this text's walks alone
set_option linter.unusedVariables false
set_option linter.unusedSimpArgs false
set_option maxHeartbeats 8000000
set_option maxRecDepth 100000
mutual
def r8_Cmp.j0 : Nat → Bool → Bool → Int → Int → Int → Bool → Int → Int → Int → Option (Int)
 | 0, _, _, _, _, _, _, _, _, _ => none
 | k + 1, x24, x550000, x550001, x550002, x550003, x555000, x555001, x555002, x555003 => if x24 = true then (some 2) else ((r8_sign.f x550000 x550001 x550002 x550003).bind fun t555 => ((r8_sign.f x555000 x555001 x555002 x555003).bind fun t556 => (if t555 < t556 then (some (-1)) else ((r8_sign.f x550000 x550001 x550002 x550003).bind fun t557 => ((r8_sign.f x555000 x555001 x555002 x555003).bind fun t558 => (if t557 > t558 then (some 1) else ((r8_sign.f x550000 x550001 x550002 x550003).bind fun t559 => (if t559 = 0 then (some 0) else (if x550001 = 2 then (r8_Cmp.j1 k true x550000 x550001 x550002 x550003 x555000 x555001 x555002 x555003) else (r8_Cmp.j1 k (x555001 == 2) x550000 x550001 x550002 x550003 x555000 x555001 x555002 x555003))))))))))
def r8_Cmp.j1 : Nat → Bool → Bool → Int → Int → Int → Bool → Int → Int → Int → Option (Int)
 | 0, _, _, _, _, _, _, _, _, _ => none
 | k + 1, x45, x550000, x550001, x550002, x550003, x555000, x555001, x555002, x555003 => if x45 = true then (if x550000 = true then (some (wrap64 (-(wrap64 (x550001 - x555001))))) else (some (wrap64 (x550001 - x555001)))) else ((r1_Of.f k x550003).bind fun t560 => ((r1_Shl.f k t560 (wrap64 (x550002 - (mn x550002 x555002)))).bind fun t563 => ((r1_Of.f k x555003).bind fun t566 => ((r1_Shl.f k t566 (wrap64 (x555002 - (mn x550002 x555002)))).bind fun t569 => ((r1_Cmp.f k t563 t569).bind fun t572 => (if x550000 = true then (some (wrap64 (-t572))) else (some t572)))))))
end
def r8_Cmp.f (k : Nat) (a0 : Int) (a1 : Int) (a2 : Int) : Option (Int) := (r2_Open.f k a0 a1).bind fun bt545 => ((r2_Open.f k a0 a2).bind fun bt550 => (if bt545.2.1 = 3 then (r8_Cmp.j0 k true bt545.1 bt545.2.1 bt545.2.2.1 bt545.2.2.2 bt550.1 bt550.2.1 bt550.2.2.1 bt550.2.2.2) else (r8_Cmp.j0 k (bt550.2.1 == 3) bt545.1 bt545.2.1 bt545.2.2.1 bt545.2.2.2 bt550.1 bt550.2.1 bt550.2.2.1 bt550.2.2.2)))
theorem r8_Cmp.mono_l : ∀ k, (∀ y0 y1 y2 y3 y4 y5 y6 y7 y8, LeO (r8_Cmp.j0 k y0 y1 y2 y3 y4 y5 y6 y7 y8) (r8_Cmp.j0 (k + 1) y0 y1 y2 y3 y4 y5 y6 y7 y8)) ∧ (∀ y0 y1 y2 y3 y4 y5 y6 y7 y8, LeO (r8_Cmp.j1 k y0 y1 y2 y3 y4 y5 y6 y7 y8) (r8_Cmp.j1 (k + 1) y0 y1 y2 y3 y4 y5 y6 y7 y8))
 | 0 => ⟨fun _ _ _ _ _ _ _ _ _ r h => by simp [r8_Cmp.j0] at h, fun _ _ _ _ _ _ _ _ _ r h => by simp [r8_Cmp.j1] at h⟩
 | k + 1 => by
  obtain ⟨ih0, ih1⟩ := r8_Cmp.mono_l k
  refine ⟨?_, ?_⟩
  ·intro y0 y1 y2 y3 y4 y5 y6 y7 y8
   unfold r8_Cmp.j0
   repeat' first
   | (with_reducible exact ih0 _ _ _ _ _ _ _ _ _)
   | (with_reducible exact ih1 _ _ _ _ _ _ _ _ _)
   | (with_reducible exact r1_Cmp.mono _ _ _)
   | (with_reducible exact r1_Of.mono _ _)
   | (with_reducible exact r1_Shl.mono _ _ _)
   | (with_reducible exact r2_Open.mono _ _ _)
   | (with_reducible exact LeO.refl _)
   | (with_reducible exact LeO.none _)
   | (with_reducible refine LeO.ite ?_ ?_)
   | (with_reducible refine LeO.bind ?_ (fun _ => ?_))
   | exact ih0 _ _ _ _ _ _ _ _ _
   | exact ih1 _ _ _ _ _ _ _ _ _
   | exact r1_Cmp.mono _ _ _
   | exact r1_Of.mono _ _
   | exact r1_Shl.mono _ _ _
   | exact r2_Open.mono _ _ _
   | exact LeO.none _
   | refine LeO.ite ?_ ?_
   | refine LeO.bind ?_ (fun _ => ?_)
  ·intro y0 y1 y2 y3 y4 y5 y6 y7 y8
   unfold r8_Cmp.j1
   repeat' first
   | (with_reducible exact ih0 _ _ _ _ _ _ _ _ _)
   | (with_reducible exact ih1 _ _ _ _ _ _ _ _ _)
   | (with_reducible exact r1_Cmp.mono _ _ _)
   | (with_reducible exact r1_Of.mono _ _)
   | (with_reducible exact r1_Shl.mono _ _ _)
   | (with_reducible exact r2_Open.mono _ _ _)
   | (with_reducible exact LeO.refl _)
   | (with_reducible exact LeO.none _)
   | (with_reducible refine LeO.ite ?_ ?_)
   | (with_reducible refine LeO.bind ?_ (fun _ => ?_))
   | exact ih0 _ _ _ _ _ _ _ _ _
   | exact ih1 _ _ _ _ _ _ _ _ _
   | exact r1_Cmp.mono _ _ _
   | exact r1_Of.mono _ _
   | exact r1_Shl.mono _ _ _
   | exact r2_Open.mono _ _ _
   | exact LeO.none _
   | refine LeO.ite ?_ ?_
   | refine LeO.bind ?_ (fun _ => ?_)
theorem r8_Cmp.mono : ∀ a0 a1 a2 k, LeO (r8_Cmp.f k a0 a1 a2) (r8_Cmp.f (k + 1) a0 a1 a2) := by
 intro a0 a1 a2 k
 obtain ⟨ih0, ih1⟩ := r8_Cmp.mono_l k
 unfold r8_Cmp.f
 repeat' first
   | (with_reducible exact ih0 _ _ _ _ _ _ _ _ _)
   | (with_reducible exact ih1 _ _ _ _ _ _ _ _ _)
   | (with_reducible exact r1_Cmp.mono _ _ _)
   | (with_reducible exact r1_Of.mono _ _)
   | (with_reducible exact r1_Shl.mono _ _ _)
   | (with_reducible exact r2_Open.mono _ _ _)
   | (with_reducible exact LeO.refl _)
   | (with_reducible exact LeO.none _)
   | (with_reducible refine LeO.ite ?_ ?_)
   | (with_reducible refine LeO.bind ?_ (fun _ => ?_))
   | exact ih0 _ _ _ _ _ _ _ _ _
   | exact ih1 _ _ _ _ _ _ _ _ _
   | exact r1_Cmp.mono _ _ _
   | exact r1_Of.mono _ _
   | exact r1_Shl.mono _ _ _
   | exact r2_Open.mono _ _ _
   | exact LeO.none _
   | refine LeO.ite ?_ ?_
   | refine LeO.bind ?_ (fun _ => ?_)
def r8_Cmp.T15 : Bool × List (List Nat × List Nat) := (true, [([], []), ([0], [0]), ([1], [1]), ([], []), ([3], [3]), ([], []), ([4, 5], [4, 5]), ([2, 6, 2], [2, 6]), ([], []), ([8], [8]), ([9, 7], [9]), ([], []), ([11], [11]), ([], []), ([12, 13], [12, 13]), ([10, 14, 10], [10, 14]), ([7, 15, 15], [7, 15]), ([16, 16, 0, 1, 2, 3, 4, 5, 6, 7, 8, 9, 10, 11, 12, 13, 14, 15, 16], [16])])
def r8_Cmp.B15 : List Nat := [0, 1, 3, 0, 8, 0, 56, 127, 0, 256, 1023, 0, 2048, 0, 14336, 32767, 65535, 131071]
theorem r8_Cmp.tab15 : rtab .any (opsOf Try.f24 15) = r8_Cmp.T15 := by kernel_rfl
theorem r8_Cmp.bits15 : waitsOk r8_Cmp.T15.2 r8_Cmp.B15 = true := by kernel_rfl
theorem r8_Cmp.calls (k : Nat) (a0 : Int) (a1 : Int) (a2 : Int) (r : Int) (w : World) (h : r8_Cmp.f k a0 a1 a2 = some r) :
  Calls Try.prog 24 #[.int .i64 a0, .int .u64 a1, .int .u64 a2] w fun e w' => e = .returned (.int .i64 r) ∧ Below w.heap.size w w' := by
 have hu30 := Try.underlying30
 have HB := A_ (Below.refl w.heap.size w)
 have H : ((r2_Open.f k a0 a1).bind fun bt545 => ((r2_Open.f k a0 a2).bind fun bt550 => (if bt545.2.1 = 3 then (r8_Cmp.j0 k true bt545.1 bt545.2.1 bt545.2.2.1 bt545.2.2.2 bt550.1 bt550.2.1 bt550.2.2.1 bt550.2.2.2) else (r8_Cmp.j0 k (bt550.2.1 == 3) bt545.1 bt545.2.1 bt545.2.2.1 bt545.2.2.2 bt550.1 bt550.2.1 bt550.2.2.1 bt550.2.2.2)))) = some r := h
 clear h
 replace H := ob_ H
 obtain ⟨⟨t545, t546, t547, t548⟩, A40, H⟩ := H
 replace H : ((r2_Open.f k a0 a2).bind fun bt550 => (if t546 = 3 then (r8_Cmp.j0 k true t545 t546 t547 t548 bt550.1 bt550.2.1 bt550.2.2.1 bt550.2.2.2) else (r8_Cmp.j0 k (bt550.2.1 == 3) t545 t546 t547 t548 bt550.1 bt550.2.1 bt550.2.2.1 bt550.2.2.2))) = some r := H
 have A4 := A_ A40;clear A40
 replace H := ob_ H
 obtain ⟨⟨t550, t551, t552, t553⟩, A50, H⟩ := H
 replace H : (if t546 = 3 then (r8_Cmp.j0 k true t545 t546 t547 t548 t550 t551 t552 t553) else (r8_Cmp.j0 k (t551 == 3) t545 t546 t547 t548 t550 t551 t552 t553)) = some r := H
 have A5 := A_ A50;clear A50;have HC6 := A_ H;clear H
 go_enter Try.func24, Try.ntmps24
 go_upto_region 3 with (first | ((with_reducible refine gate_callee (f := 14) rfl ?_); refine gl_ (some 13) Try.func14 #[.int .i64 a0, .int .u64 a1] ?_; (with_reducible refine (r2_Open.calls k a0 a1 t545 t546 t547 t548 _ A4.out).mono ?_); rintro e w7 ⟨rfl, hb⟩; refine ⟨_, rfl, ?_⟩; replace HB := A_ (below_step (hb_ HB.out) hb); (try clear hb); (try clear hb2); (try clear hk); (try clear hi)) | ((with_reducible refine gate_dst (N := 7) rfl ?_); refine be_ 7 #[.bool false, .int .i64 0, .int .i64 0, .int .u64 0] 30 ?_; intro gb549 hg w8 hbox hb; have BK549 := A_ (hbox); have GW549 := A_ (sz_ hg (hb_ HB.out)); have GE549 := A_ (sz_ hg (hb_ HB.out)); replace HB := A_ (below_step (hb_ HB.out) hb); clear hb hbox hg; have hcz9_0 := bv_ BK549.out 0; have hcz9_1 := bv_ BK549.out 1; have hcz9_2 := bv_ BK549.out 2; have hcz9_3 := bv_ BK549.out 3; have hfz9_0 := blk_frozen BK549.out 0; have hfz9_1 := blk_frozen BK549.out 1; have hfz9_2 := blk_frozen BK549.out 2; have hfz9_3 := blk_frozen BK549.out 3) | ((with_reducible refine gate_callee (f := 14) rfl ?_); refine gl_ (some 16) Try.func14 #[.int .i64 a0, .int .u64 a2] ?_; (with_reducible refine (r2_Open.calls k a0 a2 t550 t551 t552 t553 _ A5.out).mono ?_); rintro e w10 ⟨rfl, hb⟩; refine ⟨_, rfl, ?_⟩; replace BK549 := A_ (blk_below (g := gb549) (o := .cells #[.bool t545, .int .i64 t546, .int .i64 t547, .int .u64 t548] 30 (0, 0)) (by (with_reducible repeat (first | refine blk_drewN ?_ _ | refine blk_drew ?_ | refine blk_alloc ?_ _)); refine blk_put (cs := #[.bool t545, .int .i64 t546, .int .i64 t547, .int .u64 0]) ?_ 3 _ rfl; (with_reducible repeat (first | refine blk_drewN ?_ _ | refine blk_drew ?_ | refine blk_alloc ?_ _)); refine blk_put (cs := #[.bool t545, .int .i64 t546, .int .i64 0, .int .u64 0]) ?_ 2 _ rfl; (with_reducible repeat (first | refine blk_drewN ?_ _ | refine blk_drew ?_ | refine blk_alloc ?_ _)); refine blk_put (cs := #[.bool t545, .int .i64 0, .int .i64 0, .int .u64 0]) ?_ 1 _ rfl; (with_reducible repeat (first | refine blk_drewN ?_ _ | refine blk_drew ?_ | refine blk_alloc ?_ _)); refine blk_put (cs := #[.bool false, .int .i64 0, .int .i64 0, .int .u64 0]) ?_ 0 _ rfl; (with_reducible repeat (first | refine blk_drewN ?_ _ | refine blk_drew ?_ | refine blk_alloc ?_ _)); exact BK549.out) hb); replace HB := A_ (below_step (hb1_ HB.out GE549.out) hb); (try clear hb); (try clear hb2); (try clear hk); (try clear hi)) | ((with_reducible refine gate_dst (N := 8) rfl ?_); refine be_ 8 #[.bool false, .int .i64 0, .int .i64 0, .int .u64 0] 30 ?_; intro gb554 hg w11 hbox hb; have BK554 := A_ (hbox); have GW554 := A_ (sz_ hg (hb1_ HB.out GE549.out)); have GE554 := A_ (sz_ hg (hb1_ HB.out GE549.out)); have NB549_554 := A_ (nl_ hg BK549.out); have NB554_549 := A_ (ng_ hg BK549.out); replace BK549 := A_ (bb_ BK549.out hb); replace HB := A_ (below_step (hb1_ HB.out GE549.out) hb); clear hb hbox hg; have hnb12 := NB554_549.out; have hnc12 := NB549_554.out; have hcz13_0 := bv_ BK554.out 0; have hcz13_1 := bv_ BK554.out 1; have hcz13_2 := bv_ BK554.out 2; have hcz13_3 := bv_ BK554.out 3; have hfz13_0 := blk_frozen BK554.out 0; have hfz13_1 := blk_frozen BK554.out 1; have hfz13_2 := blk_frozen BK554.out 2; have hfz13_3 := blk_frozen BK554.out 3))
 (try simp only [Act.put, lI_, l0_, lS_])
 go_cut [24] (fun v24 wc => ∃ (kq : Nat) (x24_5 : Bool), v24 = .bool x24_5 ∧ Aside0 (r8_Cmp.j0 kq x24_5 t545 t546 t547 t548 t550 t551 t552 t553 = some r) ∧ Aside0 (kq ≤ k) ∧ Aside0 (wc.heap[gb549]? = some (.cells #[.bool t545, .int .i64 t546, .int .i64 t547, .int .u64 t548] 30 (0, 0))) ∧ Aside0 (wc.heap[gb554]? = some (.cells #[.bool t550, .int .i64 t551, .int .i64 t552, .int .u64 t553] 30 (0, 0))) ∧ Aside0 (Below w.heap.size w wc))
 case first =>
  have H := HC6.out
  clear HC6
  by_cases c14 : t546 = 3
  ·rw [if_pos c14] at H
   have c14b0 : (t546 == 3) = true := beq_iff_eq.mpr c14
   have c14b1 : (t546 != 3) = false := bne_eq_false_iff_eq.mpr c14
   clear c14
   (first | rw [c14b0] | (simp only [i64_w, i32_w]; rw [c14b0]) | skip)
   have H' := A_ H
   clear H
   have hnb15 := NB549_554.out
   have hnc15 := NB554_549.out
   have hcz16_0 := bv_ BK549.out 0
   have hcz16_1 := bv_ BK549.out 1
   have hcz16_2 := bv_ BK549.out 2
   have hcz16_3 := bv_ BK549.out 3
   have hfz16_0 := blk_frozen BK549.out 0
   have hfz16_1 := blk_frozen BK549.out 1
   have hfz16_2 := blk_frozen BK549.out 2
   have hfz16_3 := blk_frozen BK549.out 3
   go_wp2
   go_meet
   case rel => exact ⟨_, (true), sm_, H', ⟨by first | omega | exact Nat.le_refl _⟩, ⟨bf4_ BK549.out NB549_554.out NB549_554.out NB549_554.out NB549_554.out⟩, ⟨by (with_reducible repeat (first | refine blk_drewN ?_ _ | refine blk_drew ?_ | refine blk_alloc ?_ _)); refine blk_put (cs := #[.bool t550, .int .i64 t551, .int .i64 t552, .int .u64 0]) ?_ 3 _ rfl; (with_reducible repeat (first | refine blk_drewN ?_ _ | refine blk_drew ?_ | refine blk_alloc ?_ _)); refine blk_put (cs := #[.bool t550, .int .i64 t551, .int .i64 0, .int .u64 0]) ?_ 2 _ rfl; (with_reducible repeat (first | refine blk_drewN ?_ _ | refine blk_drew ?_ | refine blk_alloc ?_ _)); refine blk_put (cs := #[.bool t550, .int .i64 0, .int .i64 0, .int .u64 0]) ?_ 1 _ rfl; (with_reducible repeat (first | refine blk_drewN ?_ _ | refine blk_drew ?_ | refine blk_alloc ?_ _)); refine blk_put (cs := #[.bool false, .int .i64 0, .int .i64 0, .int .u64 0]) ?_ 0 _ rfl; (with_reducible repeat (first | refine blk_drewN ?_ _ | refine blk_drew ?_ | refine blk_alloc ?_ _)); exact BK554.out⟩, ⟨hb2_ HB.out GE549.out GE554.out⟩⟩
  ·rw [if_neg c14] at H
   have c14b0 : (t546 == 3) = false := beq_eq_false_iff_ne.mpr c14
   have c14b1 : (t546 != 3) = true := bne_iff_ne.mpr c14
   (first | rw [c14b0] | (simp only [i64_w, i32_w]; rw [c14b0]) | skip)
   have H' := A_ H
   clear H
   have hnb17 := NB549_554.out
   have hnc17 := NB554_549.out
   have hcz18_0 := bv_ BK549.out 0
   have hcz18_1 := bv_ BK549.out 1
   have hcz18_2 := bv_ BK549.out 2
   have hcz18_3 := bv_ BK549.out 3
   have hfz18_0 := blk_frozen BK549.out 0
   have hfz18_1 := blk_frozen BK549.out 1
   have hfz18_2 := blk_frozen BK549.out 2
   have hfz18_3 := blk_frozen BK549.out 3
   have hcz19_0 := bv_ BK554.out 0
   have hcz19_1 := bv_ BK554.out 1
   have hcz19_2 := bv_ BK554.out 2
   have hcz19_3 := bv_ BK554.out 3
   have hfz19_0 := blk_frozen BK554.out 0
   have hfz19_1 := blk_frozen BK554.out 1
   have hfz19_2 := blk_frozen BK554.out 2
   have hfz19_3 := blk_frozen BK554.out 3
   go_wp2
   go_meet
   case rel => exact ⟨_, ((t551 == 3)), sm_, H', ⟨by first | omega | exact Nat.le_refl _⟩, ⟨bf4_ BK549.out NB549_554.out NB549_554.out NB549_554.out NB549_554.out⟩, ⟨by (with_reducible repeat (first | refine blk_drewN ?_ _ | refine blk_drew ?_ | refine blk_alloc ?_ _)); refine blk_put (cs := #[.bool t550, .int .i64 t551, .int .i64 t552, .int .u64 0]) ?_ 3 _ rfl; (with_reducible repeat (first | refine blk_drewN ?_ _ | refine blk_drew ?_ | refine blk_alloc ?_ _)); refine blk_put (cs := #[.bool t550, .int .i64 t551, .int .i64 0, .int .u64 0]) ?_ 2 _ rfl; (with_reducible repeat (first | refine blk_drewN ?_ _ | refine blk_drew ?_ | refine blk_alloc ?_ _)); refine blk_put (cs := #[.bool t550, .int .i64 0, .int .i64 0, .int .u64 0]) ?_ 1 _ rfl; (with_reducible repeat (first | refine blk_drewN ?_ _ | refine blk_drew ?_ | refine blk_alloc ?_ _)); refine blk_put (cs := #[.bool false, .int .i64 0, .int .i64 0, .int .u64 0]) ?_ 0 _ rfl; (with_reducible repeat (first | refine blk_drewN ?_ _ | refine blk_drew ?_ | refine blk_alloc ?_ _)); exact BK554.out⟩, ⟨hb2_ HB.out GE549.out GE554.out⟩⟩
 case rest =>
  clear HC6
  try clear c1
  try clear c2
  try clear p2
  try clear c12
  try clear c14
  try clear c14b0
  try clear c14b1
  try clear c15
  try clear c17
  try clear hcz13_0
  try clear hcz13_1
  try clear hcz13_2
  try clear hcz13_3
  try clear hcz16_0
  try clear hcz16_1
  try clear hcz16_2
  try clear hcz16_3
  try clear hcz18_0
  try clear hcz18_1
  try clear hcz18_2
  try clear hcz18_3
  try clear hcz19_0
  try clear hcz19_1
  try clear hcz19_2
  try clear hcz19_3
  try clear hcz9_0
  try clear hcz9_1
  try clear hcz9_2
  try clear hcz9_3
  try clear hfz13_0
  try clear hfz13_1
  try clear hfz13_2
  try clear hfz13_3
  try clear hfz16_0
  try clear hfz16_1
  try clear hfz16_2
  try clear hfz16_3
  try clear hfz18_0
  try clear hfz18_1
  try clear hfz18_2
  try clear hfz18_3
  try clear hfz19_0
  try clear hfz19_1
  try clear hfz19_2
  try clear hfz19_3
  try clear hfz9_0
  try clear hfz9_1
  try clear hfz9_2
  try clear hfz9_3
  obtain ⟨kq, x24_5, rfl, HA, HJ5, BK549, BK554, HB⟩ := hcut
  cases kq with
  | zero => exact absurd HA.out (by simp [r8_Cmp.j0])
  | succ kj5 =>
   have H := HA.out
   clear HA
   simp only [r8_Cmp.j0] at H
   by_cases c20 : x24_5 = true
   ·subst c20
    have H1 : (some 2) = some r := by rw [if_pos rfl] at H; exact H
    clear H;have H := H1;clear H1
    obtain rfl := Option.some.inj H
    go_wp2
    go_ret
    exact ⟨er_, hb2_ HB.out GE549.out GE554.out⟩
   ·replace c20 := Bool.eq_false_iff.mpr c20
    subst c20
    have H1 : ((r8_sign.f t545 t546 t547 t548).bind fun t555 => ((r8_sign.f t550 t551 t552 t553).bind fun t556 => (if t555 < t556 then (some (-1)) else ((r8_sign.f t545 t546 t547 t548).bind fun t557 => ((r8_sign.f t550 t551 t552 t553).bind fun t558 => (if t557 > t558 then (some 1) else ((r8_sign.f t545 t546 t547 t548).bind fun t559 => (if t559 = 0 then (some 0) else (if t546 = 2 then (r8_Cmp.j1 kj5 true t545 t546 t547 t548 t550 t551 t552 t553) else (r8_Cmp.j1 kj5 (t551 == 2) t545 t546 t547 t548 t550 t551 t552 t553)))))))))) = some r := by rw [if_neg (show ¬ (false = true) by decide)] at H; exact H
    clear H;have H := H1;clear H1
    replace H := ob_ H
    obtain ⟨t555, A210, H⟩ := H
    replace H : ((r8_sign.f t550 t551 t552 t553).bind fun t556 => (if t555 < t556 then (some (-1)) else ((r8_sign.f t545 t546 t547 t548).bind fun t557 => ((r8_sign.f t550 t551 t552 t553).bind fun t558 => (if t557 > t558 then (some 1) else ((r8_sign.f t545 t546 t547 t548).bind fun t559 => (if t559 = 0 then (some 0) else (if t546 = 2 then (r8_Cmp.j1 kj5 true t545 t546 t547 t548 t550 t551 t552 t553) else (r8_Cmp.j1 kj5 (t551 == 2) t545 t546 t547 t548 t550 t551 t552 t553))))))))) = some r := H
    have A21 := A_ A210;clear A210
    replace H := ob_ H
    obtain ⟨t556, A220, H⟩ := H
    replace H : (if t555 < t556 then (some (-1)) else ((r8_sign.f t545 t546 t547 t548).bind fun t557 => ((r8_sign.f t550 t551 t552 t553).bind fun t558 => (if t557 > t558 then (some 1) else ((r8_sign.f t545 t546 t547 t548).bind fun t559 => (if t559 = 0 then (some 0) else (if t546 = 2 then (r8_Cmp.j1 kj5 true t545 t546 t547 t548 t550 t551 t552 t553) else (r8_Cmp.j1 kj5 (t551 == 2) t545 t546 t547 t548 t550 t551 t552 t553)))))))) = some r := H
    have A22 := A_ A220;clear A220
    by_cases c23 : t555 < t556
    ·rw [if_pos c23] at H
     have c23b0 : decide (t555 < t556) = true := decide_eq_true c23
     clear c23
     obtain rfl := Option.some.inj H
     try go_wp2
     replace BK549 := A_ (blk_drew BK549.out)
     replace BK554 := A_ (blk_drew BK554.out)
     replace HB := A_ (below_drew1 HB.out)
     refine start_ (n := 5) (S := fun w' => w'.cell? ⟨gb549, 0, none⟩ = some (.bool t545) ∧ w'.cell? ⟨gb549, 1, none⟩ = some (.int .i64 t546) ∧ w'.cell? ⟨gb549, 2, none⟩ = some (.int .i64 t547) ∧ w'.cell? ⟨gb549, 3, none⟩ = some (.int .u64 t548) ∧ w'.cell? ⟨gb554, 0, none⟩ = some (.bool t550) ∧ w'.cell? ⟨gb554, 1, none⟩ = some (.int .i64 t551) ∧ w'.cell? ⟨gb554, 2, none⟩ = some (.int .i64 t552) ∧ w'.cell? ⟨gb554, 3, none⟩ = some (.int .u64 t553)) (ds := []) #[false, false, false, false, false] (by kernel_rfl) rfl rfl ⟨bc_ BK549.out 0, bc_ BK549.out 1, bc_ BK549.out 2, bc_ BK549.out 3, bc_ BK554.out 0, bc_ BK554.out 1, bc_ BK554.out 2, bc_ BK554.out 3⟩ (fun hHeld => ?_)
     generalize wc.drew = w24 at BK549 BK554 HB hHeld ⊢
     refine tk8_ 0 (some 25) #[true, false, false, false, false] rfl rfl (by kernel_rfl) hHeld ?_
     refine tk8_ 2 (some 27) #[true, false, true, false, false] rfl rfl (by kernel_rfl) hHeld ?_
     refine one_ (i := 1) (N := some 26) #[true, true, true, false, false] rfl rfl (by kernel_rfl) (by decide) (fun K hK => ?_)
     refine goes_ Try.func56 (by kernel_rfl) rfl #[.agg #[.bool t545, .int .i64 t546, .int .i64 t547, .int .u64 t548]] (by rfl) rfl rfl mp_ ?_
     with_reducible refine (r8_sign.calls t545 t546 t547 t548 t555 _ A21.out).mono ?_
     rintro e w25 ⟨rfl, hb⟩
     refine ⟨_, rfl, ?_⟩
     replace BK549 := A_ (bb_ BK549.out hb)
     replace BK554 := A_ (bb_ BK554.out hb)
     replace HB := A_ (below_step (hb2_ HB.out GE549.out GE554.out) hb);(try clear hb);(try clear hb2);(try clear hk);(try clear hi)
     refine hK.out _ _ ⟨bc_ BK549.out 0, bc_ BK549.out 1, bc_ BK549.out 2, bc_ BK549.out 3, bc_ BK554.out 0, bc_ BK554.out 1, bc_ BK554.out 2, bc_ BK554.out 3⟩ (fun hHeld => ?_)
     clear hK K
     refine norm_ (a' := ?_) ?_ ?_
     rotate_left
     ·show Act.put _ (some 26) _ = _
      simp only [Act.put, lI_, l0_, lS_, i64_w, i32_w]
      rfl
     refine one_ (i := 3) (N := some 28) #[true, true, true, true, false] rfl rfl (by kernel_rfl) (by decide) (fun K hK => ?_)
     refine goes_ Try.func56 (by kernel_rfl) rfl #[.agg #[.bool t550, .int .i64 t551, .int .i64 t552, .int .u64 t553]] (by rfl) rfl rfl mp_ ?_
     with_reducible refine (r8_sign.calls t550 t551 t552 t553 t556 _ A22.out).mono ?_
     rintro e w26 ⟨rfl, hb⟩
     refine ⟨_, rfl, ?_⟩
     replace BK549 := A_ (bb_ BK549.out hb)
     replace BK554 := A_ (bb_ BK554.out hb)
     replace HB := A_ (below_step (hb2_ HB.out GE549.out GE554.out) hb);(try clear hb);(try clear hb2);(try clear hk);(try clear hi)
     refine hK.out _ _ ⟨bc_ BK549.out 0, bc_ BK549.out 1, bc_ BK549.out 2, bc_ BK549.out 3, bc_ BK554.out 0, bc_ BK554.out 1, bc_ BK554.out 2, bc_ BK554.out 3⟩ (fun hHeld => ?_)
     clear hK K
     refine norm_ (a' := ?_) ?_ ?_
     rotate_left
     ·show Act.put _ (some 28) _ = _
      simp only [Act.put, lI_, l0_, lS_, i64_w, i32_w]
      rfl
     refine pu_ 4 (some 29) #[true, true, true, true, true] rfl rfl (by kernel_rfl) ?_
     refine done_ (by kernel_rfl) ?_
     try go_wp2
     go_ret
     exact ⟨er_, hb2_ HB.out GE549.out GE554.out⟩
    ·rw [if_neg c23] at H
     have c23b0 : decide (t555 < t556) = false := decide_eq_false c23
     clear c23
     replace H := ob_ H
     obtain ⟨t557, A270, H⟩ := H
     replace H : ((r8_sign.f t550 t551 t552 t553).bind fun t558 => (if t557 > t558 then (some 1) else ((r8_sign.f t545 t546 t547 t548).bind fun t559 => (if t559 = 0 then (some 0) else (if t546 = 2 then (r8_Cmp.j1 kj5 true t545 t546 t547 t548 t550 t551 t552 t553) else (r8_Cmp.j1 kj5 (t551 == 2) t545 t546 t547 t548 t550 t551 t552 t553)))))) = some r := H
     have A27 := A_ A270;clear A270
     replace H := ob_ H
     obtain ⟨t558, A280, H⟩ := H
     replace H : (if t557 > t558 then (some 1) else ((r8_sign.f t545 t546 t547 t548).bind fun t559 => (if t559 = 0 then (some 0) else (if t546 = 2 then (r8_Cmp.j1 kj5 true t545 t546 t547 t548 t550 t551 t552 t553) else (r8_Cmp.j1 kj5 (t551 == 2) t545 t546 t547 t548 t550 t551 t552 t553))))) = some r := H
     have A28 := A_ A280;clear A280
     by_cases c29 : t557 > t558
     ·rw [if_pos c29] at H
      have c29b0 : decide (t558 < t557) = true := decide_eq_true c29
      clear c29
      obtain rfl := Option.some.inj H
      try go_wp2
      replace BK549 := A_ (blk_drew BK549.out)
      replace BK554 := A_ (blk_drew BK554.out)
      replace HB := A_ (below_drew1 HB.out)
      refine start_ (n := 5) (S := fun w' => w'.cell? ⟨gb549, 0, none⟩ = some (.bool t545) ∧ w'.cell? ⟨gb549, 1, none⟩ = some (.int .i64 t546) ∧ w'.cell? ⟨gb549, 2, none⟩ = some (.int .i64 t547) ∧ w'.cell? ⟨gb549, 3, none⟩ = some (.int .u64 t548) ∧ w'.cell? ⟨gb554, 0, none⟩ = some (.bool t550) ∧ w'.cell? ⟨gb554, 1, none⟩ = some (.int .i64 t551) ∧ w'.cell? ⟨gb554, 2, none⟩ = some (.int .i64 t552) ∧ w'.cell? ⟨gb554, 3, none⟩ = some (.int .u64 t553)) (ds := []) #[false, false, false, false, false] (by kernel_rfl) rfl rfl ⟨bc_ BK549.out 0, bc_ BK549.out 1, bc_ BK549.out 2, bc_ BK549.out 3, bc_ BK554.out 0, bc_ BK554.out 1, bc_ BK554.out 2, bc_ BK554.out 3⟩ (fun hHeld => ?_)
      generalize wc.drew = w30 at BK549 BK554 HB hHeld ⊢
      refine tk8_ 0 (some 25) #[true, false, false, false, false] rfl rfl (by kernel_rfl) hHeld ?_
      refine tk8_ 2 (some 27) #[true, false, true, false, false] rfl rfl (by kernel_rfl) hHeld ?_
      refine one_ (i := 1) (N := some 26) #[true, true, true, false, false] rfl rfl (by kernel_rfl) (by decide) (fun K hK => ?_)
      refine goes_ Try.func56 (by kernel_rfl) rfl #[.agg #[.bool t545, .int .i64 t546, .int .i64 t547, .int .u64 t548]] (by rfl) rfl rfl mp_ ?_
      with_reducible refine (r8_sign.calls t545 t546 t547 t548 t555 _ A21.out).mono ?_
      rintro e w31 ⟨rfl, hb⟩
      refine ⟨_, rfl, ?_⟩
      replace BK549 := A_ (bb_ BK549.out hb)
      replace BK554 := A_ (bb_ BK554.out hb)
      replace HB := A_ (below_step (hb2_ HB.out GE549.out GE554.out) hb);(try clear hb);(try clear hb2);(try clear hk);(try clear hi)
      refine hK.out _ _ ⟨bc_ BK549.out 0, bc_ BK549.out 1, bc_ BK549.out 2, bc_ BK549.out 3, bc_ BK554.out 0, bc_ BK554.out 1, bc_ BK554.out 2, bc_ BK554.out 3⟩ (fun hHeld => ?_)
      clear hK K
      refine norm_ (a' := ?_) ?_ ?_
      rotate_left
      ·show Act.put _ (some 26) _ = _
       simp only [Act.put, lI_, l0_, lS_, i64_w, i32_w]
       rfl
      refine one_ (i := 3) (N := some 28) #[true, true, true, true, false] rfl rfl (by kernel_rfl) (by decide) (fun K hK => ?_)
      refine goes_ Try.func56 (by kernel_rfl) rfl #[.agg #[.bool t550, .int .i64 t551, .int .i64 t552, .int .u64 t553]] (by rfl) rfl rfl mp_ ?_
      with_reducible refine (r8_sign.calls t550 t551 t552 t553 t556 _ A22.out).mono ?_
      rintro e w32 ⟨rfl, hb⟩
      refine ⟨_, rfl, ?_⟩
      replace BK549 := A_ (bb_ BK549.out hb)
      replace BK554 := A_ (bb_ BK554.out hb)
      replace HB := A_ (below_step (hb2_ HB.out GE549.out GE554.out) hb);(try clear hb);(try clear hb2);(try clear hk);(try clear hi)
      refine hK.out _ _ ⟨bc_ BK549.out 0, bc_ BK549.out 1, bc_ BK549.out 2, bc_ BK549.out 3, bc_ BK554.out 0, bc_ BK554.out 1, bc_ BK554.out 2, bc_ BK554.out 3⟩ (fun hHeld => ?_)
      clear hK K
      refine norm_ (a' := ?_) ?_ ?_
      rotate_left
      ·show Act.put _ (some 28) _ = _
       simp only [Act.put, lI_, l0_, lS_, i64_w, i32_w]
       rfl
      refine pu_ 4 (some 29) #[true, true, true, true, true] rfl rfl (by kernel_rfl) ?_
      refine done_ (by kernel_rfl) ?_
      try go_wp2
      replace BK549 := A_ (blk_drew BK549.out)
      replace BK554 := A_ (blk_drew BK554.out)
      replace HB := A_ (below_drew1 HB.out)
      refine start_ (n := 5) (S := fun w' => w'.cell? ⟨gb549, 0, none⟩ = some (.bool t545) ∧ w'.cell? ⟨gb549, 1, none⟩ = some (.int .i64 t546) ∧ w'.cell? ⟨gb549, 2, none⟩ = some (.int .i64 t547) ∧ w'.cell? ⟨gb549, 3, none⟩ = some (.int .u64 t548) ∧ w'.cell? ⟨gb554, 0, none⟩ = some (.bool t550) ∧ w'.cell? ⟨gb554, 1, none⟩ = some (.int .i64 t551) ∧ w'.cell? ⟨gb554, 2, none⟩ = some (.int .i64 t552) ∧ w'.cell? ⟨gb554, 3, none⟩ = some (.int .u64 t553)) (ds := []) #[false, false, false, false, false] (by kernel_rfl) rfl rfl ⟨bc_ BK549.out 0, bc_ BK549.out 1, bc_ BK549.out 2, bc_ BK549.out 3, bc_ BK554.out 0, bc_ BK554.out 1, bc_ BK554.out 2, bc_ BK554.out 3⟩ (fun hHeld => ?_)
      generalize w32.drew = w33 at BK549 BK554 HB hHeld ⊢
      refine tk8_ 0 (some 30) #[true, false, false, false, false] rfl rfl (by kernel_rfl) hHeld ?_
      refine tk8_ 2 (some 32) #[true, false, true, false, false] rfl rfl (by kernel_rfl) hHeld ?_
      refine one_ (i := 1) (N := some 31) #[true, true, true, false, false] rfl rfl (by kernel_rfl) (by decide) (fun K hK => ?_)
      refine goes_ Try.func56 (by kernel_rfl) rfl #[.agg #[.bool t545, .int .i64 t546, .int .i64 t547, .int .u64 t548]] (by rfl) rfl rfl mp_ ?_
      with_reducible refine (r8_sign.calls t545 t546 t547 t548 t557 _ A27.out).mono ?_
      rintro e w34 ⟨rfl, hb⟩
      refine ⟨_, rfl, ?_⟩
      replace BK549 := A_ (bb_ BK549.out hb)
      replace BK554 := A_ (bb_ BK554.out hb)
      replace HB := A_ (below_step (hb2_ HB.out GE549.out GE554.out) hb);(try clear hb);(try clear hb2);(try clear hk);(try clear hi)
      refine hK.out _ _ ⟨bc_ BK549.out 0, bc_ BK549.out 1, bc_ BK549.out 2, bc_ BK549.out 3, bc_ BK554.out 0, bc_ BK554.out 1, bc_ BK554.out 2, bc_ BK554.out 3⟩ (fun hHeld => ?_)
      clear hK K
      refine norm_ (a' := ?_) ?_ ?_
      rotate_left
      ·show Act.put _ (some 31) _ = _
       simp only [Act.put, lI_, l0_, lS_, i64_w, i32_w]
       rfl
      refine one_ (i := 3) (N := some 33) #[true, true, true, true, false] rfl rfl (by kernel_rfl) (by decide) (fun K hK => ?_)
      refine goes_ Try.func56 (by kernel_rfl) rfl #[.agg #[.bool t550, .int .i64 t551, .int .i64 t552, .int .u64 t553]] (by rfl) rfl rfl mp_ ?_
      with_reducible refine (r8_sign.calls t550 t551 t552 t553 t558 _ A28.out).mono ?_
      rintro e w35 ⟨rfl, hb⟩
      refine ⟨_, rfl, ?_⟩
      replace BK549 := A_ (bb_ BK549.out hb)
      replace BK554 := A_ (bb_ BK554.out hb)
      replace HB := A_ (below_step (hb2_ HB.out GE549.out GE554.out) hb);(try clear hb);(try clear hb2);(try clear hk);(try clear hi)
      refine hK.out _ _ ⟨bc_ BK549.out 0, bc_ BK549.out 1, bc_ BK549.out 2, bc_ BK549.out 3, bc_ BK554.out 0, bc_ BK554.out 1, bc_ BK554.out 2, bc_ BK554.out 3⟩ (fun hHeld => ?_)
      clear hK K
      refine norm_ (a' := ?_) ?_ ?_
      rotate_left
      ·show Act.put _ (some 33) _ = _
       simp only [Act.put, lI_, l0_, lS_, i64_w, i32_w]
       rfl
      refine pu_ 4 (some 34) #[true, true, true, true, true] rfl rfl (by kernel_rfl) ?_
      refine done_ (by kernel_rfl) ?_
      try go_wp2
      go_ret
      exact ⟨er_, hb2_ HB.out GE549.out GE554.out⟩
     ·rw [if_neg c29] at H
      have c29b0 : decide (t558 < t557) = false := decide_eq_false c29
      clear c29
      replace H := ob_ H
      obtain ⟨t559, A360, H⟩ := H
      replace H : (if t559 = 0 then (some 0) else (if t546 = 2 then (r8_Cmp.j1 kj5 true t545 t546 t547 t548 t550 t551 t552 t553) else (r8_Cmp.j1 kj5 (t551 == 2) t545 t546 t547 t548 t550 t551 t552 t553))) = some r := H
      have A36 := A_ A360;clear A360
      by_cases c37 : t559 = 0
      ·rw [if_pos c37] at H
       have c37b0 : (t559 == 0) = true := beq_iff_eq.mpr c37
       have c37b1 : (t559 != 0) = false := bne_eq_false_iff_eq.mpr c37
       clear c37
       obtain rfl := Option.some.inj H
       try go_wp2
       replace BK549 := A_ (blk_drew BK549.out)
       replace BK554 := A_ (blk_drew BK554.out)
       replace HB := A_ (below_drew1 HB.out)
       refine start_ (n := 5) (S := fun w' => w'.cell? ⟨gb549, 0, none⟩ = some (.bool t545) ∧ w'.cell? ⟨gb549, 1, none⟩ = some (.int .i64 t546) ∧ w'.cell? ⟨gb549, 2, none⟩ = some (.int .i64 t547) ∧ w'.cell? ⟨gb549, 3, none⟩ = some (.int .u64 t548) ∧ w'.cell? ⟨gb554, 0, none⟩ = some (.bool t550) ∧ w'.cell? ⟨gb554, 1, none⟩ = some (.int .i64 t551) ∧ w'.cell? ⟨gb554, 2, none⟩ = some (.int .i64 t552) ∧ w'.cell? ⟨gb554, 3, none⟩ = some (.int .u64 t553)) (ds := []) #[false, false, false, false, false] (by kernel_rfl) rfl rfl ⟨bc_ BK549.out 0, bc_ BK549.out 1, bc_ BK549.out 2, bc_ BK549.out 3, bc_ BK554.out 0, bc_ BK554.out 1, bc_ BK554.out 2, bc_ BK554.out 3⟩ (fun hHeld => ?_)
       generalize wc.drew = w38 at BK549 BK554 HB hHeld ⊢
       refine tk8_ 0 (some 25) #[true, false, false, false, false] rfl rfl (by kernel_rfl) hHeld ?_
       refine tk8_ 2 (some 27) #[true, false, true, false, false] rfl rfl (by kernel_rfl) hHeld ?_
       refine one_ (i := 1) (N := some 26) #[true, true, true, false, false] rfl rfl (by kernel_rfl) (by decide) (fun K hK => ?_)
       refine goes_ Try.func56 (by kernel_rfl) rfl #[.agg #[.bool t545, .int .i64 t546, .int .i64 t547, .int .u64 t548]] (by rfl) rfl rfl mp_ ?_
       with_reducible refine (r8_sign.calls t545 t546 t547 t548 t555 _ A21.out).mono ?_
       rintro e w39 ⟨rfl, hb⟩
       refine ⟨_, rfl, ?_⟩
       replace BK549 := A_ (bb_ BK549.out hb)
       replace BK554 := A_ (bb_ BK554.out hb)
       replace HB := A_ (below_step (hb2_ HB.out GE549.out GE554.out) hb);(try clear hb);(try clear hb2);(try clear hk);(try clear hi)
       refine hK.out _ _ ⟨bc_ BK549.out 0, bc_ BK549.out 1, bc_ BK549.out 2, bc_ BK549.out 3, bc_ BK554.out 0, bc_ BK554.out 1, bc_ BK554.out 2, bc_ BK554.out 3⟩ (fun hHeld => ?_)
       clear hK K
       refine norm_ (a' := ?_) ?_ ?_
       rotate_left
       ·show Act.put _ (some 26) _ = _
        simp only [Act.put, lI_, l0_, lS_, i64_w, i32_w]
        rfl
       refine one_ (i := 3) (N := some 28) #[true, true, true, true, false] rfl rfl (by kernel_rfl) (by decide) (fun K hK => ?_)
       refine goes_ Try.func56 (by kernel_rfl) rfl #[.agg #[.bool t550, .int .i64 t551, .int .i64 t552, .int .u64 t553]] (by rfl) rfl rfl mp_ ?_
       with_reducible refine (r8_sign.calls t550 t551 t552 t553 t556 _ A22.out).mono ?_
       rintro e w40 ⟨rfl, hb⟩
       refine ⟨_, rfl, ?_⟩
       replace BK549 := A_ (bb_ BK549.out hb)
       replace BK554 := A_ (bb_ BK554.out hb)
       replace HB := A_ (below_step (hb2_ HB.out GE549.out GE554.out) hb);(try clear hb);(try clear hb2);(try clear hk);(try clear hi)
       refine hK.out _ _ ⟨bc_ BK549.out 0, bc_ BK549.out 1, bc_ BK549.out 2, bc_ BK549.out 3, bc_ BK554.out 0, bc_ BK554.out 1, bc_ BK554.out 2, bc_ BK554.out 3⟩ (fun hHeld => ?_)
       clear hK K
       refine norm_ (a' := ?_) ?_ ?_
       rotate_left
       ·show Act.put _ (some 28) _ = _
        simp only [Act.put, lI_, l0_, lS_, i64_w, i32_w]
        rfl
       refine pu_ 4 (some 29) #[true, true, true, true, true] rfl rfl (by kernel_rfl) ?_
       refine done_ (by kernel_rfl) ?_
       try go_wp2
       replace BK549 := A_ (blk_drew BK549.out)
       replace BK554 := A_ (blk_drew BK554.out)
       replace HB := A_ (below_drew1 HB.out)
       refine start_ (n := 5) (S := fun w' => w'.cell? ⟨gb549, 0, none⟩ = some (.bool t545) ∧ w'.cell? ⟨gb549, 1, none⟩ = some (.int .i64 t546) ∧ w'.cell? ⟨gb549, 2, none⟩ = some (.int .i64 t547) ∧ w'.cell? ⟨gb549, 3, none⟩ = some (.int .u64 t548) ∧ w'.cell? ⟨gb554, 0, none⟩ = some (.bool t550) ∧ w'.cell? ⟨gb554, 1, none⟩ = some (.int .i64 t551) ∧ w'.cell? ⟨gb554, 2, none⟩ = some (.int .i64 t552) ∧ w'.cell? ⟨gb554, 3, none⟩ = some (.int .u64 t553)) (ds := []) #[false, false, false, false, false] (by kernel_rfl) rfl rfl ⟨bc_ BK549.out 0, bc_ BK549.out 1, bc_ BK549.out 2, bc_ BK549.out 3, bc_ BK554.out 0, bc_ BK554.out 1, bc_ BK554.out 2, bc_ BK554.out 3⟩ (fun hHeld => ?_)
       generalize w40.drew = w41 at BK549 BK554 HB hHeld ⊢
       refine tk8_ 0 (some 30) #[true, false, false, false, false] rfl rfl (by kernel_rfl) hHeld ?_
       refine tk8_ 2 (some 32) #[true, false, true, false, false] rfl rfl (by kernel_rfl) hHeld ?_
       refine one_ (i := 1) (N := some 31) #[true, true, true, false, false] rfl rfl (by kernel_rfl) (by decide) (fun K hK => ?_)
       refine goes_ Try.func56 (by kernel_rfl) rfl #[.agg #[.bool t545, .int .i64 t546, .int .i64 t547, .int .u64 t548]] (by rfl) rfl rfl mp_ ?_
       with_reducible refine (r8_sign.calls t545 t546 t547 t548 t557 _ A27.out).mono ?_
       rintro e w42 ⟨rfl, hb⟩
       refine ⟨_, rfl, ?_⟩
       replace BK549 := A_ (bb_ BK549.out hb)
       replace BK554 := A_ (bb_ BK554.out hb)
       replace HB := A_ (below_step (hb2_ HB.out GE549.out GE554.out) hb);(try clear hb);(try clear hb2);(try clear hk);(try clear hi)
       refine hK.out _ _ ⟨bc_ BK549.out 0, bc_ BK549.out 1, bc_ BK549.out 2, bc_ BK549.out 3, bc_ BK554.out 0, bc_ BK554.out 1, bc_ BK554.out 2, bc_ BK554.out 3⟩ (fun hHeld => ?_)
       clear hK K
       refine norm_ (a' := ?_) ?_ ?_
       rotate_left
       ·show Act.put _ (some 31) _ = _
        simp only [Act.put, lI_, l0_, lS_, i64_w, i32_w]
        rfl
       refine one_ (i := 3) (N := some 33) #[true, true, true, true, false] rfl rfl (by kernel_rfl) (by decide) (fun K hK => ?_)
       refine goes_ Try.func56 (by kernel_rfl) rfl #[.agg #[.bool t550, .int .i64 t551, .int .i64 t552, .int .u64 t553]] (by rfl) rfl rfl mp_ ?_
       with_reducible refine (r8_sign.calls t550 t551 t552 t553 t558 _ A28.out).mono ?_
       rintro e w43 ⟨rfl, hb⟩
       refine ⟨_, rfl, ?_⟩
       replace BK549 := A_ (bb_ BK549.out hb)
       replace BK554 := A_ (bb_ BK554.out hb)
       replace HB := A_ (below_step (hb2_ HB.out GE549.out GE554.out) hb);(try clear hb);(try clear hb2);(try clear hk);(try clear hi)
       refine hK.out _ _ ⟨bc_ BK549.out 0, bc_ BK549.out 1, bc_ BK549.out 2, bc_ BK549.out 3, bc_ BK554.out 0, bc_ BK554.out 1, bc_ BK554.out 2, bc_ BK554.out 3⟩ (fun hHeld => ?_)
       clear hK K
       refine norm_ (a' := ?_) ?_ ?_
       rotate_left
       ·show Act.put _ (some 33) _ = _
        simp only [Act.put, lI_, l0_, lS_, i64_w, i32_w]
        rfl
       refine pu_ 4 (some 34) #[true, true, true, true, true] rfl rfl (by kernel_rfl) ?_
       refine done_ (by kernel_rfl) ?_
       have hnb44 := NB549_554.out
       have hnc44 := NB554_549.out
       have hcz45_0 := bv_ BK549.out 0
       have hcz45_1 := bv_ BK549.out 1
       have hcz45_2 := bv_ BK549.out 2
       have hcz45_3 := bv_ BK549.out 3
       have hfz45_0 := blk_frozen BK549.out 0
       have hfz45_1 := blk_frozen BK549.out 1
       have hfz45_2 := blk_frozen BK549.out 2
       have hfz45_3 := blk_frozen BK549.out 3
       try go_wp2_with (first | ((with_reducible refine gate_callee (f := 56) rfl ?_); refine gl_ (some 36) Try.func56 #[.agg #[.bool t545, .int .i64 t546, .int .i64 t547, .int .u64 t548]] ?_; (with_reducible refine (r8_sign.calls t545 t546 t547 t548 t559 _ A36.out).mono ?_); rintro e w46 ⟨rfl, hb⟩; refine ⟨_, rfl, ?_⟩; replace BK549 := A_ (bb_ BK549.out hb); replace BK554 := A_ (bb_ BK554.out hb); replace HB := A_ (below_step (hb2_ HB.out GE549.out GE554.out) hb); (try clear hb); (try clear hb2); (try clear hk); (try clear hi)))
       go_ret
       exact ⟨er_, hb2_ HB.out GE549.out GE554.out⟩
      ·rw [if_neg c37] at H
       have c37b0 : (t559 == 0) = false := beq_eq_false_iff_ne.mpr c37
       have c37b1 : (t559 != 0) = true := bne_iff_ne.mpr c37
       have HC47 := A_ H;clear H
       try go_wp2
       replace BK549 := A_ (blk_drew BK549.out)
       replace BK554 := A_ (blk_drew BK554.out)
       replace HB := A_ (below_drew1 HB.out)
       refine start_ (n := 5) (S := fun w' => w'.cell? ⟨gb549, 0, none⟩ = some (.bool t545) ∧ w'.cell? ⟨gb549, 1, none⟩ = some (.int .i64 t546) ∧ w'.cell? ⟨gb549, 2, none⟩ = some (.int .i64 t547) ∧ w'.cell? ⟨gb549, 3, none⟩ = some (.int .u64 t548) ∧ w'.cell? ⟨gb554, 0, none⟩ = some (.bool t550) ∧ w'.cell? ⟨gb554, 1, none⟩ = some (.int .i64 t551) ∧ w'.cell? ⟨gb554, 2, none⟩ = some (.int .i64 t552) ∧ w'.cell? ⟨gb554, 3, none⟩ = some (.int .u64 t553)) (ds := []) #[false, false, false, false, false] (by kernel_rfl) rfl rfl ⟨bc_ BK549.out 0, bc_ BK549.out 1, bc_ BK549.out 2, bc_ BK549.out 3, bc_ BK554.out 0, bc_ BK554.out 1, bc_ BK554.out 2, bc_ BK554.out 3⟩ (fun hHeld => ?_)
       generalize wc.drew = w48 at BK549 BK554 HB hHeld ⊢
       refine tk8_ 0 (some 25) #[true, false, false, false, false] rfl rfl (by kernel_rfl) hHeld ?_
       refine tk8_ 2 (some 27) #[true, false, true, false, false] rfl rfl (by kernel_rfl) hHeld ?_
       refine one_ (i := 1) (N := some 26) #[true, true, true, false, false] rfl rfl (by kernel_rfl) (by decide) (fun K hK => ?_)
       refine goes_ Try.func56 (by kernel_rfl) rfl #[.agg #[.bool t545, .int .i64 t546, .int .i64 t547, .int .u64 t548]] (by rfl) rfl rfl mp_ ?_
       with_reducible refine (r8_sign.calls t545 t546 t547 t548 t555 _ A21.out).mono ?_
       rintro e w49 ⟨rfl, hb⟩
       refine ⟨_, rfl, ?_⟩
       replace BK549 := A_ (bb_ BK549.out hb)
       replace BK554 := A_ (bb_ BK554.out hb)
       replace HB := A_ (below_step (hb2_ HB.out GE549.out GE554.out) hb);(try clear hb);(try clear hb2);(try clear hk);(try clear hi)
       refine hK.out _ _ ⟨bc_ BK549.out 0, bc_ BK549.out 1, bc_ BK549.out 2, bc_ BK549.out 3, bc_ BK554.out 0, bc_ BK554.out 1, bc_ BK554.out 2, bc_ BK554.out 3⟩ (fun hHeld => ?_)
       clear hK K
       refine norm_ (a' := ?_) ?_ ?_
       rotate_left
       ·show Act.put _ (some 26) _ = _
        simp only [Act.put, lI_, l0_, lS_, i64_w, i32_w]
        rfl
       refine one_ (i := 3) (N := some 28) #[true, true, true, true, false] rfl rfl (by kernel_rfl) (by decide) (fun K hK => ?_)
       refine goes_ Try.func56 (by kernel_rfl) rfl #[.agg #[.bool t550, .int .i64 t551, .int .i64 t552, .int .u64 t553]] (by rfl) rfl rfl mp_ ?_
       with_reducible refine (r8_sign.calls t550 t551 t552 t553 t556 _ A22.out).mono ?_
       rintro e w50 ⟨rfl, hb⟩
       refine ⟨_, rfl, ?_⟩
       replace BK549 := A_ (bb_ BK549.out hb)
       replace BK554 := A_ (bb_ BK554.out hb)
       replace HB := A_ (below_step (hb2_ HB.out GE549.out GE554.out) hb);(try clear hb);(try clear hb2);(try clear hk);(try clear hi)
       refine hK.out _ _ ⟨bc_ BK549.out 0, bc_ BK549.out 1, bc_ BK549.out 2, bc_ BK549.out 3, bc_ BK554.out 0, bc_ BK554.out 1, bc_ BK554.out 2, bc_ BK554.out 3⟩ (fun hHeld => ?_)
       clear hK K
       refine norm_ (a' := ?_) ?_ ?_
       rotate_left
       ·show Act.put _ (some 28) _ = _
        simp only [Act.put, lI_, l0_, lS_, i64_w, i32_w]
        rfl
       refine pu_ 4 (some 29) #[true, true, true, true, true] rfl rfl (by kernel_rfl) ?_
       refine done_ (by kernel_rfl) ?_
       try go_wp2
       replace BK549 := A_ (blk_drew BK549.out)
       replace BK554 := A_ (blk_drew BK554.out)
       replace HB := A_ (below_drew1 HB.out)
       refine start_ (n := 5) (S := fun w' => w'.cell? ⟨gb549, 0, none⟩ = some (.bool t545) ∧ w'.cell? ⟨gb549, 1, none⟩ = some (.int .i64 t546) ∧ w'.cell? ⟨gb549, 2, none⟩ = some (.int .i64 t547) ∧ w'.cell? ⟨gb549, 3, none⟩ = some (.int .u64 t548) ∧ w'.cell? ⟨gb554, 0, none⟩ = some (.bool t550) ∧ w'.cell? ⟨gb554, 1, none⟩ = some (.int .i64 t551) ∧ w'.cell? ⟨gb554, 2, none⟩ = some (.int .i64 t552) ∧ w'.cell? ⟨gb554, 3, none⟩ = some (.int .u64 t553)) (ds := []) #[false, false, false, false, false] (by kernel_rfl) rfl rfl ⟨bc_ BK549.out 0, bc_ BK549.out 1, bc_ BK549.out 2, bc_ BK549.out 3, bc_ BK554.out 0, bc_ BK554.out 1, bc_ BK554.out 2, bc_ BK554.out 3⟩ (fun hHeld => ?_)
       generalize w50.drew = w51 at BK549 BK554 HB hHeld ⊢
       refine tk8_ 0 (some 30) #[true, false, false, false, false] rfl rfl (by kernel_rfl) hHeld ?_
       refine tk8_ 2 (some 32) #[true, false, true, false, false] rfl rfl (by kernel_rfl) hHeld ?_
       refine one_ (i := 1) (N := some 31) #[true, true, true, false, false] rfl rfl (by kernel_rfl) (by decide) (fun K hK => ?_)
       refine goes_ Try.func56 (by kernel_rfl) rfl #[.agg #[.bool t545, .int .i64 t546, .int .i64 t547, .int .u64 t548]] (by rfl) rfl rfl mp_ ?_
       with_reducible refine (r8_sign.calls t545 t546 t547 t548 t557 _ A27.out).mono ?_
       rintro e w52 ⟨rfl, hb⟩
       refine ⟨_, rfl, ?_⟩
       replace BK549 := A_ (bb_ BK549.out hb)
       replace BK554 := A_ (bb_ BK554.out hb)
       replace HB := A_ (below_step (hb2_ HB.out GE549.out GE554.out) hb);(try clear hb);(try clear hb2);(try clear hk);(try clear hi)
       refine hK.out _ _ ⟨bc_ BK549.out 0, bc_ BK549.out 1, bc_ BK549.out 2, bc_ BK549.out 3, bc_ BK554.out 0, bc_ BK554.out 1, bc_ BK554.out 2, bc_ BK554.out 3⟩ (fun hHeld => ?_)
       clear hK K
       refine norm_ (a' := ?_) ?_ ?_
       rotate_left
       ·show Act.put _ (some 31) _ = _
        simp only [Act.put, lI_, l0_, lS_, i64_w, i32_w]
        rfl
       refine one_ (i := 3) (N := some 33) #[true, true, true, true, false] rfl rfl (by kernel_rfl) (by decide) (fun K hK => ?_)
       refine goes_ Try.func56 (by kernel_rfl) rfl #[.agg #[.bool t550, .int .i64 t551, .int .i64 t552, .int .u64 t553]] (by rfl) rfl rfl mp_ ?_
       with_reducible refine (r8_sign.calls t550 t551 t552 t553 t558 _ A28.out).mono ?_
       rintro e w53 ⟨rfl, hb⟩
       refine ⟨_, rfl, ?_⟩
       replace BK549 := A_ (bb_ BK549.out hb)
       replace BK554 := A_ (bb_ BK554.out hb)
       replace HB := A_ (below_step (hb2_ HB.out GE549.out GE554.out) hb);(try clear hb);(try clear hb2);(try clear hk);(try clear hi)
       refine hK.out _ _ ⟨bc_ BK549.out 0, bc_ BK549.out 1, bc_ BK549.out 2, bc_ BK549.out 3, bc_ BK554.out 0, bc_ BK554.out 1, bc_ BK554.out 2, bc_ BK554.out 3⟩ (fun hHeld => ?_)
       clear hK K
       refine norm_ (a' := ?_) ?_ ?_
       rotate_left
       ·show Act.put _ (some 33) _ = _
        simp only [Act.put, lI_, l0_, lS_, i64_w, i32_w]
        rfl
       refine pu_ 4 (some 34) #[true, true, true, true, true] rfl rfl (by kernel_rfl) ?_
       refine done_ (by kernel_rfl) ?_
       have hnb54 := NB549_554.out
       have hnc54 := NB554_549.out
       have hcz55_0 := bv_ BK549.out 0
       have hcz55_1 := bv_ BK549.out 1
       have hcz55_2 := bv_ BK549.out 2
       have hcz55_3 := bv_ BK549.out 3
       have hfz55_0 := blk_frozen BK549.out 0
       have hfz55_1 := blk_frozen BK549.out 1
       have hfz55_2 := blk_frozen BK549.out 2
       have hfz55_3 := blk_frozen BK549.out 3
       go_upto_region 12 with (first | ((with_reducible refine gate_callee (f := 56) rfl ?_); refine gl_ (some 36) Try.func56 #[.agg #[.bool t545, .int .i64 t546, .int .i64 t547, .int .u64 t548]] ?_; (with_reducible refine (r8_sign.calls t545 t546 t547 t548 t559 _ A36.out).mono ?_); rintro e w56 ⟨rfl, hb⟩; refine ⟨_, rfl, ?_⟩; replace BK549 := A_ (bb_ BK549.out hb); replace BK554 := A_ (bb_ BK554.out hb); replace HB := A_ (below_step (hb2_ HB.out GE549.out GE554.out) hb); (try clear hb); (try clear hb2); (try clear hk); (try clear hi)))
       (try simp only [Act.put, lI_, l0_, lS_])
       go_cut [45] (fun v45 wc => ∃ (kq : Nat) (x45_46 : Bool), v45 = .bool x45_46 ∧ Aside0 (r8_Cmp.j1 kq x45_46 t545 t546 t547 t548 t550 t551 t552 t553 = some r) ∧ Aside0 (kq ≤ kj5) ∧ Aside0 (wc.heap[gb549]? = some (.cells #[.bool t545, .int .i64 t546, .int .i64 t547, .int .u64 t548] 30 (0, 0))) ∧ Aside0 (wc.heap[gb554]? = some (.cells #[.bool t550, .int .i64 t551, .int .i64 t552, .int .u64 t553] 30 (0, 0))) ∧ Aside0 (Below w.heap.size w wc))
       case first =>
        have H := HC47.out
        clear HC47
        by_cases c57 : t546 = 2
        ·rw [if_pos c57] at H
         have c57b0 : (t546 == 2) = true := beq_iff_eq.mpr c57
         have c57b1 : (t546 != 2) = false := bne_eq_false_iff_eq.mpr c57
         clear c57
         (first | rw [c57b0] | (simp only [i64_w, i32_w]; rw [c57b0]) | skip)
         have H' := A_ H
         clear H
         have hnb58 := NB549_554.out
         have hnc58 := NB554_549.out
         have hcz59_0 := bv_ BK549.out 0
         have hcz59_1 := bv_ BK549.out 1
         have hcz59_2 := bv_ BK549.out 2
         have hcz59_3 := bv_ BK549.out 3
         have hfz59_0 := blk_frozen BK549.out 0
         have hfz59_1 := blk_frozen BK549.out 1
         have hfz59_2 := blk_frozen BK549.out 2
         have hfz59_3 := blk_frozen BK549.out 3
         go_wp2
         go_meet
         case rel => exact ⟨_, (true), sm_, H', ⟨by have := HJ5.out; first | omega | exact Nat.le_refl _⟩, ⟨bk_ BK549.out⟩, ⟨bk_ BK554.out⟩, ⟨hb2_ HB.out GE549.out GE554.out⟩⟩
        ·rw [if_neg c57] at H
         have c57b0 : (t546 == 2) = false := beq_eq_false_iff_ne.mpr c57
         have c57b1 : (t546 != 2) = true := bne_iff_ne.mpr c57
         (first | rw [c57b0] | (simp only [i64_w, i32_w]; rw [c57b0]) | skip)
         have H' := A_ H
         clear H
         have hnb60 := NB549_554.out
         have hnc60 := NB554_549.out
         have hcz61_0 := bv_ BK549.out 0
         have hcz61_1 := bv_ BK549.out 1
         have hcz61_2 := bv_ BK549.out 2
         have hcz61_3 := bv_ BK549.out 3
         have hfz61_0 := blk_frozen BK549.out 0
         have hfz61_1 := blk_frozen BK549.out 1
         have hfz61_2 := blk_frozen BK549.out 2
         have hfz61_3 := blk_frozen BK549.out 3
         have hcz62_0 := bv_ BK554.out 0
         have hcz62_1 := bv_ BK554.out 1
         have hcz62_2 := bv_ BK554.out 2
         have hcz62_3 := bv_ BK554.out 3
         have hfz62_0 := blk_frozen BK554.out 0
         have hfz62_1 := blk_frozen BK554.out 1
         have hfz62_2 := blk_frozen BK554.out 2
         have hfz62_3 := blk_frozen BK554.out 3
         go_wp2
         go_meet
         case rel => exact ⟨_, ((t551 == 2)), sm_, H', ⟨by have := HJ5.out; first | omega | exact Nat.le_refl _⟩, ⟨bk_ BK549.out⟩, ⟨bk_ BK554.out⟩, ⟨hb2_ HB.out GE549.out GE554.out⟩⟩
       case rest =>
        clear HC47
        try clear c2
        try clear p2
        try clear c3
        try clear c4
        try clear c5
        try clear c6
        try clear c29
        try clear c29b0
        try clear c37
        try clear c37b0
        try clear c37b1
        try clear c44
        try clear c54
        try clear c56
        try clear c57
        try clear c57b0
        try clear c57b1
        try clear c58
        try clear c60
        try clear hcz45_0
        try clear hcz45_1
        try clear hcz45_2
        try clear hcz45_3
        try clear hcz55_0
        try clear hcz55_1
        try clear hcz55_2
        try clear hcz55_3
        try clear hcz59_0
        try clear hcz59_1
        try clear hcz59_2
        try clear hcz59_3
        try clear hcz61_0
        try clear hcz61_1
        try clear hcz61_2
        try clear hcz61_3
        try clear hcz62_0
        try clear hcz62_1
        try clear hcz62_2
        try clear hcz62_3
        try clear hfz45_0
        try clear hfz45_1
        try clear hfz45_2
        try clear hfz45_3
        try clear hfz55_0
        try clear hfz55_1
        try clear hfz55_2
        try clear hfz55_3
        try clear hfz59_0
        try clear hfz59_1
        try clear hfz59_2
        try clear hfz59_3
        try clear hfz61_0
        try clear hfz61_1
        try clear hfz61_2
        try clear hfz61_3
        try clear hfz62_0
        try clear hfz62_1
        try clear hfz62_2
        try clear hfz62_3
        obtain ⟨kq, x45_46, rfl, HA, HJ46, BK549, BK554, HB⟩ := hcut
        cases kq with
        | zero => exact absurd HA.out (by simp [r8_Cmp.j1])
        | succ kj46 =>
         have H := HA.out
         clear HA
         simp only [r8_Cmp.j1] at H
         by_cases c63 : x45_46 = true
         ·subst c63
          have H1 : (if t545 = true then (some (wrap64 (-(wrap64 (t546 - t551))))) else (some (wrap64 (t546 - t551)))) = some r := by rw [if_pos rfl] at H; exact H
          clear H;have H := H1;clear H1
          by_cases c64 : t545 = true
          ·subst c64
           have H1 : (some (wrap64 (-(wrap64 (t546 - t551))))) = some r := by rw [if_pos rfl] at H; exact H
           clear H;have H := H1;clear H1
           obtain rfl := Option.some.inj H
           have hnb65 := NB549_554.out
           have hnc65 := NB554_549.out
           have hcz66_0 := bv_ BK549.out 0
           have hcz66_1 := bv_ BK549.out 1
           have hcz66_2 := bv_ BK549.out 2
           have hcz66_3 := bv_ BK549.out 3
           have hfz66_0 := blk_frozen BK549.out 0
           have hfz66_1 := blk_frozen BK549.out 1
           have hfz66_2 := blk_frozen BK549.out 2
           have hfz66_3 := blk_frozen BK549.out 3
           have hcz67_0 := bv_ BK554.out 0
           have hcz67_1 := bv_ BK554.out 1
           have hcz67_2 := bv_ BK554.out 2
           have hcz67_3 := bv_ BK554.out 3
           have hfz67_0 := blk_frozen BK554.out 0
           have hfz67_1 := blk_frozen BK554.out 1
           have hfz67_2 := blk_frozen BK554.out 2
           have hfz67_3 := blk_frozen BK554.out 3
           go_wp2
           go_ret
           exact ⟨er_, hb2_ HB.out GE549.out GE554.out⟩
          ·replace c64 := Bool.eq_false_iff.mpr c64
           subst c64
           have H1 : (some (wrap64 (t546 - t551))) = some r := by rw [if_neg (show ¬ (false = true) by decide)] at H; exact H
           clear H;have H := H1;clear H1
           obtain rfl := Option.some.inj H
           have hnb68 := NB549_554.out
           have hnc68 := NB554_549.out
           have hcz69_0 := bv_ BK549.out 0
           have hcz69_1 := bv_ BK549.out 1
           have hcz69_2 := bv_ BK549.out 2
           have hcz69_3 := bv_ BK549.out 3
           have hfz69_0 := blk_frozen BK549.out 0
           have hfz69_1 := blk_frozen BK549.out 1
           have hfz69_2 := blk_frozen BK549.out 2
           have hfz69_3 := blk_frozen BK549.out 3
           have hcz70_0 := bv_ BK554.out 0
           have hcz70_1 := bv_ BK554.out 1
           have hcz70_2 := bv_ BK554.out 2
           have hcz70_3 := bv_ BK554.out 3
           have hfz70_0 := blk_frozen BK554.out 0
           have hfz70_1 := blk_frozen BK554.out 1
           have hfz70_2 := blk_frozen BK554.out 2
           have hfz70_3 := blk_frozen BK554.out 3
           go_wp2
           go_ret
           exact ⟨er_, hb2_ HB.out GE549.out GE554.out⟩
         ·replace c63 := Bool.eq_false_iff.mpr c63
          subst c63
          have H1 : ((r1_Of.f kj46 t548).bind fun t560 => ((r1_Shl.f kj46 t560 (wrap64 (t547 - (mn t547 t552)))).bind fun t563 => ((r1_Of.f kj46 t553).bind fun t566 => ((r1_Shl.f kj46 t566 (wrap64 (t552 - (mn t547 t552)))).bind fun t569 => ((r1_Cmp.f kj46 t563 t569).bind fun t572 => (if t545 = true then (some (wrap64 (-t572))) else (some t572))))))) = some r := by rw [if_neg (show ¬ (false = true) by decide)] at H; exact H
          clear H;have H := H1;clear H1
          obtain ⟨ji71, hji71⟩ : ∃ j_ : Int, (mn t547 t552) = j_ := ⟨_, rfl⟩
          replace H : ((r1_Of.f kj46 t548).bind fun t560 => ((r1_Shl.f kj46 t560 (wrap64 (t547 - (ji71)))).bind fun t563 => ((r1_Of.f kj46 t553).bind fun t566 => ((r1_Shl.f kj46 t566 (wrap64 (t552 - (ji71)))).bind fun t569 => ((r1_Cmp.f kj46 t563 t569).bind fun t572 => (if t545 = true then (some (wrap64 (-t572))) else (some t572))))))) = some r := by first | (rw [hji71] at H; exact H) | (simp only [hji71] at H ⊢; exact H)
          have hji71_ : (if t552 < t547 then t552 else t547) = ji71 := hji71
          replace H := ob_ H
          obtain ⟨t560, A720, H⟩ := H
          replace H : ((r1_Shl.f kj46 t560 (wrap64 (t547 - (ji71)))).bind fun t563 => ((r1_Of.f kj46 t553).bind fun t566 => ((r1_Shl.f kj46 t566 (wrap64 (t552 - (ji71)))).bind fun t569 => ((r1_Cmp.f kj46 t563 t569).bind fun t572 => (if t545 = true then (some (wrap64 (-t572))) else (some t572)))))) = some r := H
          have A72 := A_ A720;clear A720
          replace H := ob_ H
          obtain ⟨t563, A730, H⟩ := H
          replace H : ((r1_Of.f kj46 t553).bind fun t566 => ((r1_Shl.f kj46 t566 (wrap64 (t552 - (ji71)))).bind fun t569 => ((r1_Cmp.f kj46 t563 t569).bind fun t572 => (if t545 = true then (some (wrap64 (-t572))) else (some t572))))) = some r := H
          have A73 := A_ A730;clear A730
          replace H := ob_ H
          obtain ⟨t566, A740, H⟩ := H
          replace H : ((r1_Shl.f kj46 t566 (wrap64 (t552 - (ji71)))).bind fun t569 => ((r1_Cmp.f kj46 t563 t569).bind fun t572 => (if t545 = true then (some (wrap64 (-t572))) else (some t572)))) = some r := H
          have A74 := A_ A740;clear A740
          replace H := ob_ H
          obtain ⟨t569, A750, H⟩ := H
          replace H : ((r1_Cmp.f kj46 t563 t569).bind fun t572 => (if t545 = true then (some (wrap64 (-t572))) else (some t572))) = some r := H
          have A75 := A_ A750;clear A750
          replace H := ob_ H
          obtain ⟨t572, A760, H⟩ := H
          replace H : (if t545 = true then (some (wrap64 (-t572))) else (some t572)) = some r := H
          have A76 := A_ A760;clear A760
          by_cases c77 : t545 = true
          ·subst c77
           have H1 : (some (wrap64 (-t572))) = some r := by rw [if_pos rfl] at H; exact H
           clear H;have H := H1;clear H1
           obtain rfl := Option.some.inj H
           have hnb78 := NB549_554.out
           have hnc78 := NB554_549.out
           have hcz79_0 := bv_ BK549.out 0
           have hcz79_1 := bv_ BK549.out 1
           have hcz79_2 := bv_ BK549.out 2
           have hcz79_3 := bv_ BK549.out 3
           have hfz79_0 := blk_frozen BK549.out 0
           have hfz79_1 := blk_frozen BK549.out 1
           have hfz79_2 := blk_frozen BK549.out 2
           have hfz79_3 := blk_frozen BK549.out 3
           have hcz80_0 := bv_ BK554.out 0
           have hcz80_1 := bv_ BK554.out 1
           have hcz80_2 := bv_ BK554.out 2
           have hcz80_3 := bv_ BK554.out 3
           have hfz80_0 := blk_frozen BK554.out 0
           have hfz80_1 := blk_frozen BK554.out 1
           have hfz80_2 := blk_frozen BK554.out 2
           have hfz80_3 := blk_frozen BK554.out 3
           try go_wp2
           replace BK549 := A_ (blk_drew BK549.out)
           replace BK554 := A_ (blk_drew BK554.out)
           replace HB := A_ (below_drew1 HB.out)
           refine start_ (n := 18) (S := fun w' => w'.cell? ⟨gb549, 0, none⟩ = some (.bool true) ∧ w'.cell? ⟨gb549, 1, none⟩ = some (.int .i64 t546) ∧ w'.cell? ⟨gb549, 2, none⟩ = some (.int .i64 t547) ∧ w'.cell? ⟨gb549, 3, none⟩ = some (.int .u64 t548) ∧ w'.cell? ⟨gb554, 0, none⟩ = some (.bool t550) ∧ w'.cell? ⟨gb554, 1, none⟩ = some (.int .i64 t551) ∧ w'.cell? ⟨gb554, 2, none⟩ = some (.int .i64 t552) ∧ w'.cell? ⟨gb554, 3, none⟩ = some (.int .u64 t553)) (ds := []) #[false, false, false, false, false, false, false, false, false, false, false, false, false, false, false, false, false, false] (by kernel_rfl) rfl rfl ⟨bc_ BK549.out 0, bc_ BK549.out 1, bc_ BK549.out 2, bc_ BK549.out 3, bc_ BK554.out 0, bc_ BK554.out 1, bc_ BK554.out 2, bc_ BK554.out 3⟩ (fun hHeld => ?_); refine with_tabW r8_Cmp.tab15 r8_Cmp.bits15 (fun HT_ HW_ => ?_)
           generalize wc.drew = w81 at BK549 BK554 HB hHeld ⊢
           refine pu_ 0 (some 56) #[true, false, false, false, false, false, false, false, false, false, false, false, false, false, false, false, false, false] rfl rfl (any_of HT_.out (by kernel_rfl)) ?_
           refine pu_ 3 (some 59) #[true, false, false, true, false, false, false, false, false, false, false, false, false, false, false, false, false, false] rfl rfl (any_of HT_.out (by kernel_rfl)) ?_
           refine pu_ 5 (some 61) #[true, false, false, true, false, true, false, false, false, false, false, false, false, false, false, false, false, false] rfl rfl (any_of HT_.out (by kernel_rfl)) ?_
           refine pu_ 8 (some 64) #[true, false, false, true, false, true, false, false, true, false, false, false, false, false, false, false, false, false] rfl rfl (any_of HT_.out (by kernel_rfl)) ?_
           refine pu_ 11 (some 67) #[true, false, false, true, false, true, false, false, true, false, false, true, false, false, false, false, false, false] rfl rfl (any_of HT_.out (by kernel_rfl)) ?_
           refine pu_ 13 (some 69) #[true, false, false, true, false, true, false, false, true, false, false, true, false, true, false, false, false, false] rfl rfl (any_of HT_.out (by kernel_rfl)) ?_
           refine tk8_ 1 (some 57) #[true, true, false, true, false, true, false, false, true, false, false, true, false, true, false, false, false, false] rfl rfl (take_ofW HT_.out HW_.out (by kernel_rfl)) hHeld ?_
           refine tk8_ 4 (some 60) #[true, true, false, true, true, true, false, false, true, false, false, true, false, true, false, false, false, false] rfl rfl (take_ofW HT_.out HW_.out (by kernel_rfl)) hHeld ?_
           refine pu_ 6 (some 62) #[true, true, false, true, true, true, true, false, true, false, false, true, false, true, false, false, false, false] rfl rfl (any_of HT_.out (by kernel_rfl)) ?_
           refine tk8_ 9 (some 65) #[true, true, false, true, true, true, true, false, true, true, false, true, false, true, false, false, false, false] rfl rfl (take_ofW HT_.out HW_.out (by kernel_rfl)) hHeld ?_
           refine tk8_ 12 (some 68) #[true, true, false, true, true, true, true, false, true, true, false, true, true, true, false, false, false, false] rfl rfl (take_ofW HT_.out HW_.out (by kernel_rfl)) hHeld ?_
           refine pu_ 14 (some 70) #[true, true, false, true, true, true, true, false, true, true, false, true, true, true, true, false, false, false] rfl rfl (any_of HT_.out (by kernel_rfl)) ?_
           refine one_ (i := 2) (N := some 58) #[true, true, true, true, true, true, true, false, true, true, false, true, true, true, true, false, false, false] rfl rfl (one_of HT_.out (by kernel_rfl)) (by decide) (fun K hK => ?_)
           refine goes_ Try.func34 (by kernel_rfl) rfl #[.int .u64 t548] (by rfl) rfl rfl mp_ ?_
           with_reducible refine (r1_Of.calls kj46 t548 t560 _ A72.out).mono ?_
           rintro e w82 ⟨v561, rfl, ho0, hb⟩
           refine ⟨_, rfl, ?_⟩
           have HO562 := A_ (Kd.R_lower ho0 (below_size (hb2_ HB.out GE549.out GE554.out)))
           replace BK549 := A_ (bb_ BK549.out hb)
           replace BK554 := A_ (bb_ BK554.out hb)
           replace HB := A_ (below_step (hb2_ HB.out GE549.out GE554.out) hb);(try clear hb);(try clear hb2);(try clear hk);(try clear hi);(try clear ho0)
           obtain ⟨Ao83, co83, eo83⟩ := Kd.R_slice HO562.out
           (first | subst eo83 | (injection eo83 with f1_ f2_ f3_; have f4_ := f1_.symm; have f5_ := f3_.symm; clear f1_ f2_ f3_; subst f4_; subst f5_))
           refine hK.out _ _ ⟨bc_ BK549.out 0, bc_ BK549.out 1, bc_ BK549.out 2, bc_ BK549.out 3, bc_ BK554.out 0, bc_ BK554.out 1, bc_ BK554.out 2, bc_ BK554.out 3⟩ (fun hHeld => ?_)
           clear hK K
           refine norm_ (a' := ?_) ?_ ?_
           rotate_left
           ·show Act.put _ (some 58) _ = _
            simp only [Act.put, lI_, l0_, lS_, i64_w, i32_w]
            rfl
           refine one_ (i := 7) (N := some 63) #[true, true, true, true, true, true, true, true, true, true, false, true, true, true, true, false, false, false] rfl rfl (one_of HT_.out (by kernel_rfl)) (by decide) (fun K hK => ?_)
           refine goes_ Try.func44 (by kernel_rfl) rfl #[.agg #[.slice Ao83 t560.length co83], .int .i64 (wrap64 (t547 - (ji71)))] (by rfl) rfl rfl (by (try simp only [List.map_toArray, List.map_cons, List.map_nil]); first | done | (simp only [hji71]; rfl) | rfl | (simp only [List.length_drop, List.length_take]; rfl)) ?_
           with_reducible refine (r1_Shl.calls kj46 _ _ t560 (wrap64 (t547 - (ji71))) t563 _ ?side1 ?side2 A73.out).mono ?_
           (case side1 => exact cs_ ((Kd.R_reads' HO562.out).2.2))
           (case side2 => exact (Kd.R_reads' HO562.out).2.1)
           rintro e w84 ⟨v564, rfl, ho0, hb⟩
           refine ⟨_, rfl, ?_⟩
           have HO565 := A_ (Kd.R_lower (Kd.R_new' ho0 (Kd.R_lt (kr_ HO562.out))) (below_size (hb2_ HB.out GE549.out GE554.out)))
           replace HO562 := A_ (Kd.R_elder' (kr_ HO562.out) (Kd.R_base ho0) hb)
           replace BK549 := A_ (bb_ BK549.out hb)
           replace BK554 := A_ (bb_ BK554.out hb)
           replace HB := A_ (below_step (hb2_ HB.out GE549.out GE554.out) hb);(try clear hb);(try clear hb2);(try clear hk);(try clear hi);(try clear ho0)
           refine hK.out _ _ ⟨bc_ BK549.out 0, bc_ BK549.out 1, bc_ BK549.out 2, bc_ BK549.out 3, bc_ BK554.out 0, bc_ BK554.out 1, bc_ BK554.out 2, bc_ BK554.out 3⟩ (fun hHeld => ?_)
           clear hK K
           refine norm_ (a' := ?_) ?_ ?_
           rotate_left
           ·show Act.put _ (some 63) _ = _
            simp only [Act.put, lI_, l0_, lS_, i64_w, i32_w]
            rfl
           refine one_ (i := 10) (N := some 66) #[true, true, true, true, true, true, true, true, true, true, true, true, true, true, true, false, false, false] rfl rfl (one_of HT_.out (by kernel_rfl)) (by decide) (fun K hK => ?_)
           refine goes_ Try.func34 (by kernel_rfl) rfl #[.int .u64 t553] (by rfl) rfl rfl mp_ ?_
           with_reducible refine (r1_Of.calls kj46 t553 t566 _ A74.out).mono ?_
           rintro e w85 ⟨v567, rfl, ho0, hb⟩
           refine ⟨_, rfl, ?_⟩
           have HO568 := A_ (Kd.R_lower (Kd.R_new' (Kd.R_new' ho0 (Kd.R_lt (kr_ HO562.out))) (Kd.R_lt (kr_ HO565.out))) (below_size (hb2_ HB.out GE549.out GE554.out)))
           replace HO562 := A_ (Kd.R_elder' (kr_ HO562.out) (Kd.R_base ho0) hb)
           replace HO565 := A_ (Kd.R_elder' (kr_ HO565.out) (Kd.R_base ho0) hb)
           replace BK549 := A_ (bb_ BK549.out hb)
           replace BK554 := A_ (bb_ BK554.out hb)
           replace HB := A_ (below_step (hb2_ HB.out GE549.out GE554.out) hb);(try clear hb);(try clear hb2);(try clear hk);(try clear hi);(try clear ho0)
           obtain ⟨Ao86, co86, eo86⟩ := Kd.R_slice HO568.out
           (first | subst eo86 | (injection eo86 with f1_ f2_ f3_; have f4_ := f1_.symm; have f5_ := f3_.symm; clear f1_ f2_ f3_; subst f4_; subst f5_))
           refine hK.out _ _ ⟨bc_ BK549.out 0, bc_ BK549.out 1, bc_ BK549.out 2, bc_ BK549.out 3, bc_ BK554.out 0, bc_ BK554.out 1, bc_ BK554.out 2, bc_ BK554.out 3⟩ (fun hHeld => ?_)
           clear hK K
           refine norm_ (a' := ?_) ?_ ?_
           rotate_left
           ·show Act.put _ (some 66) _ = _
            simp only [Act.put, lI_, l0_, lS_, i64_w, i32_w]
            rfl
           refine one_ (i := 15) (N := some 71) #[true, true, true, true, true, true, true, true, true, true, true, true, true, true, true, true, false, false] rfl rfl (one_of HT_.out (by kernel_rfl)) (by decide) (fun K hK => ?_)
           refine goes_ Try.func44 (by kernel_rfl) rfl #[.agg #[.slice Ao86 t566.length co86], .int .i64 (wrap64 (t552 - (ji71)))] (by rfl) rfl rfl (by (try simp only [List.map_toArray, List.map_cons, List.map_nil]); first | done | (simp only [hji71]; rfl) | rfl | (simp only [List.length_drop, List.length_take]; rfl)) ?_
           with_reducible refine (r1_Shl.calls kj46 _ _ t566 (wrap64 (t552 - (ji71))) t569 _ ?side1 ?side2 A75.out).mono ?_
           (case side1 => exact cs_ ((Kd.R_reads' HO568.out).2.2))
           (case side2 => exact (Kd.R_reads' HO568.out).2.1)
           rintro e w87 ⟨v570, rfl, ho0, hb⟩
           refine ⟨_, rfl, ?_⟩
           have HO571 := A_ (Kd.R_lower (Kd.R_new' (Kd.R_new' (Kd.R_new' ho0 (Kd.R_lt (kr_ HO562.out))) (Kd.R_lt (kr_ HO565.out))) (Kd.R_lt (kr_ HO568.out))) (below_size (hb2_ HB.out GE549.out GE554.out)))
           replace HO562 := A_ (Kd.R_elder' (kr_ HO562.out) (Kd.R_base ho0) hb)
           replace HO565 := A_ (Kd.R_elder' (kr_ HO565.out) (Kd.R_base ho0) hb)
           replace HO568 := A_ (Kd.R_elder' (kr_ HO568.out) (Kd.R_base ho0) hb)
           replace BK549 := A_ (bb_ BK549.out hb)
           replace BK554 := A_ (bb_ BK554.out hb)
           replace HB := A_ (below_step (hb2_ HB.out GE549.out GE554.out) hb);(try clear hb);(try clear hb2);(try clear hk);(try clear hi);(try clear ho0)
           obtain ⟨Ao88, co88, eo88⟩ := Kd.R_slice HO565.out
           (first | subst eo88 | (injection eo88 with f1_ f2_ f3_; have f4_ := f1_.symm; have f5_ := f3_.symm; clear f1_ f2_ f3_; subst f4_; subst f5_))
           obtain ⟨Ao89, co89, eo89⟩ := Kd.R_slice HO571.out
           (first | subst eo89 | (injection eo89 with f1_ f2_ f3_; have f4_ := f1_.symm; have f5_ := f3_.symm; clear f1_ f2_ f3_; subst f4_; subst f5_))
           refine hK.out _ _ ⟨bc_ BK549.out 0, bc_ BK549.out 1, bc_ BK549.out 2, bc_ BK549.out 3, bc_ BK554.out 0, bc_ BK554.out 1, bc_ BK554.out 2, bc_ BK554.out 3⟩ (fun hHeld => ?_)
           clear hK K
           refine norm_ (a' := ?_) ?_ ?_
           rotate_left
           ·show Act.put _ (some 71) _ = _
            simp only [Act.put, lI_, l0_, lS_, i64_w, i32_w]
            rfl
           refine one_ (i := 16) (N := some 72) #[true, true, true, true, true, true, true, true, true, true, true, true, true, true, true, true, true, false] rfl rfl (one_of HT_.out (by kernel_rfl)) (by decide) (fun K hK => ?_)
           refine goes_ Try.func46 (by kernel_rfl) rfl #[.agg #[.slice Ao88 t563.length co88], .agg #[.slice Ao89 t569.length co89]] (by rfl) rfl rfl mp_ ?_
           with_reducible refine (r1_Cmp.calls kj46 _ _ t563 _ _ t569 t572 _ ?side1 ?side2 ?side3 ?side4 A76.out).mono ?_
           (case side1 => exact cs_ ((Kd.R_reads' HO565.out).2.2))
           (case side2 => exact (Kd.R_reads' HO565.out).2.1)
           (case side3 => exact cs_ ((Kd.R_reads' HO571.out).2.2))
           (case side4 => exact (Kd.R_reads' HO571.out).2.1)
           rintro e w90 ⟨rfl, hb⟩
           refine ⟨_, rfl, ?_⟩
           replace HO562 := A_ (Kd.R_below (kr_ HO562.out) hb)
           replace HO565 := A_ (Kd.R_below (kr_ HO565.out) hb)
           replace HO568 := A_ (Kd.R_below (kr_ HO568.out) hb)
           replace HO571 := A_ (Kd.R_below (kr_ HO571.out) hb)
           replace BK549 := A_ (bb_ BK549.out hb)
           replace BK554 := A_ (bb_ BK554.out hb)
           replace HB := A_ (below_step (hb2_ HB.out GE549.out GE554.out) hb);(try clear hb);(try clear hb2);(try clear hk);(try clear hi)
           refine hK.out _ _ ⟨bc_ BK549.out 0, bc_ BK549.out 1, bc_ BK549.out 2, bc_ BK549.out 3, bc_ BK554.out 0, bc_ BK554.out 1, bc_ BK554.out 2, bc_ BK554.out 3⟩ (fun hHeld => ?_)
           clear hK K
           refine norm_ (a' := ?_) ?_ ?_
           rotate_left
           ·show Act.put _ (some 72) _ = _
            simp only [Act.put, lI_, l0_, lS_, i64_w, i32_w]
            rfl
           refine pu_ 17 (some 9) #[true, true, true, true, true, true, true, true, true, true, true, true, true, true, true, true, true, true] rfl rfl (any_of HT_.out (by kernel_rfl)) ?_
           refine done_ (done_of HT_.out (by kernel_rfl)) ?_
           have hcz91_0 := bv_ BK549.out 0
           have hcz91_1 := bv_ BK549.out 1
           have hcz91_2 := bv_ BK549.out 2
           have hcz91_3 := bv_ BK549.out 3
           have hfz91_0 := blk_frozen BK549.out 0
           have hfz91_1 := blk_frozen BK549.out 1
           have hfz91_2 := blk_frozen BK549.out 2
           have hfz91_3 := blk_frozen BK549.out 3
           try go_wp2
           go_ret
           exact ⟨by first | rfl | (simp [errW_none, errW_some] <;> rfl) | (simp only [← hji71]; first | rfl | (simp [errW_none, errW_some] <;> rfl)) | (simp [*, errW_none, errW_some] <;> rfl), hb2_ HB.out GE549.out GE554.out⟩
          ·replace c77 := Bool.eq_false_iff.mpr c77
           subst c77
           have H1 : (some t572) = some r := by rw [if_neg (show ¬ (false = true) by decide)] at H; exact H
           clear H;have H := H1;clear H1
           obtain rfl := Option.some.inj H
           have hnb92 := NB549_554.out
           have hnc92 := NB554_549.out
           have hcz93_0 := bv_ BK549.out 0
           have hcz93_1 := bv_ BK549.out 1
           have hcz93_2 := bv_ BK549.out 2
           have hcz93_3 := bv_ BK549.out 3
           have hfz93_0 := blk_frozen BK549.out 0
           have hfz93_1 := blk_frozen BK549.out 1
           have hfz93_2 := blk_frozen BK549.out 2
           have hfz93_3 := blk_frozen BK549.out 3
           have hcz94_0 := bv_ BK554.out 0
           have hcz94_1 := bv_ BK554.out 1
           have hcz94_2 := bv_ BK554.out 2
           have hcz94_3 := bv_ BK554.out 3
           have hfz94_0 := blk_frozen BK554.out 0
           have hfz94_1 := blk_frozen BK554.out 1
           have hfz94_2 := blk_frozen BK554.out 2
           have hfz94_3 := blk_frozen BK554.out 3
           try go_wp2
           replace BK549 := A_ (blk_drew BK549.out)
           replace BK554 := A_ (blk_drew BK554.out)
           replace HB := A_ (below_drew1 HB.out)
           refine start_ (n := 18) (S := fun w' => w'.cell? ⟨gb549, 0, none⟩ = some (.bool false) ∧ w'.cell? ⟨gb549, 1, none⟩ = some (.int .i64 t546) ∧ w'.cell? ⟨gb549, 2, none⟩ = some (.int .i64 t547) ∧ w'.cell? ⟨gb549, 3, none⟩ = some (.int .u64 t548) ∧ w'.cell? ⟨gb554, 0, none⟩ = some (.bool t550) ∧ w'.cell? ⟨gb554, 1, none⟩ = some (.int .i64 t551) ∧ w'.cell? ⟨gb554, 2, none⟩ = some (.int .i64 t552) ∧ w'.cell? ⟨gb554, 3, none⟩ = some (.int .u64 t553)) (ds := []) #[false, false, false, false, false, false, false, false, false, false, false, false, false, false, false, false, false, false] (by kernel_rfl) rfl rfl ⟨bc_ BK549.out 0, bc_ BK549.out 1, bc_ BK549.out 2, bc_ BK549.out 3, bc_ BK554.out 0, bc_ BK554.out 1, bc_ BK554.out 2, bc_ BK554.out 3⟩ (fun hHeld => ?_); refine with_tabW r8_Cmp.tab15 r8_Cmp.bits15 (fun HT_ HW_ => ?_)
           generalize wc.drew = w95 at BK549 BK554 HB hHeld ⊢
           refine pu_ 0 (some 56) #[true, false, false, false, false, false, false, false, false, false, false, false, false, false, false, false, false, false] rfl rfl (any_of HT_.out (by kernel_rfl)) ?_
           refine pu_ 3 (some 59) #[true, false, false, true, false, false, false, false, false, false, false, false, false, false, false, false, false, false] rfl rfl (any_of HT_.out (by kernel_rfl)) ?_
           refine pu_ 5 (some 61) #[true, false, false, true, false, true, false, false, false, false, false, false, false, false, false, false, false, false] rfl rfl (any_of HT_.out (by kernel_rfl)) ?_
           refine pu_ 8 (some 64) #[true, false, false, true, false, true, false, false, true, false, false, false, false, false, false, false, false, false] rfl rfl (any_of HT_.out (by kernel_rfl)) ?_
           refine pu_ 11 (some 67) #[true, false, false, true, false, true, false, false, true, false, false, true, false, false, false, false, false, false] rfl rfl (any_of HT_.out (by kernel_rfl)) ?_
           refine pu_ 13 (some 69) #[true, false, false, true, false, true, false, false, true, false, false, true, false, true, false, false, false, false] rfl rfl (any_of HT_.out (by kernel_rfl)) ?_
           refine tk8_ 1 (some 57) #[true, true, false, true, false, true, false, false, true, false, false, true, false, true, false, false, false, false] rfl rfl (take_ofW HT_.out HW_.out (by kernel_rfl)) hHeld ?_
           refine tk8_ 4 (some 60) #[true, true, false, true, true, true, false, false, true, false, false, true, false, true, false, false, false, false] rfl rfl (take_ofW HT_.out HW_.out (by kernel_rfl)) hHeld ?_
           refine pu_ 6 (some 62) #[true, true, false, true, true, true, true, false, true, false, false, true, false, true, false, false, false, false] rfl rfl (any_of HT_.out (by kernel_rfl)) ?_
           refine tk8_ 9 (some 65) #[true, true, false, true, true, true, true, false, true, true, false, true, false, true, false, false, false, false] rfl rfl (take_ofW HT_.out HW_.out (by kernel_rfl)) hHeld ?_
           refine tk8_ 12 (some 68) #[true, true, false, true, true, true, true, false, true, true, false, true, true, true, false, false, false, false] rfl rfl (take_ofW HT_.out HW_.out (by kernel_rfl)) hHeld ?_
           refine pu_ 14 (some 70) #[true, true, false, true, true, true, true, false, true, true, false, true, true, true, true, false, false, false] rfl rfl (any_of HT_.out (by kernel_rfl)) ?_
           refine one_ (i := 2) (N := some 58) #[true, true, true, true, true, true, true, false, true, true, false, true, true, true, true, false, false, false] rfl rfl (one_of HT_.out (by kernel_rfl)) (by decide) (fun K hK => ?_)
           refine goes_ Try.func34 (by kernel_rfl) rfl #[.int .u64 t548] (by rfl) rfl rfl mp_ ?_
           with_reducible refine (r1_Of.calls kj46 t548 t560 _ A72.out).mono ?_
           rintro e w96 ⟨v561, rfl, ho0, hb⟩
           refine ⟨_, rfl, ?_⟩
           have HO562 := A_ (Kd.R_lower ho0 (below_size (hb2_ HB.out GE549.out GE554.out)))
           replace BK549 := A_ (bb_ BK549.out hb)
           replace BK554 := A_ (bb_ BK554.out hb)
           replace HB := A_ (below_step (hb2_ HB.out GE549.out GE554.out) hb);(try clear hb);(try clear hb2);(try clear hk);(try clear hi);(try clear ho0)
           obtain ⟨Ao97, co97, eo97⟩ := Kd.R_slice HO562.out
           (first | subst eo97 | (injection eo97 with f1_ f2_ f3_; have f4_ := f1_.symm; have f5_ := f3_.symm; clear f1_ f2_ f3_; subst f4_; subst f5_))
           refine hK.out _ _ ⟨bc_ BK549.out 0, bc_ BK549.out 1, bc_ BK549.out 2, bc_ BK549.out 3, bc_ BK554.out 0, bc_ BK554.out 1, bc_ BK554.out 2, bc_ BK554.out 3⟩ (fun hHeld => ?_)
           clear hK K
           refine norm_ (a' := ?_) ?_ ?_
           rotate_left
           ·show Act.put _ (some 58) _ = _
            simp only [Act.put, lI_, l0_, lS_, i64_w, i32_w]
            rfl
           refine one_ (i := 7) (N := some 63) #[true, true, true, true, true, true, true, true, true, true, false, true, true, true, true, false, false, false] rfl rfl (one_of HT_.out (by kernel_rfl)) (by decide) (fun K hK => ?_)
           refine goes_ Try.func44 (by kernel_rfl) rfl #[.agg #[.slice Ao97 t560.length co97], .int .i64 (wrap64 (t547 - (ji71)))] (by rfl) rfl rfl (by (try simp only [List.map_toArray, List.map_cons, List.map_nil]); first | done | (simp only [hji71]; rfl) | rfl | (simp only [List.length_drop, List.length_take]; rfl)) ?_
           with_reducible refine (r1_Shl.calls kj46 _ _ t560 (wrap64 (t547 - (ji71))) t563 _ ?side1 ?side2 A73.out).mono ?_
           (case side1 => exact cs_ ((Kd.R_reads' HO562.out).2.2))
           (case side2 => exact (Kd.R_reads' HO562.out).2.1)
           rintro e w98 ⟨v564, rfl, ho0, hb⟩
           refine ⟨_, rfl, ?_⟩
           have HO565 := A_ (Kd.R_lower (Kd.R_new' ho0 (Kd.R_lt (kr_ HO562.out))) (below_size (hb2_ HB.out GE549.out GE554.out)))
           replace HO562 := A_ (Kd.R_elder' (kr_ HO562.out) (Kd.R_base ho0) hb)
           replace BK549 := A_ (bb_ BK549.out hb)
           replace BK554 := A_ (bb_ BK554.out hb)
           replace HB := A_ (below_step (hb2_ HB.out GE549.out GE554.out) hb);(try clear hb);(try clear hb2);(try clear hk);(try clear hi);(try clear ho0)
           refine hK.out _ _ ⟨bc_ BK549.out 0, bc_ BK549.out 1, bc_ BK549.out 2, bc_ BK549.out 3, bc_ BK554.out 0, bc_ BK554.out 1, bc_ BK554.out 2, bc_ BK554.out 3⟩ (fun hHeld => ?_)
           clear hK K
           refine norm_ (a' := ?_) ?_ ?_
           rotate_left
           ·show Act.put _ (some 63) _ = _
            simp only [Act.put, lI_, l0_, lS_, i64_w, i32_w]
            rfl
           refine one_ (i := 10) (N := some 66) #[true, true, true, true, true, true, true, true, true, true, true, true, true, true, true, false, false, false] rfl rfl (one_of HT_.out (by kernel_rfl)) (by decide) (fun K hK => ?_)
           refine goes_ Try.func34 (by kernel_rfl) rfl #[.int .u64 t553] (by rfl) rfl rfl mp_ ?_
           with_reducible refine (r1_Of.calls kj46 t553 t566 _ A74.out).mono ?_
           rintro e w99 ⟨v567, rfl, ho0, hb⟩
           refine ⟨_, rfl, ?_⟩
           have HO568 := A_ (Kd.R_lower (Kd.R_new' (Kd.R_new' ho0 (Kd.R_lt (kr_ HO562.out))) (Kd.R_lt (kr_ HO565.out))) (below_size (hb2_ HB.out GE549.out GE554.out)))
           replace HO562 := A_ (Kd.R_elder' (kr_ HO562.out) (Kd.R_base ho0) hb)
           replace HO565 := A_ (Kd.R_elder' (kr_ HO565.out) (Kd.R_base ho0) hb)
           replace BK549 := A_ (bb_ BK549.out hb)
           replace BK554 := A_ (bb_ BK554.out hb)
           replace HB := A_ (below_step (hb2_ HB.out GE549.out GE554.out) hb);(try clear hb);(try clear hb2);(try clear hk);(try clear hi);(try clear ho0)
           obtain ⟨Ao100, co100, eo100⟩ := Kd.R_slice HO568.out
           (first | subst eo100 | (injection eo100 with f1_ f2_ f3_; have f4_ := f1_.symm; have f5_ := f3_.symm; clear f1_ f2_ f3_; subst f4_; subst f5_))
           refine hK.out _ _ ⟨bc_ BK549.out 0, bc_ BK549.out 1, bc_ BK549.out 2, bc_ BK549.out 3, bc_ BK554.out 0, bc_ BK554.out 1, bc_ BK554.out 2, bc_ BK554.out 3⟩ (fun hHeld => ?_)
           clear hK K
           refine norm_ (a' := ?_) ?_ ?_
           rotate_left
           ·show Act.put _ (some 66) _ = _
            simp only [Act.put, lI_, l0_, lS_, i64_w, i32_w]
            rfl
           refine one_ (i := 15) (N := some 71) #[true, true, true, true, true, true, true, true, true, true, true, true, true, true, true, true, false, false] rfl rfl (one_of HT_.out (by kernel_rfl)) (by decide) (fun K hK => ?_)
           refine goes_ Try.func44 (by kernel_rfl) rfl #[.agg #[.slice Ao100 t566.length co100], .int .i64 (wrap64 (t552 - (ji71)))] (by rfl) rfl rfl (by (try simp only [List.map_toArray, List.map_cons, List.map_nil]); first | done | (simp only [hji71]; rfl) | rfl | (simp only [List.length_drop, List.length_take]; rfl)) ?_
           with_reducible refine (r1_Shl.calls kj46 _ _ t566 (wrap64 (t552 - (ji71))) t569 _ ?side1 ?side2 A75.out).mono ?_
           (case side1 => exact cs_ ((Kd.R_reads' HO568.out).2.2))
           (case side2 => exact (Kd.R_reads' HO568.out).2.1)
           rintro e w101 ⟨v570, rfl, ho0, hb⟩
           refine ⟨_, rfl, ?_⟩
           have HO571 := A_ (Kd.R_lower (Kd.R_new' (Kd.R_new' (Kd.R_new' ho0 (Kd.R_lt (kr_ HO562.out))) (Kd.R_lt (kr_ HO565.out))) (Kd.R_lt (kr_ HO568.out))) (below_size (hb2_ HB.out GE549.out GE554.out)))
           replace HO562 := A_ (Kd.R_elder' (kr_ HO562.out) (Kd.R_base ho0) hb)
           replace HO565 := A_ (Kd.R_elder' (kr_ HO565.out) (Kd.R_base ho0) hb)
           replace HO568 := A_ (Kd.R_elder' (kr_ HO568.out) (Kd.R_base ho0) hb)
           replace BK549 := A_ (bb_ BK549.out hb)
           replace BK554 := A_ (bb_ BK554.out hb)
           replace HB := A_ (below_step (hb2_ HB.out GE549.out GE554.out) hb);(try clear hb);(try clear hb2);(try clear hk);(try clear hi);(try clear ho0)
           obtain ⟨Ao102, co102, eo102⟩ := Kd.R_slice HO565.out
           (first | subst eo102 | (injection eo102 with f1_ f2_ f3_; have f4_ := f1_.symm; have f5_ := f3_.symm; clear f1_ f2_ f3_; subst f4_; subst f5_))
           obtain ⟨Ao103, co103, eo103⟩ := Kd.R_slice HO571.out
           (first | subst eo103 | (injection eo103 with f1_ f2_ f3_; have f4_ := f1_.symm; have f5_ := f3_.symm; clear f1_ f2_ f3_; subst f4_; subst f5_))
           refine hK.out _ _ ⟨bc_ BK549.out 0, bc_ BK549.out 1, bc_ BK549.out 2, bc_ BK549.out 3, bc_ BK554.out 0, bc_ BK554.out 1, bc_ BK554.out 2, bc_ BK554.out 3⟩ (fun hHeld => ?_)
           clear hK K
           refine norm_ (a' := ?_) ?_ ?_
           rotate_left
           ·show Act.put _ (some 71) _ = _
            simp only [Act.put, lI_, l0_, lS_, i64_w, i32_w]
            rfl
           refine one_ (i := 16) (N := some 72) #[true, true, true, true, true, true, true, true, true, true, true, true, true, true, true, true, true, false] rfl rfl (one_of HT_.out (by kernel_rfl)) (by decide) (fun K hK => ?_)
           refine goes_ Try.func46 (by kernel_rfl) rfl #[.agg #[.slice Ao102 t563.length co102], .agg #[.slice Ao103 t569.length co103]] (by rfl) rfl rfl mp_ ?_
           with_reducible refine (r1_Cmp.calls kj46 _ _ t563 _ _ t569 t572 _ ?side1 ?side2 ?side3 ?side4 A76.out).mono ?_
           (case side1 => exact cs_ ((Kd.R_reads' HO565.out).2.2))
           (case side2 => exact (Kd.R_reads' HO565.out).2.1)
           (case side3 => exact cs_ ((Kd.R_reads' HO571.out).2.2))
           (case side4 => exact (Kd.R_reads' HO571.out).2.1)
           rintro e w104 ⟨rfl, hb⟩
           refine ⟨_, rfl, ?_⟩
           replace HO562 := A_ (Kd.R_below (kr_ HO562.out) hb)
           replace HO565 := A_ (Kd.R_below (kr_ HO565.out) hb)
           replace HO568 := A_ (Kd.R_below (kr_ HO568.out) hb)
           replace HO571 := A_ (Kd.R_below (kr_ HO571.out) hb)
           replace BK549 := A_ (bb_ BK549.out hb)
           replace BK554 := A_ (bb_ BK554.out hb)
           replace HB := A_ (below_step (hb2_ HB.out GE549.out GE554.out) hb);(try clear hb);(try clear hb2);(try clear hk);(try clear hi)
           refine hK.out _ _ ⟨bc_ BK549.out 0, bc_ BK549.out 1, bc_ BK549.out 2, bc_ BK549.out 3, bc_ BK554.out 0, bc_ BK554.out 1, bc_ BK554.out 2, bc_ BK554.out 3⟩ (fun hHeld => ?_)
           clear hK K
           refine norm_ (a' := ?_) ?_ ?_
           rotate_left
           ·show Act.put _ (some 72) _ = _
            simp only [Act.put, lI_, l0_, lS_, i64_w, i32_w]
            rfl
           refine pu_ 17 (some 9) #[true, true, true, true, true, true, true, true, true, true, true, true, true, true, true, true, true, true] rfl rfl (any_of HT_.out (by kernel_rfl)) ?_
           refine done_ (done_of HT_.out (by kernel_rfl)) ?_
           have hcz105_0 := bv_ BK549.out 0
           have hcz105_1 := bv_ BK549.out 1
           have hcz105_2 := bv_ BK549.out 2
           have hcz105_3 := bv_ BK549.out 3
           have hfz105_0 := blk_frozen BK549.out 0
           have hfz105_1 := blk_frozen BK549.out 1
           have hfz105_2 := blk_frozen BK549.out 2
           have hfz105_3 := blk_frozen BK549.out 3
           try go_wp2
           go_ret
           exact ⟨by first | rfl | (simp [errW_none, errW_some] <;> rfl) | (simp only [← hji71]; first | rfl | (simp [errW_none, errW_some] <;> rfl)) | (simp [*, errW_none, errW_some] <;> rfl), hb2_ HB.out GE549.out GE554.out⟩
def r2_Make.f (k : Nat) (a0 : Int) (a1 : Bool) (a2 : Int) (a3 : Int) : Option (Int) := (r2_F.f a0).bind fun t353 => ((r2_Two.f k t353).bind fun t354 => (if a1 = true then ((r2_Two.f k (wrap64 (a0 - 1))).bind fun t355 => (some (IntKind.u64.wrap ((IntKind.u64.wrap ((IntKind.u64.wrap ((IntKind.u64.wrap (a2)) * t354)) + a3)) + t355)))) else (some (IntKind.u64.wrap ((IntKind.u64.wrap ((IntKind.u64.wrap (a2)) * t354)) + a3)))))
theorem r2_Make.mono : ∀ a0 a1 a2 a3 k, LeO (r2_Make.f k a0 a1 a2 a3) (r2_Make.f (k + 1) a0 a1 a2 a3) := by
 intro a0 a1 a2 a3 k
 unfold r2_Make.f
 repeat' first
   | (with_reducible exact r2_Two.mono _ _)
   | (with_reducible exact LeO.refl _)
   | (with_reducible exact LeO.none _)
   | (with_reducible refine LeO.ite ?_ ?_)
   | (with_reducible refine LeO.bind ?_ (fun _ => ?_))
   | exact r2_Two.mono _ _
   | exact LeO.none _
   | refine LeO.ite ?_ ?_
   | refine LeO.bind ?_ (fun _ => ?_)
theorem r2_Make.calls (k : Nat) (a0 : Int) (a1 : Bool) (a2 : Int) (a3 : Int) (r : Int) (w : World) (h : r2_Make.f k a0 a1 a2 a3 = some r) :
  Calls Try.prog 22 #[.int .i64 a0, .bool a1, .int .i64 a2, .int .u64 a3] w fun e w' => e = .returned (.int .u64 r) ∧ Drawn0 w w' := by
 have H : ((r2_F.f a0).bind fun t353 => ((r2_Two.f k t353).bind fun t354 => (if a1 = true then ((r2_Two.f k (wrap64 (a0 - 1))).bind fun t355 => (some (IntKind.u64.wrap ((IntKind.u64.wrap ((IntKind.u64.wrap ((IntKind.u64.wrap (a2)) * t354)) + a3)) + t355)))) else (some (IntKind.u64.wrap ((IntKind.u64.wrap ((IntKind.u64.wrap (a2)) * t354)) + a3)))))) = some r := h
 clear h
 replace H := ob_ H
 obtain ⟨t353, A50, H⟩ := H
 replace H : ((r2_Two.f k t353).bind fun t354 => (if a1 = true then ((r2_Two.f k (wrap64 (a0 - 1))).bind fun t355 => (some (IntKind.u64.wrap ((IntKind.u64.wrap ((IntKind.u64.wrap ((IntKind.u64.wrap (a2)) * t354)) + a3)) + t355)))) else (some (IntKind.u64.wrap ((IntKind.u64.wrap ((IntKind.u64.wrap (a2)) * t354)) + a3))))) = some r := H
 have A5 := A_ A50;clear A50
 replace H := ob_ H
 obtain ⟨t354, A60, H⟩ := H
 replace H : (if a1 = true then ((r2_Two.f k (wrap64 (a0 - 1))).bind fun t355 => (some (IntKind.u64.wrap ((IntKind.u64.wrap ((IntKind.u64.wrap ((IntKind.u64.wrap (a2)) * t354)) + a3)) + t355)))) else (some (IntKind.u64.wrap ((IntKind.u64.wrap ((IntKind.u64.wrap (a2)) * t354)) + a3)))) = some r := H
 have A6 := A_ A60;clear A60
 by_cases c7 : a1 = true
 ·subst c7
  have H1 : ((r2_Two.f k (wrap64 (a0 - 1))).bind fun t355 => (some (IntKind.u64.wrap ((IntKind.u64.wrap ((IntKind.u64.wrap ((IntKind.u64.wrap (a2)) * t354)) + a3)) + t355)))) = some r := by rw [if_pos rfl] at H; exact H
  clear H;have H := H1;clear H1
  replace H := ob_ H
  obtain ⟨t355, A80, H⟩ := H
  replace H : (some (IntKind.u64.wrap ((IntKind.u64.wrap ((IntKind.u64.wrap ((IntKind.u64.wrap (a2)) * t354)) + a3)) + t355))) = some r := H
  have A8 := A_ A80;clear A80
  obtain rfl := Option.some.inj H
  go_enter Try.func22, Try.ntmps22
  go_wp2_with (first | ((with_reducible refine gate_callee (f := 42) rfl ?_); refine gl_ (some 13) Try.func42 #[.int .i64 a0] ?_; (with_reducible refine (r2_F.calls a0 t353 _ A5.out).mono ?_); rintro e w' ⟨rfl, ⟨nd, rfl⟩⟩; refine ⟨_, rfl, ?_⟩) | ((with_reducible refine gate_callee (f := 43) rfl ?_); refine gl_ (some 14) Try.func43 #[.int .i64 t353] ?_; (with_reducible refine (r2_Two.calls k t353 t354 _ A6.out).mono ?_); rintro e w' ⟨rfl, ⟨nd, rfl⟩⟩; refine ⟨_, rfl, ?_⟩) | ((with_reducible refine gate_callee (f := 43) rfl ?_); refine gl_ (some 22) Try.func43 #[.int .i64 (wrap64 (a0 - 1))] ?_; (with_reducible refine (r2_Two.calls k (wrap64 (a0 - 1)) t355 _ A8.out).mono ?_); rintro e w' ⟨rfl, ⟨nd, rfl⟩⟩; refine ⟨_, rfl, ?_⟩))
  go_ret
  exact ⟨sm_, by repeat (first | exact Drawn0.refl _ | apply Drawn0.step)⟩
 ·replace c7 := Bool.eq_false_iff.mpr c7
  subst c7
  have H1 : (some (IntKind.u64.wrap ((IntKind.u64.wrap ((IntKind.u64.wrap (a2)) * t354)) + a3))) = some r := by rw [if_neg (show ¬ (false = true) by decide)] at H; exact H
  clear H;have H := H1;clear H1
  obtain rfl := Option.some.inj H
  go_enter Try.func22, Try.ntmps22
  go_wp2_with (first | ((with_reducible refine gate_callee (f := 42) rfl ?_); refine gl_ (some 13) Try.func42 #[.int .i64 a0] ?_; (with_reducible refine (r2_F.calls a0 t353 _ A5.out).mono ?_); rintro e w' ⟨rfl, ⟨nd, rfl⟩⟩; refine ⟨_, rfl, ?_⟩) | ((with_reducible refine gate_callee (f := 43) rfl ?_); refine gl_ (some 14) Try.func43 #[.int .i64 t353] ?_; (with_reducible refine (r2_Two.calls k t353 t354 _ A6.out).mono ?_); rintro e w' ⟨rfl, ⟨nd, rfl⟩⟩; refine ⟨_, rfl, ?_⟩))
  go_ret
  exact ⟨sm_, by repeat (first | exact Drawn0.refl _ | apply Drawn0.step)⟩
def whole_of.f (a0_0 : Bool) (a0_1 : Int) (a0_2 : Int) (a0_3 : Int) : Option (Bool × Int × Bool × Bool) := (wide_Of.f a0_3).bind fun bt136 => ((wide_Right.f bt136.1 bt136.2 (wrap64 ((mn (wrap64 (-a0_2)) 128) - 1))).bind fun bt138 => ((wide_Right.f bt138.1 bt138.2.1 1).bind fun bt142 => (some (a0_0, bt142.2.1, ((Go.bits .and .u64 bt138.2.1 1) == 1), bt138.2.2))))
theorem whole_of.calls (a0_0 : Bool) (a0_1 : Int) (a0_2 : Int) (a0_3 : Int) (r1 : Bool) (r2 : Int) (r3 : Bool) (r4 : Bool) (w : World) (h : whole_of.f a0_0 a0_1 a0_2 a0_3 = some (r1, r2, r3, r4)) :
  Calls Try.prog 36 #[.agg #[.bool a0_0, .int .i64 a0_1, .int .i64 a0_2, .int .u64 a0_3]] w fun e w' => e = .returned (.agg #[.bool r1, .int .u64 r2, .bool r3, .bool r4]) ∧ Below w.heap.size w w' := by
 have hu36 := Try.underlying36
 have hu47 := Try.underlying47
 have hu75 := Try.underlying75
 have HB := A_ (Below.refl w.heap.size w)
 have H : ((wide_Of.f a0_3).bind fun bt136 => ((wide_Right.f bt136.1 bt136.2 (wrap64 ((mn (wrap64 (-a0_2)) 128) - 1))).bind fun bt138 => ((wide_Right.f bt138.1 bt138.2.1 1).bind fun bt142 => (some (a0_0, bt142.2.1, ((Go.bits .and .u64 bt138.2.1 1) == 1), bt138.2.2))))) = some (r1, r2, r3, r4) := h
 clear h
 obtain ⟨ji2, hji2⟩ : ∃ j_ : Int, (mn (wrap64 (-a0_2)) 128) = j_ := ⟨_, rfl⟩
 replace H : ((wide_Of.f a0_3).bind fun bt136 => ((wide_Right.f bt136.1 bt136.2 (wrap64 ((ji2) - 1))).bind fun bt138 => ((wide_Right.f bt138.1 bt138.2.1 1).bind fun bt142 => (some (a0_0, bt142.2.1, ((Go.bits .and .u64 bt138.2.1 1) == 1), bt138.2.2))))) = some (r1, r2, r3, r4) := by first | (rw [hji2] at H; exact H) | (simp only [hji2] at H ⊢; exact H)
 (try (have hji2h : ji2 ≤ 128 := by (rw [← hji2]; unfold mn; (repeat' split) <;> omega)))
 (try (have hji2g : ji2 ≤ 64 := by omega))
 have hji2_ : (if 128 < (wrap64 (-a0_2)) then 128 else (wrap64 (-a0_2))) = ji2 := hji2
 replace H := ob_ H
 obtain ⟨⟨t136, t137⟩, A30, H⟩ := H
 replace H : ((wide_Right.f t136 t137 (wrap64 ((ji2) - 1))).bind fun bt138 => ((wide_Right.f bt138.1 bt138.2.1 1).bind fun bt142 => (some (a0_0, bt142.2.1, ((Go.bits .and .u64 bt138.2.1 1) == 1), bt138.2.2)))) = some (r1, r2, r3, r4) := H
 have A3 := A_ A30;clear A30
 replace H := ob_ H
 obtain ⟨⟨t138, t139, t140⟩, A40, H⟩ := H
 replace H : ((wide_Right.f t138 t139 1).bind fun bt142 => (some (a0_0, bt142.2.1, ((Go.bits .and .u64 t139 1) == 1), t140))) = some (r1, r2, r3, r4) := H
 have A4 := A_ A40;clear A40
 replace H := ob_ H
 obtain ⟨⟨t142, t143, t144⟩, A50, H⟩ := H
 replace H : (some (a0_0, t143, ((Go.bits .and .u64 t139 1) == 1), t140)) = some (r1, r2, r3, r4) := H
 have A5 := A_ A50;clear A50
 simp only [Option.some.injEq, Prod.mk.injEq] at H
 obtain ⟨rfl, rfl, rfl, rfl⟩ := H
 go_enter Try.func36, Try.ntmps36
 go_wp2_with (first | ((with_reducible refine gate_dst (N := 1) rfl ?_); refine be_ 1 #[.bool a0_0, .int .i64 a0_1, .int .i64 a0_2, .int .u64 a0_3] 36 ?_; intro gb134 hg w6 hbox hb; have BK134 := A_ (hbox); have GW134 := A_ (sz_ hg (hb_ HB.out)); have GE134 := A_ (sz_ hg (hb_ HB.out)); replace HB := A_ (below_step (hb_ HB.out) hb); clear hb hbox hg) | ((with_reducible refine gate_dst (N := 2) rfl ?_); refine be_ 2 #[.bool false, .int .u64 0, .bool false, .bool false] 47 ?_; intro gb135 hg w7 hbox hb; have BK135 := A_ (hbox); have GW135 := A_ (sz_ hg (hb1_ HB.out GE134.out)); have GE135 := A_ (sz_ hg (hb1_ HB.out GE134.out)); have NB134_135 := A_ (nl_ hg BK134.out); have NB135_134 := A_ (ng_ hg BK134.out); replace BK134 := A_ (bb_ BK134.out hb); replace HB := A_ (below_step (hb1_ HB.out GE134.out) hb); clear hb hbox hg; have hnb8 := NB134_135.out; have hnc8 := NB135_134.out; have hcz9_0 := bv_ BK134.out 0; have hcz9_1 := bv_ BK134.out 1; have hcz9_2 := bv_ BK134.out 2; have hcz9_3 := bv_ BK134.out 3; have hfz9_0 := blk_frozen BK134.out 0; have hfz9_1 := blk_frozen BK134.out 1; have hfz9_2 := blk_frozen BK134.out 2; have hfz9_3 := blk_frozen BK134.out 3) | ((with_reducible refine gate_callee (f := 58) rfl ?_); refine gl_ (some 15) Try.func58 #[.int .u64 a0_3] ?_; (with_reducible refine (wide_Of.calls a0_3 t136 t137 _ A3.out).mono ?_); rintro e w10 ⟨rfl, hb⟩; refine ⟨_, rfl, ?_⟩; replace BK134 := A_ (bb_ BK134.out hb); replace BK135 := A_ (bb_ BK135.out hb); replace HB := A_ (below_step (hb2_ HB.out GE134.out GE135.out) hb); (try clear hb); (try clear hb2); (try clear hk); (try clear hi)) | ((with_reducible refine gate_callee (f := 63) rfl ?_); refine goesL_ (some 18) rfl rfl Try.func63 (by kernel_rfl) rfl #[.agg #[.int .u64 t136, .int .u64 t137], .int .i64 (wrap64 ((ji2) - 1))] rfl (by (try simp only [List.map_toArray, List.map_cons, List.map_nil]); first | done | (simp only [hji2]; rfl) | rfl | (simp only [List.length_drop, List.length_take]; rfl)) ?_; (with_reducible refine (wide_Right.calls t136 t137 (wrap64 ((ji2) - 1)) t138 t139 t140 _ A4.out).mono ?_); rintro e w11 ⟨rfl, hb⟩; refine ⟨_, rfl, ?_⟩; replace BK134 := A_ (bb_ BK134.out hb); replace BK135 := A_ (bb_ BK135.out hb); replace HB := A_ (below_step (hb2_ HB.out GE134.out GE135.out) hb); (try clear hb); (try clear hb2); (try clear hk); (try clear hi)) | ((with_reducible refine gate_dst (N := 4) rfl ?_); refine be_ 4 #[.int .u64 0, .int .u64 0] 75 ?_; intro gb141 hg w12 hbox hb; have BK141 := A_ (hbox); have GW141 := A_ (sz_ hg (hb2_ HB.out GE134.out GE135.out)); have GE141 := A_ (sz_ hg (hb2_ HB.out GE134.out GE135.out)); have NB134_141 := A_ (nl_ hg BK134.out); have NB141_134 := A_ (ng_ hg BK134.out); have NB135_141 := A_ (nl_ hg BK135.out); have NB141_135 := A_ (ng_ hg BK135.out); replace BK134 := A_ (bb_ BK134.out hb); replace BK135 := A_ (bb_ BK135.out hb); replace HB := A_ (below_step (hb2_ HB.out GE134.out GE135.out) hb); clear hb hbox hg; have hnb13 := NB141_134.out; have hnc13 := NB134_141.out; have hnb14 := NB141_135.out; have hnc14 := NB135_141.out; have hcz15_0 := bv_ BK141.out 0; have hcz15_1 := bv_ BK141.out 1; have hfz15_0 := blk_frozen BK141.out 0; have hfz15_1 := blk_frozen BK141.out 1) | ((with_reducible refine gate_callee (f := 63) rfl ?_); refine gl_ (some 23) Try.func63 #[.agg #[.int .u64 t138, .int .u64 t139], .int .i64 1] ?_; (with_reducible refine (wide_Right.calls t138 t139 1 t142 t143 t144 _ A5.out).mono ?_); rintro e w16 ⟨rfl, hb⟩; refine ⟨_, rfl, ?_⟩; replace BK134 := A_ (blk_below (g := gb134) (o := .cells #[.bool a0_0, .int .i64 a0_1, .int .i64 a0_2, .int .u64 a0_3] 36 (0, 0)) (bf2_ BK134.out NB134_141.out NB134_141.out) hb); replace BK135 := A_ (blk_below (g := gb135) (o := .cells #[.bool false, .int .u64 0, .bool false, .bool false] 47 (0, 0)) (bf2_ BK135.out NB135_141.out NB135_141.out) hb); replace BK141 := A_ (blk_below (g := gb141) (o := .cells #[.int .u64 t138, .int .u64 t139] 75 (0, 0)) (by (with_reducible repeat (first | refine blk_drewN ?_ _ | refine blk_drew ?_ | refine blk_alloc ?_ _)); refine blk_put (cs := #[.int .u64 t138, .int .u64 0]) ?_ 1 _ rfl; (with_reducible repeat (first | refine blk_drewN ?_ _ | refine blk_drew ?_ | refine blk_alloc ?_ _)); refine blk_put (cs := #[.int .u64 0, .int .u64 0]) ?_ 0 _ rfl; (with_reducible repeat (first | refine blk_drewN ?_ _ | refine blk_drew ?_ | refine blk_alloc ?_ _)); exact BK141.out) hb); replace HB := A_ (below_step (hb3_ HB.out GE134.out GE135.out GE141.out) hb); (try clear hb); (try clear hb2); (try clear hk); (try clear hi)) | ((with_reducible refine gate_dst (N := 6) rfl ?_); refine be_ 6 #[.int .u64 0, .int .u64 0] 75 ?_; intro gb145 hg w17 hbox hb; have BK145 := A_ (hbox); have GW145 := A_ (sz_ hg (hb3_ HB.out GE134.out GE135.out GE141.out)); have GE145 := A_ (sz_ hg (hb3_ HB.out GE134.out GE135.out GE141.out)); have NB134_145 := A_ (nl_ hg BK134.out); have NB145_134 := A_ (ng_ hg BK134.out); have NB135_145 := A_ (nl_ hg BK135.out); have NB145_135 := A_ (ng_ hg BK135.out); have NB141_145 := A_ (nl_ hg BK141.out); have NB145_141 := A_ (ng_ hg BK141.out); replace BK134 := A_ (bb_ BK134.out hb); replace BK135 := A_ (bb_ BK135.out hb); replace BK141 := A_ (bb_ BK141.out hb); replace HB := A_ (below_step (hb3_ HB.out GE134.out GE135.out GE141.out) hb); clear hb hbox hg; have hnb18 := NB145_134.out; have hnc18 := NB134_145.out; have hnb19 := NB145_135.out; have hnc19 := NB135_145.out; have hnb20 := NB145_141.out; have hnc20 := NB141_145.out; have hcz21_0 := bv_ BK145.out 0; have hcz21_1 := bv_ BK145.out 1; have hfz21_0 := blk_frozen BK145.out 0; have hfz21_1 := blk_frozen BK145.out 1; have hcz22_0 := bv_ BK134.out 0; have hcz22_1 := bv_ BK134.out 1; have hcz22_2 := bv_ BK134.out 2; have hcz22_3 := bv_ BK134.out 3; have hfz22_0 := blk_frozen BK134.out 0; have hfz22_1 := blk_frozen BK134.out 1; have hfz22_2 := blk_frozen BK134.out 2; have hfz22_3 := blk_frozen BK134.out 3; have hcz23_0 := bv_ BK141.out 0; have hcz23_1 := bv_ BK141.out 1; have hfz23_0 := blk_frozen BK141.out 0; have hfz23_1 := blk_frozen BK141.out 1; have hcz24_0 := bv_ BK135.out 0; have hcz24_1 := bv_ BK135.out 1; have hcz24_2 := bv_ BK135.out 2; have hcz24_3 := bv_ BK135.out 3; have hfz24_0 := blk_frozen BK135.out 0; have hfz24_1 := blk_frozen BK135.out 1; have hfz24_2 := blk_frozen BK135.out 2; have hfz24_3 := blk_frozen BK135.out 3))
 refine bodyPost_ret (results_cell_row rfl _ _ gb135 47 #[.bool a0_0, .int .u64 t143, .bool ((Go.bits .and .u64 t139 1) == 1), .bool t140] (0, 0) _ rfl (by (with_reducible repeat (first | refine blk_drewN ?_ _ | refine blk_drew ?_ | refine blk_alloc ?_ _)); refine blk_put (cs := #[.bool a0_0, .int .u64 t143, .bool ((Go.bits .and .u64 t139 1) == 1), .bool false]) ?_ 3 _ rfl; (with_reducible repeat (first | refine blk_drewN ?_ _ | refine blk_drew ?_ | refine blk_alloc ?_ _)); refine blk_put (cs := #[.bool a0_0, .int .u64 t143, .bool false, .bool false]) ?_ 2 _ rfl; (with_reducible repeat (first | refine blk_drewN ?_ _ | refine blk_drew ?_ | refine blk_alloc ?_ _)); refine blk_put (cs := #[.bool a0_0, .int .u64 0, .bool false, .bool false]) ?_ 1 _ rfl; (with_reducible repeat (first | refine blk_drewN ?_ _ | refine blk_drew ?_ | refine blk_alloc ?_ _)); refine blk_put (cs := #[.bool false, .int .u64 0, .bool false, .bool false]) ?_ 0 _ rfl; (with_reducible repeat (first | refine blk_drewN ?_ _ | refine blk_drew ?_ | refine blk_alloc ?_ _)); refine blk_far ?_ NB135_145.out _; (with_reducible repeat (first | refine blk_drewN ?_ _ | refine blk_drew ?_ | refine blk_alloc ?_ _)); refine blk_far ?_ NB135_145.out _; (with_reducible repeat (first | refine blk_drewN ?_ _ | refine blk_drew ?_ | refine blk_alloc ?_ _)); exact BK135.out) Try.underlying47 rfl (by kernel_rfl)) rfl ?_
 exact ⟨by first | rfl | (simp [errW_none, errW_some] <;> rfl) | (simp only [← hji2]; first | rfl | (simp [errW_none, errW_some] <;> rfl)) | (simp [*, errW_none, errW_some] <;> rfl), hb4_ HB.out GE134.out GE135.out GE141.out GE145.out⟩
def whole_cut_exact.f (a0_0 : Bool) (a0_1 : Int) (a0_2 : Bool) (a0_3 : Bool) : Option (Bool) := if a0_2 = true then (some false) else (some (!a0_3))
theorem whole_cut_exact.calls (a0_0 : Bool) (a0_1 : Int) (a0_2 : Bool) (a0_3 : Bool) (r : Bool) (w : World) (h : whole_cut_exact.f a0_0 a0_1 a0_2 a0_3 = some r) :
  Calls Try.prog 37 #[.agg #[.bool a0_0, .int .u64 a0_1, .bool a0_2, .bool a0_3]] w fun e w' => e = .returned (.bool r) ∧ Below w.heap.size w w' := by
 have hu47 := Try.underlying47
 have HB := A_ (Below.refl w.heap.size w)
 have H : (if a0_2 = true then (some false) else (some (!a0_3))) = some r := h
 clear h
 by_cases c2 : a0_2 = true
 ·subst c2
  have H1 : (some false) = some r := by rw [if_pos rfl] at H; exact H
  clear H;have H := H1;clear H1
  obtain rfl := Option.some.inj H
  go_enter Try.func37, Try.ntmps37
  go_wp2_with (first | ((with_reducible refine gate_dst (N := 1) rfl ?_); refine be_ 1 #[.bool a0_0, .int .u64 a0_1, .bool true, .bool a0_3] 47 ?_; intro gb146 hg w3 hbox hb; have BK146 := A_ (hbox); have GW146 := A_ (sz_ hg (hb_ HB.out)); have GE146 := A_ (sz_ hg (hb_ HB.out)); replace HB := A_ (below_step (hb_ HB.out) hb); clear hb hbox hg; have hcz4_0 := bv_ BK146.out 0; have hcz4_1 := bv_ BK146.out 1; have hcz4_2 := bv_ BK146.out 2; have hcz4_3 := bv_ BK146.out 3; have hfz4_0 := blk_frozen BK146.out 0; have hfz4_1 := blk_frozen BK146.out 1; have hfz4_2 := blk_frozen BK146.out 2; have hfz4_3 := blk_frozen BK146.out 3))
  go_ret
  exact ⟨er_, hb1_ HB.out GE146.out⟩
 ·replace c2 := Bool.eq_false_iff.mpr c2
  subst c2
  have H1 : (some (!a0_3)) = some r := by rw [if_neg (show ¬ (false = true) by decide)] at H; exact H
  clear H;have H := H1;clear H1
  obtain rfl := Option.some.inj H
  go_enter Try.func37, Try.ntmps37
  go_wp2_with (first | ((with_reducible refine gate_dst (N := 1) rfl ?_); refine be_ 1 #[.bool a0_0, .int .u64 a0_1, .bool false, .bool a0_3] 47 ?_; intro gb146 hg w5 hbox hb; have BK146 := A_ (hbox); have GW146 := A_ (sz_ hg (hb_ HB.out)); have GE146 := A_ (sz_ hg (hb_ HB.out)); replace HB := A_ (below_step (hb_ HB.out) hb); clear hb hbox hg; have hcz6_0 := bv_ BK146.out 0; have hcz6_1 := bv_ BK146.out 1; have hcz6_2 := bv_ BK146.out 2; have hcz6_3 := bv_ BK146.out 3; have hfz6_0 := blk_frozen BK146.out 0; have hfz6_1 := blk_frozen BK146.out 1; have hfz6_2 := blk_frozen BK146.out 2; have hfz6_3 := blk_frozen BK146.out 3))
  go_ret
  exact ⟨er_, hb1_ HB.out GE146.out⟩
end Go.Proofs.Ythdeeoallfbjmaa.PA
