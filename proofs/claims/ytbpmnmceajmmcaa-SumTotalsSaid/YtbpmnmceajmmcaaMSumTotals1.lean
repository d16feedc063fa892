/- What the Go functions that the statement SumTotals reaches compute, and the mathematics on it, in the order in which one leans on the other; for every input. -/
import Derived.Test.YtbpmnmceajmmcaaVSumTotals0
import Derived.Test.YtbpmnmceajmmcaaMSumTotals0
import Derived.Deep.RegionHeld3
namespace Go.Proofs.Ytbpmnmceajmmcaa.PA
open Go.RowKit Go.Proofs.YtbpmnmceajmmcaaW.PrintWords Go.Proofs.YtbpmnmceajmmcaaW.PrintLast Go.Proofs.YtbpmnmceajmmcaaW.PrintMore
attribute [local go_sem] max2_int min2_int max_two min_two max_three min_three max_four min_four   -- for this text's walks alone
set_option linter.unusedVariables false
set_option linter.unusedSimpArgs false
set_option maxHeartbeats 8000000
set_option maxRecDepth 100000
mutual
def shape_Open.j0 : Nat → Bool → Int → Int → Bool → Int → Int → Option (Bool × Int × Int × Int)
 | 0, _, _, _, _, _, _ => none
 | k + 1, x19, x118000, x118001, x118002, x118003, x118004 => if x19 = true then (some (false, 3, 0, 0)) else ((shape_format_ones.f x118000 x118001).bind fun t119 => (if x118003 = t119 then (some (x118002, 2, 0, 0)) else (if x118003 = 0 then (shape_Open.j1 k (x118004 == 0) x118000 x118001 x118002 x118003 x118004) else (shape_Open.j1 k false x118000 x118001 x118002 x118003 x118004))))
def shape_Open.j1 : Nat → Bool → Int → Int → Bool → Int → Int → Option (Bool × Int × Int × Int)
 | 0, _, _, _, _, _, _ => none
 | k + 1, x42, x118000, x118001, x118002, x118003, x118004 => if x42 = true then (some (x118002, 0, 0, 0)) else (if x118003 = 0 then ((shape_format_low.f x118000 x118001).bind fun t120 => (some (x118002, 1, t120, x118004))) else ((shape_format_low.f x118000 x118001).bind fun t121 => (if 0 ≤ x118001 then (some (x118002, 1, wrap64 ((wrap64 (t121 + (wrap64 (x118003)))) - 1), Go.bits .or .u64 (shl .u64 1 x118001) x118004)) else (none))))
end
def shape_Open.f (k : Nat) (a0 : Int) (a1 : Int) : Option (Bool × Int × Int × Int) := (shape_of.f a0).bind fun bt108 => (if bt108.2.2 = true then ((shape_format_split.f bt108.1 bt108.2.1 a1).bind fun bt112 => ((shape_format_ones.f bt112.1 bt112.2.1).bind fun t118 => (if bt112.2.2.2.1 = t118 then (shape_Open.j0 k (bt112.2.2.2.2 != 0) bt112.1 bt112.2.1 bt112.2.2.1 bt112.2.2.2.1 bt112.2.2.2.2) else (shape_Open.j0 k false bt112.1 bt112.2.1 bt112.2.2.1 bt112.2.2.2.1 bt112.2.2.2.2)))) else (some (false, 0, 0, 0)))
theorem shape_Open.mono_l : ∀ k, (∀ y0 y1 y2 y3 y4 y5, LeO (shape_Open.j0 k y0 y1 y2 y3 y4 y5) (shape_Open.j0 (k + 1) y0 y1 y2 y3 y4 y5)) ∧ (∀ y0 y1 y2 y3 y4 y5, LeO (shape_Open.j1 k y0 y1 y2 y3 y4 y5) (shape_Open.j1 (k + 1) y0 y1 y2 y3 y4 y5))
 | 0 => ⟨fun _ _ _ _ _ _ r h => by simp [shape_Open.j0] at h, fun _ _ _ _ _ _ r h => by simp [shape_Open.j1] at h⟩
 | k + 1 => by
  obtain ⟨ih0, ih1⟩ := shape_Open.mono_l k
  refine ⟨?_, ?_⟩
  ·intro y0 y1 y2 y3 y4 y5
   unfold shape_Open.j0
   repeat' first
   | (with_reducible exact ih0 _ _ _ _ _ _)
   | (with_reducible exact ih1 _ _ _ _ _ _)
   | (with_reducible exact LeO.refl _)
   | (with_reducible exact LeO.none _)
   | (with_reducible refine LeO.ite ?_ ?_)
   | (with_reducible refine LeO.bind ?_ (fun _ => ?_))
   | exact ih0 _ _ _ _ _ _
   | exact ih1 _ _ _ _ _ _
   | exact LeO.none _
   | refine LeO.ite ?_ ?_
   | refine LeO.bind ?_ (fun _ => ?_)
  ·intro y0 y1 y2 y3 y4 y5
   unfold shape_Open.j1
   repeat' first
   | (with_reducible exact ih0 _ _ _ _ _ _)
   | (with_reducible exact ih1 _ _ _ _ _ _)
   | (with_reducible exact LeO.refl _)
   | (with_reducible exact LeO.none _)
   | (with_reducible refine LeO.ite ?_ ?_)
   | (with_reducible refine LeO.bind ?_ (fun _ => ?_))
   | exact ih0 _ _ _ _ _ _
   | exact ih1 _ _ _ _ _ _
   | exact LeO.none _
   | refine LeO.ite ?_ ?_
   | refine LeO.bind ?_ (fun _ => ?_)
theorem shape_Open.mono : ∀ a0 a1 k, LeO (shape_Open.f k a0 a1) (shape_Open.f (k + 1) a0 a1) := by
 intro a0 a1 k
 obtain ⟨ih0, ih1⟩ := shape_Open.mono_l k
 unfold shape_Open.f
 repeat' first
   | (with_reducible exact ih0 _ _ _ _ _ _)
   | (with_reducible exact ih1 _ _ _ _ _ _)
   | (with_reducible exact LeO.refl _)
   | (with_reducible exact LeO.none _)
   | (with_reducible refine LeO.ite ?_ ?_)
   | (with_reducible refine LeO.bind ?_ (fun _ => ?_))
   | exact ih0 _ _ _ _ _ _
   | exact ih1 _ _ _ _ _ _
   | exact LeO.none _
   | refine LeO.ite ?_ ?_
   | refine LeO.bind ?_ (fun _ => ?_)
def shape_Open.T5 : Bool × List (List Nat × List Nat) := (true, [([], []), ([0], [0]), ([], []), ([2], [2]), ([3], [3]), ([1, 4], [1, 4]), ([5, 4], [5]), ([6], [6]), ([7, 6], [6, 7]), ([8, 6], [6, 8]), ([6, 9], [6, 9]), ([10, 6], [10])])
def shape_Open.B5 : List Nat := [0, 1, 0, 4, 12, 31, 63, 127, 255, 511, 1023, 2047]
theorem shape_Open.tab5 : rtab .any (opsOf Try.f31 5) = shape_Open.T5 := by kernel_rfl
theorem shape_Open.bits5 : waitsOk shape_Open.T5.2 shape_Open.B5 = true := by kernel_rfl
def shape_Open.T12 : Bool × List (List Nat × List Nat) := (true, [([], []), ([0], [0]), ([], []), ([2], [2]), ([3], [3]), ([], []), ([5], [5]), ([1, 4, 6], [1, 4, 6]), ([7, 4, 0, 1, 2, 3, 4, 5, 6, 7], [7])])
def shape_Open.B12 : List Nat := [0, 1, 0, 4, 12, 0, 32, 127, 255]
theorem shape_Open.tab12 : rtab .any (opsOf Try.f31 12) = shape_Open.T12 := by kernel_rfl
theorem shape_Open.bits12 : waitsOk shape_Open.T12.2 shape_Open.B12 = true := by kernel_rfl
def shape_Open.T13 : Bool × List (List Nat × List Nat) := (true, [([], []), ([0], [0]), ([], []), ([2], [2]), ([3], [3]), ([], []), ([5], [5]), ([6], [6]), ([4, 7], [4, 7]), ([8], [8]), ([], []), ([10], [10]), ([11], [11]), ([12], [12]), ([], []), ([14], [14]), ([13, 15], [13, 15]), ([1, 9, 16], [1, 9, 16]), ([17, 4, 0, 1, 2, 3, 4, 5, 6, 7, 8, 9, 10, 11, 12, 13, 14, 15, 16, 17], [17])])
def shape_Open.B13 : List Nat := [0, 1, 0, 4, 12, 0, 32, 96, 252, 508, 0, 1024, 3072, 7168, 0, 16384, 64512, 131071, 262143]
theorem shape_Open.tab13 : rtab .any (opsOf Try.f31 13) = shape_Open.T13 := by kernel_rfl
theorem shape_Open.bits13 : waitsOk shape_Open.T13.2 shape_Open.B13 = true := by kernel_rfl
theorem shape_Open.calls (k : Nat) (a0 : Int) (a1 : Int) (r1 : Bool) (r2 : Int) (r3 : Int) (r4 : Int) (w : World) (h : shape_Open.f k a0 a1 = some (r1, r2, r3, r4)) :
  Calls Try.prog 31 #[.int .i64 a0, .int .u64 a1] w fun e w' => e = .returned (.agg #[.bool r1, .int .i64 r2, .int .i64 r3, .int .u64 r4]) ∧ Below w.heap.size w w' := by
 have hu38 := Try.underlying38
 have hu70 := Try.underlying70
 have hu75 := Try.underlying75
 have HB := A_ (Below.refl w.heap.size w)
 have H : ((shape_of.f a0).bind fun bt108 => (if bt108.2.2 = true then ((shape_format_split.f bt108.1 bt108.2.1 a1).bind fun bt112 => ((shape_format_ones.f bt112.1 bt112.2.1).bind fun t118 => (if bt112.2.2.2.1 = t118 then (shape_Open.j0 k (bt112.2.2.2.2 != 0) bt112.1 bt112.2.1 bt112.2.2.1 bt112.2.2.2.1 bt112.2.2.2.2) else (shape_Open.j0 k false bt112.1 bt112.2.1 bt112.2.2.1 bt112.2.2.2.1 bt112.2.2.2.2)))) else (some (false, 0, 0, 0)))) = some (r1, r2, r3, r4) := h
 clear h
 replace H := ob_ H
 obtain ⟨⟨t108, t109, t110⟩, A30, H⟩ := H
 replace H : (if t110 = true then ((shape_format_split.f t108 t109 a1).bind fun bt112 => ((shape_format_ones.f bt112.1 bt112.2.1).bind fun t118 => (if bt112.2.2.2.1 = t118 then (shape_Open.j0 k (bt112.2.2.2.2 != 0) bt112.1 bt112.2.1 bt112.2.2.1 bt112.2.2.2.1 bt112.2.2.2.2) else (shape_Open.j0 k false bt112.1 bt112.2.1 bt112.2.2.1 bt112.2.2.2.1 bt112.2.2.2.2)))) else (some (false, 0, 0, 0))) = some (r1, r2, r3, r4) := H
 have A3 := A_ A30;clear A30
 by_cases c4 : t110 = true
 ·subst c4
  have H1 : ((shape_format_split.f t108 t109 a1).bind fun bt112 => ((shape_format_ones.f bt112.1 bt112.2.1).bind fun t118 => (if bt112.2.2.2.1 = t118 then (shape_Open.j0 k (bt112.2.2.2.2 != 0) bt112.1 bt112.2.1 bt112.2.2.1 bt112.2.2.2.1 bt112.2.2.2.2) else (shape_Open.j0 k false bt112.1 bt112.2.1 bt112.2.2.1 bt112.2.2.2.1 bt112.2.2.2.2)))) = some (r1, r2, r3, r4) := by rw [if_pos rfl] at H; exact H
  clear H;have H := H1;clear H1
  replace H := ob_ H
  obtain ⟨⟨t112, t113, t114, t115, t116⟩, A50, H⟩ := H
  replace H : ((shape_format_ones.f t112 t113).bind fun t118 => (if t115 = t118 then (shape_Open.j0 k (t116 != 0) t112 t113 t114 t115 t116) else (shape_Open.j0 k false t112 t113 t114 t115 t116))) = some (r1, r2, r3, r4) := H
  have A5 := A_ A50;clear A50;have HC6 := A_ H;clear H
  go_enter Try.func31, Try.ntmps31
  go_upto_region 5 with (first | ((with_reducible refine gate_dst (N := 4) rfl ?_); refine be_ 4 #[.bool false, .int .i64 0, .int .i64 0, .int .u64 0] 38 ?_; intro gb107 hg w7 hbox hb; have n0_ := A_ (below_step (hb_ HB.out) hb); have n1_ := A_ (hbox); have n2_ := A_ (sz_ hg (hb_ HB.out)); have n3_ := A_ (sz_ hg (hb_ HB.out)); clear HB; have HB := n0_; have BK107 := n1_; have GW107 := n2_; have GE107 := n3_; clear n0_ n1_ n2_ n3_; clear hb hbox hg) | ((with_reducible refine gate_callee (f := 67) rfl ?_); refine gl_ (some 10) Try.func67 #[.int .i64 a0] ?_; (with_reducible refine (shape_of.calls a0 t108 t109 true _ A3.out).mono ?_); rintro e w8 ⟨rfl, hb⟩; refine ⟨_, rfl, ?_⟩; have n0_ := A_ (bb_ BK107.out hb); have n1_ := A_ (below_step (hb1_ HB.out GE107.out) hb); clear BK107; clear HB; have BK107 := n0_; have HB := n1_; clear n0_ n1_; (try clear hb); (try clear hb2); (try clear hk); (try clear hi)) | ((with_reducible refine gate_dst (N := 5) rfl ?_); refine be_ 5 #[.int .i64 0, .int .i64 0] 70 ?_; intro gb111 hg w9 hbox hb; have n0_ := A_ (bb_ BK107.out hb); have n1_ := A_ (below_step (hb1_ HB.out GE107.out) hb); have n2_ := A_ (hbox); have n3_ := A_ (sz_ hg (hb1_ HB.out GE107.out)); have n4_ := A_ (sz_ hg (hb1_ HB.out GE107.out)); have n5_ := A_ (nl_ hg BK107.out); have n6_ := A_ (ng_ hg BK107.out); clear BK107; clear HB; have BK107 := n0_; have HB := n1_; have BK111 := n2_; have GW111 := n3_; have GE111 := n4_; have NB107_111 := n5_; have NB111_107 := n6_; clear n0_ n1_ n2_ n3_ n4_ n5_ n6_; clear hb hbox hg; have hnb10 := NB111_107.out; have hnc10 := NB107_111.out; have hcz11_0 : w9.cell? ⟨gb111, 0, none⟩ = some (.int .i64 0) := bc_ BK111.out 0; have hcz11_1 : w9.cell? ⟨gb111, 1, none⟩ = some (.int .i64 0) := bc_ BK111.out 1; have hfz11_0 := blk_frozen BK111.out 0; have hfz11_1 := blk_frozen BK111.out 1) | ((with_reducible refine gate_callee (f := 69) rfl ?_); refine gl_ (some 18) Try.func69 #[.agg #[.int .i64 t108, .int .i64 t109], .int .u64 a1] ?_; (with_reducible refine (shape_format_split.calls t108 t109 a1 t112 t113 t114 t115 t116 _ A5.out).mono ?_); rintro e w12 ⟨rfl, hb⟩; refine ⟨_, rfl, ?_⟩; have n0_ := A_ (blk_below (g := gb107) (o := .cells #[.bool false, .int .i64 0, .int .i64 0, .int .u64 0] 38 (0, 0)) (bf2_ BK107.out NB107_111.out NB107_111.out) hb); have n1_ := A_ (blk_below (g := gb111) (o := .cells #[.int .i64 t108, .int .i64 t109] 70 (0, 0)) (by (with_reducible repeat (first | refine blk_drewN ?_ _ | refine blk_drew ?_ | refine blk_alloc ?_ _)); refine blk_put (cs := #[.int .i64 t108, .int .i64 0]) ?_ 1 _ rfl; (with_reducible repeat (first | refine blk_drewN ?_ _ | refine blk_drew ?_ | refine blk_alloc ?_ _)); refine blk_put (cs := #[.int .i64 0, .int .i64 0]) ?_ 0 _ rfl; (with_reducible repeat (first | refine blk_drewN ?_ _ | refine blk_drew ?_ | refine blk_alloc ?_ _)); exact BK111.out) hb); have n2_ := A_ (below_step (hb2_ HB.out GE107.out GE111.out) hb); clear BK107; clear BK111; clear HB; have BK107 := n0_; have BK111 := n1_; have HB := n2_; clear n0_ n1_ n2_; (try clear hb); (try clear hb2); (try clear hk); (try clear hi)) | ((with_reducible refine gate_dst (N := 7) rfl ?_); refine be_ 7 #[.int .i64 0, .int .i64 0, .bool false, .int .u64 0, .int .u64 0] 75 ?_; intro gb117 hg w13 hbox hb; have n0_ := A_ (bb_ BK107.out hb); have n1_ := A_ (bb_ BK111.out hb); have n2_ := A_ (below_step (hb2_ HB.out GE107.out GE111.out) hb); have n3_ := A_ (hbox); have n4_ := A_ (sz_ hg (hb2_ HB.out GE107.out GE111.out)); have n5_ := A_ (sz_ hg (hb2_ HB.out GE107.out GE111.out)); have n6_ := A_ (nl_ hg BK107.out); have n7_ := A_ (ng_ hg BK107.out); have n8_ := A_ (nl_ hg BK111.out); have n9_ := A_ (ng_ hg BK111.out); clear BK107; clear BK111; clear HB; have BK107 := n0_; have BK111 := n1_; have HB := n2_; have BK117 := n3_; have GW117 := n4_; have GE117 := n5_; have NB107_117 := n6_; have NB117_107 := n7_; have NB111_117 := n8_; have NB117_111 := n9_; clear n0_ n1_ n2_ n3_ n4_ n5_ n6_ n7_ n8_ n9_; clear hb hbox hg; have hnb14 := NB117_107.out; have hnc14 := NB107_117.out; have hnb15 := NB117_111.out; have hnc15 := NB111_117.out; have hcz16_0 : w13.cell? ⟨gb117, 0, none⟩ = some (.int .i64 0) := bc_ BK117.out 0; have hcz16_1 : w13.cell? ⟨gb117, 1, none⟩ = some (.int .i64 0) := bc_ BK117.out 1; have hcz16_2 : w13.cell? ⟨gb117, 2, none⟩ = some (.bool false) := bc_ BK117.out 2; have hcz16_3 : w13.cell? ⟨gb117, 3, none⟩ = some (.int .u64 0) := bc_ BK117.out 3; have hcz16_4 : w13.cell? ⟨gb117, 4, none⟩ = some (.int .u64 0) := bc_ BK117.out 4; have hfz16_0 := blk_frozen BK117.out 0; have hfz16_1 := blk_frozen BK117.out 1; have hfz16_2 := blk_frozen BK117.out 2; have hfz16_3 := blk_frozen BK117.out 3; have hfz16_4 := blk_frozen BK117.out 4))
  (try simp only [Act.put, lI_, l0_, lS_])
  go_cut [19] (fun v19 wc => ∃ (kq : Nat) (x19_5 : Bool), v19 = .bool x19_5 ∧ Aside0 (shape_Open.j0 kq x19_5 t112 t113 t114 t115 t116 = some (r1, r2, r3, r4)) ∧ Aside0 (kq ≤ k) ∧ Aside0 (wc.heap[gb107]? = some (.cells #[.bool false, .int .i64 0, .int .i64 0, .int .u64 0] 38 (0, 0))) ∧ Aside0 (wc.heap[gb111]? = some (.cells #[.int .i64 t108, .int .i64 t109] 70 (0, 0))) ∧ Aside0 (wc.heap[gb117]? = some (.cells #[.int .i64 t112, .int .i64 t113, .bool t114, .int .u64 t115, .int .u64 t116] 75 (0, 0))) ∧ Aside0 (Below w.heap.size w wc))
  case first =>
   have H := HC6.out
   clear HC6
   replace H := ob_ H
   obtain ⟨t118, A170, H⟩ := H
   replace H : (if t115 = t118 then (shape_Open.j0 k (t116 != 0) t112 t113 t114 t115 t116) else (shape_Open.j0 k false t112 t113 t114 t115 t116)) = some (r1, r2, r3, r4) := H
   have A17 := A_ A170;clear A170
   by_cases c18 : t115 = t118
   ·rw [if_pos c18] at H
    have c18b0 : (t115 == t118) = true := beq_iff_eq.mpr c18
    have c18b1 : (t115 != t118) = false := bne_eq_false_iff_eq.mpr c18
    clear c18
    (first | rw [c18b0] | (simp only [i64_w, i32_w]; rw [c18b0]) | skip)
    have H' := A_ H
    clear H
    try go_wp2
    have n0_ : Aside0 ((((((w13.setCell ⟨gb117, 0, none⟩ (.int .i64 t112)).setCell ⟨gb117, 1, none⟩ (.int .i64 t113)).setCell ⟨gb117, 2, none⟩ (.bool t114)).setCell ⟨gb117, 3, none⟩ (.int .u64 t115)).setCell ⟨gb117, 4, none⟩ (.int .u64 t116)).heap[gb107]? = some (.cells #[.bool false, .int .i64 0, .int .i64 0, .int .u64 0] 38 (0, 0))) := ⟨bf5_ BK107.out NB107_117.out NB107_117.out NB107_117.out NB107_117.out NB107_117.out⟩
    have n1_ : Aside0 ((((((w13.setCell ⟨gb117, 0, none⟩ (.int .i64 t112)).setCell ⟨gb117, 1, none⟩ (.int .i64 t113)).setCell ⟨gb117, 2, none⟩ (.bool t114)).setCell ⟨gb117, 3, none⟩ (.int .u64 t115)).setCell ⟨gb117, 4, none⟩ (.int .u64 t116)).heap[gb111]? = some (.cells #[.int .i64 t108, .int .i64 t109] 70 (0, 0))) := ⟨bf5_ BK111.out NB111_117.out NB111_117.out NB111_117.out NB111_117.out NB111_117.out⟩
    have n2_ : Aside0 ((((((w13.setCell ⟨gb117, 0, none⟩ (.int .i64 t112)).setCell ⟨gb117, 1, none⟩ (.int .i64 t113)).setCell ⟨gb117, 2, none⟩ (.bool t114)).setCell ⟨gb117, 3, none⟩ (.int .u64 t115)).setCell ⟨gb117, 4, none⟩ (.int .u64 t116)).heap[gb117]? = some (.cells #[.int .i64 t112, .int .i64 t113, .bool t114, .int .u64 t115, .int .u64 t116] 75 (0, 0))) := ⟨by (with_reducible repeat (first | refine blk_drewN ?_ _ | refine blk_drew ?_ | refine blk_alloc ?_ _)); refine blk_put (cs := #[.int .i64 t112, .int .i64 t113, .bool t114, .int .u64 t115, .int .u64 0]) ?_ 4 _ rfl; (with_reducible repeat (first | refine blk_drewN ?_ _ | refine blk_drew ?_ | refine blk_alloc ?_ _)); refine blk_put (cs := #[.int .i64 t112, .int .i64 t113, .bool t114, .int .u64 0, .int .u64 0]) ?_ 3 _ rfl; (with_reducible repeat (first | refine blk_drewN ?_ _ | refine blk_drew ?_ | refine blk_alloc ?_ _)); refine blk_put (cs := #[.int .i64 t112, .int .i64 t113, .bool false, .int .u64 0, .int .u64 0]) ?_ 2 _ rfl; (with_reducible repeat (first | refine blk_drewN ?_ _ | refine blk_drew ?_ | refine blk_alloc ?_ _)); refine blk_put (cs := #[.int .i64 t112, .int .i64 0, .bool false, .int .u64 0, .int .u64 0]) ?_ 1 _ rfl; (with_reducible repeat (first | refine blk_drewN ?_ _ | refine blk_drew ?_ | refine blk_alloc ?_ _)); refine blk_put (cs := #[.int .i64 0, .int .i64 0, .bool false, .int .u64 0, .int .u64 0]) ?_ 0 _ rfl; (with_reducible repeat (first | refine blk_drewN ?_ _ | refine blk_drew ?_ | refine blk_alloc ?_ _)); exact BK117.out⟩
    have n3_ : Aside0 (Below w.heap.size w (((((w13.setCell ⟨gb117, 0, none⟩ (.int .i64 t112)).setCell ⟨gb117, 1, none⟩ (.int .i64 t113)).setCell ⟨gb117, 2, none⟩ (.bool t114)).setCell ⟨gb117, 3, none⟩ (.int .u64 t115)).setCell ⟨gb117, 4, none⟩ (.int .u64 t116))) := ⟨hb3_ HB.out GE107.out GE111.out GE117.out⟩
    (try clear BK107);(try clear BK111);(try clear BK117);(try clear HB)
    generalize (((((w13.setCell ⟨gb117, 0, none⟩ (.int .i64 t112)).setCell ⟨gb117, 1, none⟩ (.int .i64 t113)).setCell ⟨gb117, 2, none⟩ (.bool t114)).setCell ⟨gb117, 3, none⟩ (.int .u64 t115)).setCell ⟨gb117, 4, none⟩ (.int .u64 t116)) = w19 at n0_ n1_ n2_ n3_ ⊢
    have BK107 := n0_;have BK111 := n1_;have BK117 := n2_;have HB := n3_;clear n0_ n1_ n2_ n3_
    have n0_ := A_ (blk_drew BK107.out)
    have n1_ := A_ (blk_drew BK111.out)
    have n2_ := A_ (blk_drew BK117.out)
    have n3_ := A_ (below_drew1 HB.out)
    clear BK107;clear BK111;clear BK117;clear HB;have BK107 := n0_;have BK111 := n1_;have BK117 := n2_;have HB := n3_;clear n0_ n1_ n2_ n3_
    refine start_ (n := 12) (S := fun w' => w'.cell? ⟨gb117, 0, none⟩ = some (.int .i64 t112) ∧ w'.cell? ⟨gb117, 1, none⟩ = some (.int .i64 t113) ∧ w'.cell? ⟨gb117, 2, none⟩ = some (.bool t114) ∧ w'.cell? ⟨gb117, 3, none⟩ = some (.int .u64 t115) ∧ w'.cell? ⟨gb117, 4, none⟩ = some (.int .u64 t116)) (ds := []) #[false, false, false, false, false, false, false, false, false, false, false, false] (by kernel_rfl) rfl rfl ⟨bc_ BK117.out 0, bc_ BK117.out 1, bc_ BK117.out 2, bc_ BK117.out 3, bc_ BK117.out 4⟩ (fun hHeld => ?_); refine with_tabW shape_Open.tab5 shape_Open.bits5 (fun HT_ HW_ => ?_)
    generalize w19.drew = w20 at BK107 BK111 BK117 HB hHeld ⊢
    refine pu_ 0 (some 20) #[true, false, false, false, false, false, false, false, false, false, false, false] rfl rfl (any_of HT_.out (by kernel_rfl)) ?_
    refine pu_ 2 (some 22) #[true, false, true, false, false, false, false, false, false, false, false, false] rfl rfl (any_of HT_.out (by kernel_rfl)) ?_
    refine tk5_ 1 (some 21) #[true, true, true, false, false, false, false, false, false, false, false, false] rfl rfl (take_ofW HT_.out HW_.out (by kernel_rfl)) hHeld ?_
    refine tk5_ 3 (some 23) #[true, true, true, true, false, false, false, false, false, false, false, false] rfl rfl (take_ofW HT_.out HW_.out (by kernel_rfl)) hHeld ?_
    refine one_ (i := 4) (N := some 24) #[true, true, true, true, true, false, false, false, false, false, false, false] rfl rfl (one_of HT_.out (by kernel_rfl)) (by decide) (fun K hK => ?_)
    refine goes_ Try.func70 (by kernel_rfl) rfl #[.agg #[.int .i64 t112, .int .i64 t113]] (by rfl) rfl rfl mp_ ?_
    with_reducible refine (shape_format_ones.calls t112 t113 t118 _ A17.out).mono ?_
    rintro e w21 ⟨rfl, hb⟩
    refine ⟨_, rfl, ?_⟩
    have n0_ := A_ (bb_ BK107.out hb)
    have n1_ := A_ (bb_ BK111.out hb)
    have n2_ := A_ (bb_ BK117.out hb)
    have n3_ := A_ (below_step (hb3_ HB.out GE107.out GE111.out GE117.out) hb)
    clear BK107;clear BK111;clear BK117;clear HB;have BK107 := n0_;have BK111 := n1_;have BK117 := n2_;have HB := n3_;clear n0_ n1_ n2_ n3_;(try clear hb);(try clear hb2);(try clear hk);(try clear hi)
    refine hK.out _ _ ⟨bc_ BK117.out 0, bc_ BK117.out 1, bc_ BK117.out 2, bc_ BK117.out 3, bc_ BK117.out 4⟩ (fun hHeld => ?_)
    clear hK K
    refine norm_ (a' := ?_) ?_ ?_
    rotate_left
    ·show Act.put _ (some 24) _ = _
     simp only [Act.put, lI_, l0_, lS_, i64_w, i32_w]
     rfl
    refine pu_ 5 (some 25) #[true, true, true, true, true, true, false, false, false, false, false, false] rfl rfl (any_of HT_.out (by kernel_rfl)) ?_
    refine pu_ 6 (some 26) #[true, true, true, true, true, true, true, false, false, false, false, false] rfl rfl (any_of HT_.out (by kernel_rfl)) ?_
    refine pu_ 7 (some 27) #[true, true, true, true, true, true, true, true, false, false, false, false] rfl rfl (any_of HT_.out (by kernel_rfl)) ?_
    refine tk5_ 8 (some 28) #[true, true, true, true, true, true, true, true, true, false, false, false] rfl rfl (take_ofW HT_.out HW_.out (by kernel_rfl)) hHeld ?_
    refine pu_ 9 (some 29) #[true, true, true, true, true, true, true, true, true, true, false, false] rfl rfl (any_of HT_.out (by kernel_rfl)) ?_
    refine pu_ 10 (some 30) #[true, true, true, true, true, true, true, true, true, true, true, false] rfl rfl (any_of HT_.out (by kernel_rfl)) ?_
    refine pu_ 11 (some 19) #[true, true, true, true, true, true, true, true, true, true, true, true] rfl rfl (any_of HT_.out (by kernel_rfl)) ?_
    refine done_ (done_of HT_.out (by kernel_rfl)) ?_
    try go_wp2
    go_meet
    case rel => exact ⟨_, ((t116 != 0)), sm_, H', ⟨by first | omega | exact Nat.le_refl _⟩, ⟨bk_ BK107.out⟩, ⟨bk_ BK111.out⟩, ⟨bk_ BK117.out⟩, ⟨hb3_ HB.out GE107.out GE111.out GE117.out⟩⟩
   ·rw [if_neg c18] at H
    have c18b0 : (t115 == t118) = false := beq_eq_false_iff_ne.mpr c18
    have c18b1 : (t115 != t118) = true := bne_iff_ne.mpr c18
    (first | rw [c18b0] | (simp only [i64_w, i32_w]; rw [c18b0]) | skip)
    have H' := A_ H
    clear H
    try go_wp2
    have n0_ : Aside0 ((((((w13.setCell ⟨gb117, 0, none⟩ (.int .i64 t112)).setCell ⟨gb117, 1, none⟩ (.int .i64 t113)).setCell ⟨gb117, 2, none⟩ (.bool t114)).setCell ⟨gb117, 3, none⟩ (.int .u64 t115)).setCell ⟨gb117, 4, none⟩ (.int .u64 t116)).heap[gb107]? = some (.cells #[.bool false, .int .i64 0, .int .i64 0, .int .u64 0] 38 (0, 0))) := ⟨bf5_ BK107.out NB107_117.out NB107_117.out NB107_117.out NB107_117.out NB107_117.out⟩
    have n1_ : Aside0 ((((((w13.setCell ⟨gb117, 0, none⟩ (.int .i64 t112)).setCell ⟨gb117, 1, none⟩ (.int .i64 t113)).setCell ⟨gb117, 2, none⟩ (.bool t114)).setCell ⟨gb117, 3, none⟩ (.int .u64 t115)).setCell ⟨gb117, 4, none⟩ (.int .u64 t116)).heap[gb111]? = some (.cells #[.int .i64 t108, .int .i64 t109] 70 (0, 0))) := ⟨bf5_ BK111.out NB111_117.out NB111_117.out NB111_117.out NB111_117.out NB111_117.out⟩
    have n2_ : Aside0 ((((((w13.setCell ⟨gb117, 0, none⟩ (.int .i64 t112)).setCell ⟨gb117, 1, none⟩ (.int .i64 t113)).setCell ⟨gb117, 2, none⟩ (.bool t114)).setCell ⟨gb117, 3, none⟩ (.int .u64 t115)).setCell ⟨gb117, 4, none⟩ (.int .u64 t116)).heap[gb117]? = some (.cells #[.int .i64 t112, .int .i64 t113, .bool t114, .int .u64 t115, .int .u64 t116] 75 (0, 0))) := ⟨by (with_reducible repeat (first | refine blk_drewN ?_ _ | refine blk_drew ?_ | refine blk_alloc ?_ _)); refine blk_put (cs := #[.int .i64 t112, .int .i64 t113, .bool t114, .int .u64 t115, .int .u64 0]) ?_ 4 _ rfl; (with_reducible repeat (first | refine blk_drewN ?_ _ | refine blk_drew ?_ | refine blk_alloc ?_ _)); refine blk_put (cs := #[.int .i64 t112, .int .i64 t113, .bool t114, .int .u64 0, .int .u64 0]) ?_ 3 _ rfl; (with_reducible repeat (first | refine blk_drewN ?_ _ | refine blk_drew ?_ | refine blk_alloc ?_ _)); refine blk_put (cs := #[.int .i64 t112, .int .i64 t113, .bool false, .int .u64 0, .int .u64 0]) ?_ 2 _ rfl; (with_reducible repeat (first | refine blk_drewN ?_ _ | refine blk_drew ?_ | refine blk_alloc ?_ _)); refine blk_put (cs := #[.int .i64 t112, .int .i64 0, .bool false, .int .u64 0, .int .u64 0]) ?_ 1 _ rfl; (with_reducible repeat (first | refine blk_drewN ?_ _ | refine blk_drew ?_ | refine blk_alloc ?_ _)); refine blk_put (cs := #[.int .i64 0, .int .i64 0, .bool false, .int .u64 0, .int .u64 0]) ?_ 0 _ rfl; (with_reducible repeat (first | refine blk_drewN ?_ _ | refine blk_drew ?_ | refine blk_alloc ?_ _)); exact BK117.out⟩
    have n3_ : Aside0 (Below w.heap.size w (((((w13.setCell ⟨gb117, 0, none⟩ (.int .i64 t112)).setCell ⟨gb117, 1, none⟩ (.int .i64 t113)).setCell ⟨gb117, 2, none⟩ (.bool t114)).setCell ⟨gb117, 3, none⟩ (.int .u64 t115)).setCell ⟨gb117, 4, none⟩ (.int .u64 t116))) := ⟨hb3_ HB.out GE107.out GE111.out GE117.out⟩
    (try clear BK107);(try clear BK111);(try clear BK117);(try clear HB)
    generalize (((((w13.setCell ⟨gb117, 0, none⟩ (.int .i64 t112)).setCell ⟨gb117, 1, none⟩ (.int .i64 t113)).setCell ⟨gb117, 2, none⟩ (.bool t114)).setCell ⟨gb117, 3, none⟩ (.int .u64 t115)).setCell ⟨gb117, 4, none⟩ (.int .u64 t116)) = w22 at n0_ n1_ n2_ n3_ ⊢
    have BK107 := n0_;have BK111 := n1_;have BK117 := n2_;have HB := n3_;clear n0_ n1_ n2_ n3_
    have n0_ := A_ (blk_drew BK107.out)
    have n1_ := A_ (blk_drew BK111.out)
    have n2_ := A_ (blk_drew BK117.out)
    have n3_ := A_ (below_drew1 HB.out)
    clear BK107;clear BK111;clear BK117;clear HB;have BK107 := n0_;have BK111 := n1_;have BK117 := n2_;have HB := n3_;clear n0_ n1_ n2_ n3_
    refine start_ (n := 12) (S := fun w' => w'.cell? ⟨gb117, 0, none⟩ = some (.int .i64 t112) ∧ w'.cell? ⟨gb117, 1, none⟩ = some (.int .i64 t113) ∧ w'.cell? ⟨gb117, 2, none⟩ = some (.bool t114) ∧ w'.cell? ⟨gb117, 3, none⟩ = some (.int .u64 t115) ∧ w'.cell? ⟨gb117, 4, none⟩ = some (.int .u64 t116)) (ds := []) #[false, false, false, false, false, false, false, false, false, false, false, false] (by kernel_rfl) rfl rfl ⟨bc_ BK117.out 0, bc_ BK117.out 1, bc_ BK117.out 2, bc_ BK117.out 3, bc_ BK117.out 4⟩ (fun hHeld => ?_); refine with_tabW shape_Open.tab5 shape_Open.bits5 (fun HT_ HW_ => ?_)
    generalize w22.drew = w23 at BK107 BK111 BK117 HB hHeld ⊢
    refine pu_ 0 (some 20) #[true, false, false, false, false, false, false, false, false, false, false, false] rfl rfl (any_of HT_.out (by kernel_rfl)) ?_
    refine pu_ 2 (some 22) #[true, false, true, false, false, false, false, false, false, false, false, false] rfl rfl (any_of HT_.out (by kernel_rfl)) ?_
    refine tk5_ 1 (some 21) #[true, true, true, false, false, false, false, false, false, false, false, false] rfl rfl (take_ofW HT_.out HW_.out (by kernel_rfl)) hHeld ?_
    refine tk5_ 3 (some 23) #[true, true, true, true, false, false, false, false, false, false, false, false] rfl rfl (take_ofW HT_.out HW_.out (by kernel_rfl)) hHeld ?_
    refine one_ (i := 4) (N := some 24) #[true, true, true, true, true, false, false, false, false, false, false, false] rfl rfl (one_of HT_.out (by kernel_rfl)) (by decide) (fun K hK => ?_)
    refine goes_ Try.func70 (by kernel_rfl) rfl #[.agg #[.int .i64 t112, .int .i64 t113]] (by rfl) rfl rfl mp_ ?_
    with_reducible refine (shape_format_ones.calls t112 t113 t118 _ A17.out).mono ?_
    rintro e w24 ⟨rfl, hb⟩
    refine ⟨_, rfl, ?_⟩
    have n0_ := A_ (bb_ BK107.out hb)
    have n1_ := A_ (bb_ BK111.out hb)
    have n2_ := A_ (bb_ BK117.out hb)
    have n3_ := A_ (below_step (hb3_ HB.out GE107.out GE111.out GE117.out) hb)
    clear BK107;clear BK111;clear BK117;clear HB;have BK107 := n0_;have BK111 := n1_;have BK117 := n2_;have HB := n3_;clear n0_ n1_ n2_ n3_;(try clear hb);(try clear hb2);(try clear hk);(try clear hi)
    refine hK.out _ _ ⟨bc_ BK117.out 0, bc_ BK117.out 1, bc_ BK117.out 2, bc_ BK117.out 3, bc_ BK117.out 4⟩ (fun hHeld => ?_)
    clear hK K
    refine norm_ (a' := ?_) ?_ ?_
    rotate_left
    ·show Act.put _ (some 24) _ = _
     simp only [Act.put, lI_, l0_, lS_, i64_w, i32_w]
     rfl
    refine pu_ 5 (some 25) #[true, true, true, true, true, true, false, false, false, false, false, false] rfl rfl (any_of HT_.out (by kernel_rfl)) ?_
    refine pu_ 6 (some 26) #[true, true, true, true, true, true, true, false, false, false, false, false] rfl rfl (any_of HT_.out (by kernel_rfl)) ?_
    refine pure_ (i := 7) (N := some 27) (v := undef) (a' := ?_) #[true, true, true, true, true, true, true, true, false, false, false, false] rfl rfl (any_of HT_.out (by kernel_rfl)) (fun _ _ _ h => h) (Or.inr ⟨by rfl, rfl⟩) ?_ ?_
    rotate_left
    ·simp only [Act.put, lI_, l0_, lS_, i64_w, i32_w]
     rfl
    refine pure_ (i := 8) (N := some 28) (v := undef) (a' := ?_) #[true, true, true, true, true, true, true, true, true, false, false, false] rfl rfl (any_of HT_.out (by kernel_rfl)) (fun _ _ _ h => h) (Or.inr ⟨by rfl, rfl⟩) ?_ ?_
    rotate_left
    ·simp only [Act.put, lI_, l0_, lS_, i64_w, i32_w]
     rfl
    refine pure_ (i := 9) (N := some 29) (v := undef) (a' := ?_) #[true, true, true, true, true, true, true, true, true, true, false, false] rfl rfl (any_of HT_.out (by kernel_rfl)) (fun _ _ _ h => h) (Or.inr ⟨by rfl, rfl⟩) ?_ ?_
    rotate_left
    ·simp only [Act.put, lI_, l0_, lS_, i64_w, i32_w]
     rfl
    refine pu_ 10 (some 30) #[true, true, true, true, true, true, true, true, true, true, true, false] rfl rfl (any_of HT_.out (by kernel_rfl)) ?_
    refine pu_ 11 (some 19) #[true, true, true, true, true, true, true, true, true, true, true, true] rfl rfl (any_of HT_.out (by kernel_rfl)) ?_
    refine done_ (done_of HT_.out (by kernel_rfl)) ?_
    try go_wp2
    go_meet
    case rel => exact ⟨_, (false), sm_, H', ⟨by first | omega | exact Nat.le_refl _⟩, ⟨bk_ BK107.out⟩, ⟨bk_ BK111.out⟩, ⟨bk_ BK117.out⟩, ⟨hb3_ HB.out GE107.out GE111.out GE117.out⟩⟩
  case rest =>
   clear HC6
   try clear c1
   try clear p2
   try clear c3
   try clear c4
   try clear c6
   try clear c7
   try clear c10
   try clear c14
   try clear c15
   try clear c18
   try clear c18b0
   try clear c18b1
   try clear hcz11_0
   try clear hcz11_1
   try clear hcz16_0
   try clear hcz16_1
   try clear hcz16_2
   try clear hcz16_3
   try clear hcz16_4
   try clear hfz11_0
   try clear hfz11_1
   try clear hfz16_0
   try clear hfz16_1
   try clear hfz16_2
   try clear hfz16_3
   try clear hfz16_4
   obtain ⟨kq, x19_5, rfl, HA, HJ5, BK107, BK111, BK117, HB⟩ := hcut
   cases kq with
   | zero => exact absurd HA.out (by simp [shape_Open.j0])
   | succ kj5 =>
    have H := HA.out
    clear HA
    simp only [shape_Open.j0] at H
    by_cases c25 : x19_5 = true
    ·subst c25
     have H1 : (some (false, 3, 0, 0)) = some (r1, r2, r3, r4) := by rw [if_pos rfl] at H; exact H
     clear H;have H := H1;clear H1
     simp only [Option.some.injEq, Prod.mk.injEq] at H
     obtain ⟨rfl, rfl, rfl, rfl⟩ := H
     have hnb26 := NB107_111.out
     have hnc26 := NB111_107.out
     have hnb27 := NB107_117.out
     have hnc27 := NB117_107.out
     have hcz28_0 : wc.cell? ⟨gb107, 0, none⟩ = some (.bool false) := bc_ BK107.out 0
     have hcz28_1 : wc.cell? ⟨gb107, 1, none⟩ = some (.int .i64 0) := bc_ BK107.out 1
     have hcz28_2 : wc.cell? ⟨gb107, 2, none⟩ = some (.int .i64 0) := bc_ BK107.out 2
     have hcz28_3 : wc.cell? ⟨gb107, 3, none⟩ = some (.int .u64 0) := bc_ BK107.out 3
     have hfz28_0 := blk_frozen BK107.out 0
     have hfz28_1 := blk_frozen BK107.out 1
     have hfz28_2 := blk_frozen BK107.out 2
     have hfz28_3 := blk_frozen BK107.out 3
     go_wp2
     refine bodyPost_ret (results_cell_row rfl _ _ gb107 38 #[.bool false, .int .i64 3, .int .i64 0, .int .u64 0] (0, 0) _ rfl (by (with_reducible repeat (first | refine blk_drewN ?_ _ | refine blk_drew ?_ | refine blk_alloc ?_ _)); refine blk_put (cs := #[.bool false, .int .i64 3, .int .i64 0, .int .u64 0]) ?_ 3 _ rfl; (with_reducible repeat (first | refine blk_drewN ?_ _ | refine blk_drew ?_ | refine blk_alloc ?_ _)); refine blk_put (cs := #[.bool false, .int .i64 3, .int .i64 0, .int .u64 0]) ?_ 2 _ rfl; (with_reducible repeat (first | refine blk_drewN ?_ _ | refine blk_drew ?_ | refine blk_alloc ?_ _)); refine blk_put (cs := #[.bool false, .int .i64 0, .int .i64 0, .int .u64 0]) ?_ 1 _ rfl; (with_reducible repeat (first | refine blk_drewN ?_ _ | refine blk_drew ?_ | refine blk_alloc ?_ _)); refine blk_put (cs := #[.bool false, .int .i64 0, .int .i64 0, .int .u64 0]) ?_ 0 _ rfl; (with_reducible repeat (first | refine blk_drewN ?_ _ | refine blk_drew ?_ | refine blk_alloc ?_ _)); exact BK107.out) Try.underlying38 rfl (by kernel_rfl)) rfl ?_
     exact ⟨er_, hb3_ HB.out GE107.out GE111.out GE117.out⟩
    ·replace c25 := Bool.eq_false_iff.mpr c25
     subst c25
     have H1 : ((shape_format_ones.f t112 t113).bind fun t119 => (if t115 = t119 then (some (t114, 2, 0, 0)) else (if t115 = 0 then (shape_Open.j1 kj5 (t116 == 0) t112 t113 t114 t115 t116) else (shape_Open.j1 kj5 false t112 t113 t114 t115 t116)))) = some (r1, r2, r3, r4) := by rw [if_neg (show ¬ (false = true) by decide)] at H; exact H
     clear H;have H := H1;clear H1
     replace H := ob_ H
     obtain ⟨t119, A290, H⟩ := H
     replace H : (if t115 = t119 then (some (t114, 2, 0, 0)) else (if t115 = 0 then (shape_Open.j1 kj5 (t116 == 0) t112 t113 t114 t115 t116) else (shape_Open.j1 kj5 false t112 t113 t114 t115 t116))) = some (r1, r2, r3, r4) := H
     have A29 := A_ A290;clear A290
     by_cases c30 : t115 = t119
     ·rw [if_pos c30] at H
      have c30b0 : (t115 == t119) = true := beq_iff_eq.mpr c30
      have c30b1 : (t115 != t119) = false := bne_eq_false_iff_eq.mpr c30
      clear c30
      simp only [Option.some.injEq, Prod.mk.injEq] at H
      obtain ⟨rfl, rfl, rfl, rfl⟩ := H
      try go_wp2
      have n0_ := A_ (blk_drew BK107.out)
      have n1_ := A_ (blk_drew BK111.out)
      have n2_ := A_ (blk_drew BK117.out)
      have n3_ := A_ (below_drew1 HB.out)
      clear BK107;clear BK111;clear BK117;clear HB;have BK107 := n0_;have BK111 := n1_;have BK117 := n2_;have HB := n3_;clear n0_ n1_ n2_ n3_
      refine start_ (n := 7) (S := fun w' => w'.cell? ⟨gb117, 0, none⟩ = some (.int .i64 t112) ∧ w'.cell? ⟨gb117, 1, none⟩ = some (.int .i64 t113) ∧ w'.cell? ⟨gb117, 2, none⟩ = some (.bool t114) ∧ w'.cell? ⟨gb117, 3, none⟩ = some (.int .u64 t115) ∧ w'.cell? ⟨gb117, 4, none⟩ = some (.int .u64 t116)) (ds := []) #[false, false, false, false, false, false, false] (by kernel_rfl) rfl rfl ⟨bc_ BK117.out 0, bc_ BK117.out 1, bc_ BK117.out 2, bc_ BK117.out 3, bc_ BK117.out 4⟩ (fun hHeld => ?_)
      generalize wc.drew = w31 at BK107 BK111 BK117 HB hHeld ⊢
      refine pu_ 0 (some 33) #[true, false, false, false, false, false, false] rfl rfl (by kernel_rfl) ?_
      refine pu_ 2 (some 35) #[true, false, true, false, false, false, false] rfl rfl (by kernel_rfl) ?_
      refine tk5_ 1 (some 34) #[true, true, true, false, false, false, false] rfl rfl (by kernel_rfl) hHeld ?_
      refine tk5_ 3 (some 36) #[true, true, true, true, false, false, false] rfl rfl (by kernel_rfl) hHeld ?_
      refine one_ (i := 4) (N := some 37) #[true, true, true, true, true, false, false] rfl rfl (by kernel_rfl) (by decide) (fun K hK => ?_)
      refine goes_ Try.func70 (by kernel_rfl) rfl #[.agg #[.int .i64 t112, .int .i64 t113]] (by rfl) rfl rfl mp_ ?_
      with_reducible refine (shape_format_ones.calls t112 t113 t119 _ A29.out).mono ?_
      rintro e w32 ⟨rfl, hb⟩
      refine ⟨_, rfl, ?_⟩
      have n0_ := A_ (bb_ BK107.out hb)
      have n1_ := A_ (bb_ BK111.out hb)
      have n2_ := A_ (bb_ BK117.out hb)
      have n3_ := A_ (below_step (hb3_ HB.out GE107.out GE111.out GE117.out) hb)
      clear BK107;clear BK111;clear BK117;clear HB;have BK107 := n0_;have BK111 := n1_;have BK117 := n2_;have HB := n3_;clear n0_ n1_ n2_ n3_;(try clear hb);(try clear hb2);(try clear hk);(try clear hi)
      refine hK.out _ _ ⟨bc_ BK117.out 0, bc_ BK117.out 1, bc_ BK117.out 2, bc_ BK117.out 3, bc_ BK117.out 4⟩ (fun hHeld => ?_)
      clear hK K
      refine norm_ (a' := ?_) ?_ ?_
      rotate_left
      ·show Act.put _ (some 37) _ = _
       simp only [Act.put, lI_, l0_, lS_, i64_w, i32_w]
       rfl
      refine pu_ 5 (some 38) #[true, true, true, true, true, true, false] rfl rfl (by kernel_rfl) ?_
      refine pu_ 6 (some 32) #[true, true, true, true, true, true, true] rfl rfl (by kernel_rfl) ?_
      refine done_ (by kernel_rfl) ?_
      have hnb33 := NB117_107.out
      have hnc33 := NB107_117.out
      have hnb34 := NB117_111.out
      have hnc34 := NB111_117.out
      have hcz35_0 : w32.cell? ⟨gb117, 0, none⟩ = some (.int .i64 t112) := bc_ BK117.out 0
      have hcz35_1 : w32.cell? ⟨gb117, 1, none⟩ = some (.int .i64 t113) := bc_ BK117.out 1
      have hcz35_2 : w32.cell? ⟨gb117, 2, none⟩ = some (.bool t114) := bc_ BK117.out 2
      have hcz35_3 : w32.cell? ⟨gb117, 3, none⟩ = some (.int .u64 t115) := bc_ BK117.out 3
      have hcz35_4 : w32.cell? ⟨gb117, 4, none⟩ = some (.int .u64 t116) := bc_ BK117.out 4
      have hfz35_0 := blk_frozen BK117.out 0
      have hfz35_1 := blk_frozen BK117.out 1
      have hfz35_2 := blk_frozen BK117.out 2
      have hfz35_3 := blk_frozen BK117.out 3
      have hfz35_4 := blk_frozen BK117.out 4
      have hnb36 := NB107_111.out
      have hnc36 := NB111_107.out
      have hcz37_0 : w32.cell? ⟨gb107, 0, none⟩ = some (.bool false) := bc_ BK107.out 0
      have hcz37_1 : w32.cell? ⟨gb107, 1, none⟩ = some (.int .i64 0) := bc_ BK107.out 1
      have hcz37_2 : w32.cell? ⟨gb107, 2, none⟩ = some (.int .i64 0) := bc_ BK107.out 2
      have hcz37_3 : w32.cell? ⟨gb107, 3, none⟩ = some (.int .u64 0) := bc_ BK107.out 3
      have hfz37_0 := blk_frozen BK107.out 0
      have hfz37_1 := blk_frozen BK107.out 1
      have hfz37_2 := blk_frozen BK107.out 2
      have hfz37_3 := blk_frozen BK107.out 3
      try go_wp2
      refine bodyPost_ret (results_cell_row rfl _ _ gb107 38 #[.bool t114, .int .i64 2, .int .i64 0, .int .u64 0] (0, 0) _ rfl (by (with_reducible repeat (first | refine blk_drewN ?_ _ | refine blk_drew ?_ | refine blk_alloc ?_ _)); refine blk_put (cs := #[.bool t114, .int .i64 2, .int .i64 0, .int .u64 0]) ?_ 3 _ rfl; (with_reducible repeat (first | refine blk_drewN ?_ _ | refine blk_drew ?_ | refine blk_alloc ?_ _)); refine blk_put (cs := #[.bool t114, .int .i64 2, .int .i64 0, .int .u64 0]) ?_ 2 _ rfl; (with_reducible repeat (first | refine blk_drewN ?_ _ | refine blk_drew ?_ | refine blk_alloc ?_ _)); refine blk_put (cs := #[.bool t114, .int .i64 0, .int .i64 0, .int .u64 0]) ?_ 1 _ rfl; (with_reducible repeat (first | refine blk_drewN ?_ _ | refine blk_drew ?_ | refine blk_alloc ?_ _)); refine blk_put (cs := #[.bool false, .int .i64 0, .int .i64 0, .int .u64 0]) ?_ 0 _ rfl; (with_reducible repeat (first | refine blk_drewN ?_ _ | refine blk_drew ?_ | refine blk_alloc ?_ _)); exact BK107.out) Try.underlying38 rfl (by kernel_rfl)) rfl ?_
      exact ⟨er_, hb3_ HB.out GE107.out GE111.out GE117.out⟩
     ·rw [if_neg c30] at H
      have c30b0 : (t115 == t119) = false := beq_eq_false_iff_ne.mpr c30
      have c30b1 : (t115 != t119) = true := bne_iff_ne.mpr c30
      have HC38 := A_ H;clear H
      try go_wp2
      have n0_ := A_ (blk_drew BK107.out)
      have n1_ := A_ (blk_drew BK111.out)
      have n2_ := A_ (blk_drew BK117.out)
      have n3_ := A_ (below_drew1 HB.out)
      clear BK107;clear BK111;clear BK117;clear HB;have BK107 := n0_;have BK111 := n1_;have BK117 := n2_;have HB := n3_;clear n0_ n1_ n2_ n3_
      refine start_ (n := 7) (S := fun w' => w'.cell? ⟨gb117, 0, none⟩ = some (.int .i64 t112) ∧ w'.cell? ⟨gb117, 1, none⟩ = some (.int .i64 t113) ∧ w'.cell? ⟨gb117, 2, none⟩ = some (.bool t114) ∧ w'.cell? ⟨gb117, 3, none⟩ = some (.int .u64 t115) ∧ w'.cell? ⟨gb117, 4, none⟩ = some (.int .u64 t116)) (ds := []) #[false, false, false, false, false, false, false] (by kernel_rfl) rfl rfl ⟨bc_ BK117.out 0, bc_ BK117.out 1, bc_ BK117.out 2, bc_ BK117.out 3, bc_ BK117.out 4⟩ (fun hHeld => ?_)
      generalize wc.drew = w39 at BK107 BK111 BK117 HB hHeld ⊢
      refine pu_ 0 (some 33) #[true, false, false, false, false, false, false] rfl rfl (by kernel_rfl) ?_
      refine pu_ 2 (some 35) #[true, false, true, false, false, false, false] rfl rfl (by kernel_rfl) ?_
      refine tk5_ 1 (some 34) #[true, true, true, false, false, false, false] rfl rfl (by kernel_rfl) hHeld ?_
      refine tk5_ 3 (some 36) #[true, true, true, true, false, false, false] rfl rfl (by kernel_rfl) hHeld ?_
      refine one_ (i := 4) (N := some 37) #[true, true, true, true, true, false, false] rfl rfl (by kernel_rfl) (by decide) (fun K hK => ?_)
      refine goes_ Try.func70 (by kernel_rfl) rfl #[.agg #[.int .i64 t112, .int .i64 t113]] (by rfl) rfl rfl mp_ ?_
      with_reducible refine (shape_format_ones.calls t112 t113 t119 _ A29.out).mono ?_
      rintro e w40 ⟨rfl, hb⟩
      refine ⟨_, rfl, ?_⟩
      have n0_ := A_ (bb_ BK107.out hb)
      have n1_ := A_ (bb_ BK111.out hb)
      have n2_ := A_ (bb_ BK117.out hb)
      have n3_ := A_ (below_step (hb3_ HB.out GE107.out GE111.out GE117.out) hb)
      clear BK107;clear BK111;clear BK117;clear HB;have BK107 := n0_;have BK111 := n1_;have BK117 := n2_;have HB := n3_;clear n0_ n1_ n2_ n3_;(try clear hb);(try clear hb2);(try clear hk);(try clear hi)
      refine hK.out _ _ ⟨bc_ BK117.out 0, bc_ BK117.out 1, bc_ BK117.out 2, bc_ BK117.out 3, bc_ BK117.out 4⟩ (fun hHeld => ?_)
      clear hK K
      refine norm_ (a' := ?_) ?_ ?_
      rotate_left
      ·show Act.put _ (some 37) _ = _
       simp only [Act.put, lI_, l0_, lS_, i64_w, i32_w]
       rfl
      refine pu_ 5 (some 38) #[true, true, true, true, true, true, false] rfl rfl (by kernel_rfl) ?_
      refine pu_ 6 (some 32) #[true, true, true, true, true, true, true] rfl rfl (by kernel_rfl) ?_
      refine done_ (by kernel_rfl) ?_
      go_upto_region 9 with (fail)
      go_cut [42] (fun v42 wc => ∃ (kq : Nat) (x42_37 : Bool), v42 = .bool x42_37 ∧ Aside0 (shape_Open.j1 kq x42_37 t112 t113 t114 t115 t116 = some (r1, r2, r3, r4)) ∧ Aside0 (kq ≤ kj5) ∧ Aside0 (wc.heap[gb107]? = some (.cells #[.bool false, .int .i64 0, .int .i64 0, .int .u64 0] 38 (0, 0))) ∧ Aside0 (wc.heap[gb111]? = some (.cells #[.int .i64 t108, .int .i64 t109] 70 (0, 0))) ∧ Aside0 (wc.heap[gb117]? = some (.cells #[.int .i64 t112, .int .i64 t113, .bool t114, .int .u64 t115, .int .u64 t116] 75 (0, 0))) ∧ Aside0 (Below w.heap.size w wc))
      case first =>
       have H := HC38.out
       clear HC38
       by_cases c41 : t115 = 0
       ·rw [if_pos c41] at H
        have c41b0 : (t115 == 0) = true := beq_iff_eq.mpr c41
        have c41b1 : (t115 != 0) = false := bne_eq_false_iff_eq.mpr c41
        clear c41
        (first | rw [c41b0] | (simp only [i64_w, i32_w]; rw [c41b0]) | skip)
        have H' := A_ H
        clear H
        have hnb42 := NB117_107.out
        have hnc42 := NB107_117.out
        have hnb43 := NB117_111.out
        have hnc43 := NB111_117.out
        have hcz44_0 : w40.cell? ⟨gb117, 0, none⟩ = some (.int .i64 t112) := bc_ BK117.out 0
        have hcz44_1 : w40.cell? ⟨gb117, 1, none⟩ = some (.int .i64 t113) := bc_ BK117.out 1
        have hcz44_2 : w40.cell? ⟨gb117, 2, none⟩ = some (.bool t114) := bc_ BK117.out 2
        have hcz44_3 : w40.cell? ⟨gb117, 3, none⟩ = some (.int .u64 t115) := bc_ BK117.out 3
        have hcz44_4 : w40.cell? ⟨gb117, 4, none⟩ = some (.int .u64 t116) := bc_ BK117.out 4
        have hfz44_0 := blk_frozen BK117.out 0
        have hfz44_1 := blk_frozen BK117.out 1
        have hfz44_2 := blk_frozen BK117.out 2
        have hfz44_3 := blk_frozen BK117.out 3
        have hfz44_4 := blk_frozen BK117.out 4
        go_wp2
        go_meet
        case rel => exact ⟨_, ((t116 == 0)), sm_, H', ⟨by have := HJ5.out; first | omega | exact Nat.le_refl _⟩, ⟨bk_ BK107.out⟩, ⟨bk_ BK111.out⟩, ⟨bk_ BK117.out⟩, ⟨hb3_ HB.out GE107.out GE111.out GE117.out⟩⟩
       ·rw [if_neg c41] at H
        have c41b0 : (t115 == 0) = false := beq_eq_false_iff_ne.mpr c41
        have c41b1 : (t115 != 0) = true := bne_iff_ne.mpr c41
        (first | rw [c41b0] | (simp only [i64_w, i32_w]; rw [c41b0]) | skip)
        have H' := A_ H
        clear H
        have hnb45 := NB117_107.out
        have hnc45 := NB107_117.out
        have hnb46 := NB117_111.out
        have hnc46 := NB111_117.out
        have hcz47_0 : w40.cell? ⟨gb117, 0, none⟩ = some (.int .i64 t112) := bc_ BK117.out 0
        have hcz47_1 : w40.cell? ⟨gb117, 1, none⟩ = some (.int .i64 t113) := bc_ BK117.out 1
        have hcz47_2 : w40.cell? ⟨gb117, 2, none⟩ = some (.bool t114) := bc_ BK117.out 2
        have hcz47_3 : w40.cell? ⟨gb117, 3, none⟩ = some (.int .u64 t115) := bc_ BK117.out 3
        have hcz47_4 : w40.cell? ⟨gb117, 4, none⟩ = some (.int .u64 t116) := bc_ BK117.out 4
        have hfz47_0 := blk_frozen BK117.out 0
        have hfz47_1 := blk_frozen BK117.out 1
        have hfz47_2 := blk_frozen BK117.out 2
        have hfz47_3 := blk_frozen BK117.out 3
        have hfz47_4 := blk_frozen BK117.out 4
        go_wp2
        go_meet
        case rel => exact ⟨_, (false), sm_, H', ⟨by have := HJ5.out; first | omega | exact Nat.le_refl _⟩, ⟨bk_ BK107.out⟩, ⟨bk_ BK111.out⟩, ⟨bk_ BK117.out⟩, ⟨hb3_ HB.out GE107.out GE111.out GE117.out⟩⟩
      case rest =>
       clear HC38
       try clear c1
       try clear c2
       try clear p2
       try clear c3
       try clear c4
       try clear c6
       try clear c7
       try clear c10
       try clear c14
       try clear c15
       try clear c18
       try clear c18b0
       try clear c18b1
       try clear c25
       try clear c26
       try clear c27
       try clear c30
       try clear c30b0
       try clear c30b1
       try clear c33
       try clear c34
       try clear c36
       try clear c41
       try clear c41b0
       try clear c41b1
       try clear c42
       try clear c43
       try clear c45
       try clear c46
       try clear hcz11_0
       try clear hcz11_1
       try clear hcz16_0
       try clear hcz16_1
       try clear hcz16_2
       try clear hcz16_3
       try clear hcz16_4
       try clear hcz28_0
       try clear hcz28_1
       try clear hcz28_2
       try clear hcz28_3
       try clear hcz35_0
       try clear hcz35_1
       try clear hcz35_2
       try clear hcz35_3
       try clear hcz35_4
       try clear hcz37_0
       try clear hcz37_1
       try clear hcz37_2
       try clear hcz37_3
       try clear hcz44_0
       try clear hcz44_1
       try clear hcz44_2
       try clear hcz44_3
       try clear hcz44_4
       try clear hcz47_0
       try clear hcz47_1
       try clear hcz47_2
       try clear hcz47_3
       try clear hcz47_4
       try clear hfz11_0
       try clear hfz11_1
       try clear hfz16_0
       try clear hfz16_1
       try clear hfz16_2
       try clear hfz16_3
       try clear hfz16_4
       try clear hfz28_0
       try clear hfz28_1
       try clear hfz28_2
       try clear hfz28_3
       try clear hfz35_0
       try clear hfz35_1
       try clear hfz35_2
       try clear hfz35_3
       try clear hfz35_4
       try clear hfz37_0
       try clear hfz37_1
       try clear hfz37_2
       try clear hfz37_3
       try clear hfz44_0
       try clear hfz44_1
       try clear hfz44_2
       try clear hfz44_3
       try clear hfz44_4
       try clear hfz47_0
       try clear hfz47_1
       try clear hfz47_2
       try clear hfz47_3
       try clear hfz47_4
       try clear p2
       obtain ⟨kq, x42_37, rfl, HA, HJ37, BK107, BK111, BK117, HB⟩ := hcut
       cases kq with
       | zero => exact absurd HA.out (by simp [shape_Open.j1])
       | succ kj37 =>
        have H := HA.out
        clear HA
        simp only [shape_Open.j1] at H
        by_cases c48 : x42_37 = true
        ·subst c48
         have H1 : (some (t114, 0, 0, 0)) = some (r1, r2, r3, r4) := by rw [if_pos rfl] at H; exact H
         clear H;have H := H1;clear H1
         simp only [Option.some.injEq, Prod.mk.injEq] at H
         obtain ⟨rfl, rfl, rfl, rfl⟩ := H
         have hnb49 := NB117_107.out
         have hnc49 := NB107_117.out
         have hnb50 := NB117_111.out
         have hnc50 := NB111_117.out
         have hcz51_0 : wc.cell? ⟨gb117, 0, none⟩ = some (.int .i64 t112) := bc_ BK117.out 0
         have hcz51_1 : wc.cell? ⟨gb117, 1, none⟩ = some (.int .i64 t113) := bc_ BK117.out 1
         have hcz51_2 : wc.cell? ⟨gb117, 2, none⟩ = some (.bool t114) := bc_ BK117.out 2
         have hcz51_3 : wc.cell? ⟨gb117, 3, none⟩ = some (.int .u64 t115) := bc_ BK117.out 3
         have hcz51_4 : wc.cell? ⟨gb117, 4, none⟩ = some (.int .u64 t116) := bc_ BK117.out 4
         have hfz51_0 := blk_frozen BK117.out 0
         have hfz51_1 := blk_frozen BK117.out 1
         have hfz51_2 := blk_frozen BK117.out 2
         have hfz51_3 := blk_frozen BK117.out 3
         have hfz51_4 := blk_frozen BK117.out 4
         have hnb52 := NB107_111.out
         have hnc52 := NB111_107.out
         have hcz53_0 : wc.cell? ⟨gb107, 0, none⟩ = some (.bool false) := bc_ BK107.out 0
         have hcz53_1 : wc.cell? ⟨gb107, 1, none⟩ = some (.int .i64 0) := bc_ BK107.out 1
         have hcz53_2 : wc.cell? ⟨gb107, 2, none⟩ = some (.int .i64 0) := bc_ BK107.out 2
         have hcz53_3 : wc.cell? ⟨gb107, 3, none⟩ = some (.int .u64 0) := bc_ BK107.out 3
         have hfz53_0 := blk_frozen BK107.out 0
         have hfz53_1 := blk_frozen BK107.out 1
         have hfz53_2 := blk_frozen BK107.out 2
         have hfz53_3 := blk_frozen BK107.out 3
         go_wp2
         refine bodyPost_ret (results_cell_row rfl _ _ gb107 38 #[.bool t114, .int .i64 0, .int .i64 0, .int .u64 0] (0, 0) _ rfl (by (with_reducible repeat (first | refine blk_drewN ?_ _ | refine blk_drew ?_ | refine blk_alloc ?_ _)); refine blk_put (cs := #[.bool t114, .int .i64 0, .int .i64 0, .int .u64 0]) ?_ 3 _ rfl; (with_reducible repeat (first | refine blk_drewN ?_ _ | refine blk_drew ?_ | refine blk_alloc ?_ _)); refine blk_put (cs := #[.bool t114, .int .i64 0, .int .i64 0, .int .u64 0]) ?_ 2 _ rfl; (with_reducible repeat (first | refine blk_drewN ?_ _ | refine blk_drew ?_ | refine blk_alloc ?_ _)); refine blk_put (cs := #[.bool t114, .int .i64 0, .int .i64 0, .int .u64 0]) ?_ 1 _ rfl; (with_reducible repeat (first | refine blk_drewN ?_ _ | refine blk_drew ?_ | refine blk_alloc ?_ _)); refine blk_put (cs := #[.bool false, .int .i64 0, .int .i64 0, .int .u64 0]) ?_ 0 _ rfl; (with_reducible repeat (first | refine blk_drewN ?_ _ | refine blk_drew ?_ | refine blk_alloc ?_ _)); exact BK107.out) Try.underlying38 rfl (by kernel_rfl)) rfl ?_
         exact ⟨er_, hb3_ HB.out GE107.out GE111.out GE117.out⟩
        ·replace c48 := Bool.eq_false_iff.mpr c48
         subst c48
         have H1 : (if t115 = 0 then ((shape_format_low.f t112 t113).bind fun t120 => (some (t114, 1, t120, t116))) else ((shape_format_low.f t112 t113).bind fun t121 => (if 0 ≤ t113 then (some (t114, 1, wrap64 ((wrap64 (t121 + (wrap64 (t115)))) - 1), Go.bits .or .u64 (shl .u64 1 t113) t116)) else (none)))) = some (r1, r2, r3, r4) := by rw [if_neg (show ¬ (false = true) by decide)] at H; exact H
         clear H;have H := H1;clear H1
         by_cases c54 : t115 = 0
         ·rw [if_pos c54] at H
          have c54b0 : (t115 == 0) = true := beq_iff_eq.mpr c54
          have c54b1 : (t115 != 0) = false := bne_eq_false_iff_eq.mpr c54
          clear c54
          replace H := ob_ H
          obtain ⟨t120, A550, H⟩ := H
          replace H : (some (t114, 1, t120, t116)) = some (r1, r2, r3, r4) := H
          have A55 := A_ A550;clear A550
          simp only [Option.some.injEq, Prod.mk.injEq] at H
          obtain ⟨rfl, rfl, rfl, rfl⟩ := H
          have hnb56 := NB117_107.out
          have hnc56 := NB107_117.out
          have hnb57 := NB117_111.out
          have hnc57 := NB111_117.out
          have hcz58_0 : wc.cell? ⟨gb117, 0, none⟩ = some (.int .i64 t112) := bc_ BK117.out 0
          have hcz58_1 : wc.cell? ⟨gb117, 1, none⟩ = some (.int .i64 t113) := bc_ BK117.out 1
          have hcz58_2 : wc.cell? ⟨gb117, 2, none⟩ = some (.bool t114) := bc_ BK117.out 2
          have hcz58_3 : wc.cell? ⟨gb117, 3, none⟩ = some (.int .u64 t115) := bc_ BK117.out 3
          have hcz58_4 : wc.cell? ⟨gb117, 4, none⟩ = some (.int .u64 t116) := bc_ BK117.out 4
          have hfz58_0 := blk_frozen BK117.out 0
          have hfz58_1 := blk_frozen BK117.out 1
          have hfz58_2 := blk_frozen BK117.out 2
          have hfz58_3 := blk_frozen BK117.out 3
          have hfz58_4 := blk_frozen BK117.out 4
          try go_wp2
          have n0_ := A_ (blk_drew BK107.out)
          have n1_ := A_ (blk_drew BK111.out)
          have n2_ := A_ (blk_drew BK117.out)
          have n3_ := A_ (below_drew1 HB.out)
          clear BK107;clear BK111;clear BK117;clear HB;have BK107 := n0_;have BK111 := n1_;have BK117 := n2_;have HB := n3_;clear n0_ n1_ n2_ n3_
          refine start_ (n := 9) (S := fun w' => w'.cell? ⟨gb117, 0, none⟩ = some (.int .i64 t112) ∧ w'.cell? ⟨gb117, 1, none⟩ = some (.int .i64 t113) ∧ w'.cell? ⟨gb117, 2, none⟩ = some (.bool t114) ∧ w'.cell? ⟨gb117, 3, none⟩ = some (.int .u64 t115) ∧ w'.cell? ⟨gb117, 4, none⟩ = some (.int .u64 t116)) (ds := []) #[false, false, false, false, false, false, false, false, false] (by kernel_rfl) rfl rfl ⟨bc_ BK117.out 0, bc_ BK117.out 1, bc_ BK117.out 2, bc_ BK117.out 3, bc_ BK117.out 4⟩ (fun hHeld => ?_); refine with_tabW shape_Open.tab12 shape_Open.bits12 (fun HT_ HW_ => ?_)
          generalize wc.drew = w59 at BK107 BK111 BK117 HB hHeld ⊢
          refine pu_ 0 (some 58) #[true, false, false, false, false, false, false, false, false] rfl rfl (any_of HT_.out (by kernel_rfl)) ?_
          refine pu_ 2 (some 60) #[true, false, true, false, false, false, false, false, false] rfl rfl (any_of HT_.out (by kernel_rfl)) ?_
          refine pu_ 5 (some 63) #[true, false, true, false, false, true, false, false, false] rfl rfl (any_of HT_.out (by kernel_rfl)) ?_
          refine tk5_ 1 (some 59) #[true, true, true, false, false, true, false, false, false] rfl rfl (take_ofW HT_.out HW_.out (by kernel_rfl)) hHeld ?_
          refine tk5_ 3 (some 61) #[true, true, true, true, false, true, false, false, false] rfl rfl (take_ofW HT_.out HW_.out (by kernel_rfl)) hHeld ?_
          refine tk5_ 6 (some 64) #[true, true, true, true, false, true, true, false, false] rfl rfl (take_ofW HT_.out HW_.out (by kernel_rfl)) hHeld ?_
          refine one_ (i := 4) (N := some 62) #[true, true, true, true, true, true, true, false, false] rfl rfl (one_of HT_.out (by kernel_rfl)) (by decide) (fun K hK => ?_)
          refine goes_ Try.func71 (by kernel_rfl) rfl #[.agg #[.int .i64 t112, .int .i64 t113]] (by rfl) rfl rfl mp_ ?_
          with_reducible refine (shape_format_low.calls t112 t113 t120 _ A55.out).mono ?_
          rintro e w60 ⟨rfl, hb⟩
          refine ⟨_, rfl, ?_⟩
          have n0_ := A_ (bb_ BK107.out hb)
          have n1_ := A_ (bb_ BK111.out hb)
          have n2_ := A_ (bb_ BK117.out hb)
          have n3_ := A_ (below_step (hb3_ HB.out GE107.out GE111.out GE117.out) hb)
          clear BK107;clear BK111;clear BK117;clear HB;have BK107 := n0_;have BK111 := n1_;have BK117 := n2_;have HB := n3_;clear n0_ n1_ n2_ n3_;(try clear hb);(try clear hb2);(try clear hk);(try clear hi)
          refine hK.out _ _ ⟨bc_ BK117.out 0, bc_ BK117.out 1, bc_ BK117.out 2, bc_ BK117.out 3, bc_ BK117.out 4⟩ (fun hHeld => ?_)
          clear hK K
          refine norm_ (a' := ?_) ?_ ?_
          rotate_left
          ·show Act.put _ (some 62) _ = _
           simp only [Act.put, lI_, l0_, lS_, i64_w, i32_w]
           rfl
          refine pu_ 7 (some 65) #[true, true, true, true, true, true, true, true, false] rfl rfl (any_of HT_.out (by kernel_rfl)) ?_
          refine one_ (i := 8) (N := none) #[true, true, true, true, true, true, true, true, true] rfl rfl (one_of HT_.out (by kernel_rfl)) (by decide) (fun K hK => ?_)
          have hs61 : w60.cell? ⟨gb107, 0, none⟩ = some (.bool false) := bc_ BK107.out 0
          have hfs61 := blk_frozen BK107.out 0
          have hns61_1 := NB111_107.out
          have hns61_2 := NB117_107.out
          have hms61_1 := NB107_111.out
          have hms61_2 := NB107_117.out
          have hs62 : w60.cell? ⟨gb107, 1, none⟩ = some (.int .i64 0) := bc_ BK107.out 1
          have hfs62 := blk_frozen BK107.out 1
          have hns62_1 := NB111_107.out
          have hns62_2 := NB117_107.out
          have hms62_1 := NB107_111.out
          have hms62_2 := NB107_117.out
          have hs63 : w60.cell? ⟨gb107, 2, none⟩ = some (.int .i64 0) := bc_ BK107.out 2
          have hfs63 := blk_frozen BK107.out 2
          have hns63_1 := NB111_107.out
          have hns63_2 := NB117_107.out
          have hms63_1 := NB107_111.out
          have hms63_2 := NB107_117.out
          have hs64 : w60.cell? ⟨gb107, 3, none⟩ = some (.int .u64 0) := bc_ BK107.out 3
          have hfs64 := blk_frozen BK107.out 3
          have hns64_1 := NB111_107.out
          have hns64_2 := NB117_107.out
          have hms64_1 := NB107_111.out
          have hms64_2 := NB107_117.out
          refine skip_ (w1 := ?_) (by rfl) rfl ?_ ?_
          rotate_left
          ·go_simp
           rfl
          refine hK.out _ _ ⟨((cell_far (p := ⟨gb107, _, none⟩) NB117_107.out _).trans (((cell_far (p := ⟨gb107, _, none⟩) NB117_107.out _).trans (((cell_far (p := ⟨gb107, _, none⟩) NB117_107.out _).trans (((cell_far (p := ⟨gb107, _, none⟩) NB117_107.out _).trans (hHeld.1)))))))), ((cell_far (p := ⟨gb107, _, none⟩) NB117_107.out _).trans (((cell_far (p := ⟨gb107, _, none⟩) NB117_107.out _).trans (((cell_far (p := ⟨gb107, _, none⟩) NB117_107.out _).trans (((cell_far (p := ⟨gb107, _, none⟩) NB117_107.out _).trans (hHeld.2.1)))))))), ((cell_far (p := ⟨gb107, _, none⟩) NB117_107.out _).trans (((cell_far (p := ⟨gb107, _, none⟩) NB117_107.out _).trans (((cell_far (p := ⟨gb107, _, none⟩) NB117_107.out _).trans (((cell_far (p := ⟨gb107, _, none⟩) NB117_107.out _).trans (hHeld.2.2.1)))))))), ((cell_far (p := ⟨gb107, _, none⟩) NB117_107.out _).trans (((cell_far (p := ⟨gb107, _, none⟩) NB117_107.out _).trans (((cell_far (p := ⟨gb107, _, none⟩) NB117_107.out _).trans (((cell_far (p := ⟨gb107, _, none⟩) NB117_107.out _).trans (hHeld.2.2.2.1)))))))), ((cell_far (p := ⟨gb107, _, none⟩) NB117_107.out _).trans (((cell_far (p := ⟨gb107, _, none⟩) NB117_107.out _).trans (((cell_far (p := ⟨gb107, _, none⟩) NB117_107.out _).trans (((cell_far (p := ⟨gb107, _, none⟩) NB117_107.out _).trans (hHeld.2.2.2.2))))))))⟩ (fun hHeld => ?_)
          clear hK K
          refine done_ (done_of HT_.out (by kernel_rfl)) ?_
          try go_wp2
          refine bodyPost_ret (results_cell_row rfl _ _ gb107 38 #[.bool t114, .int .i64 1, .int .i64 t120, .int .u64 t116] (0, 0) _ rfl (by (with_reducible repeat (first | refine blk_drewN ?_ _ | refine blk_drew ?_ | refine blk_alloc ?_ _)); refine blk_put (cs := #[.bool t114, .int .i64 1, .int .i64 t120, .int .u64 0]) ?_ 3 _ rfl; (with_reducible repeat (first | refine blk_drewN ?_ _ | refine blk_drew ?_ | refine blk_alloc ?_ _)); refine blk_put (cs := #[.bool t114, .int .i64 1, .int .i64 0, .int .u64 0]) ?_ 2 _ rfl; (with_reducible repeat (first | refine blk_drewN ?_ _ | refine blk_drew ?_ | refine blk_alloc ?_ _)); refine blk_put (cs := #[.bool t114, .int .i64 0, .int .i64 0, .int .u64 0]) ?_ 1 _ rfl; (with_reducible repeat (first | refine blk_drewN ?_ _ | refine blk_drew ?_ | refine blk_alloc ?_ _)); refine blk_put (cs := #[.bool false, .int .i64 0, .int .i64 0, .int .u64 0]) ?_ 0 _ rfl; (with_reducible repeat (first | refine blk_drewN ?_ _ | refine blk_drew ?_ | refine blk_alloc ?_ _)); exact BK107.out) Try.underlying38 rfl (by kernel_rfl)) rfl ?_
          exact ⟨er_, hb3_ HB.out GE107.out GE111.out GE117.out⟩
         ·rw [if_neg c54] at H
          have c54b0 : (t115 == 0) = false := beq_eq_false_iff_ne.mpr c54
          have c54b1 : (t115 != 0) = true := bne_iff_ne.mpr c54
          replace H := ob_ H
          obtain ⟨t121, A650, H⟩ := H
          replace H : (if 0 ≤ t113 then (some (t114, 1, wrap64 ((wrap64 (t121 + (wrap64 (t115)))) - 1), Go.bits .or .u64 (shl .u64 1 t113) t116)) else (none)) = some (r1, r2, r3, r4) := H
          have A65 := A_ A650;clear A650
          by_cases c66 : 0 ≤ t113
          ·rw [if_pos c66] at H
           have c66b0 := eq_true c66
           have c66b1 : decide (0 ≤ t113) = true := decide_eq_true c66
           clear c66
           obtain ⟨ji67, hji67⟩ : ∃ j_ : Int, (shl .u64 1 t113) = j_ := ⟨_, rfl⟩
           replace H : (some (t114, 1, wrap64 ((wrap64 (t121 + (wrap64 (t115)))) - 1), Go.bits .or .u64 (ji67) t116)) = some (r1, r2, r3, r4) := by first | (rw [hji67] at H; exact H) | (simp only [hji67] at H ⊢; exact H)
           (try rw [hji67] at A65)
           have hji67_ : (IntKind.u64.wrap (1 * 2 ^ min t113.toNat 64)) = ji67 := hji67
           have hji67z : t113 ≤ 64 → (IntKind.u64.wrap (1 * 2 ^ t113.toNat)) = ji67 := shl_small hji67
           have hji67u : (IntKind.u64.wrap (2 ^ min t113.toNat 64)) = ji67 := by have h_ := hji67_; rw [Int.one_mul] at h_; exact h_
           have hji67v : t113 ≤ 64 → (IntKind.u64.wrap (2 ^ t113.toNat)) = ji67 := fun hle_ => by have h_ := hji67z hle_; rw [Int.one_mul] at h_; exact h_
           simp only [Option.some.injEq, Prod.mk.injEq] at H
           obtain ⟨rfl, rfl, rfl, rfl⟩ := H
           have hnb68 := NB117_107.out
           have hnc68 := NB107_117.out
           have hnb69 := NB117_111.out
           have hnc69 := NB111_117.out
           have hcz70_0 : wc.cell? ⟨gb117, 0, none⟩ = some (.int .i64 t112) := bc_ BK117.out 0
           have hcz70_1 : wc.cell? ⟨gb117, 1, none⟩ = some (.int .i64 t113) := bc_ BK117.out 1
           have hcz70_2 : wc.cell? ⟨gb117, 2, none⟩ = some (.bool t114) := bc_ BK117.out 2
           have hcz70_3 : wc.cell? ⟨gb117, 3, none⟩ = some (.int .u64 t115) := bc_ BK117.out 3
           have hcz70_4 : wc.cell? ⟨gb117, 4, none⟩ = some (.int .u64 t116) := bc_ BK117.out 4
           have hfz70_0 := blk_frozen BK117.out 0
           have hfz70_1 := blk_frozen BK117.out 1
           have hfz70_2 := blk_frozen BK117.out 2
           have hfz70_3 := blk_frozen BK117.out 3
           have hfz70_4 := blk_frozen BK117.out 4
           try go_wp2
           have n0_ := A_ (blk_drew BK107.out)
           have n1_ := A_ (blk_drew BK111.out)
           have n2_ := A_ (blk_drew BK117.out)
           have n3_ := A_ (below_drew1 HB.out)
           clear BK107;clear BK111;clear BK117;clear HB;have BK107 := n0_;have BK111 := n1_;have BK117 := n2_;have HB := n3_;clear n0_ n1_ n2_ n3_
           refine start_ (n := 19) (S := fun w' => w'.cell? ⟨gb117, 0, none⟩ = some (.int .i64 t112) ∧ w'.cell? ⟨gb117, 1, none⟩ = some (.int .i64 t113) ∧ w'.cell? ⟨gb117, 2, none⟩ = some (.bool t114) ∧ w'.cell? ⟨gb117, 3, none⟩ = some (.int .u64 t115) ∧ w'.cell? ⟨gb117, 4, none⟩ = some (.int .u64 t116)) (ds := []) #[false, false, false, false, false, false, false, false, false, false, false, false, false, false, false, false, false, false, false] (by kernel_rfl) rfl rfl ⟨bc_ BK117.out 0, bc_ BK117.out 1, bc_ BK117.out 2, bc_ BK117.out 3, bc_ BK117.out 4⟩ (fun hHeld => ?_); refine with_tabW shape_Open.tab13 shape_Open.bits13 (fun HT_ HW_ => ?_)
           generalize wc.drew = w71 at BK107 BK111 BK117 HB hHeld ⊢
           refine pu_ 0 (some 66) #[true, false, false, false, false, false, false, false, false, false, false, false, false, false, false, false, false, false, false] rfl rfl (any_of HT_.out (by kernel_rfl)) ?_
           refine pu_ 2 (some 68) #[true, false, true, false, false, false, false, false, false, false, false, false, false, false, false, false, false, false, false] rfl rfl (any_of HT_.out (by kernel_rfl)) ?_
           refine pu_ 5 (some 71) #[true, false, true, false, false, true, false, false, false, false, false, false, false, false, false, false, false, false, false] rfl rfl (any_of HT_.out (by kernel_rfl)) ?_
           refine pu_ 10 (some 76) #[true, false, true, false, false, true, false, false, false, false, true, false, false, false, false, false, false, false, false] rfl rfl (any_of HT_.out (by kernel_rfl)) ?_
           refine pu_ 11 (some 77) #[true, false, true, false, false, true, false, false, false, false, true, true, false, false, false, false, false, false, false] rfl rfl (any_of HT_.out (by kernel_rfl)) ?_
           refine pu_ 14 (some 80) #[true, false, true, false, false, true, false, false, false, false, true, true, false, false, true, false, false, false, false] rfl rfl (any_of HT_.out (by kernel_rfl)) ?_
           refine tk5_ 1 (some 67) #[true, true, true, false, false, true, false, false, false, false, true, true, false, false, true, false, false, false, false] rfl rfl (take_ofW HT_.out HW_.out (by kernel_rfl)) hHeld ?_
           refine tk5_ 3 (some 69) #[true, true, true, true, false, true, false, false, false, false, true, true, false, false, true, false, false, false, false] rfl rfl (take_ofW HT_.out HW_.out (by kernel_rfl)) hHeld ?_
           refine tk5_ 6 (some 72) #[true, true, true, true, false, true, true, false, false, false, true, true, false, false, true, false, false, false, false] rfl rfl (take_ofW HT_.out HW_.out (by kernel_rfl)) hHeld ?_
           refine pu_ 7 (some 73) #[true, true, true, true, false, true, true, true, false, false, true, true, false, false, true, false, false, false, false] rfl rfl (any_of HT_.out (by kernel_rfl)) ?_
           refine tk5_ 12 (some 78) #[true, true, true, true, false, true, true, true, false, false, true, true, true, false, true, false, false, false, false] rfl rfl (take_ofW HT_.out HW_.out (by kernel_rfl)) hHeld ?_
           refine pu_ 13 (some 79) #[true, true, true, true, false, true, true, true, false, false, true, true, true, true, true, false, false, false, false] rfl rfl (any_of HT_.out (by kernel_rfl)) ?_
           refine tk5_ 15 (some 81) #[true, true, true, true, false, true, true, true, false, false, true, true, true, true, true, true, false, false, false] rfl rfl (take_ofW HT_.out HW_.out (by kernel_rfl)) hHeld ?_
           refine pu_ 16 (some 82) #[true, true, true, true, false, true, true, true, false, false, true, true, true, true, true, true, true, false, false] rfl rfl (any_of HT_.out (by kernel_rfl)) ?_
           refine one_ (i := 4) (N := some 70) #[true, true, true, true, true, true, true, true, false, false, true, true, true, true, true, true, true, false, false] rfl rfl (one_of HT_.out (by kernel_rfl)) (by decide) (fun K hK => ?_)
           refine goes_ Try.func71 (by kernel_rfl) rfl #[.agg #[.int .i64 t112, .int .i64 t113]] (by rfl) rfl rfl mp_ ?_
           with_reducible refine (shape_format_low.calls t112 t113 t121 _ A65.out).mono ?_
           rintro e w72 ⟨rfl, hb⟩
           refine ⟨_, rfl, ?_⟩
           have n0_ := A_ (bb_ BK107.out hb)
           have n1_ := A_ (bb_ BK111.out hb)
           have n2_ := A_ (bb_ BK117.out hb)
           have n3_ := A_ (below_step (hb3_ HB.out GE107.out GE111.out GE117.out) hb)
           clear BK107;clear BK111;clear BK117;clear HB;have BK107 := n0_;have BK111 := n1_;have BK117 := n2_;have HB := n3_;clear n0_ n1_ n2_ n3_;(try clear hb);(try clear hb2);(try clear hk);(try clear hi)
           refine hK.out _ _ ⟨bc_ BK117.out 0, bc_ BK117.out 1, bc_ BK117.out 2, bc_ BK117.out 3, bc_ BK117.out 4⟩ (fun hHeld => ?_)
           clear hK K
           refine norm_ (a' := ?_) ?_ ?_
           rotate_left
           ·show Act.put _ (some 70) _ = _
            simp only [Act.put, lI_, l0_, lS_, i64_w, i32_w]
            rfl
           refine pu_ 8 (some 74) #[true, true, true, true, true, true, true, true, true, false, true, true, true, true, true, true, true, false, false] rfl rfl (any_of HT_.out (by kernel_rfl)) ?_
           refine pu_ 9 (some 75) #[true, true, true, true, true, true, true, true, true, true, true, true, true, true, true, true, true, false, false] rfl rfl (any_of HT_.out (by kernel_rfl)) ?_
           refine pu_ 17 (some 83) #[true, true, true, true, true, true, true, true, true, true, true, true, true, true, true, true, true, true, false] rfl rfl (any_of HT_.out (by kernel_rfl)) ?_
           refine one_ (i := 18) (N := none) #[true, true, true, true, true, true, true, true, true, true, true, true, true, true, true, true, true, true, true] rfl rfl (one_of HT_.out (by kernel_rfl)) (by decide) (fun K hK => ?_)
           have hs73 : w72.cell? ⟨gb107, 0, none⟩ = some (.bool false) := bc_ BK107.out 0
           have hfs73 := blk_frozen BK107.out 0
           have hns73_1 := NB111_107.out
           have hns73_2 := NB117_107.out
           have hms73_1 := NB107_111.out
           have hms73_2 := NB107_117.out
           have hs74 : w72.cell? ⟨gb107, 1, none⟩ = some (.int .i64 0) := bc_ BK107.out 1
           have hfs74 := blk_frozen BK107.out 1
           have hns74_1 := NB111_107.out
           have hns74_2 := NB117_107.out
           have hms74_1 := NB107_111.out
           have hms74_2 := NB107_117.out
           have hs75 : w72.cell? ⟨gb107, 2, none⟩ = some (.int .i64 0) := bc_ BK107.out 2
           have hfs75 := blk_frozen BK107.out 2
           have hns75_1 := NB111_107.out
           have hns75_2 := NB117_107.out
           have hms75_1 := NB107_111.out
           have hms75_2 := NB107_117.out
           have hs76 : w72.cell? ⟨gb107, 3, none⟩ = some (.int .u64 0) := bc_ BK107.out 3
           have hfs76 := blk_frozen BK107.out 3
           have hns76_1 := NB111_107.out
           have hns76_2 := NB117_107.out
           have hms76_1 := NB107_111.out
           have hms76_2 := NB107_117.out
           refine skip_ (w1 := ?_) (by rfl) rfl ?_ ?_
           rotate_left
           ·go_simp
            rfl
           refine hK.out _ _ ⟨((cell_far (p := ⟨gb107, _, none⟩) NB117_107.out _).trans (((cell_far (p := ⟨gb107, _, none⟩) NB117_107.out _).trans (((cell_far (p := ⟨gb107, _, none⟩) NB117_107.out _).trans (((cell_far (p := ⟨gb107, _, none⟩) NB117_107.out _).trans (hHeld.1)))))))), ((cell_far (p := ⟨gb107, _, none⟩) NB117_107.out _).trans (((cell_far (p := ⟨gb107, _, none⟩) NB117_107.out _).trans (((cell_far (p := ⟨gb107, _, none⟩) NB117_107.out _).trans (((cell_far (p := ⟨gb107, _, none⟩) NB117_107.out _).trans (hHeld.2.1)))))))), ((cell_far (p := ⟨gb107, _, none⟩) NB117_107.out _).trans (((cell_far (p := ⟨gb107, _, none⟩) NB117_107.out _).trans (((cell_far (p := ⟨gb107, _, none⟩) NB117_107.out _).trans (((cell_far (p := ⟨gb107, _, none⟩) NB117_107.out _).trans (hHeld.2.2.1)))))))), ((cell_far (p := ⟨gb107, _, none⟩) NB117_107.out _).trans (((cell_far (p := ⟨gb107, _, none⟩) NB117_107.out _).trans (((cell_far (p := ⟨gb107, _, none⟩) NB117_107.out _).trans (((cell_far (p := ⟨gb107, _, none⟩) NB117_107.out _).trans (hHeld.2.2.2.1)))))))), ((cell_far (p := ⟨gb107, _, none⟩) NB117_107.out _).trans (((cell_far (p := ⟨gb107, _, none⟩) NB117_107.out _).trans (((cell_far (p := ⟨gb107, _, none⟩) NB117_107.out _).trans (((cell_far (p := ⟨gb107, _, none⟩) NB117_107.out _).trans (hHeld.2.2.2.2))))))))⟩ (fun hHeld => ?_)
           clear hK K
           refine done_ (done_of HT_.out (by kernel_rfl)) ?_
           try go_wp2
           refine bodyPost_ret (results_cell_row rfl _ _ gb107 38 #[.bool t114, .int .i64 1, .int .i64 (wrap64 ((wrap64 (t121 + (wrap64 (t115)))) - 1)), .int .u64 (Go.bits .or .u64 (ji67) t116)] (0, 0) _ rfl (by (with_reducible repeat (first | refine blk_drewN ?_ _ | refine blk_drew ?_ | refine blk_alloc ?_ _)); refine blk_put (cs := #[.bool t114, .int .i64 1, .int .i64 (wrap64 ((wrap64 (t121 + (wrap64 (t115)))) - 1)), .int .u64 0]) ?_ 3 _ rfl; (with_reducible repeat (first | refine blk_drewN ?_ _ | refine blk_drew ?_ | refine blk_alloc ?_ _)); refine blk_put (cs := #[.bool t114, .int .i64 1, .int .i64 0, .int .u64 0]) ?_ 2 _ rfl; (with_reducible repeat (first | refine blk_drewN ?_ _ | refine blk_drew ?_ | refine blk_alloc ?_ _)); refine blk_put (cs := #[.bool t114, .int .i64 0, .int .i64 0, .int .u64 0]) ?_ 1 _ rfl; (with_reducible repeat (first | refine blk_drewN ?_ _ | refine blk_drew ?_ | refine blk_alloc ?_ _)); refine blk_put (cs := #[.bool false, .int .i64 0, .int .i64 0, .int .u64 0]) ?_ 0 _ rfl; (with_reducible repeat (first | refine blk_drewN ?_ _ | refine blk_drew ?_ | refine blk_alloc ?_ _)); exact BK107.out) Try.underlying38 rfl (by kernel_rfl)) rfl ?_
           exact ⟨by first | rfl | (simp [errW_none, errW_some] <;> rfl) | (simp only [← hji67]; first | rfl | (simp [errW_none, errW_some] <;> rfl)) | (simp [*, errW_none, errW_some] <;> rfl), hb3_ HB.out GE107.out GE111.out GE117.out⟩
          ·rw [if_neg c66] at H
           exact absurd H (by simp)
 ·replace c4 := Bool.eq_false_iff.mpr c4
  subst c4
  have H1 : (some (false, 0, 0, 0)) = some (r1, r2, r3, r4) := by rw [if_neg (show ¬ (false = true) by decide)] at H; exact H
  clear H;have H := H1;clear H1
  simp only [Option.some.injEq, Prod.mk.injEq] at H
  obtain ⟨rfl, rfl, rfl, rfl⟩ := H
  go_enter Try.func31, Try.ntmps31
  go_wp2_with (first | ((with_reducible refine gate_dst (N := 4) rfl ?_); refine be_ 4 #[.bool false, .int .i64 0, .int .i64 0, .int .u64 0] 38 ?_; intro gb107 hg w77 hbox hb; have n0_ := A_ (below_step (hb_ HB.out) hb); have n1_ := A_ (hbox); have n2_ := A_ (sz_ hg (hb_ HB.out)); have n3_ := A_ (sz_ hg (hb_ HB.out)); clear HB; have HB := n0_; have BK107 := n1_; have GW107 := n2_; have GE107 := n3_; clear n0_ n1_ n2_ n3_; clear hb hbox hg) | ((with_reducible refine gate_callee (f := 67) rfl ?_); refine gl_ (some 10) Try.func67 #[.int .i64 a0] ?_; (with_reducible refine (shape_of.calls a0 t108 t109 false _ A3.out).mono ?_); rintro e w78 ⟨rfl, hb⟩; refine ⟨_, rfl, ?_⟩; have n0_ := A_ (bb_ BK107.out hb); have n1_ := A_ (below_step (hb1_ HB.out GE107.out) hb); clear BK107; clear HB; have BK107 := n0_; have HB := n1_; clear n0_ n1_; (try clear hb); (try clear hb2); (try clear hk); (try clear hi)) | ((with_reducible refine gate_dst (N := 5) rfl ?_); refine be_ 5 #[.int .i64 0, .int .i64 0] 70 ?_; intro gb111 hg w79 hbox hb; have n0_ := A_ (bb_ BK107.out hb); have n1_ := A_ (below_step (hb1_ HB.out GE107.out) hb); have n2_ := A_ (hbox); have n3_ := A_ (sz_ hg (hb1_ HB.out GE107.out)); have n4_ := A_ (sz_ hg (hb1_ HB.out GE107.out)); have n5_ := A_ (nl_ hg BK107.out); have n6_ := A_ (ng_ hg BK107.out); clear BK107; clear HB; have BK107 := n0_; have HB := n1_; have BK111 := n2_; have GW111 := n3_; have GE111 := n4_; have NB107_111 := n5_; have NB111_107 := n6_; clear n0_ n1_ n2_ n3_ n4_ n5_ n6_; clear hb hbox hg; have hnb80 := NB111_107.out; have hnc80 := NB107_111.out; have hcz81_0 : w79.cell? ⟨gb111, 0, none⟩ = some (.int .i64 0) := bc_ BK111.out 0; have hcz81_1 : w79.cell? ⟨gb111, 1, none⟩ = some (.int .i64 0) := bc_ BK111.out 1; have hfz81_0 := blk_frozen BK111.out 0; have hfz81_1 := blk_frozen BK111.out 1; have hcz82_0 : w79.cell? ⟨gb107, 0, none⟩ = some (.bool false) := bc_ BK107.out 0; have hcz82_1 : w79.cell? ⟨gb107, 1, none⟩ = some (.int .i64 0) := bc_ BK107.out 1; have hcz82_2 : w79.cell? ⟨gb107, 2, none⟩ = some (.int .i64 0) := bc_ BK107.out 2; have hcz82_3 : w79.cell? ⟨gb107, 3, none⟩ = some (.int .u64 0) := bc_ BK107.out 3; have hfz82_0 := blk_frozen BK107.out 0; have hfz82_1 := blk_frozen BK107.out 1; have hfz82_2 := blk_frozen BK107.out 2; have hfz82_3 := blk_frozen BK107.out 3))
  refine bodyPost_ret (results_cell_row rfl _ _ gb107 38 #[.bool false, .int .i64 0, .int .i64 0, .int .u64 0] (0, 0) _ rfl (by (with_reducible repeat (first | refine blk_drewN ?_ _ | refine blk_drew ?_ | refine blk_alloc ?_ _)); refine blk_put (cs := #[.bool false, .int .i64 0, .int .i64 0, .int .u64 0]) ?_ 3 _ rfl; (with_reducible repeat (first | refine blk_drewN ?_ _ | refine blk_drew ?_ | refine blk_alloc ?_ _)); refine blk_put (cs := #[.bool false, .int .i64 0, .int .i64 0, .int .u64 0]) ?_ 2 _ rfl; (with_reducible repeat (first | refine blk_drewN ?_ _ | refine blk_drew ?_ | refine blk_alloc ?_ _)); refine blk_put (cs := #[.bool false, .int .i64 0, .int .i64 0, .int .u64 0]) ?_ 1 _ rfl; (with_reducible repeat (first | refine blk_drewN ?_ _ | refine blk_drew ?_ | refine blk_alloc ?_ _)); refine blk_put (cs := #[.bool false, .int .i64 0, .int .i64 0, .int .u64 0]) ?_ 0 _ rfl; (with_reducible repeat (first | refine blk_drewN ?_ _ | refine blk_drew ?_ | refine blk_alloc ?_ _)); refine blk_far ?_ NB107_111.out _; (with_reducible repeat (first | refine blk_drewN ?_ _ | refine blk_drew ?_ | refine blk_alloc ?_ _)); refine blk_far ?_ NB107_111.out _; (with_reducible repeat (first | refine blk_drewN ?_ _ | refine blk_drew ?_ | refine blk_alloc ?_ _)); exact BK107.out) Try.underlying38 rfl (by kernel_rfl)) rfl ?_
  exact ⟨er_, hb2_ HB.out GE107.out GE111.out⟩
def sum_known.f (a0 : Int) : Option (Bool) := if a0 = 32 then (some true) else (some (a0 == 64))
theorem sum_known.calls (a0 : Int) (r : Bool) (w : World) (h : sum_known.f a0 = some r) :
  Calls Try.prog 55 #[.int .i64 a0] w fun e w' => e = .returned (.bool r) ∧ Drawn0 w w' := by
 have H : (if a0 = 32 then (some true) else (some (a0 == 64))) = some r := h
 clear h
 by_cases c2 : a0 = 32
 ·rw [if_pos c2] at H
  have c2b0 : (a0 == 32) = true := beq_iff_eq.mpr c2
  have c2b1 : (a0 != 32) = false := bne_eq_false_iff_eq.mpr c2
  clear c2
  obtain rfl := Option.some.inj H
  go_enter Try.func55, Try.ntmps55
  go_wp2
  go_ret
  exact ⟨sm_, by repeat (first | exact Drawn0.refl _ | apply Drawn0.step)⟩
 ·rw [if_neg c2] at H
  have c2b0 : (a0 == 32) = false := beq_eq_false_iff_ne.mpr c2
  have c2b1 : (a0 != 32) = true := bne_iff_ne.mpr c2
  obtain rfl := Option.some.inj H
  go_enter Try.func55, Try.ntmps55
  go_wp2
  go_ret
  exact ⟨sm_, by repeat (first | exact Drawn0.refl _ | apply Drawn0.step)⟩
end Go.Proofs.Ytbpmnmceajmmcaa.PA
set_option linter.unusedVariables false
set_option linter.unusedSimpArgs false
namespace Go.Proofs.Ytbpmnmceajmmcaa.Nr
open Go.RowKit Go.Proofs.YtbpmnmceajmmcaaW.PrintWords Go.Proofs.YtbpmnmceajmmcaaW.PrintLast Go.Proofs.YtbpmnmceajmmcaaW.PrintMore
def Nr (w : World) (v : Value) (l : List Int) : Prop := ∃ A c, v = .slice A l.length c ∧ l.length ≤ c ∧ Kd.C (Kd.int .u64) w A l.length l
def IsRow (v : Option Value) : Prop := ∃ A n c, v = some (.slice A n c)
theorem Nr.below {w w1 : World} {v : Value} {l : List Int} (h : Nr w v l) (hb : Below w.heap.size w w1) : Nr w1 v l := by
  obtain ⟨A, c, e, hc, h⟩ := h
  exact ⟨A, c, e, hc, Kd.C_below h hb⟩
theorem Nr.alloc {w : World} {v : Value} {l : List Int} (h : Nr w v l) (o : Obj) : Nr (w.alloc o) v l := h.below (below_alloc (Below.refl _ _) o)
theorem Nr.drew {w : World} {v : Value} {l : List Int} (h : Nr w v l) : Nr w.drew v l := h.below (below_drew1 (Below.refl _ _))
theorem Nr.drewN {w : World} {v : Value} {l : List Int} (h : Nr w v l) (n : Nat) : Nr (w.drewN n) v l := h.below (pw_below_drewN (Below.refl _ _) n)
theorem Nr.set {w : World} {v : Value} {l : List Int} (h : Nr w v l) {p : Addr} (x : Value) (hp : IsRow (w.cell? p)) : Nr (w.setCell p x) v l := by
  obtain ⟨A, c, e, hc, h1, h2, h3⟩ := h
  refine ⟨A, c, e, hc, h1, h2, fun hn => ?_⟩
  obtain ⟨ad, e1, h4⟩ := h3 hn
  refine ⟨ad, e1, fun j q hj => ?_⟩
  obtain ⟨cs, k1, k2, k3⟩ := h4 j q hj
  refine ⟨cs, k1, k2, fun i u hu => ?_⟩
  have k4 := k3 i u hu
  have k5 : u = .int .u64 q := by
    have k6 : cs = [Value.int .u64 q] := k2
    rw [k6] at hu
    rcases i with _ | i
    · simpa using hu.symm
    · simp at hu
  rw [World.cell?_setCell_other]
  · exact k4
  · intro e2
    obtain ⟨B, n, d, hp⟩ := hp
    rw [e2, k4, k5] at hp
    cases hp
theorem Nr.nil (w : World) : Nr w (.slice none 0 0) [] := ⟨none, 0, rfl, Nat.le_refl _, Kd.C_nil _ w⟩
theorem Nr.of_R {w : World} {e base : Nat} {ok : Nat → Prop} {v : Value} {l : List Int} (h : Kd.R (Kd.int .u64) e w base ok v l) : Nr w v l := Kd.R_reads h
theorem Nr.of_C {w : World} {A : Option Addr} {c : Nat} {l : List Int} (hc : l.length ≤ c) (h : Kd.C (Kd.int .u64) w A l.length l) : Nr w (.slice A l.length c) l := ⟨A, c, rfl, hc, h⟩
theorem IsRow.slice (A : Option Addr) (n c : Nat) : IsRow (some (.slice A n c)) := ⟨A, n, c, rfl⟩
theorem bcell {W w1 : World} (hb : Below W.heap.size W w1) : (∀ b o, b < W.heap.size → w1.cell? ⟨b, o, none⟩ = W.cell? ⟨b, o, none⟩) ∧ (∀ b o, b < W.heap.size → w1.frozen? ⟨b, o, none⟩ = W.frozen? ⟨b, o, none⟩) :=
  ⟨fun b o h => hb.cell (p := ⟨b, o, none⟩) h, fun b o h => hb.frozen (p := ⟨b, o, none⟩) h⟩
theorem al {W : World} {b : Nat} (h : b < W.heap.size) (o : Nat) (x : Obj) : (W.alloc x).cell? ⟨b, o, none⟩ = W.cell? ⟨b, o, none⟩ := (bcell (below_alloc (Below.refl _ W) x)).1 b o h
theorem alf {W : World} {b : Nat} (h : b < W.heap.size) (o : Nat) (x : Obj) : (W.alloc x).frozen? ⟨b, o, none⟩ = W.frozen? ⟨b, o, none⟩ := (bcell (below_alloc (Below.refl _ W) x)).2 b o h
theorem lt_al {n : Nat} {W : World} {x : Obj} (h : n < W.heap.size) : n < (W.alloc x).heap.size := Nat.lt_of_lt_of_le h (below_alloc (Below.refl _ W) x).size
theorem Nr.of_V {w : World} {e base : Nat} {ok : Nat → Prop} {v : Value} {l : List Int} (h : Kd.V (Kd.int .u64) e w base ok v l) : Nr w v l := by
  obtain ⟨A, c, hv, hl, hf⟩ := h
  exact ⟨A, c, hv, hl, Kd.F_now hf⟩
def At (ok : Nat → Prop) (v : Value) : Prop := ∀ ad n c, v = .slice (some ad) n c → 0 < n → ok ad.block
theorem At.mono {ok ok' : Nat → Prop} {v : Value} (h : At ok v) (i : ∀ k, ok k → ok' k) : At ok' v := fun ad n c e hn => i _ (h ad n c e hn)
theorem At.of_V {w : World} {e base : Nat} {ok : Nat → Prop} {v : Value} {l : List Int} (h : Kd.V (Kd.int .u64) e w base ok v l) : At ok v := by
  obtain ⟨A, c, hv, hl, hf⟩ := h
  intro ad n c' e1 hn
  rw [hv] at e1
  injection e1 with e1 e2 e3
  subst e2
  exact Kd.F_in hf e1 hn (by decide)
theorem At.of_R {w : World} {e base : Nat} {ok : Nat → Prop} {v : Value} {l : List Int} (h : Kd.R (Kd.int .u64) e w base ok v l) : At (fun k => base ≤ k ∧ k < w.heap.size) v := by
  intro ad n c e1 hn
  obtain ⟨A, c', e2, hl, _⟩ := Kd.R_reads h
  have hlen : 0 < l.length := by
    rw [e2] at e1
    injection e1 with _ e3 _
    omega
  obtain ⟨g, cap, e3, hb, hlt, _⟩ := Kd.R_form h hlen
  rw [e3] at e1
  injection e1 with e4 _ _
  injection e4 with e4
  rw [← e4]; exact ⟨hb, hlt⟩
theorem Nr.toV {w : World} {e base : Nat} {ok : Nat → Prop} {v : Value} {l : List Int} (h : Nr w v l) (ha : At ok v) : Kd.V (Kd.int .u64) e w base ok v l := by
  obtain ⟨A, c, hv, hl, hc⟩ := h
  refine ⟨A, c, hv, hl, ?_⟩
  intro W' hW'
  obtain ⟨h1, h2, h3⟩ := hc
  refine ⟨h1, h2, fun hn => ?_⟩
  obtain ⟨ad, e1, h4⟩ := h3 hn
  refine ⟨ad, e1, fun j p hj => ?_⟩
  obtain ⟨cs, k1, k2, k3⟩ := h4 j p hj
  refine ⟨cs, k1, k2, fun i u hu => ?_⟩
  have k4 := k3 i u hu
  have hok : ok ad.block := ha ad l.length c (by rw [hv, e1]) hn
  have hb := World.block_lt_of_cell? w _ k4
  have hblk : ∀ n, (ad.add n).block = ad.block := fun n => by rw [add_block]
  rw [hblk] at hb
  have e := hW' ad.block hok hb
  have e2 : W'.heap[(ad.add (j * (Kd.int .u64).sz + i)).block]? = w.heap[(ad.add (j * (Kd.int .u64).sz + i)).block]? := by rw [hblk]; exact e
  simpa [World.cell?, e2] using k4
theorem Rs {w : World} {e base : Nat} {ok : Nat → Prop} {v : Value} {l : List Int} (h : Kd.R (Kd.int .u64) e w base ok v l) {p : Addr} (hne : v.ownBlock ≠ some p.block) (x : Value) : Kd.R (Kd.int .u64) e (w.setCell p x) base ok v l :=
  Kd.R_mono (Kd.R_far (Kd.R_far1 h rfl (g := p.block) (fun e => hne e.symm)) (fun _ hk => hk.2) x) (fun _ hk => hk.1)
theorem Rok {w : World} {e base base' : Nat} {ok ok' : Nat → Prop} {v : Value} {l : List Int} (h : Kd.R (Kd.int .u64) e w base ok v l) (hb : base' ≤ base) (hok : ∀ k, v.ownBlock = some k → base ≤ k → k < w.heap.size → ok' k) : Kd.R (Kd.int .u64) e w base' ok' v l :=
  Kd.R_reok rfl (Kd.R_lower h hb) (fun k hk => hok k hk (Kd.R_base h k hk) (Kd.R_lt h k hk))
structure Ow (e base : Nat) (w : World) (v : Value) (l : List Int) : Prop where
  out : Kd.R (Kd.int .u64) e w base (fun k => base ≤ k) v l
theorem Ow.nil (e base : Nat) (w : World) : Ow e base w (.slice none 0 0) [] := ⟨Kd.R_nil _ _ _ _ _⟩
theorem Ow.below {e base : Nat} {w w1 : World} {v : Value} {l : List Int} (h : Ow e base w v l) (hb : Below w.heap.size w w1) : Ow e base w1 v l := ⟨Kd.R_below h.out hb⟩
theorem Ow.alloc {e base : Nat} {w : World} {v : Value} {l : List Int} (h : Ow e base w v l) (o : Obj) : Ow e base (w.alloc o) v l := ⟨Kd.R_alloc h.out o⟩
theorem Ow.drew {e base : Nat} {w : World} {v : Value} {l : List Int} (h : Ow e base w v l) : Ow e base w.drew v l := ⟨Kd.R_drew h.out⟩
theorem Ow.drewN {e base : Nat} {w : World} {v : Value} {l : List Int} (h : Ow e base w v l) (n : Nat) : Ow e base (w.drewN n) v l := ⟨Kd.R_drewN h.out n⟩
theorem Ow.set {e base : Nat} {w : World} {v : Value} {l : List Int} (h : Ow e base w v l) {p : Addr} (x : Value) (hne : v.ownBlock ≠ some p.block) : Ow e base (w.setCell p x) v l := ⟨Rs h.out hne x⟩
theorem Ow.of_R {e base base' : Nat} {w : World} {ok : Nat → Prop} {v : Value} {l : List Int} (h : Kd.R (Kd.int .u64) e w base ok v l) (hb : base' ≤ base) : Ow e base' w v l := ⟨Rok h hb (fun k _ h1 _ => Nat.le_trans hb h1)⟩
theorem Ow.nr {e base : Nat} {w : World} {v : Value} {l : List Int} (h : Ow e base w v l) : Nr w v l := Nr.of_R h.out
end Go.Proofs.Ytbpmnmceajmmcaa.Nr
namespace Go.Proofs.Ytbpmnmceajmmcaa.PA
open Go.RowKit Go.Proofs.YtbpmnmceajmmcaaW.PrintWords Go.Proofs.YtbpmnmceajmmcaaW.PrintLast Go.Proofs.YtbpmnmceajmmcaaW.PrintMore
attribute [local go_sem] max2_int min2_int max_two min_two max_three min_three max_four min_four   -- for this text's walks alone
set_option linter.unusedVariables false
set_option linter.unusedSimpArgs false
set_option maxHeartbeats 8000000
set_option maxRecDepth 100000
theorem eqA42 (d : Nat) (w : World) (x0 y0 : Int) (x1 y1 : Int) :
  (Op.equalIn (d + 2) 42 (.agg #[.int .u64 x0, .int .u64 x1]) (.agg #[.int .u64 y0, .int .u64 y1])).run Try.prog w = .ok (x0 == y0 && (x1 == y1)) w := by
 refine eqA_of Try.underlying42 (by kernel_rfl) ?_
 refine eqf_cons (by rfl) (by go_simp; rfl) (by go_simp; rfl) (by go_simp) ?_
 exact eqf_last (by rfl) (by go_simp; rfl) (by go_simp; rfl) (by go_simp)
def wide_Left.f (a0_0 : Int) (a0_1 : Int) (a1 : Int) : Option (Int × Int) := if a1 ≤ 0 then (some (a0_0, a0_1)) else (if a1 ≥ 128 then (some (0, 0)) else (if a1 ≥ 64 then (if 0 ≤ (wrap64 (a1 - 64)) then (some (shl .u64 a0_1 (wrap64 (a1 - 64)), 0)) else (none)) else (if 0 ≤ a1 then (if 0 ≤ (wrap64 (64 - a1)) then (some (Go.bits .or .u64 (shl .u64 a0_0 a1) (shr .u64 a0_1 (wrap64 (64 - a1))), shl .u64 a0_1 a1)) else (none)) else (none))))
def wide_Left.T7 : Bool × List (List Nat × List Nat) := (true, [([], []), ([0], [0]), ([], []), ([1, 2], [1, 2]), ([], []), ([4], [4]), ([], []), ([6], [6]), ([5, 7], [5, 7]), ([3, 8], [3, 8]), ([], []), ([10], [10]), ([], []), ([11, 12], [11, 12]), ([9, 13], [9, 13]), ([14, 0, 1, 2, 3, 4, 5, 6, 7, 8, 9, 10, 11, 12, 13, 14], [14])])
def wide_Left.B7 : List Nat := [0, 1, 0, 7, 0, 16, 0, 64, 240, 511, 0, 1024, 0, 7168, 16383, 32767]
theorem wide_Left.tab7 : rtab .any (opsOf Try.f41 7) = wide_Left.T7 := by kernel_rfl
theorem wide_Left.bits7 : waitsOk wide_Left.T7.2 wide_Left.B7 = true := by kernel_rfl
theorem wide_Left.calls (a0_0 : Int) (a0_1 : Int) (a1 : Int) (r1 : Int) (r2 : Int) (w : World) (h : wide_Left.f a0_0 a0_1 a1 = some (r1, r2)) :
  Calls Try.prog 41 #[.agg #[.int .u64 a0_0, .int .u64 a0_1], .int .i64 a1] w fun e w' => e = .returned (.agg #[.int .u64 r1, .int .u64 r2]) ∧ Below w.heap.size w w' := by
 have hu42 := Try.underlying42
 have HB := A_ (Below.refl w.heap.size w)
 have H : (if a1 ≤ 0 then (some (a0_0, a0_1)) else (if a1 ≥ 128 then (some (0, 0)) else (if a1 ≥ 64 then (if 0 ≤ (wrap64 (a1 - 64)) then (some (shl .u64 a0_1 (wrap64 (a1 - 64)), 0)) else (none)) else (if 0 ≤ a1 then (if 0 ≤ (wrap64 (64 - a1)) then (some (Go.bits .or .u64 (shl .u64 a0_0 a1) (shr .u64 a0_1 (wrap64 (64 - a1))), shl .u64 a0_1 a1)) else (none)) else (none))))) = some (r1, r2) := h
 clear h
 by_cases c3 : a1 ≤ 0
 ·rw [if_pos c3] at H
  have c3b0 : decide (a1 ≤ 0) = true := decide_eq_true c3
  clear c3
  simp only [Option.some.injEq, Prod.mk.injEq] at H
  obtain ⟨rfl, rfl⟩ := H
  go_enter Try.func41, Try.ntmps41
  go_wp2_with (first | ((with_reducible refine gate_dst (N := 2) rfl ?_); refine be_ 2 #[.int .u64 a0_0, .int .u64 a0_1] 42 ?_; intro gb141 hg w4 hbox hb; have n0_ := A_ (below_step (hb_ HB.out) hb); have n1_ := A_ (hbox); have n2_ := A_ (sz_ hg (hb_ HB.out)); have n3_ := A_ (sz_ hg (hb_ HB.out)); clear HB; have HB := n0_; have BK141 := n1_; have GW141 := n2_; have GE141 := n3_; clear n0_ n1_ n2_ n3_; clear hb hbox hg) | ((with_reducible refine gate_dst (N := 4) rfl ?_); refine be_ 4 #[.int .u64 0, .int .u64 0] 42 ?_; intro gb142 hg w5 hbox hb; have n0_ := A_ (bb_ BK141.out hb); have n1_ := A_ (below_step (hb1_ HB.out GE141.out) hb); have n2_ := A_ (hbox); have n3_ := A_ (sz_ hg (hb1_ HB.out GE141.out)); have n4_ := A_ (sz_ hg (hb1_ HB.out GE141.out)); have n5_ := A_ (nl_ hg BK141.out); have n6_ := A_ (ng_ hg BK141.out); clear BK141; clear HB; have BK141 := n0_; have HB := n1_; have BK142 := n2_; have GW142 := n3_; have GE142 := n4_; have NB141_142 := n5_; have NB142_141 := n6_; clear n0_ n1_ n2_ n3_ n4_ n5_ n6_; clear hb hbox hg; have hnb6 := NB141_142.out; have hnc6 := NB142_141.out; have hcz7_0 : w5.cell? ⟨gb141, 0, none⟩ = some (.int .u64 a0_0) := bc_ BK141.out 0; have hcz7_1 : w5.cell? ⟨gb141, 1, none⟩ = some (.int .u64 a0_1) := bc_ BK141.out 1; have hfz7_0 := blk_frozen BK141.out 0; have hfz7_1 := blk_frozen BK141.out 1; have hcz8_0 : w5.cell? ⟨gb142, 0, none⟩ = some (.int .u64 0) := bc_ BK142.out 0; have hcz8_1 : w5.cell? ⟨gb142, 1, none⟩ = some (.int .u64 0) := bc_ BK142.out 1; have hfz8_0 := blk_frozen BK142.out 0; have hfz8_1 := blk_frozen BK142.out 1))
  refine bodyPost_ret (results_cell_row rfl _ _ gb142 42 #[.int .u64 a0_0, .int .u64 a0_1] (0, 0) _ rfl (by (with_reducible repeat (first | refine blk_drewN ?_ _ | refine blk_drew ?_ | refine blk_alloc ?_ _)); refine blk_put (cs := #[.int .u64 a0_0, .int .u64 0]) ?_ 1 _ rfl; (with_reducible repeat (first | refine blk_drewN ?_ _ | refine blk_drew ?_ | refine blk_alloc ?_ _)); refine blk_put (cs := #[.int .u64 0, .int .u64 0]) ?_ 0 _ rfl; (with_reducible repeat (first | refine blk_drewN ?_ _ | refine blk_drew ?_ | refine blk_alloc ?_ _)); exact BK142.out) Try.underlying42 rfl (by kernel_rfl)) rfl ?_
  exact ⟨er_, hb2_ HB.out GE141.out GE142.out⟩
 ·rw [if_neg c3] at H
  have c3b0 : decide (a1 ≤ 0) = false := decide_eq_false c3
  clear c3
  by_cases c9 : a1 ≥ 128
  ·rw [if_pos c9] at H
   have c9b0 : decide (128 ≤ a1) = true := decide_eq_true c9
   clear c9
   simp only [Option.some.injEq, Prod.mk.injEq] at H
   obtain ⟨rfl, rfl⟩ := H
   go_enter Try.func41, Try.ntmps41
   go_wp2_with (first | ((with_reducible refine gate_dst (N := 2) rfl ?_); refine be_ 2 #[.int .u64 a0_0, .int .u64 a0_1] 42 ?_; intro gb141 hg w10 hbox hb; have n0_ := A_ (below_step (hb_ HB.out) hb); have n1_ := A_ (hbox); have n2_ := A_ (sz_ hg (hb_ HB.out)); have n3_ := A_ (sz_ hg (hb_ HB.out)); clear HB; have HB := n0_; have BK141 := n1_; have GW141 := n2_; have GE141 := n3_; clear n0_ n1_ n2_ n3_; clear hb hbox hg) | ((with_reducible refine gate_dst (N := 4) rfl ?_); refine be_ 4 #[.int .u64 0, .int .u64 0] 42 ?_; intro gb142 hg w11 hbox hb; have n0_ := A_ (bb_ BK141.out hb); have n1_ := A_ (below_step (hb1_ HB.out GE141.out) hb); have n2_ := A_ (hbox); have n3_ := A_ (sz_ hg (hb1_ HB.out GE141.out)); have n4_ := A_ (sz_ hg (hb1_ HB.out GE141.out)); have n5_ := A_ (nl_ hg BK141.out); have n6_ := A_ (ng_ hg BK141.out); clear BK141; clear HB; have BK141 := n0_; have HB := n1_; have BK142 := n2_; have GW142 := n3_; have GE142 := n4_; have NB141_142 := n5_; have NB142_141 := n6_; clear n0_ n1_ n2_ n3_ n4_ n5_ n6_; clear hb hbox hg; have hnb12 := NB142_141.out; have hnc12 := NB141_142.out; have hcz13_0 : w11.cell? ⟨gb142, 0, none⟩ = some (.int .u64 0) := bc_ BK142.out 0; have hcz13_1 : w11.cell? ⟨gb142, 1, none⟩ = some (.int .u64 0) := bc_ BK142.out 1; have hfz13_0 := blk_frozen BK142.out 0; have hfz13_1 := blk_frozen BK142.out 1))
   refine bodyPost_ret (results_cell_row rfl _ _ gb142 42 #[.int .u64 0, .int .u64 0] (0, 0) _ rfl (by (with_reducible repeat (first | refine blk_drewN ?_ _ | refine blk_drew ?_ | refine blk_alloc ?_ _)); refine blk_put (cs := #[.int .u64 0, .int .u64 0]) ?_ 1 _ rfl; (with_reducible repeat (first | refine blk_drewN ?_ _ | refine blk_drew ?_ | refine blk_alloc ?_ _)); refine blk_put (cs := #[.int .u64 0, .int .u64 0]) ?_ 0 _ rfl; (with_reducible repeat (first | refine blk_drewN ?_ _ | refine blk_drew ?_ | refine blk_alloc ?_ _)); exact BK142.out) Try.underlying42 rfl (by kernel_rfl)) rfl ?_
   exact ⟨er_, hb2_ HB.out GE141.out GE142.out⟩
  ·rw [if_neg c9] at H
   have c9b0 : decide (128 ≤ a1) = false := decide_eq_false c9
   clear c9
   by_cases c14 : a1 ≥ 64
   ·rw [if_pos c14] at H
    have c14b0 : decide (64 ≤ a1) = true := decide_eq_true c14
    clear c14
    obtain ⟨ji15, hji15⟩ : ∃ j_ : Int, (wrap64 (a1 - 64)) = j_ := ⟨_, rfl⟩
    replace H : (if 0 ≤ (ji15) then (some (shl .u64 a0_1 (ji15), 0)) else (none)) = some (r1, r2) := by first | (rw [hji15] at H; exact H) | (simp only [hji15] at H ⊢; exact H)
    have hji15w : (IntKind.i64.wrap (a1 - 64)) = ji15 := (i64_w _).trans hji15
    by_cases c16 : 0 ≤ (ji15)
    ·rw [if_pos c16] at H
     have c16b0 := eq_true c16
     have c16b1 : decide (0 ≤ (ji15)) = true := decide_eq_true c16
     clear c16
     obtain ⟨ji17, hji17⟩ : ∃ j_ : Int, (shl .u64 a0_1 (ji15)) = j_ := ⟨_, rfl⟩
     replace H : (some (ji17, 0)) = some (r1, r2) := by first | (rw [hji17] at H; exact H) | (simp only [hji17] at H ⊢; exact H)
     have hji17_ : (IntKind.u64.wrap (a0_1 * 2 ^ min (ji15).toNat 64)) = ji17 := hji17
     have hji17z : (ji15) ≤ 64 → (IntKind.u64.wrap (a0_1 * 2 ^ (ji15).toNat)) = ji17 := shl_small hji17
     simp only [Option.some.injEq, Prod.mk.injEq] at H
     obtain ⟨rfl, rfl⟩ := H
     go_enter Try.func41, Try.ntmps41
     go_wp2_with (first | ((with_reducible refine gate_dst (N := 2) rfl ?_); refine be_ 2 #[.int .u64 a0_0, .int .u64 a0_1] 42 ?_; intro gb141 hg w18 hbox hb; have n0_ := A_ (below_step (hb_ HB.out) hb); have n1_ := A_ (hbox); have n2_ := A_ (sz_ hg (hb_ HB.out)); have n3_ := A_ (sz_ hg (hb_ HB.out)); clear HB; have HB := n0_; have BK141 := n1_; have GW141 := n2_; have GE141 := n3_; clear n0_ n1_ n2_ n3_; clear hb hbox hg) | ((with_reducible refine gate_dst (N := 4) rfl ?_); refine be_ 4 #[.int .u64 0, .int .u64 0] 42 ?_; intro gb142 hg w19 hbox hb; have n0_ := A_ (bb_ BK141.out hb); have n1_ := A_ (below_step (hb1_ HB.out GE141.out) hb); have n2_ := A_ (hbox); have n3_ := A_ (sz_ hg (hb1_ HB.out GE141.out)); have n4_ := A_ (sz_ hg (hb1_ HB.out GE141.out)); have n5_ := A_ (nl_ hg BK141.out); have n6_ := A_ (ng_ hg BK141.out); clear BK141; clear HB; have BK141 := n0_; have HB := n1_; have BK142 := n2_; have GW142 := n3_; have GE142 := n4_; have NB141_142 := n5_; have NB142_141 := n6_; clear n0_ n1_ n2_ n3_ n4_ n5_ n6_; clear hb hbox hg; have hnb20 := NB141_142.out; have hnc20 := NB142_141.out; have hcz21_0 : w19.cell? ⟨gb141, 0, none⟩ = some (.int .u64 a0_0) := bc_ BK141.out 0; have hcz21_1 : w19.cell? ⟨gb141, 1, none⟩ = some (.int .u64 a0_1) := bc_ BK141.out 1; have hfz21_0 := blk_frozen BK141.out 0; have hfz21_1 := blk_frozen BK141.out 1; have hcz22_0 : w19.cell? ⟨gb142, 0, none⟩ = some (.int .u64 0) := bc_ BK142.out 0; have hcz22_1 : w19.cell? ⟨gb142, 1, none⟩ = some (.int .u64 0) := bc_ BK142.out 1; have hfz22_0 := blk_frozen BK142.out 0; have hfz22_1 := blk_frozen BK142.out 1))
     refine bodyPost_ret (results_cell_row rfl _ _ gb142 42 #[.int .u64 ji17, .int .u64 0] (0, 0) _ rfl (by (with_reducible repeat (first | refine blk_drewN ?_ _ | refine blk_drew ?_ | refine blk_alloc ?_ _)); refine blk_put (cs := #[.int .u64 ji17, .int .u64 0]) ?_ 1 _ rfl; (with_reducible repeat (first | refine blk_drewN ?_ _ | refine blk_drew ?_ | refine blk_alloc ?_ _)); refine blk_put (cs := #[.int .u64 0, .int .u64 0]) ?_ 0 _ rfl; (with_reducible repeat (first | refine blk_drewN ?_ _ | refine blk_drew ?_ | refine blk_alloc ?_ _)); exact BK142.out) Try.underlying42 rfl (by kernel_rfl)) rfl ?_
     exact ⟨by first | rfl | (simp [errW_none, errW_some] <;> rfl) | (simp only [← hji15, ← hji17]; first | rfl | (simp [errW_none, errW_some] <;> rfl)) | (simp [*, errW_none, errW_some] <;> rfl), hb2_ HB.out GE141.out GE142.out⟩
    ·rw [if_neg c16] at H
     exact absurd H (by simp)
   ·rw [if_neg c14] at H
    have c14b0 : decide (64 ≤ a1) = false := decide_eq_false c14
    clear c14
    by_cases c23 : 0 ≤ a1
    ·rw [if_pos c23] at H
     have c23b0 := eq_true c23
     have c23b1 : decide (0 ≤ a1) = true := decide_eq_true c23
     clear c23
     obtain ⟨ji24, hji24⟩ : ∃ j_ : Int, (shl .u64 a0_0 a1) = j_ := ⟨_, rfl⟩
     replace H : (if 0 ≤ (wrap64 (64 - a1)) then (some (Go.bits .or .u64 (ji24) (shr .u64 a0_1 (wrap64 (64 - a1))), shl .u64 a0_1 a1)) else (none)) = some (r1, r2) := by first | (rw [hji24] at H; exact H) | (simp only [hji24] at H ⊢; exact H)
     have hji24_ : (IntKind.u64.wrap (a0_0 * 2 ^ min a1.toNat 64)) = ji24 := hji24
     have hji24z : a1 ≤ 64 → (IntKind.u64.wrap (a0_0 * 2 ^ a1.toNat)) = ji24 := shl_small hji24
     obtain ⟨ji25, hji25⟩ : ∃ j_ : Int, (wrap64 (64 - a1)) = j_ := ⟨_, rfl⟩
     replace H : (if 0 ≤ (ji25) then (some (Go.bits .or .u64 (ji24) (shr .u64 a0_1 (ji25)), shl .u64 a0_1 a1)) else (none)) = some (r1, r2) := by first | (rw [hji25] at H; exact H) | (simp only [hji25] at H ⊢; exact H)
     have hji25w : (IntKind.i64.wrap (64 - a1)) = ji25 := (i64_w _).trans hji25
     by_cases c26 : 0 ≤ (ji25)
     ·rw [if_pos c26] at H
      have c26b0 := eq_true c26
      have c26b1 : decide (0 ≤ (ji25)) = true := decide_eq_true c26
      clear c26
      obtain ⟨ji27, hji27⟩ : ∃ j_ : Int, (shr .u64 a0_1 (ji25)) = j_ := ⟨_, rfl⟩
      replace H : (some (Go.bits .or .u64 (ji24) (ji27), shl .u64 a0_1 a1)) = some (r1, r2) := by first | (rw [hji27] at H; exact H) | (simp only [hji27] at H ⊢; exact H)
      have hji27_ : (a0_1 / 2 ^ min (ji25).toNat 64) = ji27 := hji27
      have hji27z : (ji25) ≤ 64 → (a0_1 / 2 ^ (ji25).toNat) = ji27 := shr_small hji27
      have c28b0 := eq_true (of_decide_eq_true (by first | (with_reducible assumption) | assumption) : 0 ≤ a1)
      obtain ⟨ji29, hji29⟩ : ∃ j_ : Int, (shl .u64 a0_1 a1) = j_ := ⟨_, rfl⟩
      replace H : (some (Go.bits .or .u64 (ji24) (ji27), ji29)) = some (r1, r2) := by first | (rw [hji29] at H; exact H) | (simp only [hji29] at H ⊢; exact H)
      have hji29_ : (IntKind.u64.wrap (a0_1 * 2 ^ min a1.toNat 64)) = ji29 := hji29
      have hji29z : a1 ≤ 64 → (IntKind.u64.wrap (a0_1 * 2 ^ a1.toNat)) = ji29 := shl_small hji29
      simp only [Option.some.injEq, Prod.mk.injEq] at H
      obtain ⟨rfl, rfl⟩ := H
      go_enter Try.func41, Try.ntmps41
      try go_wp2_with (first | ((with_reducible refine gate_dst (N := 2) rfl ?_); refine be_ 2 #[.int .u64 a0_0, .int .u64 a0_1] 42 ?_; intro gb141 hg w30 hbox hb; have n0_ := A_ (below_step (hb_ HB.out) hb); have n1_ := A_ (hbox); have n2_ := A_ (sz_ hg (hb_ HB.out)); have n3_ := A_ (sz_ hg (hb_ HB.out)); clear HB; have HB := n0_; have BK141 := n1_; have GW141 := n2_; have GE141 := n3_; clear n0_ n1_ n2_ n3_; clear hb hbox hg) | ((with_reducible refine gate_dst (N := 4) rfl ?_); refine be_ 4 #[.int .u64 0, .int .u64 0] 42 ?_; intro gb142 hg w31 hbox hb; have n0_ := A_ (bb_ BK141.out hb); have n1_ := A_ (below_step (hb1_ HB.out GE141.out) hb); have n2_ := A_ (hbox); have n3_ := A_ (sz_ hg (hb1_ HB.out GE141.out)); have n4_ := A_ (sz_ hg (hb1_ HB.out GE141.out)); have n5_ := A_ (nl_ hg BK141.out); have n6_ := A_ (ng_ hg BK141.out); clear BK141; clear HB; have BK141 := n0_; have HB := n1_; have BK142 := n2_; have GW142 := n3_; have GE142 := n4_; have NB141_142 := n5_; have NB142_141 := n6_; clear n0_ n1_ n2_ n3_ n4_ n5_ n6_; clear hb hbox hg))
      have n0_ := A_ (blk_drew BK141.out)
      have n1_ := A_ (blk_drew BK142.out)
      have n2_ := A_ (below_drew1 HB.out)
      clear BK141;clear BK142;clear HB;have BK141 := n0_;have BK142 := n1_;have HB := n2_;clear n0_ n1_ n2_
      refine start_ (n := 16) (S := fun w' => w'.cell? ⟨gb141, 0, none⟩ = some (.int .u64 a0_0) ∧ w'.cell? ⟨gb141, 1, none⟩ = some (.int .u64 a0_1)) (ds := []) #[false, false, false, false, false, false, false, false, false, false, false, false, false, false, false, false] (by kernel_rfl) rfl rfl ⟨bc_ BK141.out 0, bc_ BK141.out 1⟩ (fun hHeld => ?_); refine with_tabW wide_Left.tab7 wide_Left.bits7 (fun HT_ HW_ => ?_)
      generalize w31.drew = w32 at BK141 BK142 HB hHeld ⊢
      refine pu_ 0 (some 22) #[true, false, false, false, false, false, false, false, false, false, false, false, false, false, false, false] rfl rfl (any_of HT_.out (by kernel_rfl)) ?_
      refine pu_ 2 (some 24) #[true, false, true, false, false, false, false, false, false, false, false, false, false, false, false, false] rfl rfl (any_of HT_.out (by kernel_rfl)) ?_
      refine pu_ 4 (some 26) #[true, false, true, false, true, false, false, false, false, false, false, false, false, false, false, false] rfl rfl (any_of HT_.out (by kernel_rfl)) ?_
      refine pu_ 6 (some 28) #[true, false, true, false, true, false, true, false, false, false, false, false, false, false, false, false] rfl rfl (any_of HT_.out (by kernel_rfl)) ?_
      refine pu_ 7 (some 29) #[true, false, true, false, true, false, true, true, false, false, false, false, false, false, false, false] rfl rfl (any_of HT_.out (by kernel_rfl)) ?_
      refine pu_ 10 (some 32) #[true, false, true, false, true, false, true, true, false, false, true, false, false, false, false, false] rfl rfl (any_of HT_.out (by kernel_rfl)) ?_
      refine pu_ 12 (some 34) #[true, false, true, false, true, false, true, true, false, false, true, false, true, false, false, false] rfl rfl (any_of HT_.out (by kernel_rfl)) ?_
      refine tk2_ 1 (some 23) #[true, true, true, false, true, false, true, true, false, false, true, false, true, false, false, false] rfl rfl (take_ofW HT_.out HW_.out (by kernel_rfl)) hHeld ?_
      refine pu_ 3 (some 25) #[true, true, true, true, true, false, true, true, false, false, true, false, true, false, false, false] rfl rfl (any_of HT_.out (by kernel_rfl)) ?_
      refine tk2_ 5 (some 27) #[true, true, true, true, true, true, true, true, false, false, true, false, true, false, false, false] rfl rfl (take_ofW HT_.out HW_.out (by kernel_rfl)) hHeld ?_
      refine pu_ 8 (some 30) #[true, true, true, true, true, true, true, true, true, false, true, false, true, false, false, false] rfl rfl (any_of HT_.out (by kernel_rfl)) ?_
      refine pu_ 9 (some 31) #[true, true, true, true, true, true, true, true, true, true, true, false, true, false, false, false] rfl rfl (any_of HT_.out (by kernel_rfl)) ?_
      refine tk2_ 11 (some 33) #[true, true, true, true, true, true, true, true, true, true, true, true, true, false, false, false] rfl rfl (take_ofW HT_.out HW_.out (by kernel_rfl)) hHeld ?_
      refine pu_ 13 (some 35) #[true, true, true, true, true, true, true, true, true, true, true, true, true, true, false, false] rfl rfl (any_of HT_.out (by kernel_rfl)) ?_
      refine pu_ 14 (some 36) #[true, true, true, true, true, true, true, true, true, true, true, true, true, true, true, false] rfl rfl (any_of HT_.out (by kernel_rfl)) ?_
      refine one_ (i := 15) (N := none) #[true, true, true, true, true, true, true, true, true, true, true, true, true, true, true, true] rfl rfl (one_of HT_.out (by kernel_rfl)) (by decide) (fun K hK => ?_)
      have hs33 : w32.cell? ⟨gb142, 0, none⟩ = some (.int .u64 0) := bc_ BK142.out 0
      have hfs33 := blk_frozen BK142.out 0
      have hns33_0 := NB141_142.out
      have hms33_0 := NB142_141.out
      have hs34 : w32.cell? ⟨gb142, 1, none⟩ = some (.int .u64 0) := bc_ BK142.out 1
      have hfs34 := blk_frozen BK142.out 1
      have hns34_0 := NB141_142.out
      have hms34_0 := NB142_141.out
      refine skip_ (w1 := ?_) (by rfl) rfl ?_ ?_
      rotate_left
      ·go_simp
       rfl
      refine hK.out _ _ ⟨((cell_far (p := ⟨gb142, _, none⟩) NB141_142.out _).trans (((cell_far (p := ⟨gb142, _, none⟩) NB141_142.out _).trans (hHeld.1)))), ((cell_far (p := ⟨gb142, _, none⟩) NB141_142.out _).trans (((cell_far (p := ⟨gb142, _, none⟩) NB141_142.out _).trans (hHeld.2))))⟩ (fun hHeld => ?_)
      clear hK K
      refine done_ (done_of HT_.out (by kernel_rfl)) ?_
      try go_wp2
      refine bodyPost_ret (results_cell_row rfl _ _ gb142 42 #[.int .u64 (Go.bits .or .u64 (ji24) (ji27)), .int .u64 ji29] (0, 0) _ rfl (by (with_reducible repeat (first | refine blk_drewN ?_ _ | refine blk_drew ?_ | refine blk_alloc ?_ _)); refine blk_put (cs := #[.int .u64 (Go.bits .or .u64 (ji24) (ji27)), .int .u64 0]) ?_ 1 _ rfl; (with_reducible repeat (first | refine blk_drewN ?_ _ | refine blk_drew ?_ | refine blk_alloc ?_ _)); refine blk_put (cs := #[.int .u64 0, .int .u64 0]) ?_ 0 _ rfl; (with_reducible repeat (first | refine blk_drewN ?_ _ | refine blk_drew ?_ | refine blk_alloc ?_ _)); exact BK142.out) Try.underlying42 rfl (by kernel_rfl)) rfl ?_
      exact ⟨by first | rfl | (simp [errW_none, errW_some] <;> rfl) | (simp only [← hji24, ← hji25, ← hji27, ← hji29]; first | rfl | (simp [errW_none, errW_some] <;> rfl)) | (simp [*, errW_none, errW_some] <;> rfl), hb2_ HB.out GE141.out GE142.out⟩
     ·rw [if_neg c26] at H
      exact absurd H (by simp)
    ·rw [if_neg c23] at H
     exact absurd H (by simp)
end Go.Proofs.Ytbpmnmceajmmcaa.PA
