/- What the Go functions that the statement SumKeeps reaches compute, and the mathematics on it, in the order in which one leans on the other; for every input. -/
import Derived.Test.YtgcgheilbngcoaaVSumKeeps0
import Derived.Test.YtgcgheilbngcoaaMSumKeeps0
namespace Go.Proofs.Ytgcgheilbngcoaa.PA
open Go.RowKit Go.Proofs.YtgcgheilbngcoaaW.PrintWords Go.Proofs.YtgcgheilbngcoaaW.PrintLast Go.Proofs.YtgcgheilbngcoaaW.PrintMore
attribute [local go_sem] max2_int min2_int max_two min_two max_three min_three max_four min_four   -- for this text's walks alone
set_option linter.unusedVariables false
set_option linter.unusedSimpArgs false
set_option maxHeartbeats 8000000
set_option maxRecDepth 100000
mutual
def shape_Open.j0 : Nat → Bool → Int → Int → Bool → Int → Int → Option (Bool × Int × Int × Int)
 | 0, _, _, _, _, _, _ => none
 | k + 1, x19, x118000, x118001, x118002, x118003, x118004 => if x19 = true then (some (false, 3, 0, 0)) else ((shape_format_ones.f x118000 x118001).bind fun t119 => (if x118003 = t119 then (some (x118002, 2, 0, 0)) else (if x118003 = 0 then (shape_Open.j1 k (x118004 == 0) x118000 x118001 x118002 x118003 x118004) else (shape_Open.j1 k false x118000 x118001 x118002 x118003 x118004))))
def shape_Open.j1 : Nat → Bool → Int → Int → Bool → Int → Int → Option (Bool × Int × Int × Int)
 | 0, _, _, _, _, _, _ => none
 | k + 1, x42, x118000, x118001, x118002, x118003, x118004 => if x42 = true then (some (x118002, 0, 0, 0)) else (if x118003 = 0 then ((shape_format_low.f x118000 x118001).bind fun t120 => (some (x118002, 1, t120, x118004))) else ((shape_format_low.f x118000 x118001).bind fun t121 => (if 0 ≤ x118001 then (some (x118002, 1, wrap64 ((wrap64 (t121 + (wrap64 (x118003)))) - 1), Go.bits .or .u64 (shl .u64 1 x118001) x118004)) else (none))))
end
def shape_Open.f (k : Nat) (a0 : Int) (a1 : Int) : Option (Bool × Int × Int × Int) := (shape_of.f a0).bind fun bt108 => (if bt108.2.2 = true then ((shape_format_split.f bt108.1 bt108.2.1 a1).bind fun bt112 => ((shape_format_ones.f bt112.1 bt112.2.1).bind fun t118 => (if bt112.2.2.2.1 = t118 then (shape_Open.j0 k (bt112.2.2.2.2 != 0) bt112.1 bt112.2.1 bt112.2.2.1 bt112.2.2.2.1 bt112.2.2.2.2) else (shape_Open.j0 k false bt112.1 bt112.2.1 bt112.2.2.1 bt112.2.2.2.1 bt112.2.2.2.2)))) else (some (false, 0, 0, 0)))
theorem shape_Open.mono_l : ∀ k, (∀ y0 y1 y2 y3 y4 y5, LeO (shape_Open.j0 k y0 y1 y2 y3 y4 y5) (shape_Open.j0 (k + 1) y0 y1 y2 y3 y4 y5)) ∧ (∀ y0 y1 y2 y3 y4 y5, LeO (shape_Open.j1 k y0 y1 y2 y3 y4 y5) (shape_Open.j1 (k + 1) y0 y1 y2 y3 y4 y5))
 | 0 => ⟨fun _ _ _ _ _ _ r h => by simp [shape_Open.j0] at h, fun _ _ _ _ _ _ r h => by simp [shape_Open.j1] at h⟩
 | k + 1 => by
  obtain ⟨ih0, ih1⟩ := shape_Open.mono_l k
  refine ⟨?_, ?_⟩
  ·intro y0 y1 y2 y3 y4 y5
   unfold shape_Open.j0
   repeat' first
   | (with_reducible exact ih0 _ _ _ _ _ _)
   | (with_reducible exact ih1 _ _ _ _ _ _)
   | (with_reducible exact LeO.refl _)
   | (with_reducible exact LeO.none _)
   | (with_reducible refine LeO.ite ?_ ?_)
   | (with_reducible refine LeO.bind ?_ (fun _ => ?_))
   | exact ih0 _ _ _ _ _ _
   | exact ih1 _ _ _ _ _ _
   | exact LeO.none _
   | refine LeO.ite ?_ ?_
   | refine LeO.bind ?_ (fun _ => ?_)
  ·intro y0 y1 y2 y3 y4 y5
   unfold shape_Open.j1
   repeat' first
   | (with_reducible exact ih0 _ _ _ _ _ _)
   | (with_reducible exact ih1 _ _ _ _ _ _)
   | (with_reducible exact LeO.refl _)
   | (with_reducible exact LeO.none _)
   | (with_reducible refine LeO.ite ?_ ?_)
   | (with_reducible refine LeO.bind ?_ (fun _ => ?_))
   | exact ih0 _ _ _ _ _ _
   | exact ih1 _ _ _ _ _ _
   | exact LeO.none _
   | refine LeO.ite ?_ ?_
   | refine LeO.bind ?_ (fun _ => ?_)
theorem shape_Open.mono : ∀ a0 a1 k, LeO (shape_Open.f k a0 a1) (shape_Open.f (k + 1) a0 a1) := by
 intro a0 a1 k
 obtain ⟨ih0, ih1⟩ := shape_Open.mono_l k
 unfold shape_Open.f
 repeat' first
   | (with_reducible exact ih0 _ _ _ _ _ _)
   | (with_reducible exact ih1 _ _ _ _ _ _)
   | (with_reducible exact LeO.refl _)
   | (with_reducible exact LeO.none _)
   | (with_reducible refine LeO.ite ?_ ?_)
   | (with_reducible refine LeO.bind ?_ (fun _ => ?_))
   | exact ih0 _ _ _ _ _ _
   | exact ih1 _ _ _ _ _ _
   | exact LeO.none _
   | refine LeO.ite ?_ ?_
   | refine LeO.bind ?_ (fun _ => ?_)
def shape_Open.T5 : Bool × List (List Nat × List Nat) := (true, [([], []), ([0], [0]), ([], []), ([2], [2]), ([3], [3]), ([1, 4], [1, 4]), ([5, 4], [5]), ([6], [6]), ([7, 6], [6, 7]), ([8, 6], [6, 8]), ([6, 9], [6, 9]), ([10, 6], [10])])
def shape_Open.B5 : List Nat := [0, 1, 0, 4, 12, 31, 63, 127, 255, 511, 1023, 2047]
theorem shape_Open.tab5 : rtab .any (opsOf Try.f48 5) = shape_Open.T5 := by kernel_rfl
theorem shape_Open.bits5 : waitsOk shape_Open.T5.2 shape_Open.B5 = true := by kernel_rfl
def shape_Open.T12 : Bool × List (List Nat × List Nat) := (true, [([], []), ([0], [0]), ([], []), ([2], [2]), ([3], [3]), ([], []), ([5], [5]), ([1, 4, 6], [1, 4, 6]), ([7, 4, 0, 1, 2, 3, 4, 5, 6, 7], [7])])
def shape_Open.B12 : List Nat := [0, 1, 0, 4, 12, 0, 32, 127, 255]
theorem shape_Open.tab12 : rtab .any (opsOf Try.f48 12) = shape_Open.T12 := by kernel_rfl
theorem shape_Open.bits12 : waitsOk shape_Open.T12.2 shape_Open.B12 = true := by kernel_rfl
def shape_Open.T13 : Bool × List (List Nat × List Nat) := (true, [([], []), ([0], [0]), ([], []), ([2], [2]), ([3], [3]), ([], []), ([5], [5]), ([6], [6]), ([4, 7], [4, 7]), ([8], [8]), ([], []), ([10], [10]), ([11], [11]), ([12], [12]), ([], []), ([14], [14]), ([13, 15], [13, 15]), ([1, 9, 16], [1, 9, 16]), ([17, 4, 0, 1, 2, 3, 4, 5, 6, 7, 8, 9, 10, 11, 12, 13, 14, 15, 16, 17], [17])])
def shape_Open.B13 : List Nat := [0, 1, 0, 4, 12, 0, 32, 96, 252, 508, 0, 1024, 3072, 7168, 0, 16384, 64512, 131071, 262143]
theorem shape_Open.tab13 : rtab .any (opsOf Try.f48 13) = shape_Open.T13 := by kernel_rfl
theorem shape_Open.bits13 : waitsOk shape_Open.T13.2 shape_Open.B13 = true := by kernel_rfl
theorem shape_Open.calls (k : Nat) (a0 : Int) (a1 : Int) (r1 : Bool) (r2 : Int) (r3 : Int) (r4 : Int) (w : World) (h : shape_Open.f k a0 a1 = some (r1, r2, r3, r4)) :
  Calls Try.prog 48 #[.int .i64 a0, .int .u64 a1] w fun e w' => e = .returned (.agg #[.bool r1, .int .i64 r2, .int .i64 r3, .int .u64 r4]) ∧ Below w.heap.size w w' := by
 have hu50 := Try.underlying50
 have hu112 := Try.underlying112
 have hu116 := Try.underlying116
 have HB := A_ (Below.refl w.heap.size w)
 have H : ((shape_of.f a0).bind fun bt108 => (if bt108.2.2 = true then ((shape_format_split.f bt108.1 bt108.2.1 a1).bind fun bt112 => ((shape_format_ones.f bt112.1 bt112.2.1).bind fun t118 => (if bt112.2.2.2.1 = t118 then (shape_Open.j0 k (bt112.2.2.2.2 != 0) bt112.1 bt112.2.1 bt112.2.2.1 bt112.2.2.2.1 bt112.2.2.2.2) else (shape_Open.j0 k false bt112.1 bt112.2.1 bt112.2.2.1 bt112.2.2.2.1 bt112.2.2.2.2)))) else (some (false, 0, 0, 0)))) = some (r1, r2, r3, r4) := h
 clear h
 replace H := ob_ H
 obtain ⟨⟨t108, t109, t110⟩, A30, H⟩ := H
 replace H : (if t110 = true then ((shape_format_split.f t108 t109 a1).bind fun bt112 => ((shape_format_ones.f bt112.1 bt112.2.1).bind fun t118 => (if bt112.2.2.2.1 = t118 then (shape_Open.j0 k (bt112.2.2.2.2 != 0) bt112.1 bt112.2.1 bt112.2.2.1 bt112.2.2.2.1 bt112.2.2.2.2) else (shape_Open.j0 k false bt112.1 bt112.2.1 bt112.2.2.1 bt112.2.2.2.1 bt112.2.2.2.2)))) else (some (false, 0, 0, 0))) = some (r1, r2, r3, r4) := H
 have A3 := A_ A30;clear A30
 by_cases c4 : t110 = true
 ·subst c4
  have H1 : ((shape_format_split.f t108 t109 a1).bind fun bt112 => ((shape_format_ones.f bt112.1 bt112.2.1).bind fun t118 => (if bt112.2.2.2.1 = t118 then (shape_Open.j0 k (bt112.2.2.2.2 != 0) bt112.1 bt112.2.1 bt112.2.2.1 bt112.2.2.2.1 bt112.2.2.2.2) else (shape_Open.j0 k false bt112.1 bt112.2.1 bt112.2.2.1 bt112.2.2.2.1 bt112.2.2.2.2)))) = some (r1, r2, r3, r4) := by rw [if_pos rfl] at H; exact H
  clear H;have H := H1;clear H1
  replace H := ob_ H
  obtain ⟨⟨t112, t113, t114, t115, t116⟩, A50, H⟩ := H
  replace H : ((shape_format_ones.f t112 t113).bind fun t118 => (if t115 = t118 then (shape_Open.j0 k (t116 != 0) t112 t113 t114 t115 t116) else (shape_Open.j0 k false t112 t113 t114 t115 t116))) = some (r1, r2, r3, r4) := H
  have A5 := A_ A50;clear A50;have HC6 := A_ H;clear H
  go_enter Try.func48, Try.ntmps48
  go_upto_region 5 with (first | ((with_reducible refine gate_dst (N := 4) rfl ?_); refine be_ 4 #[.bool false, .int .i64 0, .int .i64 0, .int .u64 0] 50 ?_; intro gb107 hg w7 hbox hb; have n0_ := A_ (below_step (hb_ HB.out) hb); have n1_ := A_ (hbox); have n2_ := A_ (sz_ hg (hb_ HB.out)); have n3_ := A_ (sz_ hg (hb_ HB.out)); clear HB; have HB := n0_; have BK107 := n1_; have GW107 := n2_; have GE107 := n3_; clear n0_ n1_ n2_ n3_; clear hb hbox hg) | ((with_reducible refine gate_callee (f := 118) rfl ?_); refine gl_ (some 10) Try.func118 #[.int .i64 a0] ?_; (with_reducible refine (shape_of.calls a0 t108 t109 true _ A3.out).mono ?_); rintro e w8 ⟨rfl, hb⟩; refine ⟨_, rfl, ?_⟩; have n0_ := A_ (bb_ BK107.out hb); have n1_ := A_ (below_step (hb1_ HB.out GE107.out) hb); clear BK107; clear HB; have BK107 := n0_; have HB := n1_; clear n0_ n1_; (try clear hb); (try clear hb2); (try clear hk); (try clear hi)) | ((with_reducible refine gate_dst (N := 5) rfl ?_); refine be_ 5 #[.int .i64 0, .int .i64 0] 112 ?_; intro gb111 hg w9 hbox hb; have n0_ := A_ (bb_ BK107.out hb); have n1_ := A_ (below_step (hb1_ HB.out GE107.out) hb); have n2_ := A_ (hbox); have n3_ := A_ (sz_ hg (hb1_ HB.out GE107.out)); have n4_ := A_ (sz_ hg (hb1_ HB.out GE107.out)); have n5_ := A_ (nl_ hg BK107.out); have n6_ := A_ (ng_ hg BK107.out); clear BK107; clear HB; have BK107 := n0_; have HB := n1_; have BK111 := n2_; have GW111 := n3_; have GE111 := n4_; have NB107_111 := n5_; have NB111_107 := n6_; clear n0_ n1_ n2_ n3_ n4_ n5_ n6_; clear hb hbox hg; have hnb10 := NB111_107.out; have hnc10 := NB107_111.out; have hcz11_0 : w9.cell? ⟨gb111, 0, none⟩ = some (.int .i64 0) := bc_ BK111.out 0; have hcz11_1 : w9.cell? ⟨gb111, 1, none⟩ = some (.int .i64 0) := bc_ BK111.out 1; have hfz11_0 := blk_frozen BK111.out 0; have hfz11_1 := blk_frozen BK111.out 1) | ((with_reducible refine gate_callee (f := 119) rfl ?_); refine gl_ (some 18) Try.func119 #[.agg #[.int .i64 t108, .int .i64 t109], .int .u64 a1] ?_; (with_reducible refine (shape_format_split.calls t108 t109 a1 t112 t113 t114 t115 t116 _ A5.out).mono ?_); rintro e w12 ⟨rfl, hb⟩; refine ⟨_, rfl, ?_⟩; have n0_ := A_ (blk_below (g := gb107) (o := .cells #[.bool false, .int .i64 0, .int .i64 0, .int .u64 0] 50 (0, 0)) (bf2_ BK107.out NB107_111.out NB107_111.out) hb); have n1_ := A_ (blk_below (g := gb111) (o := .cells #[.int .i64 t108, .int .i64 t109] 112 (0, 0)) (by (with_reducible repeat (first | refine blk_drewN ?_ _ | refine blk_drew ?_ | refine blk_alloc ?_ _)); refine blk_put (cs := #[.int .i64 t108, .int .i64 0]) ?_ 1 _ rfl; (with_reducible repeat (first | refine blk_drewN ?_ _ | refine blk_drew ?_ | refine blk_alloc ?_ _)); refine blk_put (cs := #[.int .i64 0, .int .i64 0]) ?_ 0 _ rfl; (with_reducible repeat (first | refine blk_drewN ?_ _ | refine blk_drew ?_ | refine blk_alloc ?_ _)); exact BK111.out) hb); have n2_ := A_ (below_step (hb2_ HB.out GE107.out GE111.out) hb); clear BK107; clear BK111; clear HB; have BK107 := n0_; have BK111 := n1_; have HB := n2_; clear n0_ n1_ n2_; (try clear hb); (try clear hb2); (try clear hk); (try clear hi)) | ((with_reducible refine gate_dst (N := 7) rfl ?_); refine be_ 7 #[.int .i64 0, .int .i64 0, .bool false, .int .u64 0, .int .u64 0] 116 ?_; intro gb117 hg w13 hbox hb; have n0_ := A_ (bb_ BK107.out hb); have n1_ := A_ (bb_ BK111.out hb); have n2_ := A_ (below_step (hb2_ HB.out GE107.out GE111.out) hb); have n3_ := A_ (hbox); have n4_ := A_ (sz_ hg (hb2_ HB.out GE107.out GE111.out)); have n5_ := A_ (sz_ hg (hb2_ HB.out GE107.out GE111.out)); have n6_ := A_ (nl_ hg BK107.out); have n7_ := A_ (ng_ hg BK107.out); have n8_ := A_ (nl_ hg BK111.out); have n9_ := A_ (ng_ hg BK111.out); clear BK107; clear BK111; clear HB; have BK107 := n0_; have BK111 := n1_; have HB := n2_; have BK117 := n3_; have GW117 := n4_; have GE117 := n5_; have NB107_117 := n6_; have NB117_107 := n7_; have NB111_117 := n8_; have NB117_111 := n9_; clear n0_ n1_ n2_ n3_ n4_ n5_ n6_ n7_ n8_ n9_; clear hb hbox hg; have hnb14 := NB117_107.out; have hnc14 := NB107_117.out; have hnb15 := NB117_111.out; have hnc15 := NB111_117.out; have hcz16_0 : w13.cell? ⟨gb117, 0, none⟩ = some (.int .i64 0) := bc_ BK117.out 0; have hcz16_1 : w13.cell? ⟨gb117, 1, none⟩ = some (.int .i64 0) := bc_ BK117.out 1; have hcz16_2 : w13.cell? ⟨gb117, 2, none⟩ = some (.bool false) := bc_ BK117.out 2; have hcz16_3 : w13.cell? ⟨gb117, 3, none⟩ = some (.int .u64 0) := bc_ BK117.out 3; have hcz16_4 : w13.cell? ⟨gb117, 4, none⟩ = some (.int .u64 0) := bc_ BK117.out 4; have hfz16_0 := blk_frozen BK117.out 0; have hfz16_1 := blk_frozen BK117.out 1; have hfz16_2 := blk_frozen BK117.out 2; have hfz16_3 := blk_frozen BK117.out 3; have hfz16_4 := blk_frozen BK117.out 4))
  (try simp only [Act.put, lI_, l0_, lS_])
  go_cut [19] (fun v19 wc => ∃ (kq : Nat) (x19_5 : Bool), v19 = .bool x19_5 ∧ Aside0 (shape_Open.j0 kq x19_5 t112 t113 t114 t115 t116 = some (r1, r2, r3, r4)) ∧ Aside0 (kq ≤ k) ∧ Aside0 (wc.heap[gb107]? = some (.cells #[.bool false, .int .i64 0, .int .i64 0, .int .u64 0] 50 (0, 0))) ∧ Aside0 (wc.heap[gb111]? = some (.cells #[.int .i64 t108, .int .i64 t109] 112 (0, 0))) ∧ Aside0 (wc.heap[gb117]? = some (.cells #[.int .i64 t112, .int .i64 t113, .bool t114, .int .u64 t115, .int .u64 t116] 116 (0, 0))) ∧ Aside0 (Below w.heap.size w wc))
  case first =>
   have H := HC6.out
   clear HC6
   replace H := ob_ H
   obtain ⟨t118, A170, H⟩ := H
   replace H : (if t115 = t118 then (shape_Open.j0 k (t116 != 0) t112 t113 t114 t115 t116) else (shape_Open.j0 k false t112 t113 t114 t115 t116)) = some (r1, r2, r3, r4) := H
   have A17 := A_ A170;clear A170
   by_cases c18 : t115 = t118
   ·rw [if_pos c18] at H
    have c18b0 : (t115 == t118) = true := beq_iff_eq.mpr c18
    have c18b1 : (t115 != t118) = false := bne_eq_false_iff_eq.mpr c18
    clear c18
    (first | rw [c18b0] | (simp only [i64_w, i32_w]; rw [c18b0]) | skip)
    have H' := A_ H
    clear H
    try go_wp2
    have n0_ : Aside0 ((((((w13.setCell ⟨gb117, 0, none⟩ (.int .i64 t112)).setCell ⟨gb117, 1, none⟩ (.int .i64 t113)).setCell ⟨gb117, 2, none⟩ (.bool t114)).setCell ⟨gb117, 3, none⟩ (.int .u64 t115)).setCell ⟨gb117, 4, none⟩ (.int .u64 t116)).heap[gb107]? = some (.cells #[.bool false, .int .i64 0, .int .i64 0, .int .u64 0] 50 (0, 0))) := ⟨bf5_ BK107.out NB107_117.out NB107_117.out NB107_117.out NB107_117.out NB107_117.out⟩
    have n1_ : Aside0 ((((((w13.setCell ⟨gb117, 0, none⟩ (.int .i64 t112)).setCell ⟨gb117, 1, none⟩ (.int .i64 t113)).setCell ⟨gb117, 2, none⟩ (.bool t114)).setCell ⟨gb117, 3, none⟩ (.int .u64 t115)).setCell ⟨gb117, 4, none⟩ (.int .u64 t116)).heap[gb111]? = some (.cells #[.int .i64 t108, .int .i64 t109] 112 (0, 0))) := ⟨bf5_ BK111.out NB111_117.out NB111_117.out NB111_117.out NB111_117.out NB111_117.out⟩
    have n2_ : Aside0 ((((((w13.setCell ⟨gb117, 0, none⟩ (.int .i64 t112)).setCell ⟨gb117, 1, none⟩ (.int .i64 t113)).setCell ⟨gb117, 2, none⟩ (.bool t114)).setCell ⟨gb117, 3, none⟩ (.int .u64 t115)).setCell ⟨gb117, 4, none⟩ (.int .u64 t116)).heap[gb117]? = some (.cells #[.int .i64 t112, .int .i64 t113, .bool t114, .int .u64 t115, .int .u64 t116] 116 (0, 0))) := ⟨by (with_reducible repeat (first | refine blk_drewN ?_ _ | refine blk_drew ?_ | refine blk_alloc ?_ _)); refine blk_put (cs := #[.int .i64 t112, .int .i64 t113, .bool t114, .int .u64 t115, .int .u64 0]) ?_ 4 _ rfl; (with_reducible repeat (first | refine blk_drewN ?_ _ | refine blk_drew ?_ | refine blk_alloc ?_ _)); refine blk_put (cs := #[.int .i64 t112, .int .i64 t113, .bool t114, .int .u64 0, .int .u64 0]) ?_ 3 _ rfl; (with_reducible repeat (first | refine blk_drewN ?_ _ | refine blk_drew ?_ | refine blk_alloc ?_ _)); refine blk_put (cs := #[.int .i64 t112, .int .i64 t113, .bool false, .int .u64 0, .int .u64 0]) ?_ 2 _ rfl; (with_reducible repeat (first | refine blk_drewN ?_ _ | refine blk_drew ?_ | refine blk_alloc ?_ _)); refine blk_put (cs := #[.int .i64 t112, .int .i64 0, .bool false, .int .u64 0, .int .u64 0]) ?_ 1 _ rfl; (with_reducible repeat (first | refine blk_drewN ?_ _ | refine blk_drew ?_ | refine blk_alloc ?_ _)); refine blk_put (cs := #[.int .i64 0, .int .i64 0, .bool false, .int .u64 0, .int .u64 0]) ?_ 0 _ rfl; (with_reducible repeat (first | refine blk_drewN ?_ _ | refine blk_drew ?_ | refine blk_alloc ?_ _)); exact BK117.out⟩
    have n3_ : Aside0 (Below w.heap.size w (((((w13.setCell ⟨gb117, 0, none⟩ (.int .i64 t112)).setCell ⟨gb117, 1, none⟩ (.int .i64 t113)).setCell ⟨gb117, 2, none⟩ (.bool t114)).setCell ⟨gb117, 3, none⟩ (.int .u64 t115)).setCell ⟨gb117, 4, none⟩ (.int .u64 t116))) := ⟨hb3_ HB.out GE107.out GE111.out GE117.out⟩
    (try clear BK107);(try clear BK111);(try clear BK117);(try clear HB)
    generalize (((((w13.setCell ⟨gb117, 0, none⟩ (.int .i64 t112)).setCell ⟨gb117, 1, none⟩ (.int .i64 t113)).setCell ⟨gb117, 2, none⟩ (.bool t114)).setCell ⟨gb117, 3, none⟩ (.int .u64 t115)).setCell ⟨gb117, 4, none⟩ (.int .u64 t116)) = w19 at n0_ n1_ n2_ n3_ ⊢
    have BK107 := n0_;have BK111 := n1_;have BK117 := n2_;have HB := n3_;clear n0_ n1_ n2_ n3_
    have n0_ := A_ (blk_drew BK107.out)
    have n1_ := A_ (blk_drew BK111.out)
    have n2_ := A_ (blk_drew BK117.out)
    have n3_ := A_ (below_drew1 HB.out)
    clear BK107;clear BK111;clear BK117;clear HB;have BK107 := n0_;have BK111 := n1_;have BK117 := n2_;have HB := n3_;clear n0_ n1_ n2_ n3_
    refine start_ (n := 12) (S := fun w' => w'.cell? ⟨gb117, 0, none⟩ = some (.int .i64 t112) ∧ w'.cell? ⟨gb117, 1, none⟩ = some (.int .i64 t113) ∧ w'.cell? ⟨gb117, 2, none⟩ = some (.bool t114) ∧ w'.cell? ⟨gb117, 3, none⟩ = some (.int .u64 t115) ∧ w'.cell? ⟨gb117, 4, none⟩ = some (.int .u64 t116)) (ds := []) #[false, false, false, false, false, false, false, false, false, false, false, false] (by kernel_rfl) rfl rfl ⟨bc_ BK117.out 0, bc_ BK117.out 1, bc_ BK117.out 2, bc_ BK117.out 3, bc_ BK117.out 4⟩ (fun hHeld => ?_); refine with_tabW shape_Open.tab5 shape_Open.bits5 (fun HT_ HW_ => ?_)
    generalize w19.drew = w20 at BK107 BK111 BK117 HB hHeld ⊢
    refine pu_ 0 (some 20) #[true, false, false, false, false, false, false, false, false, false, false, false] rfl rfl (any_of HT_.out (by kernel_rfl)) ?_
    refine pu_ 2 (some 22) #[true, false, true, false, false, false, false, false, false, false, false, false] rfl rfl (any_of HT_.out (by kernel_rfl)) ?_
    refine tk5_ 1 (some 21) #[true, true, true, false, false, false, false, false, false, false, false, false] rfl rfl (take_ofW HT_.out HW_.out (by kernel_rfl)) hHeld ?_
    refine tk5_ 3 (some 23) #[true, true, true, true, false, false, false, false, false, false, false, false] rfl rfl (take_ofW HT_.out HW_.out (by kernel_rfl)) hHeld ?_
    refine one_ (i := 4) (N := some 24) #[true, true, true, true, true, false, false, false, false, false, false, false] rfl rfl (one_of HT_.out (by kernel_rfl)) (by decide) (fun K hK => ?_)
    refine goes_ Try.func120 (by kernel_rfl) rfl #[.agg #[.int .i64 t112, .int .i64 t113]] (by rfl) rfl rfl mp_ ?_
    with_reducible refine (shape_format_ones.calls t112 t113 t118 _ A17.out).mono ?_
    rintro e w21 ⟨rfl, hb⟩
    refine ⟨_, rfl, ?_⟩
    have n0_ := A_ (bb_ BK107.out hb)
    have n1_ := A_ (bb_ BK111.out hb)
    have n2_ := A_ (bb_ BK117.out hb)
    have n3_ := A_ (below_step (hb3_ HB.out GE107.out GE111.out GE117.out) hb)
    clear BK107;clear BK111;clear BK117;clear HB;have BK107 := n0_;have BK111 := n1_;have BK117 := n2_;have HB := n3_;clear n0_ n1_ n2_ n3_;(try clear hb);(try clear hb2);(try clear hk);(try clear hi)
    refine hK.out _ _ ⟨bc_ BK117.out 0, bc_ BK117.out 1, bc_ BK117.out 2, bc_ BK117.out 3, bc_ BK117.out 4⟩ (fun hHeld => ?_)
    clear hK K
    refine norm_ (a' := ?_) ?_ ?_
    rotate_left
    ·show Act.put _ (some 24) _ = _
     simp only [Act.put, lI_, l0_, lS_, i64_w, i32_w]
     rfl
    refine pu_ 5 (some 25) #[true, true, true, true, true, true, false, false, false, false, false, false] rfl rfl (any_of HT_.out (by kernel_rfl)) ?_
    refine pu_ 6 (some 26) #[true, true, true, true, true, true, true, false, false, false, false, false] rfl rfl (any_of HT_.out (by kernel_rfl)) ?_
    refine pu_ 7 (some 27) #[true, true, true, true, true, true, true, true, false, false, false, false] rfl rfl (any_of HT_.out (by kernel_rfl)) ?_
    refine tk5_ 8 (some 28) #[true, true, true, true, true, true, true, true, true, false, false, false] rfl rfl (take_ofW HT_.out HW_.out (by kernel_rfl)) hHeld ?_
    refine pu_ 9 (some 29) #[true, true, true, true, true, true, true, true, true, true, false, false] rfl rfl (any_of HT_.out (by kernel_rfl)) ?_
    refine pu_ 10 (some 30) #[true, true, true, true, true, true, true, true, true, true, true, false] rfl rfl (any_of HT_.out (by kernel_rfl)) ?_
    refine pu_ 11 (some 19) #[true, true, true, true, true, true, true, true, true, true, true, true] rfl rfl (any_of HT_.out (by kernel_rfl)) ?_
    refine done_ (done_of HT_.out (by kernel_rfl)) ?_
    try go_wp2
    go_meet
    case rel => exact ⟨_, ((t116 != 0)), sm_, H', ⟨by first | omega | exact Nat.le_refl _⟩, ⟨bk_ BK107.out⟩, ⟨bk_ BK111.out⟩, ⟨bk_ BK117.out⟩, ⟨hb3_ HB.out GE107.out GE111.out GE117.out⟩⟩
   ·rw [if_neg c18] at H
    have c18b0 : (t115 == t118) = false := beq_eq_false_iff_ne.mpr c18
    have c18b1 : (t115 != t118) = true := bne_iff_ne.mpr c18
    (first | rw [c18b0] | (simp only [i64_w, i32_w]; rw [c18b0]) | skip)
    have H' := A_ H
    clear H
    try go_wp2
    have n0_ : Aside0 ((((((w13.setCell ⟨gb117, 0, none⟩ (.int .i64 t112)).setCell ⟨gb117, 1, none⟩ (.int .i64 t113)).setCell ⟨gb117, 2, none⟩ (.bool t114)).setCell ⟨gb117, 3, none⟩ (.int .u64 t115)).setCell ⟨gb117, 4, none⟩ (.int .u64 t116)).heap[gb107]? = some (.cells #[.bool false, .int .i64 0, .int .i64 0, .int .u64 0] 50 (0, 0))) := ⟨bf5_ BK107.out NB107_117.out NB107_117.out NB107_117.out NB107_117.out NB107_117.out⟩
    have n1_ : Aside0 ((((((w13.setCell ⟨gb117, 0, none⟩ (.int .i64 t112)).setCell ⟨gb117, 1, none⟩ (.int .i64 t113)).setCell ⟨gb117, 2, none⟩ (.bool t114)).setCell ⟨gb117, 3, none⟩ (.int .u64 t115)).setCell ⟨gb117, 4, none⟩ (.int .u64 t116)).heap[gb111]? = some (.cells #[.int .i64 t108, .int .i64 t109] 112 (0, 0))) := ⟨bf5_ BK111.out NB111_117.out NB111_117.out NB111_117.out NB111_117.out NB111_117.out⟩
    have n2_ : Aside0 ((((((w13.setCell ⟨gb117, 0, none⟩ (.int .i64 t112)).setCell ⟨gb117, 1, none⟩ (.int .i64 t113)).setCell ⟨gb117, 2, none⟩ (.bool t114)).setCell ⟨gb117, 3, none⟩ (.int .u64 t115)).setCell ⟨gb117, 4, none⟩ (.int .u64 t116)).heap[gb117]? = some (.cells #[.int .i64 t112, .int .i64 t113, .bool t114, .int .u64 t115, .int .u64 t116] 116 (0, 0))) := ⟨by (with_reducible repeat (first | refine blk_drewN ?_ _ | refine blk_drew ?_ | refine blk_alloc ?_ _)); refine blk_put (cs := #[.int .i64 t112, .int .i64 t113, .bool t114, .int .u64 t115, .int .u64 0]) ?_ 4 _ rfl; (with_reducible repeat (first | refine blk_drewN ?_ _ | refine blk_drew ?_ | refine blk_alloc ?_ _)); refine blk_put (cs := #[.int .i64 t112, .int .i64 t113, .bool t114, .int .u64 0, .int .u64 0]) ?_ 3 _ rfl; (with_reducible repeat (first | refine blk_drewN ?_ _ | refine blk_drew ?_ | refine blk_alloc ?_ _)); refine blk_put (cs := #[.int .i64 t112, .int .i64 t113, .bool false, .int .u64 0, .int .u64 0]) ?_ 2 _ rfl; (with_reducible repeat (first | refine blk_drewN ?_ _ | refine blk_drew ?_ | refine blk_alloc ?_ _)); refine blk_put (cs := #[.int .i64 t112, .int .i64 0, .bool false, .int .u64 0, .int .u64 0]) ?_ 1 _ rfl; (with_reducible repeat (first | refine blk_drewN ?_ _ | refine blk_drew ?_ | refine blk_alloc ?_ _)); refine blk_put (cs := #[.int .i64 0, .int .i64 0, .bool false, .int .u64 0, .int .u64 0]) ?_ 0 _ rfl; (with_reducible repeat (first | refine blk_drewN ?_ _ | refine blk_drew ?_ | refine blk_alloc ?_ _)); exact BK117.out⟩
    have n3_ : Aside0 (Below w.heap.size w (((((w13.setCell ⟨gb117, 0, none⟩ (.int .i64 t112)).setCell ⟨gb117, 1, none⟩ (.int .i64 t113)).setCell ⟨gb117, 2, none⟩ (.bool t114)).setCell ⟨gb117, 3, none⟩ (.int .u64 t115)).setCell ⟨gb117, 4, none⟩ (.int .u64 t116))) := ⟨hb3_ HB.out GE107.out GE111.out GE117.out⟩
    (try clear BK107);(try clear BK111);(try clear BK117);(try clear HB)
    generalize (((((w13.setCell ⟨gb117, 0, none⟩ (.int .i64 t112)).setCell ⟨gb117, 1, none⟩ (.int .i64 t113)).setCell ⟨gb117, 2, none⟩ (.bool t114)).setCell ⟨gb117, 3, none⟩ (.int .u64 t115)).setCell ⟨gb117, 4, none⟩ (.int .u64 t116)) = w22 at n0_ n1_ n2_ n3_ ⊢
    have BK107 := n0_;have BK111 := n1_;have BK117 := n2_;have HB := n3_;clear n0_ n1_ n2_ n3_
    have n0_ := A_ (blk_drew BK107.out)
    have n1_ := A_ (blk_drew BK111.out)
    have n2_ := A_ (blk_drew BK117.out)
    have n3_ := A_ (below_drew1 HB.out)
    clear BK107;clear BK111;clear BK117;clear HB;have BK107 := n0_;have BK111 := n1_;have BK117 := n2_;have HB := n3_;clear n0_ n1_ n2_ n3_
    refine start_ (n := 12) (S := fun w' => w'.cell? ⟨gb117, 0, none⟩ = some (.int .i64 t112) ∧ w'.cell? ⟨gb117, 1, none⟩ = some (.int .i64 t113) ∧ w'.cell? ⟨gb117, 2, none⟩ = some (.bool t114) ∧ w'.cell? ⟨gb117, 3, none⟩ = some (.int .u64 t115) ∧ w'.cell? ⟨gb117, 4, none⟩ = some (.int .u64 t116)) (ds := []) #[false, false, false, false, false, false, false, false, false, false, false, false] (by kernel_rfl) rfl rfl ⟨bc_ BK117.out 0, bc_ BK117.out 1, bc_ BK117.out 2, bc_ BK117.out 3, bc_ BK117.out 4⟩ (fun hHeld => ?_); refine with_tabW shape_Open.tab5 shape_Open.bits5 (fun HT_ HW_ => ?_)
    generalize w22.drew = w23 at BK107 BK111 BK117 HB hHeld ⊢
    refine pu_ 0 (some 20) #[true, false, false, false, false, false, false, false, false, false, false, false] rfl rfl (any_of HT_.out (by kernel_rfl)) ?_
    refine pu_ 2 (some 22) #[true, false, true, false, false, false, false, false, false, false, false, false] rfl rfl (any_of HT_.out (by kernel_rfl)) ?_
    refine tk5_ 1 (some 21) #[true, true, true, false, false, false, false, false, false, false, false, false] rfl rfl (take_ofW HT_.out HW_.out (by kernel_rfl)) hHeld ?_
    refine tk5_ 3 (some 23) #[true, true, true, true, false, false, false, false, false, false, false, false] rfl rfl (take_ofW HT_.out HW_.out (by kernel_rfl)) hHeld ?_
    refine one_ (i := 4) (N := some 24) #[true, true, true, true, true, false, false, false, false, false, false, false] rfl rfl (one_of HT_.out (by kernel_rfl)) (by decide) (fun K hK => ?_)
    refine goes_ Try.func120 (by kernel_rfl) rfl #[.agg #[.int .i64 t112, .int .i64 t113]] (by rfl) rfl rfl mp_ ?_
    with_reducible refine (shape_format_ones.calls t112 t113 t118 _ A17.out).mono ?_
    rintro e w24 ⟨rfl, hb⟩
    refine ⟨_, rfl, ?_⟩
    have n0_ := A_ (bb_ BK107.out hb)
    have n1_ := A_ (bb_ BK111.out hb)
    have n2_ := A_ (bb_ BK117.out hb)
    have n3_ := A_ (below_step (hb3_ HB.out GE107.out GE111.out GE117.out) hb)
    clear BK107;clear BK111;clear BK117;clear HB;have BK107 := n0_;have BK111 := n1_;have BK117 := n2_;have HB := n3_;clear n0_ n1_ n2_ n3_;(try clear hb);(try clear hb2);(try clear hk);(try clear hi)
    refine hK.out _ _ ⟨bc_ BK117.out 0, bc_ BK117.out 1, bc_ BK117.out 2, bc_ BK117.out 3, bc_ BK117.out 4⟩ (fun hHeld => ?_)
    clear hK K
    refine norm_ (a' := ?_) ?_ ?_
    rotate_left
    ·show Act.put _ (some 24) _ = _
     simp only [Act.put, lI_, l0_, lS_, i64_w, i32_w]
     rfl
    refine pu_ 5 (some 25) #[true, true, true, true, true, true, false, false, false, false, false, false] rfl rfl (any_of HT_.out (by kernel_rfl)) ?_
    refine pu_ 6 (some 26) #[true, true, true, true, true, true, true, false, false, false, false, false] rfl rfl (any_of HT_.out (by kernel_rfl)) ?_
    refine pure_ (i := 7) (N := some 27) (v := undef) (a' := ?_) #[true, true, true, true, true, true, true, true, false, false, false, false] rfl rfl (any_of HT_.out (by kernel_rfl)) (fun _ _ _ h => h) (Or.inr ⟨by rfl, rfl⟩) ?_ ?_
    rotate_left
    ·simp only [Act.put, lI_, l0_, lS_, i64_w, i32_w]
     rfl
    refine pure_ (i := 8) (N := some 28) (v := undef) (a' := ?_) #[true, true, true, true, true, true, true, true, true, false, false, false] rfl rfl (any_of HT_.out (by kernel_rfl)) (fun _ _ _ h => h) (Or.inr ⟨by rfl, rfl⟩) ?_ ?_
    rotate_left
    ·simp only [Act.put, lI_, l0_, lS_, i64_w, i32_w]
     rfl
    refine pure_ (i := 9) (N := some 29) (v := undef) (a' := ?_) #[true, true, true, true, true, true, true, true, true, true, false, false] rfl rfl (any_of HT_.out (by kernel_rfl)) (fun _ _ _ h => h) (Or.inr ⟨by rfl, rfl⟩) ?_ ?_
    rotate_left
    ·simp only [Act.put, lI_, l0_, lS_, i64_w, i32_w]
     rfl
    refine pu_ 10 (some 30) #[true, true, true, true, true, true, true, true, true, true, true, false] rfl rfl (any_of HT_.out (by kernel_rfl)) ?_
    refine pu_ 11 (some 19) #[true, true, true, true, true, true, true, true, true, true, true, true] rfl rfl (any_of HT_.out (by kernel_rfl)) ?_
    refine done_ (done_of HT_.out (by kernel_rfl)) ?_
    try go_wp2
    go_meet
    case rel => exact ⟨_, (false), sm_, H', ⟨by first | omega | exact Nat.le_refl _⟩, ⟨bk_ BK107.out⟩, ⟨bk_ BK111.out⟩, ⟨bk_ BK117.out⟩, ⟨hb3_ HB.out GE107.out GE111.out GE117.out⟩⟩
  case rest =>
   clear HC6
   try clear c1
   try clear p2
   try clear c4
   try clear c10
   try clear c11
   try clear c12
   try clear c14
   try clear c15
   try clear c18
   try clear c18b0
   try clear c18b1
   try clear hcz11_0
   try clear hcz11_1
   try clear hcz16_0
   try clear hcz16_1
   try clear hcz16_2
   try clear hcz16_3
   try clear hcz16_4
   try clear hfz11_0
   try clear hfz11_1
   try clear hfz16_0
   try clear hfz16_1
   try clear hfz16_2
   try clear hfz16_3
   try clear hfz16_4
   obtain ⟨kq, x19_5, rfl, HA, HJ5, BK107, BK111, BK117, HB⟩ := hcut
   cases kq with
   | zero => exact absurd HA.out (by simp [shape_Open.j0])
   | succ kj5 =>
    have H := HA.out
    clear HA
    simp only [shape_Open.j0] at H
    by_cases c25 : x19_5 = true
    ·subst c25
     have H1 : (some (false, 3, 0, 0)) = some (r1, r2, r3, r4) := by rw [if_pos rfl] at H; exact H
     clear H;have H := H1;clear H1
     simp only [Option.some.injEq, Prod.mk.injEq] at H
     obtain ⟨rfl, rfl, rfl, rfl⟩ := H
     have hnb26 := NB107_111.out
     have hnc26 := NB111_107.out
     have hnb27 := NB107_117.out
     have hnc27 := NB117_107.out
     have hcz28_0 : wc.cell? ⟨gb107, 0, none⟩ = some (.bool false) := bc_ BK107.out 0
     have hcz28_1 : wc.cell? ⟨gb107, 1, none⟩ = some (.int .i64 0) := bc_ BK107.out 1
     have hcz28_2 : wc.cell? ⟨gb107, 2, none⟩ = some (.int .i64 0) := bc_ BK107.out 2
     have hcz28_3 : wc.cell? ⟨gb107, 3, none⟩ = some (.int .u64 0) := bc_ BK107.out 3
     have hfz28_0 := blk_frozen BK107.out 0
     have hfz28_1 := blk_frozen BK107.out 1
     have hfz28_2 := blk_frozen BK107.out 2
     have hfz28_3 := blk_frozen BK107.out 3
     go_wp2
     refine bodyPost_ret (results_cell_row rfl _ _ gb107 50 #[.bool false, .int .i64 3, .int .i64 0, .int .u64 0] (0, 0) _ rfl (by (with_reducible repeat (first | refine blk_drewN ?_ _ | refine blk_drew ?_ | refine blk_alloc ?_ _)); refine blk_put (cs := #[.bool false, .int .i64 3, .int .i64 0, .int .u64 0]) ?_ 3 _ rfl; (with_reducible repeat (first | refine blk_drewN ?_ _ | refine blk_drew ?_ | refine blk_alloc ?_ _)); refine blk_put (cs := #[.bool false, .int .i64 3, .int .i64 0, .int .u64 0]) ?_ 2 _ rfl; (with_reducible repeat (first | refine blk_drewN ?_ _ | refine blk_drew ?_ | refine blk_alloc ?_ _)); refine blk_put (cs := #[.bool false, .int .i64 0, .int .i64 0, .int .u64 0]) ?_ 1 _ rfl; (with_reducible repeat (first | refine blk_drewN ?_ _ | refine blk_drew ?_ | refine blk_alloc ?_ _)); refine blk_put (cs := #[.bool false, .int .i64 0, .int .i64 0, .int .u64 0]) ?_ 0 _ rfl; (with_reducible repeat (first | refine blk_drewN ?_ _ | refine blk_drew ?_ | refine blk_alloc ?_ _)); exact BK107.out) Try.underlying50 rfl (by kernel_rfl)) rfl ?_
     exact ⟨er_, hb3_ HB.out GE107.out GE111.out GE117.out⟩
    ·replace c25 := Bool.eq_false_iff.mpr c25
     subst c25
     have H1 : ((shape_format_ones.f t112 t113).bind fun t119 => (if t115 = t119 then (some (t114, 2, 0, 0)) else (if t115 = 0 then (shape_Open.j1 kj5 (t116 == 0) t112 t113 t114 t115 t116) else (shape_Open.j1 kj5 false t112 t113 t114 t115 t116)))) = some (r1, r2, r3, r4) := by rw [if_neg (show ¬ (false = true) by decide)] at H; exact H
     clear H;have H := H1;clear H1
     replace H := ob_ H
     obtain ⟨t119, A290, H⟩ := H
     replace H : (if t115 = t119 then (some (t114, 2, 0, 0)) else (if t115 = 0 then (shape_Open.j1 kj5 (t116 == 0) t112 t113 t114 t115 t116) else (shape_Open.j1 kj5 false t112 t113 t114 t115 t116))) = some (r1, r2, r3, r4) := H
     have A29 := A_ A290;clear A290
     by_cases c30 : t115 = t119
     ·rw [if_pos c30] at H
      have c30b0 : (t115 == t119) = true := beq_iff_eq.mpr c30
      have c30b1 : (t115 != t119) = false := bne_eq_false_iff_eq.mpr c30
      clear c30
      simp only [Option.some.injEq, Prod.mk.injEq] at H
      obtain ⟨rfl, rfl, rfl, rfl⟩ := H
      try go_wp2
      have n0_ := A_ (blk_drew BK107.out)
      have n1_ := A_ (blk_drew BK111.out)
      have n2_ := A_ (blk_drew BK117.out)
      have n3_ := A_ (below_drew1 HB.out)
      clear BK107;clear BK111;clear BK117;clear HB;have BK107 := n0_;have BK111 := n1_;have BK117 := n2_;have HB := n3_;clear n0_ n1_ n2_ n3_
      refine start_ (n := 7) (S := fun w' => w'.cell? ⟨gb117, 0, none⟩ = some (.int .i64 t112) ∧ w'.cell? ⟨gb117, 1, none⟩ = some (.int .i64 t113) ∧ w'.cell? ⟨gb117, 2, none⟩ = some (.bool t114) ∧ w'.cell? ⟨gb117, 3, none⟩ = some (.int .u64 t115) ∧ w'.cell? ⟨gb117, 4, none⟩ = some (.int .u64 t116)) (ds := []) #[false, false, false, false, false, false, false] (by kernel_rfl) rfl rfl ⟨bc_ BK117.out 0, bc_ BK117.out 1, bc_ BK117.out 2, bc_ BK117.out 3, bc_ BK117.out 4⟩ (fun hHeld => ?_)
      generalize wc.drew = w31 at BK107 BK111 BK117 HB hHeld ⊢
      refine pu_ 0 (some 33) #[true, false, false, false, false, false, false] rfl rfl (by kernel_rfl) ?_
      refine pu_ 2 (some 35) #[true, false, true, false, false, false, false] rfl rfl (by kernel_rfl) ?_
      refine tk5_ 1 (some 34) #[true, true, true, false, false, false, false] rfl rfl (by kernel_rfl) hHeld ?_
      refine tk5_ 3 (some 36) #[true, true, true, true, false, false, false] rfl rfl (by kernel_rfl) hHeld ?_
      refine one_ (i := 4) (N := some 37) #[true, true, true, true, true, false, false] rfl rfl (by kernel_rfl) (by decide) (fun K hK => ?_)
      refine goes_ Try.func120 (by kernel_rfl) rfl #[.agg #[.int .i64 t112, .int .i64 t113]] (by rfl) rfl rfl mp_ ?_
      with_reducible refine (shape_format_ones.calls t112 t113 t119 _ A29.out).mono ?_
      rintro e w32 ⟨rfl, hb⟩
      refine ⟨_, rfl, ?_⟩
      have n0_ := A_ (bb_ BK107.out hb)
      have n1_ := A_ (bb_ BK111.out hb)
      have n2_ := A_ (bb_ BK117.out hb)
      have n3_ := A_ (below_step (hb3_ HB.out GE107.out GE111.out GE117.out) hb)
      clear BK107;clear BK111;clear BK117;clear HB;have BK107 := n0_;have BK111 := n1_;have BK117 := n2_;have HB := n3_;clear n0_ n1_ n2_ n3_;(try clear hb);(try clear hb2);(try clear hk);(try clear hi)
      refine hK.out _ _ ⟨bc_ BK117.out 0, bc_ BK117.out 1, bc_ BK117.out 2, bc_ BK117.out 3, bc_ BK117.out 4⟩ (fun hHeld => ?_)
      clear hK K
      refine norm_ (a' := ?_) ?_ ?_
      rotate_left
      ·show Act.put _ (some 37) _ = _
       simp only [Act.put, lI_, l0_, lS_, i64_w, i32_w]
       rfl
      refine pu_ 5 (some 38) #[true, true, true, true, true, true, false] rfl rfl (by kernel_rfl) ?_
      refine pu_ 6 (some 32) #[true, true, true, true, true, true, true] rfl rfl (by kernel_rfl) ?_
      refine done_ (by kernel_rfl) ?_
      have hnb33 := NB117_107.out
      have hnc33 := NB107_117.out
      have hnb34 := NB117_111.out
      have hnc34 := NB111_117.out
      have hcz35_0 : w32.cell? ⟨gb117, 0, none⟩ = some (.int .i64 t112) := bc_ BK117.out 0
      have hcz35_1 : w32.cell? ⟨gb117, 1, none⟩ = some (.int .i64 t113) := bc_ BK117.out 1
      have hcz35_2 : w32.cell? ⟨gb117, 2, none⟩ = some (.bool t114) := bc_ BK117.out 2
      have hcz35_3 : w32.cell? ⟨gb117, 3, none⟩ = some (.int .u64 t115) := bc_ BK117.out 3
      have hcz35_4 : w32.cell? ⟨gb117, 4, none⟩ = some (.int .u64 t116) := bc_ BK117.out 4
      have hfz35_0 := blk_frozen BK117.out 0
      have hfz35_1 := blk_frozen BK117.out 1
      have hfz35_2 := blk_frozen BK117.out 2
      have hfz35_3 := blk_frozen BK117.out 3
      have hfz35_4 := blk_frozen BK117.out 4
      have hnb36 := NB107_111.out
      have hnc36 := NB111_107.out
      have hcz37_0 : w32.cell? ⟨gb107, 0, none⟩ = some (.bool false) := bc_ BK107.out 0
      have hcz37_1 : w32.cell? ⟨gb107, 1, none⟩ = some (.int .i64 0) := bc_ BK107.out 1
      have hcz37_2 : w32.cell? ⟨gb107, 2, none⟩ = some (.int .i64 0) := bc_ BK107.out 2
      have hcz37_3 : w32.cell? ⟨gb107, 3, none⟩ = some (.int .u64 0) := bc_ BK107.out 3
      have hfz37_0 := blk_frozen BK107.out 0
      have hfz37_1 := blk_frozen BK107.out 1
      have hfz37_2 := blk_frozen BK107.out 2
      have hfz37_3 := blk_frozen BK107.out 3
      try go_wp2
      refine bodyPost_ret (results_cell_row rfl _ _ gb107 50 #[.bool t114, .int .i64 2, .int .i64 0, .int .u64 0] (0, 0) _ rfl (by (with_reducible repeat (first | refine blk_drewN ?_ _ | refine blk_drew ?_ | refine blk_alloc ?_ _)); refine blk_put (cs := #[.bool t114, .int .i64 2, .int .i64 0, .int .u64 0]) ?_ 3 _ rfl; (with_reducible repeat (first | refine blk_drewN ?_ _ | refine blk_drew ?_ | refine blk_alloc ?_ _)); refine blk_put (cs := #[.bool t114, .int .i64 2, .int .i64 0, .int .u64 0]) ?_ 2 _ rfl; (with_reducible repeat (first | refine blk_drewN ?_ _ | refine blk_drew ?_ | refine blk_alloc ?_ _)); refine blk_put (cs := #[.bool t114, .int .i64 0, .int .i64 0, .int .u64 0]) ?_ 1 _ rfl; (with_reducible repeat (first | refine blk_drewN ?_ _ | refine blk_drew ?_ | refine blk_alloc ?_ _)); refine blk_put (cs := #[.bool false, .int .i64 0, .int .i64 0, .int .u64 0]) ?_ 0 _ rfl; (with_reducible repeat (first | refine blk_drewN ?_ _ | refine blk_drew ?_ | refine blk_alloc ?_ _)); exact BK107.out) Try.underlying50 rfl (by kernel_rfl)) rfl ?_
      exact ⟨er_, hb3_ HB.out GE107.out GE111.out GE117.out⟩
     ·rw [if_neg c30] at H
      have c30b0 : (t115 == t119) = false := beq_eq_false_iff_ne.mpr c30
      have c30b1 : (t115 != t119) = true := bne_iff_ne.mpr c30
      have HC38 := A_ H;clear H
      try go_wp2
      have n0_ := A_ (blk_drew BK107.out)
      have n1_ := A_ (blk_drew BK111.out)
      have n2_ := A_ (blk_drew BK117.out)
      have n3_ := A_ (below_drew1 HB.out)
      clear BK107;clear BK111;clear BK117;clear HB;have BK107 := n0_;have BK111 := n1_;have BK117 := n2_;have HB := n3_;clear n0_ n1_ n2_ n3_
      refine start_ (n := 7) (S := fun w' => w'.cell? ⟨gb117, 0, none⟩ = some (.int .i64 t112) ∧ w'.cell? ⟨gb117, 1, none⟩ = some (.int .i64 t113) ∧ w'.cell? ⟨gb117, 2, none⟩ = some (.bool t114) ∧ w'.cell? ⟨gb117, 3, none⟩ = some (.int .u64 t115) ∧ w'.cell? ⟨gb117, 4, none⟩ = some (.int .u64 t116)) (ds := []) #[false, false, false, false, false, false, false] (by kernel_rfl) rfl rfl ⟨bc_ BK117.out 0, bc_ BK117.out 1, bc_ BK117.out 2, bc_ BK117.out 3, bc_ BK117.out 4⟩ (fun hHeld => ?_)
      generalize wc.drew = w39 at BK107 BK111 BK117 HB hHeld ⊢
      refine pu_ 0 (some 33) #[true, false, false, false, false, false, false] rfl rfl (by kernel_rfl) ?_
      refine pu_ 2 (some 35) #[true, false, true, false, false, false, false] rfl rfl (by kernel_rfl) ?_
      refine tk5_ 1 (some 34) #[true, true, true, false, false, false, false] rfl rfl (by kernel_rfl) hHeld ?_
      refine tk5_ 3 (some 36) #[true, true, true, true, false, false, false] rfl rfl (by kernel_rfl) hHeld ?_
      refine one_ (i := 4) (N := some 37) #[true, true, true, true, true, false, false] rfl rfl (by kernel_rfl) (by decide) (fun K hK => ?_)
      refine goes_ Try.func120 (by kernel_rfl) rfl #[.agg #[.int .i64 t112, .int .i64 t113]] (by rfl) rfl rfl mp_ ?_
      with_reducible refine (shape_format_ones.calls t112 t113 t119 _ A29.out).mono ?_
      rintro e w40 ⟨rfl, hb⟩
      refine ⟨_, rfl, ?_⟩
      have n0_ := A_ (bb_ BK107.out hb)
      have n1_ := A_ (bb_ BK111.out hb)
      have n2_ := A_ (bb_ BK117.out hb)
      have n3_ := A_ (below_step (hb3_ HB.out GE107.out GE111.out GE117.out) hb)
      clear BK107;clear BK111;clear BK117;clear HB;have BK107 := n0_;have BK111 := n1_;have BK117 := n2_;have HB := n3_;clear n0_ n1_ n2_ n3_;(try clear hb);(try clear hb2);(try clear hk);(try clear hi)
      refine hK.out _ _ ⟨bc_ BK117.out 0, bc_ BK117.out 1, bc_ BK117.out 2, bc_ BK117.out 3, bc_ BK117.out 4⟩ (fun hHeld => ?_)
      clear hK K
      refine norm_ (a' := ?_) ?_ ?_
      rotate_left
      ·show Act.put _ (some 37) _ = _
       simp only [Act.put, lI_, l0_, lS_, i64_w, i32_w]
       rfl
      refine pu_ 5 (some 38) #[true, true, true, true, true, true, false] rfl rfl (by kernel_rfl) ?_
      refine pu_ 6 (some 32) #[true, true, true, true, true, true, true] rfl rfl (by kernel_rfl) ?_
      refine done_ (by kernel_rfl) ?_
      go_upto_region 9 with (fail)
      go_cut [42] (fun v42 wc => ∃ (kq : Nat) (x42_37 : Bool), v42 = .bool x42_37 ∧ Aside0 (shape_Open.j1 kq x42_37 t112 t113 t114 t115 t116 = some (r1, r2, r3, r4)) ∧ Aside0 (kq ≤ kj5) ∧ Aside0 (wc.heap[gb107]? = some (.cells #[.bool false, .int .i64 0, .int .i64 0, .int .u64 0] 50 (0, 0))) ∧ Aside0 (wc.heap[gb111]? = some (.cells #[.int .i64 t108, .int .i64 t109] 112 (0, 0))) ∧ Aside0 (wc.heap[gb117]? = some (.cells #[.int .i64 t112, .int .i64 t113, .bool t114, .int .u64 t115, .int .u64 t116] 116 (0, 0))) ∧ Aside0 (Below w.heap.size w wc))
      case first =>
       have H := HC38.out
       clear HC38
       by_cases c41 : t115 = 0
       ·rw [if_pos c41] at H
        have c41b0 : (t115 == 0) = true := beq_iff_eq.mpr c41
        have c41b1 : (t115 != 0) = false := bne_eq_false_iff_eq.mpr c41
        clear c41
        (first | rw [c41b0] | (simp only [i64_w, i32_w]; rw [c41b0]) | skip)
        have H' := A_ H
        clear H
        have hnb42 := NB117_107.out
        have hnc42 := NB107_117.out
        have hnb43 := NB117_111.out
        have hnc43 := NB111_117.out
        have hcz44_0 : w40.cell? ⟨gb117, 0, none⟩ = some (.int .i64 t112) := bc_ BK117.out 0
        have hcz44_1 : w40.cell? ⟨gb117, 1, none⟩ = some (.int .i64 t113) := bc_ BK117.out 1
        have hcz44_2 : w40.cell? ⟨gb117, 2, none⟩ = some (.bool t114) := bc_ BK117.out 2
        have hcz44_3 : w40.cell? ⟨gb117, 3, none⟩ = some (.int .u64 t115) := bc_ BK117.out 3
        have hcz44_4 : w40.cell? ⟨gb117, 4, none⟩ = some (.int .u64 t116) := bc_ BK117.out 4
        have hfz44_0 := blk_frozen BK117.out 0
        have hfz44_1 := blk_frozen BK117.out 1
        have hfz44_2 := blk_frozen BK117.out 2
        have hfz44_3 := blk_frozen BK117.out 3
        have hfz44_4 := blk_frozen BK117.out 4
        go_wp2
        go_meet
        case rel => exact ⟨_, ((t116 == 0)), sm_, H', ⟨by have := HJ5.out; first | omega | exact Nat.le_refl _⟩, ⟨bk_ BK107.out⟩, ⟨bk_ BK111.out⟩, ⟨bk_ BK117.out⟩, ⟨hb3_ HB.out GE107.out GE111.out GE117.out⟩⟩
       ·rw [if_neg c41] at H
        have c41b0 : (t115 == 0) = false := beq_eq_false_iff_ne.mpr c41
        have c41b1 : (t115 != 0) = true := bne_iff_ne.mpr c41
        (first | rw [c41b0] | (simp only [i64_w, i32_w]; rw [c41b0]) | skip)
        have H' := A_ H
        clear H
        have hnb45 := NB117_107.out
        have hnc45 := NB107_117.out
        have hnb46 := NB117_111.out
        have hnc46 := NB111_117.out
        have hcz47_0 : w40.cell? ⟨gb117, 0, none⟩ = some (.int .i64 t112) := bc_ BK117.out 0
        have hcz47_1 : w40.cell? ⟨gb117, 1, none⟩ = some (.int .i64 t113) := bc_ BK117.out 1
        have hcz47_2 : w40.cell? ⟨gb117, 2, none⟩ = some (.bool t114) := bc_ BK117.out 2
        have hcz47_3 : w40.cell? ⟨gb117, 3, none⟩ = some (.int .u64 t115) := bc_ BK117.out 3
        have hcz47_4 : w40.cell? ⟨gb117, 4, none⟩ = some (.int .u64 t116) := bc_ BK117.out 4
        have hfz47_0 := blk_frozen BK117.out 0
        have hfz47_1 := blk_frozen BK117.out 1
        have hfz47_2 := blk_frozen BK117.out 2
        have hfz47_3 := blk_frozen BK117.out 3
        have hfz47_4 := blk_frozen BK117.out 4
        go_wp2
        go_meet
        case rel => exact ⟨_, (false), sm_, H', ⟨by have := HJ5.out; first | omega | exact Nat.le_refl _⟩, ⟨bk_ BK107.out⟩, ⟨bk_ BK111.out⟩, ⟨bk_ BK117.out⟩, ⟨hb3_ HB.out GE107.out GE111.out GE117.out⟩⟩
      case rest =>
       clear HC38
       try clear c1
       try clear c2
       try clear p2
       try clear c3
       try clear c4
       try clear c10
       try clear c11
       try clear c12
       try clear c14
       try clear c15
       try clear c18
       try clear c18b0
       try clear c18b1
       try clear c25
       try clear c26
       try clear c27
       try clear c30
       try clear c30b0
       try clear c30b1
       try clear c33
       try clear c34
       try clear c36
       try clear c41
       try clear c41b0
       try clear c41b1
       try clear c42
       try clear c43
       try clear c45
       try clear c46
       try clear hcz11_0
       try clear hcz11_1
       try clear hcz16_0
       try clear hcz16_1
       try clear hcz16_2
       try clear hcz16_3
       try clear hcz16_4
       try clear hcz28_0
       try clear hcz28_1
       try clear hcz28_2
       try clear hcz28_3
       try clear hcz35_0
       try clear hcz35_1
       try clear hcz35_2
       try clear hcz35_3
       try clear hcz35_4
       try clear hcz37_0
       try clear hcz37_1
       try clear hcz37_2
       try clear hcz37_3
       try clear hcz44_0
       try clear hcz44_1
       try clear hcz44_2
       try clear hcz44_3
       try clear hcz44_4
       try clear hcz47_0
       try clear hcz47_1
       try clear hcz47_2
       try clear hcz47_3
       try clear hcz47_4
       try clear hfz11_0
       try clear hfz11_1
       try clear hfz16_0
       try clear hfz16_1
       try clear hfz16_2
       try clear hfz16_3
       try clear hfz16_4
       try clear hfz28_0
       try clear hfz28_1
       try clear hfz28_2
       try clear hfz28_3
       try clear hfz35_0
       try clear hfz35_1
       try clear hfz35_2
       try clear hfz35_3
       try clear hfz35_4
       try clear hfz37_0
       try clear hfz37_1
       try clear hfz37_2
       try clear hfz37_3
       try clear hfz44_0
       try clear hfz44_1
       try clear hfz44_2
       try clear hfz44_3
       try clear hfz44_4
       try clear hfz47_0
       try clear hfz47_1
       try clear hfz47_2
       try clear hfz47_3
       try clear hfz47_4
       try clear p2
       obtain ⟨kq, x42_37, rfl, HA, HJ37, BK107, BK111, BK117, HB⟩ := hcut
       cases kq with
       | zero => exact absurd HA.out (by simp [shape_Open.j1])
       | succ kj37 =>
        have H := HA.out
        clear HA
        simp only [shape_Open.j1] at H
        by_cases c48 : x42_37 = true
        ·subst c48
         have H1 : (some (t114, 0, 0, 0)) = some (r1, r2, r3, r4) := by rw [if_pos rfl] at H; exact H
         clear H;have H := H1;clear H1
         simp only [Option.some.injEq, Prod.mk.injEq] at H
         obtain ⟨rfl, rfl, rfl, rfl⟩ := H
         have hnb49 := NB117_107.out
         have hnc49 := NB107_117.out
         have hnb50 := NB117_111.out
         have hnc50 := NB111_117.out
         have hcz51_0 : wc.cell? ⟨gb117, 0, none⟩ = some (.int .i64 t112) := bc_ BK117.out 0
         have hcz51_1 : wc.cell? ⟨gb117, 1, none⟩ = some (.int .i64 t113) := bc_ BK117.out 1
         have hcz51_2 : wc.cell? ⟨gb117, 2, none⟩ = some (.bool t114) := bc_ BK117.out 2
         have hcz51_3 : wc.cell? ⟨gb117, 3, none⟩ = some (.int .u64 t115) := bc_ BK117.out 3
         have hcz51_4 : wc.cell? ⟨gb117, 4, none⟩ = some (.int .u64 t116) := bc_ BK117.out 4
         have hfz51_0 := blk_frozen BK117.out 0
         have hfz51_1 := blk_frozen BK117.out 1
         have hfz51_2 := blk_frozen BK117.out 2
         have hfz51_3 := blk_frozen BK117.out 3
         have hfz51_4 := blk_frozen BK117.out 4
         have hnb52 := NB107_111.out
         have hnc52 := NB111_107.out
         have hcz53_0 : wc.cell? ⟨gb107, 0, none⟩ = some (.bool false) := bc_ BK107.out 0
         have hcz53_1 : wc.cell? ⟨gb107, 1, none⟩ = some (.int .i64 0) := bc_ BK107.out 1
         have hcz53_2 : wc.cell? ⟨gb107, 2, none⟩ = some (.int .i64 0) := bc_ BK107.out 2
         have hcz53_3 : wc.cell? ⟨gb107, 3, none⟩ = some (.int .u64 0) := bc_ BK107.out 3
         have hfz53_0 := blk_frozen BK107.out 0
         have hfz53_1 := blk_frozen BK107.out 1
         have hfz53_2 := blk_frozen BK107.out 2
         have hfz53_3 := blk_frozen BK107.out 3
         go_wp2
         refine bodyPost_ret (results_cell_row rfl _ _ gb107 50 #[.bool t114, .int .i64 0, .int .i64 0, .int .u64 0] (0, 0) _ rfl (by (with_reducible repeat (first | refine blk_drewN ?_ _ | refine blk_drew ?_ | refine blk_alloc ?_ _)); refine blk_put (cs := #[.bool t114, .int .i64 0, .int .i64 0, .int .u64 0]) ?_ 3 _ rfl; (with_reducible repeat (first | refine blk_drewN ?_ _ | refine blk_drew ?_ | refine blk_alloc ?_ _)); refine blk_put (cs := #[.bool t114, .int .i64 0, .int .i64 0, .int .u64 0]) ?_ 2 _ rfl; (with_reducible repeat (first | refine blk_drewN ?_ _ | refine blk_drew ?_ | refine blk_alloc ?_ _)); refine blk_put (cs := #[.bool t114, .int .i64 0, .int .i64 0, .int .u64 0]) ?_ 1 _ rfl; (with_reducible repeat (first | refine blk_drewN ?_ _ | refine blk_drew ?_ | refine blk_alloc ?_ _)); refine blk_put (cs := #[.bool false, .int .i64 0, .int .i64 0, .int .u64 0]) ?_ 0 _ rfl; (with_reducible repeat (first | refine blk_drewN ?_ _ | refine blk_drew ?_ | refine blk_alloc ?_ _)); exact BK107.out) Try.underlying50 rfl (by kernel_rfl)) rfl ?_
         exact ⟨er_, hb3_ HB.out GE107.out GE111.out GE117.out⟩
        ·replace c48 := Bool.eq_false_iff.mpr c48
         subst c48
         have H1 : (if t115 = 0 then ((shape_format_low.f t112 t113).bind fun t120 => (some (t114, 1, t120, t116))) else ((shape_format_low.f t112 t113).bind fun t121 => (if 0 ≤ t113 then (some (t114, 1, wrap64 ((wrap64 (t121 + (wrap64 (t115)))) - 1), Go.bits .or .u64 (shl .u64 1 t113) t116)) else (none)))) = some (r1, r2, r3, r4) := by rw [if_neg (show ¬ (false = true) by decide)] at H; exact H
         clear H;have H := H1;clear H1
         by_cases c54 : t115 = 0
         ·rw [if_pos c54] at H
          have c54b0 : (t115 == 0) = true := beq_iff_eq.mpr c54
          have c54b1 : (t115 != 0) = false := bne_eq_false_iff_eq.mpr c54
          clear c54
          replace H := ob_ H
          obtain ⟨t120, A550, H⟩ := H
          replace H : (some (t114, 1, t120, t116)) = some (r1, r2, r3, r4) := H
          have A55 := A_ A550;clear A550
          simp only [Option.some.injEq, Prod.mk.injEq] at H
          obtain ⟨rfl, rfl, rfl, rfl⟩ := H
          have hnb56 := NB117_107.out
          have hnc56 := NB107_117.out
          have hnb57 := NB117_111.out
          have hnc57 := NB111_117.out
          have hcz58_0 : wc.cell? ⟨gb117, 0, none⟩ = some (.int .i64 t112) := bc_ BK117.out 0
          have hcz58_1 : wc.cell? ⟨gb117, 1, none⟩ = some (.int .i64 t113) := bc_ BK117.out 1
          have hcz58_2 : wc.cell? ⟨gb117, 2, none⟩ = some (.bool t114) := bc_ BK117.out 2
          have hcz58_3 : wc.cell? ⟨gb117, 3, none⟩ = some (.int .u64 t115) := bc_ BK117.out 3
          have hcz58_4 : wc.cell? ⟨gb117, 4, none⟩ = some (.int .u64 t116) := bc_ BK117.out 4
          have hfz58_0 := blk_frozen BK117.out 0
          have hfz58_1 := blk_frozen BK117.out 1
          have hfz58_2 := blk_frozen BK117.out 2
          have hfz58_3 := blk_frozen BK117.out 3
          have hfz58_4 := blk_frozen BK117.out 4
          try go_wp2
          have n0_ := A_ (blk_drew BK107.out)
          have n1_ := A_ (blk_drew BK111.out)
          have n2_ := A_ (blk_drew BK117.out)
          have n3_ := A_ (below_drew1 HB.out)
          clear BK107;clear BK111;clear BK117;clear HB;have BK107 := n0_;have BK111 := n1_;have BK117 := n2_;have HB := n3_;clear n0_ n1_ n2_ n3_
          refine start_ (n := 9) (S := fun w' => w'.cell? ⟨gb117, 0, none⟩ = some (.int .i64 t112) ∧ w'.cell? ⟨gb117, 1, none⟩ = some (.int .i64 t113) ∧ w'.cell? ⟨gb117, 2, none⟩ = some (.bool t114) ∧ w'.cell? ⟨gb117, 3, none⟩ = some (.int .u64 t115) ∧ w'.cell? ⟨gb117, 4, none⟩ = some (.int .u64 t116)) (ds := []) #[false, false, false, false, false, false, false, false, false] (by kernel_rfl) rfl rfl ⟨bc_ BK117.out 0, bc_ BK117.out 1, bc_ BK117.out 2, bc_ BK117.out 3, bc_ BK117.out 4⟩ (fun hHeld => ?_); refine with_tabW shape_Open.tab12 shape_Open.bits12 (fun HT_ HW_ => ?_)
          generalize wc.drew = w59 at BK107 BK111 BK117 HB hHeld ⊢
          refine pu_ 0 (some 58) #[true, false, false, false, false, false, false, false, false] rfl rfl (any_of HT_.out (by kernel_rfl)) ?_
          refine pu_ 2 (some 60) #[true, false, true, false, false, false, false, false, false] rfl rfl (any_of HT_.out (by kernel_rfl)) ?_
          refine pu_ 5 (some 63) #[true, false, true, false, false, true, false, false, false] rfl rfl (any_of HT_.out (by kernel_rfl)) ?_
          refine tk5_ 1 (some 59) #[true, true, true, false, false, true, false, false, false] rfl rfl (take_ofW HT_.out HW_.out (by kernel_rfl)) hHeld ?_
          refine tk5_ 3 (some 61) #[true, true, true, true, false, true, false, false, false] rfl rfl (take_ofW HT_.out HW_.out (by kernel_rfl)) hHeld ?_
          refine tk5_ 6 (some 64) #[true, true, true, true, false, true, true, false, false] rfl rfl (take_ofW HT_.out HW_.out (by kernel_rfl)) hHeld ?_
          refine one_ (i := 4) (N := some 62) #[true, true, true, true, true, true, true, false, false] rfl rfl (one_of HT_.out (by kernel_rfl)) (by decide) (fun K hK => ?_)
          refine goes_ Try.func121 (by kernel_rfl) rfl #[.agg #[.int .i64 t112, .int .i64 t113]] (by rfl) rfl rfl mp_ ?_
          with_reducible refine (shape_format_low.calls t112 t113 t120 _ A55.out).mono ?_
          rintro e w60 ⟨rfl, hb⟩
          refine ⟨_, rfl, ?_⟩
          have n0_ := A_ (bb_ BK107.out hb)
          have n1_ := A_ (bb_ BK111.out hb)
          have n2_ := A_ (bb_ BK117.out hb)
          have n3_ := A_ (below_step (hb3_ HB.out GE107.out GE111.out GE117.out) hb)
          clear BK107;clear BK111;clear BK117;clear HB;have BK107 := n0_;have BK111 := n1_;have BK117 := n2_;have HB := n3_;clear n0_ n1_ n2_ n3_;(try clear hb);(try clear hb2);(try clear hk);(try clear hi)
          refine hK.out _ _ ⟨bc_ BK117.out 0, bc_ BK117.out 1, bc_ BK117.out 2, bc_ BK117.out 3, bc_ BK117.out 4⟩ (fun hHeld => ?_)
          clear hK K
          refine norm_ (a' := ?_) ?_ ?_
          rotate_left
          ·show Act.put _ (some 62) _ = _
           simp only [Act.put, lI_, l0_, lS_, i64_w, i32_w]
           rfl
          refine pu_ 7 (some 65) #[true, true, true, true, true, true, true, true, false] rfl rfl (any_of HT_.out (by kernel_rfl)) ?_
          refine one_ (i := 8) (N := none) #[true, true, true, true, true, true, true, true, true] rfl rfl (one_of HT_.out (by kernel_rfl)) (by decide) (fun K hK => ?_)
          have hs61 : w60.cell? ⟨gb107, 0, none⟩ = some (.bool false) := bc_ BK107.out 0
          have hfs61 := blk_frozen BK107.out 0
          have hns61_1 := NB111_107.out
          have hns61_2 := NB117_107.out
          have hms61_1 := NB107_111.out
          have hms61_2 := NB107_117.out
          have hs62 : w60.cell? ⟨gb107, 1, none⟩ = some (.int .i64 0) := bc_ BK107.out 1
          have hfs62 := blk_frozen BK107.out 1
          have hns62_1 := NB111_107.out
          have hns62_2 := NB117_107.out
          have hms62_1 := NB107_111.out
          have hms62_2 := NB107_117.out
          have hs63 : w60.cell? ⟨gb107, 2, none⟩ = some (.int .i64 0) := bc_ BK107.out 2
          have hfs63 := blk_frozen BK107.out 2
          have hns63_1 := NB111_107.out
          have hns63_2 := NB117_107.out
          have hms63_1 := NB107_111.out
          have hms63_2 := NB107_117.out
          have hs64 : w60.cell? ⟨gb107, 3, none⟩ = some (.int .u64 0) := bc_ BK107.out 3
          have hfs64 := blk_frozen BK107.out 3
          have hns64_1 := NB111_107.out
          have hns64_2 := NB117_107.out
          have hms64_1 := NB107_111.out
          have hms64_2 := NB107_117.out
          refine skip_ (w1 := ?_) (by rfl) rfl ?_ ?_
          rotate_left
          ·go_simp
           rfl
          refine hK.out _ _ ⟨((cell_far (p := ⟨gb107, _, none⟩) NB117_107.out _).trans (((cell_far (p := ⟨gb107, _, none⟩) NB117_107.out _).trans (((cell_far (p := ⟨gb107, _, none⟩) NB117_107.out _).trans (((cell_far (p := ⟨gb107, _, none⟩) NB117_107.out _).trans (hHeld.1)))))))), ((cell_far (p := ⟨gb107, _, none⟩) NB117_107.out _).trans (((cell_far (p := ⟨gb107, _, none⟩) NB117_107.out _).trans (((cell_far (p := ⟨gb107, _, none⟩) NB117_107.out _).trans (((cell_far (p := ⟨gb107, _, none⟩) NB117_107.out _).trans (hHeld.2.1)))))))), ((cell_far (p := ⟨gb107, _, none⟩) NB117_107.out _).trans (((cell_far (p := ⟨gb107, _, none⟩) NB117_107.out _).trans (((cell_far (p := ⟨gb107, _, none⟩) NB117_107.out _).trans (((cell_far (p := ⟨gb107, _, none⟩) NB117_107.out _).trans (hHeld.2.2.1)))))))), ((cell_far (p := ⟨gb107, _, none⟩) NB117_107.out _).trans (((cell_far (p := ⟨gb107, _, none⟩) NB117_107.out _).trans (((cell_far (p := ⟨gb107, _, none⟩) NB117_107.out _).trans (((cell_far (p := ⟨gb107, _, none⟩) NB117_107.out _).trans (hHeld.2.2.2.1)))))))), ((cell_far (p := ⟨gb107, _, none⟩) NB117_107.out _).trans (((cell_far (p := ⟨gb107, _, none⟩) NB117_107.out _).trans (((cell_far (p := ⟨gb107, _, none⟩) NB117_107.out _).trans (((cell_far (p := ⟨gb107, _, none⟩) NB117_107.out _).trans (hHeld.2.2.2.2))))))))⟩ (fun hHeld => ?_)
          clear hK K
          refine done_ (done_of HT_.out (by kernel_rfl)) ?_
          try go_wp2
          refine bodyPost_ret (results_cell_row rfl _ _ gb107 50 #[.bool t114, .int .i64 1, .int .i64 t120, .int .u64 t116] (0, 0) _ rfl (by (with_reducible repeat (first | refine blk_drewN ?_ _ | refine blk_drew ?_ | refine blk_alloc ?_ _)); refine blk_put (cs := #[.bool t114, .int .i64 1, .int .i64 t120, .int .u64 0]) ?_ 3 _ rfl; (with_reducible repeat (first | refine blk_drewN ?_ _ | refine blk_drew ?_ | refine blk_alloc ?_ _)); refine blk_put (cs := #[.bool t114, .int .i64 1, .int .i64 0, .int .u64 0]) ?_ 2 _ rfl; (with_reducible repeat (first | refine blk_drewN ?_ _ | refine blk_drew ?_ | refine blk_alloc ?_ _)); refine blk_put (cs := #[.bool t114, .int .i64 0, .int .i64 0, .int .u64 0]) ?_ 1 _ rfl; (with_reducible repeat (first | refine blk_drewN ?_ _ | refine blk_drew ?_ | refine blk_alloc ?_ _)); refine blk_put (cs := #[.bool false, .int .i64 0, .int .i64 0, .int .u64 0]) ?_ 0 _ rfl; (with_reducible repeat (first | refine blk_drewN ?_ _ | refine blk_drew ?_ | refine blk_alloc ?_ _)); exact BK107.out) Try.underlying50 rfl (by kernel_rfl)) rfl ?_
          exact ⟨er_, hb3_ HB.out GE107.out GE111.out GE117.out⟩
         ·rw [if_neg c54] at H
          have c54b0 : (t115 == 0) = false := beq_eq_false_iff_ne.mpr c54
          have c54b1 : (t115 != 0) = true := bne_iff_ne.mpr c54
          replace H := ob_ H
          obtain ⟨t121, A650, H⟩ := H
          replace H : (if 0 ≤ t113 then (some (t114, 1, wrap64 ((wrap64 (t121 + (wrap64 (t115)))) - 1), Go.bits .or .u64 (shl .u64 1 t113) t116)) else (none)) = some (r1, r2, r3, r4) := H
          have A65 := A_ A650;clear A650
          by_cases c66 : 0 ≤ t113
          ·rw [if_pos c66] at H
           have c66b0 := eq_true c66
           have c66b1 : decide (0 ≤ t113) = true := decide_eq_true c66
           clear c66
           obtain ⟨ji67, hji67⟩ : ∃ j_ : Int, (shl .u64 1 t113) = j_ := ⟨_, rfl⟩
           replace H : (some (t114, 1, wrap64 ((wrap64 (t121 + (wrap64 (t115)))) - 1), Go.bits .or .u64 (ji67) t116)) = some (r1, r2, r3, r4) := by first | (rw [hji67] at H; exact H) | (simp only [hji67] at H ⊢; exact H)
           (try rw [hji67] at A65)
           have hji67_ : (IntKind.u64.wrap (1 * 2 ^ min t113.toNat 64)) = ji67 := hji67
           have hji67z : t113 ≤ 64 → (IntKind.u64.wrap (1 * 2 ^ t113.toNat)) = ji67 := shl_small hji67
           have hji67u : (IntKind.u64.wrap (2 ^ min t113.toNat 64)) = ji67 := by have h_ := hji67_; rw [Int.one_mul] at h_; exact h_
           have hji67v : t113 ≤ 64 → (IntKind.u64.wrap (2 ^ t113.toNat)) = ji67 := fun hle_ => by have h_ := hji67z hle_; rw [Int.one_mul] at h_; exact h_
           simp only [Option.some.injEq, Prod.mk.injEq] at H
           obtain ⟨rfl, rfl, rfl, rfl⟩ := H
           have hnb68 := NB117_107.out
           have hnc68 := NB107_117.out
           have hnb69 := NB117_111.out
           have hnc69 := NB111_117.out
           have hcz70_0 : wc.cell? ⟨gb117, 0, none⟩ = some (.int .i64 t112) := bc_ BK117.out 0
           have hcz70_1 : wc.cell? ⟨gb117, 1, none⟩ = some (.int .i64 t113) := bc_ BK117.out 1
           have hcz70_2 : wc.cell? ⟨gb117, 2, none⟩ = some (.bool t114) := bc_ BK117.out 2
           have hcz70_3 : wc.cell? ⟨gb117, 3, none⟩ = some (.int .u64 t115) := bc_ BK117.out 3
           have hcz70_4 : wc.cell? ⟨gb117, 4, none⟩ = some (.int .u64 t116) := bc_ BK117.out 4
           have hfz70_0 := blk_frozen BK117.out 0
           have hfz70_1 := blk_frozen BK117.out 1
           have hfz70_2 := blk_frozen BK117.out 2
           have hfz70_3 := blk_frozen BK117.out 3
           have hfz70_4 := blk_frozen BK117.out 4
           try go_wp2
           have n0_ := A_ (blk_drew BK107.out)
           have n1_ := A_ (blk_drew BK111.out)
           have n2_ := A_ (blk_drew BK117.out)
           have n3_ := A_ (below_drew1 HB.out)
           clear BK107;clear BK111;clear BK117;clear HB;have BK107 := n0_;have BK111 := n1_;have BK117 := n2_;have HB := n3_;clear n0_ n1_ n2_ n3_
           refine start_ (n := 19) (S := fun w' => w'.cell? ⟨gb117, 0, none⟩ = some (.int .i64 t112) ∧ w'.cell? ⟨gb117, 1, none⟩ = some (.int .i64 t113) ∧ w'.cell? ⟨gb117, 2, none⟩ = some (.bool t114) ∧ w'.cell? ⟨gb117, 3, none⟩ = some (.int .u64 t115) ∧ w'.cell? ⟨gb117, 4, none⟩ = some (.int .u64 t116)) (ds := []) #[false, false, false, false, false, false, false, false, false, false, false, false, false, false, false, false, false, false, false] (by kernel_rfl) rfl rfl ⟨bc_ BK117.out 0, bc_ BK117.out 1, bc_ BK117.out 2, bc_ BK117.out 3, bc_ BK117.out 4⟩ (fun hHeld => ?_); refine with_tabW shape_Open.tab13 shape_Open.bits13 (fun HT_ HW_ => ?_)
           generalize wc.drew = w71 at BK107 BK111 BK117 HB hHeld ⊢
           refine pu_ 0 (some 66) #[true, false, false, false, false, false, false, false, false, false, false, false, false, false, false, false, false, false, false] rfl rfl (any_of HT_.out (by kernel_rfl)) ?_
           refine pu_ 2 (some 68) #[true, false, true, false, false, false, false, false, false, false, false, false, false, false, false, false, false, false, false] rfl rfl (any_of HT_.out (by kernel_rfl)) ?_
           refine pu_ 5 (some 71) #[true, false, true, false, false, true, false, false, false, false, false, false, false, false, false, false, false, false, false] rfl rfl (any_of HT_.out (by kernel_rfl)) ?_
           refine pu_ 10 (some 76) #[true, false, true, false, false, true, false, false, false, false, true, false, false, false, false, false, false, false, false] rfl rfl (any_of HT_.out (by kernel_rfl)) ?_
           refine pu_ 11 (some 77) #[true, false, true, false, false, true, false, false, false, false, true, true, false, false, false, false, false, false, false] rfl rfl (any_of HT_.out (by kernel_rfl)) ?_
           refine pu_ 14 (some 80) #[true, false, true, false, false, true, false, false, false, false, true, true, false, false, true, false, false, false, false] rfl rfl (any_of HT_.out (by kernel_rfl)) ?_
           refine tk5_ 1 (some 67) #[true, true, true, false, false, true, false, false, false, false, true, true, false, false, true, false, false, false, false] rfl rfl (take_ofW HT_.out HW_.out (by kernel_rfl)) hHeld ?_
           refine tk5_ 3 (some 69) #[true, true, true, true, false, true, false, false, false, false, true, true, false, false, true, false, false, false, false] rfl rfl (take_ofW HT_.out HW_.out (by kernel_rfl)) hHeld ?_
           refine tk5_ 6 (some 72) #[true, true, true, true, false, true, true, false, false, false, true, true, false, false, true, false, false, false, false] rfl rfl (take_ofW HT_.out HW_.out (by kernel_rfl)) hHeld ?_
           refine pu_ 7 (some 73) #[true, true, true, true, false, true, true, true, false, false, true, true, false, false, true, false, false, false, false] rfl rfl (any_of HT_.out (by kernel_rfl)) ?_
           refine tk5_ 12 (some 78) #[true, true, true, true, false, true, true, true, false, false, true, true, true, false, true, false, false, false, false] rfl rfl (take_ofW HT_.out HW_.out (by kernel_rfl)) hHeld ?_
           refine pu_ 13 (some 79) #[true, true, true, true, false, true, true, true, false, false, true, true, true, true, true, false, false, false, false] rfl rfl (any_of HT_.out (by kernel_rfl)) ?_
           refine tk5_ 15 (some 81) #[true, true, true, true, false, true, true, true, false, false, true, true, true, true, true, true, false, false, false] rfl rfl (take_ofW HT_.out HW_.out (by kernel_rfl)) hHeld ?_
           refine pu_ 16 (some 82) #[true, true, true, true, false, true, true, true, false, false, true, true, true, true, true, true, true, false, false] rfl rfl (any_of HT_.out (by kernel_rfl)) ?_
           refine one_ (i := 4) (N := some 70) #[true, true, true, true, true, true, true, true, false, false, true, true, true, true, true, true, true, false, false] rfl rfl (one_of HT_.out (by kernel_rfl)) (by decide) (fun K hK => ?_)
           refine goes_ Try.func121 (by kernel_rfl) rfl #[.agg #[.int .i64 t112, .int .i64 t113]] (by rfl) rfl rfl mp_ ?_
           with_reducible refine (shape_format_low.calls t112 t113 t121 _ A65.out).mono ?_
           rintro e w72 ⟨rfl, hb⟩
           refine ⟨_, rfl, ?_⟩
           have n0_ := A_ (bb_ BK107.out hb)
           have n1_ := A_ (bb_ BK111.out hb)
           have n2_ := A_ (bb_ BK117.out hb)
           have n3_ := A_ (below_step (hb3_ HB.out GE107.out GE111.out GE117.out) hb)
           clear BK107;clear BK111;clear BK117;clear HB;have BK107 := n0_;have BK111 := n1_;have BK117 := n2_;have HB := n3_;clear n0_ n1_ n2_ n3_;(try clear hb);(try clear hb2);(try clear hk);(try clear hi)
           refine hK.out _ _ ⟨bc_ BK117.out 0, bc_ BK117.out 1, bc_ BK117.out 2, bc_ BK117.out 3, bc_ BK117.out 4⟩ (fun hHeld => ?_)
           clear hK K
           refine norm_ (a' := ?_) ?_ ?_
           rotate_left
           ·show Act.put _ (some 70) _ = _
            simp only [Act.put, lI_, l0_, lS_, i64_w, i32_w]
            rfl
           refine pu_ 8 (some 74) #[true, true, true, true, true, true, true, true, true, false, true, true, true, true, true, true, true, false, false] rfl rfl (any_of HT_.out (by kernel_rfl)) ?_
           refine pu_ 9 (some 75) #[true, true, true, true, true, true, true, true, true, true, true, true, true, true, true, true, true, false, false] rfl rfl (any_of HT_.out (by kernel_rfl)) ?_
           refine pu_ 17 (some 83) #[true, true, true, true, true, true, true, true, true, true, true, true, true, true, true, true, true, true, false] rfl rfl (any_of HT_.out (by kernel_rfl)) ?_
           refine one_ (i := 18) (N := none) #[true, true, true, true, true, true, true, true, true, true, true, true, true, true, true, true, true, true, true] rfl rfl (one_of HT_.out (by kernel_rfl)) (by decide) (fun K hK => ?_)
           have hs73 : w72.cell? ⟨gb107, 0, none⟩ = some (.bool false) := bc_ BK107.out 0
           have hfs73 := blk_frozen BK107.out 0
           have hns73_1 := NB111_107.out
           have hns73_2 := NB117_107.out
           have hms73_1 := NB107_111.out
           have hms73_2 := NB107_117.out
           have hs74 : w72.cell? ⟨gb107, 1, none⟩ = some (.int .i64 0) := bc_ BK107.out 1
           have hfs74 := blk_frozen BK107.out 1
           have hns74_1 := NB111_107.out
           have hns74_2 := NB117_107.out
           have hms74_1 := NB107_111.out
           have hms74_2 := NB107_117.out
           have hs75 : w72.cell? ⟨gb107, 2, none⟩ = some (.int .i64 0) := bc_ BK107.out 2
           have hfs75 := blk_frozen BK107.out 2
           have hns75_1 := NB111_107.out
           have hns75_2 := NB117_107.out
           have hms75_1 := NB107_111.out
           have hms75_2 := NB107_117.out
           have hs76 : w72.cell? ⟨gb107, 3, none⟩ = some (.int .u64 0) := bc_ BK107.out 3
           have hfs76 := blk_frozen BK107.out 3
           have hns76_1 := NB111_107.out
           have hns76_2 := NB117_107.out
           have hms76_1 := NB107_111.out
           have hms76_2 := NB107_117.out
           refine skip_ (w1 := ?_) (by rfl) rfl ?_ ?_
           rotate_left
           ·go_simp
            rfl
           refine hK.out _ _ ⟨((cell_far (p := ⟨gb107, _, none⟩) NB117_107.out _).trans (((cell_far (p := ⟨gb107, _, none⟩) NB117_107.out _).trans (((cell_far (p := ⟨gb107, _, none⟩) NB117_107.out _).trans (((cell_far (p := ⟨gb107, _, none⟩) NB117_107.out _).trans (hHeld.1)))))))), ((cell_far (p := ⟨gb107, _, none⟩) NB117_107.out _).trans (((cell_far (p := ⟨gb107, _, none⟩) NB117_107.out _).trans (((cell_far (p := ⟨gb107, _, none⟩) NB117_107.out _).trans (((cell_far (p := ⟨gb107, _, none⟩) NB117_107.out _).trans (hHeld.2.1)))))))), ((cell_far (p := ⟨gb107, _, none⟩) NB117_107.out _).trans (((cell_far (p := ⟨gb107, _, none⟩) NB117_107.out _).trans (((cell_far (p := ⟨gb107, _, none⟩) NB117_107.out _).trans (((cell_far (p := ⟨gb107, _, none⟩) NB117_107.out _).trans (hHeld.2.2.1)))))))), ((cell_far (p := ⟨gb107, _, none⟩) NB117_107.out _).trans (((cell_far (p := ⟨gb107, _, none⟩) NB117_107.out _).trans (((cell_far (p := ⟨gb107, _, none⟩) NB117_107.out _).trans (((cell_far (p := ⟨gb107, _, none⟩) NB117_107.out _).trans (hHeld.2.2.2.1)))))))), ((cell_far (p := ⟨gb107, _, none⟩) NB117_107.out _).trans (((cell_far (p := ⟨gb107, _, none⟩) NB117_107.out _).trans (((cell_far (p := ⟨gb107, _, none⟩) NB117_107.out _).trans (((cell_far (p := ⟨gb107, _, none⟩) NB117_107.out _).trans (hHeld.2.2.2.2))))))))⟩ (fun hHeld => ?_)
           clear hK K
           refine done_ (done_of HT_.out (by kernel_rfl)) ?_
           try go_wp2
           refine bodyPost_ret (results_cell_row rfl _ _ gb107 50 #[.bool t114, .int .i64 1, .int .i64 (wrap64 ((wrap64 (t121 + (wrap64 (t115)))) - 1)), .int .u64 (Go.bits .or .u64 (ji67) t116)] (0, 0) _ rfl (by (with_reducible repeat (first | refine blk_drewN ?_ _ | refine blk_drew ?_ | refine blk_alloc ?_ _)); refine blk_put (cs := #[.bool t114, .int .i64 1, .int .i64 (wrap64 ((wrap64 (t121 + (wrap64 (t115)))) - 1)), .int .u64 0]) ?_ 3 _ rfl; (with_reducible repeat (first | refine blk_drewN ?_ _ | refine blk_drew ?_ | refine blk_alloc ?_ _)); refine blk_put (cs := #[.bool t114, .int .i64 1, .int .i64 0, .int .u64 0]) ?_ 2 _ rfl; (with_reducible repeat (first | refine blk_drewN ?_ _ | refine blk_drew ?_ | refine blk_alloc ?_ _)); refine blk_put (cs := #[.bool t114, .int .i64 0, .int .i64 0, .int .u64 0]) ?_ 1 _ rfl; (with_reducible repeat (first | refine blk_drewN ?_ _ | refine blk_drew ?_ | refine blk_alloc ?_ _)); refine blk_put (cs := #[.bool false, .int .i64 0, .int .i64 0, .int .u64 0]) ?_ 0 _ rfl; (with_reducible repeat (first | refine blk_drewN ?_ _ | refine blk_drew ?_ | refine blk_alloc ?_ _)); exact BK107.out) Try.underlying50 rfl (by kernel_rfl)) rfl ?_
           exact ⟨by first | rfl | (simp [errW_none, errW_some] <;> rfl) | (simp only [← hji67]; first | rfl | (simp [errW_none, errW_some] <;> rfl)) | (simp [*, errW_none, errW_some] <;> rfl), hb3_ HB.out GE107.out GE111.out GE117.out⟩
          ·rw [if_neg c66] at H
           exact absurd H (by simp)
 ·replace c4 := Bool.eq_false_iff.mpr c4
  subst c4
  have H1 : (some (false, 0, 0, 0)) = some (r1, r2, r3, r4) := by rw [if_neg (show ¬ (false = true) by decide)] at H; exact H
  clear H;have H := H1;clear H1
  simp only [Option.some.injEq, Prod.mk.injEq] at H
  obtain ⟨rfl, rfl, rfl, rfl⟩ := H
  go_enter Try.func48, Try.ntmps48
  go_wp2_with (first | ((with_reducible refine gate_dst (N := 4) rfl ?_); refine be_ 4 #[.bool false, .int .i64 0, .int .i64 0, .int .u64 0] 50 ?_; intro gb107 hg w77 hbox hb; have n0_ := A_ (below_step (hb_ HB.out) hb); have n1_ := A_ (hbox); have n2_ := A_ (sz_ hg (hb_ HB.out)); have n3_ := A_ (sz_ hg (hb_ HB.out)); clear HB; have HB := n0_; have BK107 := n1_; have GW107 := n2_; have GE107 := n3_; clear n0_ n1_ n2_ n3_; clear hb hbox hg) | ((with_reducible refine gate_callee (f := 118) rfl ?_); refine gl_ (some 10) Try.func118 #[.int .i64 a0] ?_; (with_reducible refine (shape_of.calls a0 t108 t109 false _ A3.out).mono ?_); rintro e w78 ⟨rfl, hb⟩; refine ⟨_, rfl, ?_⟩; have n0_ := A_ (bb_ BK107.out hb); have n1_ := A_ (below_step (hb1_ HB.out GE107.out) hb); clear BK107; clear HB; have BK107 := n0_; have HB := n1_; clear n0_ n1_; (try clear hb); (try clear hb2); (try clear hk); (try clear hi)) | ((with_reducible refine gate_dst (N := 5) rfl ?_); refine be_ 5 #[.int .i64 0, .int .i64 0] 112 ?_; intro gb111 hg w79 hbox hb; have n0_ := A_ (bb_ BK107.out hb); have n1_ := A_ (below_step (hb1_ HB.out GE107.out) hb); have n2_ := A_ (hbox); have n3_ := A_ (sz_ hg (hb1_ HB.out GE107.out)); have n4_ := A_ (sz_ hg (hb1_ HB.out GE107.out)); have n5_ := A_ (nl_ hg BK107.out); have n6_ := A_ (ng_ hg BK107.out); clear BK107; clear HB; have BK107 := n0_; have HB := n1_; have BK111 := n2_; have GW111 := n3_; have GE111 := n4_; have NB107_111 := n5_; have NB111_107 := n6_; clear n0_ n1_ n2_ n3_ n4_ n5_ n6_; clear hb hbox hg; have hnb80 := NB111_107.out; have hnc80 := NB107_111.out; have hcz81_0 : w79.cell? ⟨gb111, 0, none⟩ = some (.int .i64 0) := bc_ BK111.out 0; have hcz81_1 : w79.cell? ⟨gb111, 1, none⟩ = some (.int .i64 0) := bc_ BK111.out 1; have hfz81_0 := blk_frozen BK111.out 0; have hfz81_1 := blk_frozen BK111.out 1; have hcz82_0 : w79.cell? ⟨gb107, 0, none⟩ = some (.bool false) := bc_ BK107.out 0; have hcz82_1 : w79.cell? ⟨gb107, 1, none⟩ = some (.int .i64 0) := bc_ BK107.out 1; have hcz82_2 : w79.cell? ⟨gb107, 2, none⟩ = some (.int .i64 0) := bc_ BK107.out 2; have hcz82_3 : w79.cell? ⟨gb107, 3, none⟩ = some (.int .u64 0) := bc_ BK107.out 3; have hfz82_0 := blk_frozen BK107.out 0; have hfz82_1 := blk_frozen BK107.out 1; have hfz82_2 := blk_frozen BK107.out 2; have hfz82_3 := blk_frozen BK107.out 3))
  refine bodyPost_ret (results_cell_row rfl _ _ gb107 50 #[.bool false, .int .i64 0, .int .i64 0, .int .u64 0] (0, 0) _ rfl (by (with_reducible repeat (first | refine blk_drewN ?_ _ | refine blk_drew ?_ | refine blk_alloc ?_ _)); refine blk_put (cs := #[.bool false, .int .i64 0, .int .i64 0, .int .u64 0]) ?_ 3 _ rfl; (with_reducible repeat (first | refine blk_drewN ?_ _ | refine blk_drew ?_ | refine blk_alloc ?_ _)); refine blk_put (cs := #[.bool false, .int .i64 0, .int .i64 0, .int .u64 0]) ?_ 2 _ rfl; (with_reducible repeat (first | refine blk_drewN ?_ _ | refine blk_drew ?_ | refine blk_alloc ?_ _)); refine blk_put (cs := #[.bool false, .int .i64 0, .int .i64 0, .int .u64 0]) ?_ 1 _ rfl; (with_reducible repeat (first | refine blk_drewN ?_ _ | refine blk_drew ?_ | refine blk_alloc ?_ _)); refine blk_put (cs := #[.bool false, .int .i64 0, .int .i64 0, .int .u64 0]) ?_ 0 _ rfl; (with_reducible repeat (first | refine blk_drewN ?_ _ | refine blk_drew ?_ | refine blk_alloc ?_ _)); refine blk_far ?_ NB107_111.out _; (with_reducible repeat (first | refine blk_drewN ?_ _ | refine blk_drew ?_ | refine blk_alloc ?_ _)); refine blk_far ?_ NB107_111.out _; (with_reducible repeat (first | refine blk_drewN ?_ _ | refine blk_drew ?_ | refine blk_alloc ?_ _)); exact BK107.out) Try.underlying50 rfl (by kernel_rfl)) rfl ?_
  exact ⟨er_, hb2_ HB.out GE107.out GE111.out⟩
def shape_IsNan.f (k : Nat) (a0 : Int) (a1 : Int) : Option (Bool) := (shape_Open.f k a0 a1).bind fun bt885 => (some (bt885.2.1 == 3))
theorem shape_IsNan.mono : ∀ a0 a1 k, LeO (shape_IsNan.f k a0 a1) (shape_IsNan.f (k + 1) a0 a1) := by
 intro a0 a1 k
 unfold shape_IsNan.f
 repeat' first
   | (with_reducible exact shape_Open.mono _ _ _)
   | (with_reducible exact LeO.refl _)
   | (with_reducible exact LeO.none _)
   | (with_reducible refine LeO.ite ?_ ?_)
   | (with_reducible refine LeO.bind ?_ (fun _ => ?_))
   | exact shape_Open.mono _ _ _
   | exact LeO.none _
   | refine LeO.ite ?_ ?_
   | refine LeO.bind ?_ (fun _ => ?_)
theorem shape_IsNan.calls (k : Nat) (a0 : Int) (a1 : Int) (r : Bool) (w : World) (h : shape_IsNan.f k a0 a1 = some r) :
  Calls Try.prog 78 #[.int .i64 a0, .int .u64 a1] w fun e w' => e = .returned (.bool r) ∧ Below w.heap.size w w' := by
 have hfl50_1 : ∀ (v0_ v1_ v2_ v3_ : Value) (W : World), (Instr.field 50 (.agg #[v0_, v1_, v2_, v3_]) 1).run Try.prog W = .ok v1_ W := fun _ _ _ _ _ => by rfl
 have HB := A_ (Below.refl w.heap.size w)
 have H : ((shape_Open.f k a0 a1).bind fun bt885 => (some (bt885.2.1 == 3))) = some r := h
 clear h
 replace H := ob_ H
 obtain ⟨⟨t885, t886, t887, t888⟩, A30, H⟩ := H
 replace H : (some (t886 == 3)) = some r := H
 have A3 := A_ A30;clear A30
 obtain rfl := Option.some.inj H
 go_enter Try.func78, Try.ntmps78
 go_wp2_with (first | ((with_reducible refine gate_callee (f := 48) rfl ?_); refine gl_ (some 7) Try.func48 #[.int .i64 a0, .int .u64 a1] ?_; (with_reducible refine (shape_Open.calls k a0 a1 t885 t886 t887 t888 _ A3.out).mono ?_); rintro e w4 ⟨rfl, hb⟩; refine ⟨_, rfl, ?_⟩; have n0_ := A_ (below_step (hb_ HB.out) hb); clear HB; have HB := n0_; clear n0_; (try clear hb); (try clear hb2); (try clear hk); (try clear hi)))
 go_ret
 exact ⟨er_, hb_ HB.out⟩
def shape_format_sign.f (a0_0 : Int) (a0_1 : Int) (a1 : Bool) : Option (Int) := if a1 = true then (if 0 ≤ (wrap64 (a0_0 + a0_1)) then (some (shl .u64 1 (wrap64 (a0_0 + a0_1)))) else (none)) else (some 0)
theorem shape_format_sign.calls (a0_0 : Int) (a0_1 : Int) (a1 : Bool) (r : Int) (w : World) (h : shape_format_sign.f a0_0 a0_1 a1 = some r) :
  Calls Try.prog 123 #[.agg #[.int .i64 a0_0, .int .i64 a0_1], .bool a1] w fun e w' => e = .returned (.int .u64 r) ∧ Below w.heap.size w w' := by
 have hu112 := Try.underlying112
 have HB := A_ (Below.refl w.heap.size w)
 have H : (if a1 = true then (if 0 ≤ (wrap64 (a0_0 + a0_1)) then (some (shl .u64 1 (wrap64 (a0_0 + a0_1)))) else (none)) else (some 0)) = some r := h
 clear h
 by_cases c3 : a1 = true
 ·subst c3
  have H1 : (if 0 ≤ (wrap64 (a0_0 + a0_1)) then (some (shl .u64 1 (wrap64 (a0_0 + a0_1)))) else (none)) = some r := by rw [if_pos rfl] at H; exact H
  clear H;have H := H1;clear H1
  obtain ⟨ji4, hji4⟩ : ∃ j_ : Int, (wrap64 (a0_0 + a0_1)) = j_ := ⟨_, rfl⟩
  replace H : (if 0 ≤ (ji4) then (some (shl .u64 1 (ji4))) else (none)) = some r := by first | (rw [hji4] at H; exact H) | (simp only [hji4] at H ⊢; exact H)
  have hji4w : (IntKind.i64.wrap (a0_0 + a0_1)) = ji4 := (i64_w _).trans hji4
  by_cases c5 : 0 ≤ (ji4)
  ·rw [if_pos c5] at H
   have c5b0 := eq_true c5
   have c5b1 : decide (0 ≤ (ji4)) = true := decide_eq_true c5
   clear c5
   obtain ⟨ji6, hji6⟩ : ∃ j_ : Int, (shl .u64 1 (ji4)) = j_ := ⟨_, rfl⟩
   replace H : (some ji6) = some r := by first | (rw [hji6] at H; exact H) | (simp only [hji6] at H ⊢; exact H)
   have hji6_ : (IntKind.u64.wrap (1 * 2 ^ min (ji4).toNat 64)) = ji6 := hji6
   have hji6z : (ji4) ≤ 64 → (IntKind.u64.wrap (1 * 2 ^ (ji4).toNat)) = ji6 := shl_small hji6
   have hji6u : (IntKind.u64.wrap (2 ^ min (ji4).toNat 64)) = ji6 := by have h_ := hji6_; rw [Int.one_mul] at h_; exact h_
   have hji6v : (ji4) ≤ 64 → (IntKind.u64.wrap (2 ^ (ji4).toNat)) = ji6 := fun hle_ => by have h_ := hji6z hle_; rw [Int.one_mul] at h_; exact h_
   obtain rfl := Option.some.inj H
   go_enter Try.func123, Try.ntmps123
   go_wp2_with (first | ((with_reducible refine gate_dst (N := 2) rfl ?_); refine be_ 2 #[.int .i64 a0_0, .int .i64 a0_1] 112 ?_; intro gb370 hg w7 hbox hb; have n0_ := A_ (below_step (hb_ HB.out) hb); have n1_ := A_ (hbox); have n2_ := A_ (sz_ hg (hb_ HB.out)); have n3_ := A_ (sz_ hg (hb_ HB.out)); clear HB; have HB := n0_; have BK370 := n1_; have GW370 := n2_; have GE370 := n3_; clear n0_ n1_ n2_ n3_; clear hb hbox hg; have hcz8_0 : w7.cell? ⟨gb370, 0, none⟩ = some (.int .i64 a0_0) := bc_ BK370.out 0; have hcz8_1 : w7.cell? ⟨gb370, 1, none⟩ = some (.int .i64 a0_1) := bc_ BK370.out 1; have hfz8_0 := blk_frozen BK370.out 0; have hfz8_1 := blk_frozen BK370.out 1))
   go_ret
   exact ⟨by first | rfl | (simp [errW_none, errW_some] <;> rfl) | (simp only [← hji4, ← hji6]; first | rfl | (simp [errW_none, errW_some] <;> rfl)) | (simp [*, errW_none, errW_some] <;> rfl), hb1_ HB.out GE370.out⟩
  ·rw [if_neg c5] at H
   exact absurd H (by simp)
 ·replace c3 := Bool.eq_false_iff.mpr c3
  subst c3
  have H1 : (some 0) = some r := by rw [if_neg (show ¬ (false = true) by decide)] at H; exact H
  clear H;have H := H1;clear H1
  obtain rfl := Option.some.inj H
  go_enter Try.func123, Try.ntmps123
  go_wp2_with (first | ((with_reducible refine gate_dst (N := 2) rfl ?_); refine be_ 2 #[.int .i64 a0_0, .int .i64 a0_1] 112 ?_; intro gb370 hg w9 hbox hb; have n0_ := A_ (below_step (hb_ HB.out) hb); have n1_ := A_ (hbox); have n2_ := A_ (sz_ hg (hb_ HB.out)); have n3_ := A_ (sz_ hg (hb_ HB.out)); clear HB; have HB := n0_; have BK370 := n1_; have GW370 := n2_; have GE370 := n3_; clear n0_ n1_ n2_ n3_; clear hb hbox hg))
  go_ret
  exact ⟨er_, hb1_ HB.out GE370.out⟩
def shape_format_join.f (a0_0 : Int) (a0_1 : Int) (a1 : Bool) (a2 : Int) (a3 : Int) : Option (Int) := (shape_format_sign.f a0_0 a0_1 a1).bind fun t372 => (if 0 ≤ a0_1 then (some (Go.bits .or .u64 (Go.bits .or .u64 t372 (shl .u64 a2 a0_1)) a3)) else (none))
def shape_format_join.T1 : Bool × List (List Nat × List Nat) := (true, [([], []), ([], []), ([0, 1], [0, 1]), ([], []), ([], []), ([4], [4]), ([3, 5], [3, 5]), ([2, 6], [2, 6]), ([], []), ([7, 8], [7, 8]), ([9, 2, 0, 1, 2, 3, 4, 5, 6, 7, 8, 9], [9])])
def shape_format_join.B1 : List Nat := [0, 0, 3, 0, 0, 16, 56, 127, 0, 511, 1023]
theorem shape_format_join.tab1 : rtab .any (opsOf Try.f122 1) = shape_format_join.T1 := by kernel_rfl
theorem shape_format_join.bits1 : waitsOk shape_format_join.T1.2 shape_format_join.B1 = true := by kernel_rfl
theorem shape_format_join.calls (a0_0 : Int) (a0_1 : Int) (a1 : Bool) (a2 : Int) (a3 : Int) (r : Int) (w : World) (h : shape_format_join.f a0_0 a0_1 a1 a2 a3 = some r) :
  Calls Try.prog 122 #[.agg #[.int .i64 a0_0, .int .i64 a0_1], .bool a1, .int .u64 a2, .int .u64 a3] w fun e w' => e = .returned (.int .u64 r) ∧ Below w.heap.size w w' := by
 have hu112 := Try.underlying112
 have HB := A_ (Below.refl w.heap.size w)
 have H : ((shape_format_sign.f a0_0 a0_1 a1).bind fun t372 => (if 0 ≤ a0_1 then (some (Go.bits .or .u64 (Go.bits .or .u64 t372 (shl .u64 a2 a0_1)) a3)) else (none))) = some r := h
 clear h
 replace H := ob_ H
 obtain ⟨t372, A50, H⟩ := H
 replace H : (if 0 ≤ a0_1 then (some (Go.bits .or .u64 (Go.bits .or .u64 t372 (shl .u64 a2 a0_1)) a3)) else (none)) = some r := H
 have A5 := A_ A50;clear A50
 by_cases c6 : 0 ≤ a0_1
 ·rw [if_pos c6] at H
  have c6b0 := eq_true c6
  have c6b1 : decide (0 ≤ a0_1) = true := decide_eq_true c6
  clear c6
  obtain ⟨ji7, hji7⟩ : ∃ j_ : Int, (shl .u64 a2 a0_1) = j_ := ⟨_, rfl⟩
  replace H : (some (Go.bits .or .u64 (Go.bits .or .u64 t372 (ji7)) a3)) = some r := by first | (rw [hji7] at H; exact H) | (simp only [hji7] at H ⊢; exact H)
  (try rw [hji7] at A5)
  have hji7_ : (IntKind.u64.wrap (a2 * 2 ^ min a0_1.toNat 64)) = ji7 := hji7
  have hji7z : a0_1 ≤ 64 → (IntKind.u64.wrap (a2 * 2 ^ a0_1.toNat)) = ji7 := shl_small hji7
  obtain rfl := Option.some.inj H
  go_enter Try.func122, Try.ntmps122
  try go_wp2_with (first | ((with_reducible refine gate_dst (N := 4) rfl ?_); refine be_ 4 #[.int .i64 a0_0, .int .i64 a0_1] 112 ?_; intro gb371 hg w8 hbox hb; have n0_ := A_ (below_step (hb_ HB.out) hb); have n1_ := A_ (hbox); have n2_ := A_ (sz_ hg (hb_ HB.out)); have n3_ := A_ (sz_ hg (hb_ HB.out)); clear HB; have HB := n0_; have BK371 := n1_; have GW371 := n2_; have GE371 := n3_; clear n0_ n1_ n2_ n3_; clear hb hbox hg))
  have n0_ := A_ (blk_drew BK371.out)
  have n1_ := A_ (below_drew1 HB.out)
  clear BK371;clear HB;have BK371 := n0_;have HB := n1_;clear n0_ n1_
  refine start_ (n := 11) (S := fun w' => w'.cell? ⟨gb371, 0, none⟩ = some (.int .i64 a0_0) ∧ w'.cell? ⟨gb371, 1, none⟩ = some (.int .i64 a0_1)) (ds := []) #[false, false, false, false, false, false, false, false, false, false, false] (by kernel_rfl) rfl rfl ⟨bc_ BK371.out 0, bc_ BK371.out 1⟩ (fun hHeld => ?_); refine with_tabW shape_format_join.tab1 shape_format_join.bits1 (fun HT_ HW_ => ?_)
  generalize w8.drew = w9 at BK371 HB hHeld ⊢
  refine pu_ 1 (some 10) #[false, true, false, false, false, false, false, false, false, false, false] rfl rfl (any_of HT_.out (by kernel_rfl)) ?_
  refine pu_ 3 (some 12) #[false, true, false, true, false, false, false, false, false, false, false] rfl rfl (any_of HT_.out (by kernel_rfl)) ?_
  refine pu_ 4 (some 13) #[false, true, false, true, true, false, false, false, false, false, false] rfl rfl (any_of HT_.out (by kernel_rfl)) ?_
  refine pu_ 8 (some 17) #[false, true, false, true, true, false, false, false, true, false, false] rfl rfl (any_of HT_.out (by kernel_rfl)) ?_
  refine tk2_ 0 (some 9) #[true, true, false, true, true, false, false, false, true, false, false] rfl rfl (take_ofW HT_.out HW_.out (by kernel_rfl)) hHeld ?_
  refine tk2_ 5 (some 14) #[true, true, false, true, true, true, false, false, true, false, false] rfl rfl (take_ofW HT_.out HW_.out (by kernel_rfl)) hHeld ?_
  refine pu_ 6 (some 15) #[true, true, false, true, true, true, true, false, true, false, false] rfl rfl (any_of HT_.out (by kernel_rfl)) ?_
  refine one_ (i := 2) (N := some 11) #[true, true, true, true, true, true, true, false, true, false, false] rfl rfl (one_of HT_.out (by kernel_rfl)) (by decide) (fun K hK => ?_)
  refine goes_ Try.func123 (by kernel_rfl) rfl #[.agg #[.int .i64 a0_0, .int .i64 a0_1], .bool a1] (by rfl) rfl rfl mp_ ?_
  with_reducible refine (shape_format_sign.calls a0_0 a0_1 a1 t372 _ A5.out).mono ?_
  rintro e w10 ⟨rfl, hb⟩
  refine ⟨_, rfl, ?_⟩
  have n0_ := A_ (bb_ BK371.out hb)
  have n1_ := A_ (below_step (hb1_ HB.out GE371.out) hb)
  clear BK371;clear HB;have BK371 := n0_;have HB := n1_;clear n0_ n1_;(try clear hb);(try clear hb2);(try clear hk);(try clear hi)
  refine hK.out _ _ ⟨bc_ BK371.out 0, bc_ BK371.out 1⟩ (fun hHeld => ?_)
  clear hK K
  refine norm_ (a' := ?_) ?_ ?_
  rotate_left
  ·show Act.put _ (some 11) _ = _
   simp only [Act.put, lI_, l0_, lS_, i64_w, i32_w]
   rfl
  refine pu_ 7 (some 16) #[true, true, true, true, true, true, true, true, true, false, false] rfl rfl (any_of HT_.out (by kernel_rfl)) ?_
  refine pu_ 9 (some 18) #[true, true, true, true, true, true, true, true, true, true, false] rfl rfl (any_of HT_.out (by kernel_rfl)) ?_
  refine pu_ 10 (some 8) #[true, true, true, true, true, true, true, true, true, true, true] rfl rfl (any_of HT_.out (by kernel_rfl)) ?_
  refine done_ (done_of HT_.out (by kernel_rfl)) ?_
  try go_wp2
  go_ret
  exact ⟨by first | rfl | (simp [errW_none, errW_some] <;> rfl) | (simp only [← hji7]; first | rfl | (simp [errW_none, errW_some] <;> rfl)) | (simp [*, errW_none, errW_some] <;> rfl), hb1_ HB.out GE371.out⟩
 ·rw [if_neg c6] at H
  exact absurd H (by simp)
def shape_Nan.f (a0 : Int) : Option (Int) := (shape_of.f a0).bind fun bt415 => (if bt415.2.2 = true then ((shape_format_ones.f bt415.1 bt415.2.1).bind fun t419 => (if 0 ≤ (wrap64 (bt415.2.1 - 1)) then ((shape_format_join.f bt415.1 bt415.2.1 false t419 (shl .u64 1 (wrap64 (bt415.2.1 - 1)))).bind fun t420 => (some t420)) else (none))) else (some 0))
def shape_Nan.T4 : Bool × List (List Nat × List Nat) := (true, [([], []), ([], []), ([1], [1]), ([], []), ([3], [3]), ([4], [4]), ([5], [5]), ([0, 2, 6, 2], [0, 2, 6]), ([7, 7, 0, 1, 2, 3, 4, 5, 6, 7], [7])])
def shape_Nan.B4 : List Nat := [0, 0, 2, 0, 8, 24, 56, 127, 255]
theorem shape_Nan.tab4 : rtab .any (opsOf Try.f76 4) = shape_Nan.T4 := by kernel_rfl
theorem shape_Nan.bits4 : waitsOk shape_Nan.T4.2 shape_Nan.B4 = true := by kernel_rfl
theorem shape_Nan.calls (a0 : Int) (r : Int) (w : World) (h : shape_Nan.f a0 = some r) :
  Calls Try.prog 76 #[.int .i64 a0] w fun e w' => e = .returned (.int .u64 r) ∧ Below w.heap.size w w' := by
 have hu112 := Try.underlying112
 have HB := A_ (Below.refl w.heap.size w)
 have H : ((shape_of.f a0).bind fun bt415 => (if bt415.2.2 = true then ((shape_format_ones.f bt415.1 bt415.2.1).bind fun t419 => (if 0 ≤ (wrap64 (bt415.2.1 - 1)) then ((shape_format_join.f bt415.1 bt415.2.1 false t419 (shl .u64 1 (wrap64 (bt415.2.1 - 1)))).bind fun t420 => (some t420)) else (none))) else (some 0))) = some r := h
 clear h
 replace H := ob_ H
 obtain ⟨⟨t415, t416, t417⟩, A20, H⟩ := H
 replace H : (if t417 = true then ((shape_format_ones.f t415 t416).bind fun t419 => (if 0 ≤ (wrap64 (t416 - 1)) then ((shape_format_join.f t415 t416 false t419 (shl .u64 1 (wrap64 (t416 - 1)))).bind fun t420 => (some t420)) else (none))) else (some 0)) = some r := H
 have A2 := A_ A20;clear A20
 by_cases c3 : t417 = true
 ·subst c3
  have H1 : ((shape_format_ones.f t415 t416).bind fun t419 => (if 0 ≤ (wrap64 (t416 - 1)) then ((shape_format_join.f t415 t416 false t419 (shl .u64 1 (wrap64 (t416 - 1)))).bind fun t420 => (some t420)) else (none))) = some r := by rw [if_pos rfl] at H; exact H
  clear H;have H := H1;clear H1
  replace H := ob_ H
  obtain ⟨t419, A40, H⟩ := H
  replace H : (if 0 ≤ (wrap64 (t416 - 1)) then ((shape_format_join.f t415 t416 false t419 (shl .u64 1 (wrap64 (t416 - 1)))).bind fun t420 => (some t420)) else (none)) = some r := H
  have A4 := A_ A40;clear A40
  obtain ⟨ji5, hji5⟩ : ∃ j_ : Int, (wrap64 (t416 - 1)) = j_ := ⟨_, rfl⟩
  replace H : (if 0 ≤ (ji5) then ((shape_format_join.f t415 t416 false t419 (shl .u64 1 (ji5))).bind fun t420 => (some t420)) else (none)) = some r := by first | (rw [hji5] at H; exact H) | (simp only [hji5] at H ⊢; exact H)
  (try rw [hji5] at A2)
  (try rw [hji5] at A4)
  have hji5w : (IntKind.i64.wrap (t416 - 1)) = ji5 := (i64_w _).trans hji5
  by_cases c6 : 0 ≤ (ji5)
  ·rw [if_pos c6] at H
   have c6b0 := eq_true c6
   have c6b1 : decide (0 ≤ (ji5)) = true := decide_eq_true c6
   clear c6
   obtain ⟨ji7, hji7⟩ : ∃ j_ : Int, (shl .u64 1 (ji5)) = j_ := ⟨_, rfl⟩
   replace H : ((shape_format_join.f t415 t416 false t419 (ji7)).bind fun t420 => (some t420)) = some r := by first | (rw [hji7] at H; exact H) | (simp only [hji7] at H ⊢; exact H)
   (try rw [hji7] at A2)
   (try rw [hji7] at A4)
   have hji7_ : (IntKind.u64.wrap (1 * 2 ^ min (ji5).toNat 64)) = ji7 := hji7
   have hji7z : (ji5) ≤ 64 → (IntKind.u64.wrap (1 * 2 ^ (ji5).toNat)) = ji7 := shl_small hji7
   have hji7u : (IntKind.u64.wrap (2 ^ min (ji5).toNat 64)) = ji7 := by have h_ := hji7_; rw [Int.one_mul] at h_; exact h_
   have hji7v : (ji5) ≤ 64 → (IntKind.u64.wrap (2 ^ (ji5).toNat)) = ji7 := fun hle_ => by have h_ := hji7z hle_; rw [Int.one_mul] at h_; exact h_
   replace H := ob_ H
   obtain ⟨t420, A80, H⟩ := H
   replace H : (some t420) = some r := H
   have A8 := A_ A80;clear A80
   obtain rfl := Option.some.inj H
   go_enter Try.func76, Try.ntmps76
   try go_wp2_with (first | ((with_reducible refine gate_callee (f := 118) rfl ?_); refine gl_ (some 7) Try.func118 #[.int .i64 a0] ?_; (with_reducible refine (shape_of.calls a0 t415 t416 true _ A2.out).mono ?_); rintro e w9 ⟨rfl, hb⟩; refine ⟨_, rfl, ?_⟩; have n0_ := A_ (below_step (hb_ HB.out) hb); clear HB; have HB := n0_; clear n0_; (try clear hb); (try clear hb2); (try clear hk); (try clear hi)) | ((with_reducible refine gate_dst (N := 3) rfl ?_); refine be_ 3 #[.int .i64 0, .int .i64 0] 112 ?_; intro gb418 hg w10 hbox hb; have n0_ := A_ (below_step (hb_ HB.out) hb); have n1_ := A_ (hbox); have n2_ := A_ (sz_ hg (hb_ HB.out)); have n3_ := A_ (sz_ hg (hb_ HB.out)); clear HB; have HB := n0_; have BK418 := n1_; have GW418 := n2_; have GE418 := n3_; clear n0_ n1_ n2_ n3_; clear hb hbox hg; have hcz11_0 : w10.cell? ⟨gb418, 0, none⟩ = some (.int .i64 0) := bc_ BK418.out 0; have hcz11_1 : w10.cell? ⟨gb418, 1, none⟩ = some (.int .i64 0) := bc_ BK418.out 1; have hfz11_0 := blk_frozen BK418.out 0; have hfz11_1 := blk_frozen BK418.out 1))
   have n0_ : Aside0 (((w10.setCell ⟨gb418, 0, none⟩ (.int .i64 t415)).setCell ⟨gb418, 1, none⟩ (.int .i64 t416)).heap[gb418]? = some (.cells #[.int .i64 t415, .int .i64 t416] 112 (0, 0))) := ⟨by (with_reducible repeat (first | refine blk_drewN ?_ _ | refine blk_drew ?_ | refine blk_alloc ?_ _)); refine blk_put (cs := #[.int .i64 t415, .int .i64 0]) ?_ 1 _ rfl; (with_reducible repeat (first | refine blk_drewN ?_ _ | refine blk_drew ?_ | refine blk_alloc ?_ _)); refine blk_put (cs := #[.int .i64 0, .int .i64 0]) ?_ 0 _ rfl; (with_reducible repeat (first | refine blk_drewN ?_ _ | refine blk_drew ?_ | refine blk_alloc ?_ _)); exact BK418.out⟩
   have n1_ : Aside0 (Below w.heap.size w ((w10.setCell ⟨gb418, 0, none⟩ (.int .i64 t415)).setCell ⟨gb418, 1, none⟩ (.int .i64 t416))) := ⟨hb1_ HB.out GE418.out⟩
   (try clear BK418);(try clear HB)
   generalize ((w10.setCell ⟨gb418, 0, none⟩ (.int .i64 t415)).setCell ⟨gb418, 1, none⟩ (.int .i64 t416)) = w12 at n0_ n1_ ⊢
   have BK418 := n0_;have HB := n1_;clear n0_ n1_
   have n0_ := A_ (blk_drew BK418.out)
   have n1_ := A_ (below_drew1 HB.out)
   clear BK418;clear HB;have BK418 := n0_;have HB := n1_;clear n0_ n1_
   refine start_ (n := 9) (S := fun w' => w'.cell? ⟨gb418, 0, none⟩ = some (.int .i64 t415) ∧ w'.cell? ⟨gb418, 1, none⟩ = some (.int .i64 t416)) (ds := []) #[false, false, false, false, false, false, false, false, false] (by kernel_rfl) rfl rfl ⟨bc_ BK418.out 0, bc_ BK418.out 1⟩ (fun hHeld => ?_); refine with_tabW shape_Nan.tab4 shape_Nan.bits4 (fun HT_ HW_ => ?_)
   generalize w12.drew = w13 at BK418 HB hHeld ⊢
   refine pu_ 3 (some 15) #[false, false, false, true, false, false, false, false, false] rfl rfl (any_of HT_.out (by kernel_rfl)) ?_
   refine tk2_ 0 (some 12) #[true, false, false, true, false, false, false, false, false] rfl rfl (take_ofW HT_.out HW_.out (by kernel_rfl)) hHeld ?_
   refine tk2_ 1 (some 13) #[true, true, false, true, false, false, false, false, false] rfl rfl (take_ofW HT_.out HW_.out (by kernel_rfl)) hHeld ?_
   refine tk2_ 4 (some 16) #[true, true, false, true, true, false, false, false, false] rfl rfl (take_ofW HT_.out HW_.out (by kernel_rfl)) hHeld ?_
   refine pu_ 5 (some 17) #[true, true, false, true, true, true, false, false, false] rfl rfl (any_of HT_.out (by kernel_rfl)) ?_
   refine pu_ 6 (some 18) #[true, true, false, true, true, true, true, false, false] rfl rfl (any_of HT_.out (by kernel_rfl)) ?_
   refine one_ (i := 2) (N := some 14) #[true, true, true, true, true, true, true, false, false] rfl rfl (one_of HT_.out (by kernel_rfl)) (by decide) (fun K hK => ?_)
   refine goes_ Try.func120 (by kernel_rfl) rfl #[.agg #[.int .i64 t415, .int .i64 t416]] (by rfl) rfl rfl mp_ ?_
   with_reducible refine (shape_format_ones.calls t415 t416 t419 _ A4.out).mono ?_
   rintro e w14 ⟨rfl, hb⟩
   refine ⟨_, rfl, ?_⟩
   have n0_ := A_ (bb_ BK418.out hb)
   have n1_ := A_ (below_step (hb1_ HB.out GE418.out) hb)
   clear BK418;clear HB;have BK418 := n0_;have HB := n1_;clear n0_ n1_;(try clear hb);(try clear hb2);(try clear hk);(try clear hi)
   refine hK.out _ _ ⟨bc_ BK418.out 0, bc_ BK418.out 1⟩ (fun hHeld => ?_)
   clear hK K
   refine norm_ (a' := ?_) ?_ ?_
   rotate_left
   ·show Act.put _ (some 14) _ = _
    simp only [Act.put, lI_, l0_, lS_, i64_w, i32_w]
    rfl
   refine one_ (i := 7) (N := some 19) #[true, true, true, true, true, true, true, true, false] rfl rfl (one_of HT_.out (by kernel_rfl)) (by decide) (fun K hK => ?_)
   refine goes_ Try.func122 (by kernel_rfl) rfl #[.agg #[.int .i64 t415, .int .i64 t416], .bool false, .int .u64 t419, .int .u64 ji7] (by rfl) rfl rfl (by (try simp only [List.map_toArray, List.map_cons, List.map_nil]); first | done | (simp only [hji7]; rfl) | rfl | (simp only [List.length_drop, List.length_take]; rfl)) ?_
   with_reducible refine (shape_format_join.calls t415 t416 false t419 ji7 t420 _ A8.out).mono ?_
   rintro e w15 ⟨rfl, hb⟩
   refine ⟨_, rfl, ?_⟩
   have n0_ := A_ (bb_ BK418.out hb)
   have n1_ := A_ (below_step (hb1_ HB.out GE418.out) hb)
   clear BK418;clear HB;have BK418 := n0_;have HB := n1_;clear n0_ n1_;(try clear hb);(try clear hb2);(try clear hk);(try clear hi)
   refine hK.out _ _ ⟨bc_ BK418.out 0, bc_ BK418.out 1⟩ (fun hHeld => ?_)
   clear hK K
   refine norm_ (a' := ?_) ?_ ?_
   rotate_left
   ·show Act.put _ (some 19) _ = _
    simp only [Act.put, lI_, l0_, lS_, i64_w, i32_w]
    rfl
   refine pu_ 8 (some 2) #[true, true, true, true, true, true, true, true, true] rfl rfl (any_of HT_.out (by kernel_rfl)) ?_
   refine done_ (done_of HT_.out (by kernel_rfl)) ?_
   try go_wp2
   go_ret
   exact ⟨by first | rfl | (simp [errW_none, errW_some] <;> rfl) | (simp only [← hji5, ← hji7]; first | rfl | (simp [errW_none, errW_some] <;> rfl)) | (simp [*, errW_none, errW_some] <;> rfl), hb1_ HB.out GE418.out⟩
  ·rw [if_neg c6] at H
   exact absurd H (by simp)
 ·replace c3 := Bool.eq_false_iff.mpr c3
  subst c3
  have H1 : (some 0) = some r := by rw [if_neg (show ¬ (false = true) by decide)] at H; exact H
  clear H;have H := H1;clear H1
  obtain rfl := Option.some.inj H
  go_enter Try.func76, Try.ntmps76
  go_wp2_with (first | ((with_reducible refine gate_callee (f := 118) rfl ?_); refine gl_ (some 7) Try.func118 #[.int .i64 a0] ?_; (with_reducible refine (shape_of.calls a0 t415 t416 false _ A2.out).mono ?_); rintro e w16 ⟨rfl, hb⟩; refine ⟨_, rfl, ?_⟩; have n0_ := A_ (below_step (hb_ HB.out) hb); clear HB; have HB := n0_; clear n0_; (try clear hb); (try clear hb2); (try clear hk); (try clear hi)) | ((with_reducible refine gate_dst (N := 3) rfl ?_); refine be_ 3 #[.int .i64 0, .int .i64 0] 112 ?_; intro gb418 hg w17 hbox hb; have n0_ := A_ (below_step (hb_ HB.out) hb); have n1_ := A_ (hbox); have n2_ := A_ (sz_ hg (hb_ HB.out)); have n3_ := A_ (sz_ hg (hb_ HB.out)); clear HB; have HB := n0_; have BK418 := n1_; have GW418 := n2_; have GE418 := n3_; clear n0_ n1_ n2_ n3_; clear hb hbox hg; have hcz18_0 : w17.cell? ⟨gb418, 0, none⟩ = some (.int .i64 0) := bc_ BK418.out 0; have hcz18_1 : w17.cell? ⟨gb418, 1, none⟩ = some (.int .i64 0) := bc_ BK418.out 1; have hfz18_0 := blk_frozen BK418.out 0; have hfz18_1 := blk_frozen BK418.out 1))
  go_ret
  exact ⟨er_, hb1_ HB.out GE418.out⟩
def shape_Zero.f (a0 : Int) (a1 : Bool) : Option (Int) := (shape_of.f a0).bind fun bt379 => (if bt379.2.2 = true then ((shape_format_sign.f bt379.1 bt379.2.1 a1).bind fun t383 => (some t383)) else (some 0))
theorem shape_Zero.calls (a0 : Int) (a1 : Bool) (r : Int) (w : World) (h : shape_Zero.f a0 a1 = some r) :
  Calls Try.prog 52 #[.int .i64 a0, .bool a1] w fun e w' => e = .returned (.int .u64 r) ∧ Below w.heap.size w w' := by
 have hu112 := Try.underlying112
 have HB := A_ (Below.refl w.heap.size w)
 have H : ((shape_of.f a0).bind fun bt379 => (if bt379.2.2 = true then ((shape_format_sign.f bt379.1 bt379.2.1 a1).bind fun t383 => (some t383)) else (some 0))) = some r := h
 clear h
 replace H := ob_ H
 obtain ⟨⟨t379, t380, t381⟩, A30, H⟩ := H
 replace H : (if t381 = true then ((shape_format_sign.f t379 t380 a1).bind fun t383 => (some t383)) else (some 0)) = some r := H
 have A3 := A_ A30;clear A30
 by_cases c4 : t381 = true
 ·subst c4
  have H1 : ((shape_format_sign.f t379 t380 a1).bind fun t383 => (some t383)) = some r := by rw [if_pos rfl] at H; exact H
  clear H;have H := H1;clear H1
  replace H := ob_ H
  obtain ⟨t383, A50, H⟩ := H
  replace H : (some t383) = some r := H
  have A5 := A_ A50;clear A50
  obtain rfl := Option.some.inj H
  go_enter Try.func52, Try.ntmps52
  go_wp2_with (first | ((with_reducible refine gate_callee (f := 118) rfl ?_); refine gl_ (some 9) Try.func118 #[.int .i64 a0] ?_; (with_reducible refine (shape_of.calls a0 t379 t380 true _ A3.out).mono ?_); rintro e w6 ⟨rfl, hb⟩; refine ⟨_, rfl, ?_⟩; have n0_ := A_ (below_step (hb_ HB.out) hb); clear HB; have HB := n0_; clear n0_; (try clear hb); (try clear hb2); (try clear hk); (try clear hi)) | ((with_reducible refine gate_dst (N := 5) rfl ?_); refine be_ 5 #[.int .i64 0, .int .i64 0] 112 ?_; intro gb382 hg w7 hbox hb; have n0_ := A_ (below_step (hb_ HB.out) hb); have n1_ := A_ (hbox); have n2_ := A_ (sz_ hg (hb_ HB.out)); have n3_ := A_ (sz_ hg (hb_ HB.out)); clear HB; have HB := n0_; have BK382 := n1_; have GW382 := n2_; have GE382 := n3_; clear n0_ n1_ n2_ n3_; clear hb hbox hg; have hcz8_0 : w7.cell? ⟨gb382, 0, none⟩ = some (.int .i64 0) := bc_ BK382.out 0; have hcz8_1 : w7.cell? ⟨gb382, 1, none⟩ = some (.int .i64 0) := bc_ BK382.out 1; have hfz8_0 := blk_frozen BK382.out 0; have hfz8_1 := blk_frozen BK382.out 1) | ((with_reducible refine gate_callee (f := 123) rfl ?_); refine gl_ (some 16) Try.func123 #[.agg #[.int .i64 t379, .int .i64 t380], .bool a1] ?_; (with_reducible refine (shape_format_sign.calls t379 t380 a1 t383 _ A5.out).mono ?_); rintro e w9 ⟨rfl, hb⟩; refine ⟨_, rfl, ?_⟩; have n0_ := A_ (blk_below (g := gb382) (o := .cells #[.int .i64 t379, .int .i64 t380] 112 (0, 0)) (by (with_reducible repeat (first | refine blk_drewN ?_ _ | refine blk_drew ?_ | refine blk_alloc ?_ _)); refine blk_put (cs := #[.int .i64 t379, .int .i64 0]) ?_ 1 _ rfl; (with_reducible repeat (first | refine blk_drewN ?_ _ | refine blk_drew ?_ | refine blk_alloc ?_ _)); refine blk_put (cs := #[.int .i64 0, .int .i64 0]) ?_ 0 _ rfl; (with_reducible repeat (first | refine blk_drewN ?_ _ | refine blk_drew ?_ | refine blk_alloc ?_ _)); exact BK382.out) hb); have n1_ := A_ (below_step (hb1_ HB.out GE382.out) hb); clear BK382; clear HB; have BK382 := n0_; have HB := n1_; clear n0_ n1_; (try clear hb); (try clear hb2); (try clear hk); (try clear hi)))
  go_ret
  exact ⟨er_, hb1_ HB.out GE382.out⟩
 ·replace c4 := Bool.eq_false_iff.mpr c4
  subst c4
  have H1 : (some 0) = some r := by rw [if_neg (show ¬ (false = true) by decide)] at H; exact H
  clear H;have H := H1;clear H1
  obtain rfl := Option.some.inj H
  go_enter Try.func52, Try.ntmps52
  go_wp2_with (first | ((with_reducible refine gate_callee (f := 118) rfl ?_); refine gl_ (some 9) Try.func118 #[.int .i64 a0] ?_; (with_reducible refine (shape_of.calls a0 t379 t380 false _ A3.out).mono ?_); rintro e w10 ⟨rfl, hb⟩; refine ⟨_, rfl, ?_⟩; have n0_ := A_ (below_step (hb_ HB.out) hb); clear HB; have HB := n0_; clear n0_; (try clear hb); (try clear hb2); (try clear hk); (try clear hi)) | ((with_reducible refine gate_dst (N := 5) rfl ?_); refine be_ 5 #[.int .i64 0, .int .i64 0] 112 ?_; intro gb382 hg w11 hbox hb; have n0_ := A_ (below_step (hb_ HB.out) hb); have n1_ := A_ (hbox); have n2_ := A_ (sz_ hg (hb_ HB.out)); have n3_ := A_ (sz_ hg (hb_ HB.out)); clear HB; have HB := n0_; have BK382 := n1_; have GW382 := n2_; have GE382 := n3_; clear n0_ n1_ n2_ n3_; clear hb hbox hg; have hcz12_0 : w11.cell? ⟨gb382, 0, none⟩ = some (.int .i64 0) := bc_ BK382.out 0; have hcz12_1 : w11.cell? ⟨gb382, 1, none⟩ = some (.int .i64 0) := bc_ BK382.out 1; have hfz12_0 := blk_frozen BK382.out 0; have hfz12_1 := blk_frozen BK382.out 1))
  go_ret
  exact ⟨er_, hb1_ HB.out GE382.out⟩
end Go.Proofs.Ytgcgheilbngcoaa.PA
