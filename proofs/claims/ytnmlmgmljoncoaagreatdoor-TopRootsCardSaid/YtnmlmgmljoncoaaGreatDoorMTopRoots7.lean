/- What the Go functions that the statement TopRoots reaches compute, and the mathematics on it, in the order in which one leans on the other; for every input. -/
import Derived.Test.YtnmlmgmljoncoaaGreatDoorVTopRoots1
import Derived.Test.YtnmlmgmljoncoaaGreatDoorMTopRoots0
import Derived.Test.YtnmlmgmljoncoaaGreatDoorMTopRoots2
import Derived.Test.YtnmlmgmljoncoaaGreatDoorMTopRoots6
import Derived.Test.YtnmlmgmljoncoaaGreatDoorMTopRoots4
import Derived.Test.YtnmlmgmljoncoaaGreatDoorMTopRoots3
import Derived.Test.YtnmlmgmljoncoaaGreatDoorMTopRoots1
namespace Go.Proofs.YtnmlmgmljoncoaaGreatDoor.PA
open Go.RowKit Go.Proofs.YtnmlmgmljoncoaaGreatDoorW.PrintWords Go.Proofs.YtnmlmgmljoncoaaGreatDoorW.PrintLast Go.Proofs.YtnmlmgmljoncoaaGreatDoorW.PrintMore
attribute [local go_sem] max2_int min2_int max_two min_two max_three min_three max_four min_four   -- for this text's walks alone
set_option linter.unusedVariables false
set_option linter.unusedSimpArgs false
set_option maxHeartbeats 8000000
set_option maxRecDepth 100000
mutual
def shape_Open.j0 : Nat → Bool → Int → Int → Bool → Int → Int → Option (Bool × Int × Int × Int)
 | 0, _, _, _, _, _, _ => none
 | k + 1, x19, x172000, x172001, x172002, x172003, x172004 => if x19 = true then (some (false, 3, 0, 0)) else ((shape_format_ones.f x172000 x172001).bind fun t173 => (if x172003 = t173 then (some (x172002, 2, 0, 0)) else (if x172003 = 0 then (shape_Open.j1 k (x172004 == 0) x172000 x172001 x172002 x172003 x172004) else (shape_Open.j1 k false x172000 x172001 x172002 x172003 x172004))))
def shape_Open.j1 : Nat → Bool → Int → Int → Bool → Int → Int → Option (Bool × Int × Int × Int)
 | 0, _, _, _, _, _, _ => none
 | k + 1, x42, x172000, x172001, x172002, x172003, x172004 => if x42 = true then (some (x172002, 0, 0, 0)) else (if x172003 = 0 then ((shape_format_low.f x172000 x172001).bind fun t174 => (some (x172002, 1, t174, x172004))) else ((shape_format_low.f x172000 x172001).bind fun t175 => (if 0 ≤ x172001 then (some (x172002, 1, wrap64 ((wrap64 (t175 + (wrap64 (x172003)))) - 1), Go.bits .or .u64 (shl .u64 1 x172001) x172004)) else (none))))
end
def shape_Open.f (k : Nat) (a0 : Int) (a1 : Int) : Option (Bool × Int × Int × Int) := (shape_of.f a0).bind fun bt162 => (if bt162.2.2 = true then ((shape_format_split.f bt162.1 bt162.2.1 a1).bind fun bt166 => ((shape_format_ones.f bt166.1 bt166.2.1).bind fun t172 => (if bt166.2.2.2.1 = t172 then (shape_Open.j0 k (bt166.2.2.2.2 != 0) bt166.1 bt166.2.1 bt166.2.2.1 bt166.2.2.2.1 bt166.2.2.2.2) else (shape_Open.j0 k false bt166.1 bt166.2.1 bt166.2.2.1 bt166.2.2.2.1 bt166.2.2.2.2)))) else (some (false, 0, 0, 0)))
theorem shape_Open.mono_l : ∀ k, (∀ y0 y1 y2 y3 y4 y5, LeO (shape_Open.j0 k y0 y1 y2 y3 y4 y5) (shape_Open.j0 (k + 1) y0 y1 y2 y3 y4 y5)) ∧ (∀ y0 y1 y2 y3 y4 y5, LeO (shape_Open.j1 k y0 y1 y2 y3 y4 y5) (shape_Open.j1 (k + 1) y0 y1 y2 y3 y4 y5))
 | 0 => ⟨fun _ _ _ _ _ _ r h => by simp [shape_Open.j0] at h, fun _ _ _ _ _ _ r h => by simp [shape_Open.j1] at h⟩
 | k + 1 => by
  obtain ⟨ih0, ih1⟩ := shape_Open.mono_l k
  refine ⟨?_, ?_⟩
  ·intro y0 y1 y2 y3 y4 y5
   unfold shape_Open.j0
   repeat' first
   | (with_reducible exact ih0 _ _ _ _ _ _)
   | (with_reducible exact ih1 _ _ _ _ _ _)
   | (with_reducible exact LeO.refl _)
   | (with_reducible exact LeO.none _)
   | (with_reducible refine LeO.ite ?_ ?_)
   | (with_reducible refine LeO.bind ?_ (fun _ => ?_))
   | exact ih0 _ _ _ _ _ _
   | exact ih1 _ _ _ _ _ _
   | exact LeO.none _
   | refine LeO.ite ?_ ?_
   | refine LeO.bind ?_ (fun _ => ?_)
  ·intro y0 y1 y2 y3 y4 y5
   unfold shape_Open.j1
   repeat' first
   | (with_reducible exact ih0 _ _ _ _ _ _)
   | (with_reducible exact ih1 _ _ _ _ _ _)
   | (with_reducible exact LeO.refl _)
   | (with_reducible exact LeO.none _)
   | (with_reducible refine LeO.ite ?_ ?_)
   | (with_reducible refine LeO.bind ?_ (fun _ => ?_))
   | exact ih0 _ _ _ _ _ _
   | exact ih1 _ _ _ _ _ _
   | exact LeO.none _
   | refine LeO.ite ?_ ?_
   | refine LeO.bind ?_ (fun _ => ?_)
theorem shape_Open.mono : ∀ a0 a1 k, LeO (shape_Open.f k a0 a1) (shape_Open.f (k + 1) a0 a1) := by
 intro a0 a1 k
 obtain ⟨ih0, ih1⟩ := shape_Open.mono_l k
 unfold shape_Open.f
 repeat' first
   | (with_reducible exact ih0 _ _ _ _ _ _)
   | (with_reducible exact ih1 _ _ _ _ _ _)
   | (with_reducible exact LeO.refl _)
   | (with_reducible exact LeO.none _)
   | (with_reducible refine LeO.ite ?_ ?_)
   | (with_reducible refine LeO.bind ?_ (fun _ => ?_))
   | exact ih0 _ _ _ _ _ _
   | exact ih1 _ _ _ _ _ _
   | exact LeO.none _
   | refine LeO.ite ?_ ?_
   | refine LeO.bind ?_ (fun _ => ?_)
def shape_Open.T5 : Bool × List (List Nat × List Nat) := (true, [([], []), ([0], [0]), ([], []), ([2], [2]), ([3], [3]), ([1, 4], [1, 4]), ([5, 4], [5]), ([6], [6]), ([7, 6], [6, 7]), ([8, 6], [6, 8]), ([6, 9], [6, 9]), ([10, 6], [10])])
def shape_Open.B5 : List Nat := [0, 1, 0, 4, 12, 31, 63, 127, 255, 511, 1023, 2047]
theorem shape_Open.tab5 : rtab .any (opsOf Tryz.f10 5) = shape_Open.T5 := by kernel_rfl
theorem shape_Open.bits5 : waitsOk shape_Open.T5.2 shape_Open.B5 = true := by kernel_rfl
def shape_Open.T12 : Bool × List (List Nat × List Nat) := (true, [([], []), ([0], [0]), ([], []), ([2], [2]), ([3], [3]), ([], []), ([5], [5]), ([1, 4, 6], [1, 4, 6]), ([7, 4, 0, 1, 2, 3, 4, 5, 6, 7], [7])])
def shape_Open.B12 : List Nat := [0, 1, 0, 4, 12, 0, 32, 127, 255]
theorem shape_Open.tab12 : rtab .any (opsOf Tryz.f10 12) = shape_Open.T12 := by kernel_rfl
theorem shape_Open.bits12 : waitsOk shape_Open.T12.2 shape_Open.B12 = true := by kernel_rfl
def shape_Open.T13 : Bool × List (List Nat × List Nat) := (true, [([], []), ([0], [0]), ([], []), ([2], [2]), ([3], [3]), ([], []), ([5], [5]), ([6], [6]), ([4, 7], [4, 7]), ([8], [8]), ([], []), ([10], [10]), ([11], [11]), ([12], [12]), ([], []), ([14], [14]), ([13, 15], [13, 15]), ([1, 9, 16], [1, 9, 16]), ([17, 4, 0, 1, 2, 3, 4, 5, 6, 7, 8, 9, 10, 11, 12, 13, 14, 15, 16, 17], [17])])
def shape_Open.B13 : List Nat := [0, 1, 0, 4, 12, 0, 32, 96, 252, 508, 0, 1024, 3072, 7168, 0, 16384, 64512, 131071, 262143]
theorem shape_Open.tab13 : rtab .any (opsOf Tryz.f10 13) = shape_Open.T13 := by kernel_rfl
theorem shape_Open.bits13 : waitsOk shape_Open.T13.2 shape_Open.B13 = true := by kernel_rfl
theorem shape_Open.calls (k : Nat) (a0 : Int) (a1 : Int) (r1 : Bool) (r2 : Int) (r3 : Int) (r4 : Int) (w : World) (h : shape_Open.f k a0 a1 = some (r1, r2, r3, r4)) :
  Calls Tryz.prog 10 #[.int .i64 a0, .int .u64 a1] w fun e w' => e = .returned (.agg #[.bool r1, .int .i64 r2, .int .i64 r3, .int .u64 r4]) ∧ Below w.heap.size w w' := by
 have hu27 := Tryz.underlying27
 have hu65 := Tryz.underlying65
 have hu69 := Tryz.underlying69
 have HB := A_ (Below.refl w.heap.size w)
 have H : ((shape_of.f a0).bind fun bt162 => (if bt162.2.2 = true then ((shape_format_split.f bt162.1 bt162.2.1 a1).bind fun bt166 => ((shape_format_ones.f bt166.1 bt166.2.1).bind fun t172 => (if bt166.2.2.2.1 = t172 then (shape_Open.j0 k (bt166.2.2.2.2 != 0) bt166.1 bt166.2.1 bt166.2.2.1 bt166.2.2.2.1 bt166.2.2.2.2) else (shape_Open.j0 k false bt166.1 bt166.2.1 bt166.2.2.1 bt166.2.2.2.1 bt166.2.2.2.2)))) else (some (false, 0, 0, 0)))) = some (r1, r2, r3, r4) := h
 clear h
 replace H := ob_ H
 obtain ⟨⟨t162, t163, t164⟩, A30, H⟩ := H
 replace H : (if t164 = true then ((shape_format_split.f t162 t163 a1).bind fun bt166 => ((shape_format_ones.f bt166.1 bt166.2.1).bind fun t172 => (if bt166.2.2.2.1 = t172 then (shape_Open.j0 k (bt166.2.2.2.2 != 0) bt166.1 bt166.2.1 bt166.2.2.1 bt166.2.2.2.1 bt166.2.2.2.2) else (shape_Open.j0 k false bt166.1 bt166.2.1 bt166.2.2.1 bt166.2.2.2.1 bt166.2.2.2.2)))) else (some (false, 0, 0, 0))) = some (r1, r2, r3, r4) := H
 have A3 := A_ A30;clear A30
 by_cases c4 : t164 = true
 ·subst c4
  have H1 : ((shape_format_split.f t162 t163 a1).bind fun bt166 => ((shape_format_ones.f bt166.1 bt166.2.1).bind fun t172 => (if bt166.2.2.2.1 = t172 then (shape_Open.j0 k (bt166.2.2.2.2 != 0) bt166.1 bt166.2.1 bt166.2.2.1 bt166.2.2.2.1 bt166.2.2.2.2) else (shape_Open.j0 k false bt166.1 bt166.2.1 bt166.2.2.1 bt166.2.2.2.1 bt166.2.2.2.2)))) = some (r1, r2, r3, r4) := by rw [if_pos rfl] at H; exact H
  clear H;have H := H1;clear H1
  replace H := ob_ H
  obtain ⟨⟨t166, t167, t168, t169, t170⟩, A50, H⟩ := H
  replace H : ((shape_format_ones.f t166 t167).bind fun t172 => (if t169 = t172 then (shape_Open.j0 k (t170 != 0) t166 t167 t168 t169 t170) else (shape_Open.j0 k false t166 t167 t168 t169 t170))) = some (r1, r2, r3, r4) := H
  have A5 := A_ A50;clear A50;have HC6 := A_ H;clear H
  go_enter Tryz.func10, Tryz.ntmps10
  go_upto_region 5 with (first | ((with_reducible refine gate_dst (N := 4) rfl ?_); refine be_ 4 #[.bool false, .int .i64 0, .int .i64 0, .int .u64 0] 27 ?_; intro gb161 hg w7 hbox hb; have BK161 := A_ (hbox); have GW161 := A_ (sz_ hg (hb_ HB.out)); have GE161 := A_ (sz_ hg (hb_ HB.out)); replace HB := A_ (below_step (hb_ HB.out) hb); clear hb hbox hg) | ((with_reducible refine gate_callee (f := 35) rfl ?_); refine goesL_ (some 10) rfl rfl Tryz.func35 (by kernel_rfl) rfl #[.int .i64 a0] rfl mp_ ?_; (with_reducible refine (shape_of.calls a0 t162 t163 true _ A3.out).mono ?_); rintro e w8 ⟨rfl, hb⟩; refine ⟨_, rfl, ?_⟩; replace BK161 := A_ (bb_ BK161.out hb); replace HB := A_ (below_step (hb1_ HB.out GE161.out) hb); (try clear hb); (try clear hb2); (try clear hk); (try clear hi)) | ((with_reducible refine gate_dst (N := 5) rfl ?_); refine be_ 5 #[.int .i64 0, .int .i64 0] 65 ?_; intro gb165 hg w9 hbox hb; have BK165 := A_ (hbox); have GW165 := A_ (sz_ hg (hb1_ HB.out GE161.out)); have GE165 := A_ (sz_ hg (hb1_ HB.out GE161.out)); have NB161_165 := A_ (nl_ hg BK161.out); have NB165_161 := A_ (ng_ hg BK161.out); replace BK161 := A_ (bb_ BK161.out hb); replace HB := A_ (below_step (hb1_ HB.out GE161.out) hb); clear hb hbox hg; have hnb10 := NB165_161.out; have hnc10 := NB161_165.out; have hcz11_0 := bv_ BK165.out 0; have hcz11_1 := bv_ BK165.out 1; have hfz11_0 := blk_frozen BK165.out 0; have hfz11_1 := blk_frozen BK165.out 1) | ((with_reducible refine gate_callee (f := 36) rfl ?_); refine goesL_ (some 18) rfl rfl Tryz.func36 (by kernel_rfl) rfl #[.agg #[.int .i64 t162, .int .i64 t163], .int .u64 a1] rfl mp_ ?_; (with_reducible refine (shape_format_split.calls t162 t163 a1 t166 t167 t168 t169 t170 _ A5.out).mono ?_); rintro e w12 ⟨rfl, hb⟩; refine ⟨_, rfl, ?_⟩; replace BK161 := A_ (blk_below (g := gb161) (o := .cells #[.bool false, .int .i64 0, .int .i64 0, .int .u64 0] 27 (0, 0)) (bf2_ BK161.out NB161_165.out NB161_165.out) hb); replace BK165 := A_ (blk_below (g := gb165) (o := .cells #[.int .i64 t162, .int .i64 t163] 65 (0, 0)) (by (with_reducible repeat (first | refine blk_drewN ?_ _ | refine blk_drew ?_ | refine blk_alloc ?_ _)); refine blk_put (cs := #[.int .i64 t162, .int .i64 0]) ?_ 1 _ rfl; (with_reducible repeat (first | refine blk_drewN ?_ _ | refine blk_drew ?_ | refine blk_alloc ?_ _)); refine blk_put (cs := #[.int .i64 0, .int .i64 0]) ?_ 0 _ rfl; (with_reducible repeat (first | refine blk_drewN ?_ _ | refine blk_drew ?_ | refine blk_alloc ?_ _)); exact BK165.out) hb); replace HB := A_ (below_step (hb2_ HB.out GE161.out GE165.out) hb); (try clear hb); (try clear hb2); (try clear hk); (try clear hi)) | ((with_reducible refine gate_dst (N := 7) rfl ?_); refine be_ 7 #[.int .i64 0, .int .i64 0, .bool false, .int .u64 0, .int .u64 0] 69 ?_; intro gb171 hg w13 hbox hb; have BK171 := A_ (hbox); have GW171 := A_ (sz_ hg (hb2_ HB.out GE161.out GE165.out)); have GE171 := A_ (sz_ hg (hb2_ HB.out GE161.out GE165.out)); have NB161_171 := A_ (nl_ hg BK161.out); have NB171_161 := A_ (ng_ hg BK161.out); have NB165_171 := A_ (nl_ hg BK165.out); have NB171_165 := A_ (ng_ hg BK165.out); replace BK161 := A_ (bb_ BK161.out hb); replace BK165 := A_ (bb_ BK165.out hb); replace HB := A_ (below_step (hb2_ HB.out GE161.out GE165.out) hb); clear hb hbox hg; have hnb14 := NB171_161.out; have hnc14 := NB161_171.out; have hnb15 := NB171_165.out; have hnc15 := NB165_171.out; have hcz16_0 := bv_ BK171.out 0; have hcz16_1 := bv_ BK171.out 1; have hcz16_2 := bv_ BK171.out 2; have hcz16_3 := bv_ BK171.out 3; have hcz16_4 := bv_ BK171.out 4; have hfz16_0 := blk_frozen BK171.out 0; have hfz16_1 := blk_frozen BK171.out 1; have hfz16_2 := blk_frozen BK171.out 2; have hfz16_3 := blk_frozen BK171.out 3; have hfz16_4 := blk_frozen BK171.out 4))
  (try simp only [Act.put, lI_, l0_, lS_])
  go_cut [19] (fun v19 wc => ∃ (kq : Nat) (x19_5 : Bool), v19 = .bool x19_5 ∧ Aside0 (shape_Open.j0 kq x19_5 t166 t167 t168 t169 t170 = some (r1, r2, r3, r4)) ∧ Aside0 (kq ≤ k) ∧ Aside0 (wc.heap[gb161]? = some (.cells #[.bool false, .int .i64 0, .int .i64 0, .int .u64 0] 27 (0, 0))) ∧ Aside0 (wc.heap[gb165]? = some (.cells #[.int .i64 t162, .int .i64 t163] 65 (0, 0))) ∧ Aside0 (wc.heap[gb171]? = some (.cells #[.int .i64 t166, .int .i64 t167, .bool t168, .int .u64 t169, .int .u64 t170] 69 (0, 0))) ∧ Aside0 (Below w.heap.size w wc))
  case first =>
   have H := HC6.out
   clear HC6
   replace H := ob_ H
   obtain ⟨t172, A170, H⟩ := H
   replace H : (if t169 = t172 then (shape_Open.j0 k (t170 != 0) t166 t167 t168 t169 t170) else (shape_Open.j0 k false t166 t167 t168 t169 t170)) = some (r1, r2, r3, r4) := H
   have A17 := A_ A170;clear A170
   by_cases c18 : t169 = t172
   ·rw [if_pos c18] at H
    have c18b0 : (t169 == t172) = true := beq_iff_eq.mpr c18
    have c18b1 : (t169 != t172) = false := bne_eq_false_iff_eq.mpr c18
    clear c18
    (first | rw [c18b0] | (simp only [i64_w, i32_w]; rw [c18b0]) | skip)
    have H' := A_ H
    clear H
    try go_wp2
    have n0_ : Aside0 ((((((w13.setCell ⟨gb171, 0, none⟩ (.int .i64 t166)).setCell ⟨gb171, 1, none⟩ (.int .i64 t167)).setCell ⟨gb171, 2, none⟩ (.bool t168)).setCell ⟨gb171, 3, none⟩ (.int .u64 t169)).setCell ⟨gb171, 4, none⟩ (.int .u64 t170)).heap[gb161]? = some (.cells #[.bool false, .int .i64 0, .int .i64 0, .int .u64 0] 27 (0, 0))) := ⟨bf5_ BK161.out NB161_171.out NB161_171.out NB161_171.out NB161_171.out NB161_171.out⟩
    have n1_ : Aside0 ((((((w13.setCell ⟨gb171, 0, none⟩ (.int .i64 t166)).setCell ⟨gb171, 1, none⟩ (.int .i64 t167)).setCell ⟨gb171, 2, none⟩ (.bool t168)).setCell ⟨gb171, 3, none⟩ (.int .u64 t169)).setCell ⟨gb171, 4, none⟩ (.int .u64 t170)).heap[gb165]? = some (.cells #[.int .i64 t162, .int .i64 t163] 65 (0, 0))) := ⟨bf5_ BK165.out NB165_171.out NB165_171.out NB165_171.out NB165_171.out NB165_171.out⟩
    have n2_ : Aside0 ((((((w13.setCell ⟨gb171, 0, none⟩ (.int .i64 t166)).setCell ⟨gb171, 1, none⟩ (.int .i64 t167)).setCell ⟨gb171, 2, none⟩ (.bool t168)).setCell ⟨gb171, 3, none⟩ (.int .u64 t169)).setCell ⟨gb171, 4, none⟩ (.int .u64 t170)).heap[gb171]? = some (.cells #[.int .i64 t166, .int .i64 t167, .bool t168, .int .u64 t169, .int .u64 t170] 69 (0, 0))) := ⟨by (with_reducible repeat (first | refine blk_drewN ?_ _ | refine blk_drew ?_ | refine blk_alloc ?_ _)); refine blk_put (cs := #[.int .i64 t166, .int .i64 t167, .bool t168, .int .u64 t169, .int .u64 0]) ?_ 4 _ rfl; (with_reducible repeat (first | refine blk_drewN ?_ _ | refine blk_drew ?_ | refine blk_alloc ?_ _)); refine blk_put (cs := #[.int .i64 t166, .int .i64 t167, .bool t168, .int .u64 0, .int .u64 0]) ?_ 3 _ rfl; (with_reducible repeat (first | refine blk_drewN ?_ _ | refine blk_drew ?_ | refine blk_alloc ?_ _)); refine blk_put (cs := #[.int .i64 t166, .int .i64 t167, .bool false, .int .u64 0, .int .u64 0]) ?_ 2 _ rfl; (with_reducible repeat (first | refine blk_drewN ?_ _ | refine blk_drew ?_ | refine blk_alloc ?_ _)); refine blk_put (cs := #[.int .i64 t166, .int .i64 0, .bool false, .int .u64 0, .int .u64 0]) ?_ 1 _ rfl; (with_reducible repeat (first | refine blk_drewN ?_ _ | refine blk_drew ?_ | refine blk_alloc ?_ _)); refine blk_put (cs := #[.int .i64 0, .int .i64 0, .bool false, .int .u64 0, .int .u64 0]) ?_ 0 _ rfl; (with_reducible repeat (first | refine blk_drewN ?_ _ | refine blk_drew ?_ | refine blk_alloc ?_ _)); exact BK171.out⟩
    have n3_ : Aside0 (Below w.heap.size w (((((w13.setCell ⟨gb171, 0, none⟩ (.int .i64 t166)).setCell ⟨gb171, 1, none⟩ (.int .i64 t167)).setCell ⟨gb171, 2, none⟩ (.bool t168)).setCell ⟨gb171, 3, none⟩ (.int .u64 t169)).setCell ⟨gb171, 4, none⟩ (.int .u64 t170))) := ⟨hb3_ HB.out GE161.out GE165.out GE171.out⟩
    (try clear BK161);(try clear BK165);(try clear BK171);(try clear HB)
    generalize (((((w13.setCell ⟨gb171, 0, none⟩ (.int .i64 t166)).setCell ⟨gb171, 1, none⟩ (.int .i64 t167)).setCell ⟨gb171, 2, none⟩ (.bool t168)).setCell ⟨gb171, 3, none⟩ (.int .u64 t169)).setCell ⟨gb171, 4, none⟩ (.int .u64 t170)) = w19 at n0_ n1_ n2_ n3_ ⊢
    have BK161 := n0_;have BK165 := n1_;have BK171 := n2_;have HB := n3_;clear n0_ n1_ n2_ n3_
    replace BK161 := A_ (blk_drew BK161.out)
    replace BK165 := A_ (blk_drew BK165.out)
    replace BK171 := A_ (blk_drew BK171.out)
    replace HB := A_ (below_drew1 HB.out)
    refine start_ (n := 12) (S := fun w' => w'.cell? ⟨gb171, 0, none⟩ = some (.int .i64 t166) ∧ w'.cell? ⟨gb171, 1, none⟩ = some (.int .i64 t167) ∧ w'.cell? ⟨gb171, 2, none⟩ = some (.bool t168) ∧ w'.cell? ⟨gb171, 3, none⟩ = some (.int .u64 t169) ∧ w'.cell? ⟨gb171, 4, none⟩ = some (.int .u64 t170)) (ds := []) #[false, false, false, false, false, false, false, false, false, false, false, false] (by kernel_rfl) rfl rfl ⟨bc_ BK171.out 0, bc_ BK171.out 1, bc_ BK171.out 2, bc_ BK171.out 3, bc_ BK171.out 4⟩ (fun hHeld => ?_); refine with_tabW shape_Open.tab5 shape_Open.bits5 (fun HT_ HW_ => ?_)
    generalize w19.drew = w20 at BK161 BK165 BK171 HB hHeld ⊢
    refine pu_ 0 (some 20) #[true, false, false, false, false, false, false, false, false, false, false, false] rfl rfl (any_of HT_.out (by kernel_rfl)) ?_
    refine pu_ 2 (some 22) #[true, false, true, false, false, false, false, false, false, false, false, false] rfl rfl (any_of HT_.out (by kernel_rfl)) ?_
    refine tk5_ 1 (some 21) #[true, true, true, false, false, false, false, false, false, false, false, false] rfl rfl (take_ofW HT_.out HW_.out (by kernel_rfl)) hHeld ?_
    refine tk5_ 3 (some 23) #[true, true, true, true, false, false, false, false, false, false, false, false] rfl rfl (take_ofW HT_.out HW_.out (by kernel_rfl)) hHeld ?_
    refine one_ (i := 4) (N := some 24) #[true, true, true, true, true, false, false, false, false, false, false, false] rfl rfl (one_of HT_.out (by kernel_rfl)) (by decide) (fun K hK => ?_)
    refine goes_ Tryz.func37 (by kernel_rfl) rfl #[.agg #[.int .i64 t166, .int .i64 t167]] (by rfl) rfl rfl mp_ ?_
    with_reducible refine (shape_format_ones.calls t166 t167 t172 _ A17.out).mono ?_
    rintro e w21 ⟨rfl, hb⟩
    refine ⟨_, rfl, ?_⟩
    replace BK161 := A_ (bb_ BK161.out hb)
    replace BK165 := A_ (bb_ BK165.out hb)
    replace BK171 := A_ (bb_ BK171.out hb)
    replace HB := A_ (below_step (hb3_ HB.out GE161.out GE165.out GE171.out) hb);(try clear hb);(try clear hb2);(try clear hk);(try clear hi)
    refine hK.out _ _ ⟨bc_ BK171.out 0, bc_ BK171.out 1, bc_ BK171.out 2, bc_ BK171.out 3, bc_ BK171.out 4⟩ (fun hHeld => ?_)
    clear hK K
    refine norm_ (a' := ?_) ?_ ?_
    rotate_left
    ·show Act.put _ (some 24) _ = _
     simp only [Act.put, lI_, l0_, lS_, i64_w, i32_w]
     rfl
    refine pu_ 5 (some 25) #[true, true, true, true, true, true, false, false, false, false, false, false] rfl rfl (any_of HT_.out (by kernel_rfl)) ?_
    refine pu_ 6 (some 26) #[true, true, true, true, true, true, true, false, false, false, false, false] rfl rfl (any_of HT_.out (by kernel_rfl)) ?_
    refine pu_ 7 (some 27) #[true, true, true, true, true, true, true, true, false, false, false, false] rfl rfl (any_of HT_.out (by kernel_rfl)) ?_
    refine tk5_ 8 (some 28) #[true, true, true, true, true, true, true, true, true, false, false, false] rfl rfl (take_ofW HT_.out HW_.out (by kernel_rfl)) hHeld ?_
    refine pu_ 9 (some 29) #[true, true, true, true, true, true, true, true, true, true, false, false] rfl rfl (any_of HT_.out (by kernel_rfl)) ?_
    refine pu_ 10 (some 30) #[true, true, true, true, true, true, true, true, true, true, true, false] rfl rfl (any_of HT_.out (by kernel_rfl)) ?_
    refine pu_ 11 (some 19) #[true, true, true, true, true, true, true, true, true, true, true, true] rfl rfl (any_of HT_.out (by kernel_rfl)) ?_
    refine done_ (done_of HT_.out (by kernel_rfl)) ?_
    try go_wp2
    go_meet
    case rel => exact ⟨_, ((t170 != 0)), sm_, H', ⟨by first | omega | exact Nat.le_refl _⟩, ⟨bk_ BK161.out⟩, ⟨bk_ BK165.out⟩, ⟨bk_ BK171.out⟩, ⟨hb3_ HB.out GE161.out GE165.out GE171.out⟩⟩
   ·rw [if_neg c18] at H
    have c18b0 : (t169 == t172) = false := beq_eq_false_iff_ne.mpr c18
    have c18b1 : (t169 != t172) = true := bne_iff_ne.mpr c18
    (first | rw [c18b0] | (simp only [i64_w, i32_w]; rw [c18b0]) | skip)
    have H' := A_ H
    clear H
    try go_wp2
    have n0_ : Aside0 ((((((w13.setCell ⟨gb171, 0, none⟩ (.int .i64 t166)).setCell ⟨gb171, 1, none⟩ (.int .i64 t167)).setCell ⟨gb171, 2, none⟩ (.bool t168)).setCell ⟨gb171, 3, none⟩ (.int .u64 t169)).setCell ⟨gb171, 4, none⟩ (.int .u64 t170)).heap[gb161]? = some (.cells #[.bool false, .int .i64 0, .int .i64 0, .int .u64 0] 27 (0, 0))) := ⟨bf5_ BK161.out NB161_171.out NB161_171.out NB161_171.out NB161_171.out NB161_171.out⟩
    have n1_ : Aside0 ((((((w13.setCell ⟨gb171, 0, none⟩ (.int .i64 t166)).setCell ⟨gb171, 1, none⟩ (.int .i64 t167)).setCell ⟨gb171, 2, none⟩ (.bool t168)).setCell ⟨gb171, 3, none⟩ (.int .u64 t169)).setCell ⟨gb171, 4, none⟩ (.int .u64 t170)).heap[gb165]? = some (.cells #[.int .i64 t162, .int .i64 t163] 65 (0, 0))) := ⟨bf5_ BK165.out NB165_171.out NB165_171.out NB165_171.out NB165_171.out NB165_171.out⟩
    have n2_ : Aside0 ((((((w13.setCell ⟨gb171, 0, none⟩ (.int .i64 t166)).setCell ⟨gb171, 1, none⟩ (.int .i64 t167)).setCell ⟨gb171, 2, none⟩ (.bool t168)).setCell ⟨gb171, 3, none⟩ (.int .u64 t169)).setCell ⟨gb171, 4, none⟩ (.int .u64 t170)).heap[gb171]? = some (.cells #[.int .i64 t166, .int .i64 t167, .bool t168, .int .u64 t169, .int .u64 t170] 69 (0, 0))) := ⟨by (with_reducible repeat (first | refine blk_drewN ?_ _ | refine blk_drew ?_ | refine blk_alloc ?_ _)); refine blk_put (cs := #[.int .i64 t166, .int .i64 t167, .bool t168, .int .u64 t169, .int .u64 0]) ?_ 4 _ rfl; (with_reducible repeat (first | refine blk_drewN ?_ _ | refine blk_drew ?_ | refine blk_alloc ?_ _)); refine blk_put (cs := #[.int .i64 t166, .int .i64 t167, .bool t168, .int .u64 0, .int .u64 0]) ?_ 3 _ rfl; (with_reducible repeat (first | refine blk_drewN ?_ _ | refine blk_drew ?_ | refine blk_alloc ?_ _)); refine blk_put (cs := #[.int .i64 t166, .int .i64 t167, .bool false, .int .u64 0, .int .u64 0]) ?_ 2 _ rfl; (with_reducible repeat (first | refine blk_drewN ?_ _ | refine blk_drew ?_ | refine blk_alloc ?_ _)); refine blk_put (cs := #[.int .i64 t166, .int .i64 0, .bool false, .int .u64 0, .int .u64 0]) ?_ 1 _ rfl; (with_reducible repeat (first | refine blk_drewN ?_ _ | refine blk_drew ?_ | refine blk_alloc ?_ _)); refine blk_put (cs := #[.int .i64 0, .int .i64 0, .bool false, .int .u64 0, .int .u64 0]) ?_ 0 _ rfl; (with_reducible repeat (first | refine blk_drewN ?_ _ | refine blk_drew ?_ | refine blk_alloc ?_ _)); exact BK171.out⟩
    have n3_ : Aside0 (Below w.heap.size w (((((w13.setCell ⟨gb171, 0, none⟩ (.int .i64 t166)).setCell ⟨gb171, 1, none⟩ (.int .i64 t167)).setCell ⟨gb171, 2, none⟩ (.bool t168)).setCell ⟨gb171, 3, none⟩ (.int .u64 t169)).setCell ⟨gb171, 4, none⟩ (.int .u64 t170))) := ⟨hb3_ HB.out GE161.out GE165.out GE171.out⟩
    (try clear BK161);(try clear BK165);(try clear BK171);(try clear HB)
    generalize (((((w13.setCell ⟨gb171, 0, none⟩ (.int .i64 t166)).setCell ⟨gb171, 1, none⟩ (.int .i64 t167)).setCell ⟨gb171, 2, none⟩ (.bool t168)).setCell ⟨gb171, 3, none⟩ (.int .u64 t169)).setCell ⟨gb171, 4, none⟩ (.int .u64 t170)) = w22 at n0_ n1_ n2_ n3_ ⊢
    have BK161 := n0_;have BK165 := n1_;have BK171 := n2_;have HB := n3_;clear n0_ n1_ n2_ n3_
    replace BK161 := A_ (blk_drew BK161.out)
    replace BK165 := A_ (blk_drew BK165.out)
    replace BK171 := A_ (blk_drew BK171.out)
    replace HB := A_ (below_drew1 HB.out)
    refine start_ (n := 12) (S := fun w' => w'.cell? ⟨gb171, 0, none⟩ = some (.int .i64 t166) ∧ w'.cell? ⟨gb171, 1, none⟩ = some (.int .i64 t167) ∧ w'.cell? ⟨gb171, 2, none⟩ = some (.bool t168) ∧ w'.cell? ⟨gb171, 3, none⟩ = some (.int .u64 t169) ∧ w'.cell? ⟨gb171, 4, none⟩ = some (.int .u64 t170)) (ds := []) #[false, false, false, false, false, false, false, false, false, false, false, false] (by kernel_rfl) rfl rfl ⟨bc_ BK171.out 0, bc_ BK171.out 1, bc_ BK171.out 2, bc_ BK171.out 3, bc_ BK171.out 4⟩ (fun hHeld => ?_); refine with_tabW shape_Open.tab5 shape_Open.bits5 (fun HT_ HW_ => ?_)
    generalize w22.drew = w23 at BK161 BK165 BK171 HB hHeld ⊢
    refine pu_ 0 (some 20) #[true, false, false, false, false, false, false, false, false, false, false, false] rfl rfl (any_of HT_.out (by kernel_rfl)) ?_
    refine pu_ 2 (some 22) #[true, false, true, false, false, false, false, false, false, false, false, false] rfl rfl (any_of HT_.out (by kernel_rfl)) ?_
    refine tk5_ 1 (some 21) #[true, true, true, false, false, false, false, false, false, false, false, false] rfl rfl (take_ofW HT_.out HW_.out (by kernel_rfl)) hHeld ?_
    refine tk5_ 3 (some 23) #[true, true, true, true, false, false, false, false, false, false, false, false] rfl rfl (take_ofW HT_.out HW_.out (by kernel_rfl)) hHeld ?_
    refine one_ (i := 4) (N := some 24) #[true, true, true, true, true, false, false, false, false, false, false, false] rfl rfl (one_of HT_.out (by kernel_rfl)) (by decide) (fun K hK => ?_)
    refine goes_ Tryz.func37 (by kernel_rfl) rfl #[.agg #[.int .i64 t166, .int .i64 t167]] (by rfl) rfl rfl mp_ ?_
    with_reducible refine (shape_format_ones.calls t166 t167 t172 _ A17.out).mono ?_
    rintro e w24 ⟨rfl, hb⟩
    refine ⟨_, rfl, ?_⟩
    replace BK161 := A_ (bb_ BK161.out hb)
    replace BK165 := A_ (bb_ BK165.out hb)
    replace BK171 := A_ (bb_ BK171.out hb)
    replace HB := A_ (below_step (hb3_ HB.out GE161.out GE165.out GE171.out) hb);(try clear hb);(try clear hb2);(try clear hk);(try clear hi)
    refine hK.out _ _ ⟨bc_ BK171.out 0, bc_ BK171.out 1, bc_ BK171.out 2, bc_ BK171.out 3, bc_ BK171.out 4⟩ (fun hHeld => ?_)
    clear hK K
    refine norm_ (a' := ?_) ?_ ?_
    rotate_left
    ·show Act.put _ (some 24) _ = _
     simp only [Act.put, lI_, l0_, lS_, i64_w, i32_w]
     rfl
    refine pu_ 5 (some 25) #[true, true, true, true, true, true, false, false, false, false, false, false] rfl rfl (any_of HT_.out (by kernel_rfl)) ?_
    refine pu_ 6 (some 26) #[true, true, true, true, true, true, true, false, false, false, false, false] rfl rfl (any_of HT_.out (by kernel_rfl)) ?_
    refine pure_ (i := 7) (N := some 27) (v := undef) (a' := ?_) #[true, true, true, true, true, true, true, true, false, false, false, false] rfl rfl (any_of HT_.out (by kernel_rfl)) (fun _ _ _ h => h) (Or.inr ⟨by rfl, rfl⟩) ?_ ?_
    rotate_left
    ·simp only [Act.put, lI_, l0_, lS_, i64_w, i32_w]
     rfl
    refine pure_ (i := 8) (N := some 28) (v := undef) (a' := ?_) #[true, true, true, true, true, true, true, true, true, false, false, false] rfl rfl (any_of HT_.out (by kernel_rfl)) (fun _ _ _ h => h) (Or.inr ⟨by rfl, rfl⟩) ?_ ?_
    rotate_left
    ·simp only [Act.put, lI_, l0_, lS_, i64_w, i32_w]
     rfl
    refine pure_ (i := 9) (N := some 29) (v := undef) (a' := ?_) #[true, true, true, true, true, true, true, true, true, true, false, false] rfl rfl (any_of HT_.out (by kernel_rfl)) (fun _ _ _ h => h) (Or.inr ⟨by rfl, rfl⟩) ?_ ?_
    rotate_left
    ·simp only [Act.put, lI_, l0_, lS_, i64_w, i32_w]
     rfl
    refine pu_ 10 (some 30) #[true, true, true, true, true, true, true, true, true, true, true, false] rfl rfl (any_of HT_.out (by kernel_rfl)) ?_
    refine pu_ 11 (some 19) #[true, true, true, true, true, true, true, true, true, true, true, true] rfl rfl (any_of HT_.out (by kernel_rfl)) ?_
    refine done_ (done_of HT_.out (by kernel_rfl)) ?_
    try go_wp2
    go_meet
    case rel => exact ⟨_, (false), sm_, H', ⟨by first | omega | exact Nat.le_refl _⟩, ⟨bk_ BK161.out⟩, ⟨bk_ BK165.out⟩, ⟨bk_ BK171.out⟩, ⟨hb3_ HB.out GE161.out GE165.out GE171.out⟩⟩
  case rest =>
   clear HC6
   try clear c1
   try clear p2
   try clear c3
   try clear c4
   try clear c10
   try clear c14
   try clear c15
   try clear c18
   try clear c18b0
   try clear c18b1
   try clear hcz11_0
   try clear hcz11_1
   try clear hcz16_0
   try clear hcz16_1
   try clear hcz16_2
   try clear hcz16_3
   try clear hcz16_4
   try clear hfz11_0
   try clear hfz11_1
   try clear hfz16_0
   try clear hfz16_1
   try clear hfz16_2
   try clear hfz16_3
   try clear hfz16_4
   obtain ⟨kq, x19_5, rfl, HA, HJ5, BK161, BK165, BK171, HB⟩ := hcut
   cases kq with
   | zero => exact absurd HA.out (by simp [shape_Open.j0])
   | succ kj5 =>
    have H := HA.out
    clear HA
    simp only [shape_Open.j0] at H
    by_cases c25 : x19_5 = true
    ·subst c25
     have H1 : (some (false, 3, 0, 0)) = some (r1, r2, r3, r4) := by rw [if_pos rfl] at H; exact H
     clear H;have H := H1;clear H1
     simp only [Option.some.injEq, Prod.mk.injEq] at H
     obtain ⟨rfl, rfl, rfl, rfl⟩ := H
     have hnb26 := NB161_165.out
     have hnc26 := NB165_161.out
     have hnb27 := NB161_171.out
     have hnc27 := NB171_161.out
     have hcz28_0 := bv_ BK161.out 0
     have hcz28_1 := bv_ BK161.out 1
     have hcz28_2 := bv_ BK161.out 2
     have hcz28_3 := bv_ BK161.out 3
     have hfz28_0 := blk_frozen BK161.out 0
     have hfz28_1 := blk_frozen BK161.out 1
     have hfz28_2 := blk_frozen BK161.out 2
     have hfz28_3 := blk_frozen BK161.out 3
     go_wp2
     refine bodyPost_ret (results_cell_row rfl _ _ gb161 27 #[.bool false, .int .i64 3, .int .i64 0, .int .u64 0] (0, 0) _ rfl (by (with_reducible repeat (first | refine blk_drewN ?_ _ | refine blk_drew ?_ | refine blk_alloc ?_ _)); refine blk_put (cs := #[.bool false, .int .i64 3, .int .i64 0, .int .u64 0]) ?_ 3 _ rfl; (with_reducible repeat (first | refine blk_drewN ?_ _ | refine blk_drew ?_ | refine blk_alloc ?_ _)); refine blk_put (cs := #[.bool false, .int .i64 3, .int .i64 0, .int .u64 0]) ?_ 2 _ rfl; (with_reducible repeat (first | refine blk_drewN ?_ _ | refine blk_drew ?_ | refine blk_alloc ?_ _)); refine blk_put (cs := #[.bool false, .int .i64 0, .int .i64 0, .int .u64 0]) ?_ 1 _ rfl; (with_reducible repeat (first | refine blk_drewN ?_ _ | refine blk_drew ?_ | refine blk_alloc ?_ _)); refine blk_put (cs := #[.bool false, .int .i64 0, .int .i64 0, .int .u64 0]) ?_ 0 _ rfl; (with_reducible repeat (first | refine blk_drewN ?_ _ | refine blk_drew ?_ | refine blk_alloc ?_ _)); exact BK161.out) Tryz.underlying27 rfl (by kernel_rfl)) rfl ?_
     exact ⟨er_, hb3_ HB.out GE161.out GE165.out GE171.out⟩
    ·replace c25 := Bool.eq_false_iff.mpr c25
     subst c25
     have H1 : ((shape_format_ones.f t166 t167).bind fun t173 => (if t169 = t173 then (some (t168, 2, 0, 0)) else (if t169 = 0 then (shape_Open.j1 kj5 (t170 == 0) t166 t167 t168 t169 t170) else (shape_Open.j1 kj5 false t166 t167 t168 t169 t170)))) = some (r1, r2, r3, r4) := by rw [if_neg (show ¬ (false = true) by decide)] at H; exact H
     clear H;have H := H1;clear H1
     replace H := ob_ H
     obtain ⟨t173, A290, H⟩ := H
     replace H : (if t169 = t173 then (some (t168, 2, 0, 0)) else (if t169 = 0 then (shape_Open.j1 kj5 (t170 == 0) t166 t167 t168 t169 t170) else (shape_Open.j1 kj5 false t166 t167 t168 t169 t170))) = some (r1, r2, r3, r4) := H
     have A29 := A_ A290;clear A290
     by_cases c30 : t169 = t173
     ·rw [if_pos c30] at H
      have c30b0 : (t169 == t173) = true := beq_iff_eq.mpr c30
      have c30b1 : (t169 != t173) = false := bne_eq_false_iff_eq.mpr c30
      clear c30
      simp only [Option.some.injEq, Prod.mk.injEq] at H
      obtain ⟨rfl, rfl, rfl, rfl⟩ := H
      try go_wp2
      replace BK161 := A_ (blk_drew BK161.out)
      replace BK165 := A_ (blk_drew BK165.out)
      replace BK171 := A_ (blk_drew BK171.out)
      replace HB := A_ (below_drew1 HB.out)
      refine start_ (n := 7) (S := fun w' => w'.cell? ⟨gb171, 0, none⟩ = some (.int .i64 t166) ∧ w'.cell? ⟨gb171, 1, none⟩ = some (.int .i64 t167) ∧ w'.cell? ⟨gb171, 2, none⟩ = some (.bool t168) ∧ w'.cell? ⟨gb171, 3, none⟩ = some (.int .u64 t169) ∧ w'.cell? ⟨gb171, 4, none⟩ = some (.int .u64 t170)) (ds := []) #[false, false, false, false, false, false, false] (by kernel_rfl) rfl rfl ⟨bc_ BK171.out 0, bc_ BK171.out 1, bc_ BK171.out 2, bc_ BK171.out 3, bc_ BK171.out 4⟩ (fun hHeld => ?_)
      generalize wc.drew = w31 at BK161 BK165 BK171 HB hHeld ⊢
      refine pu_ 0 (some 33) #[true, false, false, false, false, false, false] rfl rfl (by kernel_rfl) ?_
      refine pu_ 2 (some 35) #[true, false, true, false, false, false, false] rfl rfl (by kernel_rfl) ?_
      refine tk5_ 1 (some 34) #[true, true, true, false, false, false, false] rfl rfl (by kernel_rfl) hHeld ?_
      refine tk5_ 3 (some 36) #[true, true, true, true, false, false, false] rfl rfl (by kernel_rfl) hHeld ?_
      refine one_ (i := 4) (N := some 37) #[true, true, true, true, true, false, false] rfl rfl (by kernel_rfl) (by decide) (fun K hK => ?_)
      refine goes_ Tryz.func37 (by kernel_rfl) rfl #[.agg #[.int .i64 t166, .int .i64 t167]] (by rfl) rfl rfl mp_ ?_
      with_reducible refine (shape_format_ones.calls t166 t167 t173 _ A29.out).mono ?_
      rintro e w32 ⟨rfl, hb⟩
      refine ⟨_, rfl, ?_⟩
      replace BK161 := A_ (bb_ BK161.out hb)
      replace BK165 := A_ (bb_ BK165.out hb)
      replace BK171 := A_ (bb_ BK171.out hb)
      replace HB := A_ (below_step (hb3_ HB.out GE161.out GE165.out GE171.out) hb);(try clear hb);(try clear hb2);(try clear hk);(try clear hi)
      refine hK.out _ _ ⟨bc_ BK171.out 0, bc_ BK171.out 1, bc_ BK171.out 2, bc_ BK171.out 3, bc_ BK171.out 4⟩ (fun hHeld => ?_)
      clear hK K
      refine norm_ (a' := ?_) ?_ ?_
      rotate_left
      ·show Act.put _ (some 37) _ = _
       simp only [Act.put, lI_, l0_, lS_, i64_w, i32_w]
       rfl
      refine pu_ 5 (some 38) #[true, true, true, true, true, true, false] rfl rfl (by kernel_rfl) ?_
      refine pu_ 6 (some 32) #[true, true, true, true, true, true, true] rfl rfl (by kernel_rfl) ?_
      refine done_ (by kernel_rfl) ?_
      have hnb33 := NB171_161.out
      have hnc33 := NB161_171.out
      have hnb34 := NB171_165.out
      have hnc34 := NB165_171.out
      have hcz35_0 := bv_ BK171.out 0
      have hcz35_1 := bv_ BK171.out 1
      have hcz35_2 := bv_ BK171.out 2
      have hcz35_3 := bv_ BK171.out 3
      have hcz35_4 := bv_ BK171.out 4
      have hfz35_0 := blk_frozen BK171.out 0
      have hfz35_1 := blk_frozen BK171.out 1
      have hfz35_2 := blk_frozen BK171.out 2
      have hfz35_3 := blk_frozen BK171.out 3
      have hfz35_4 := blk_frozen BK171.out 4
      have hnb36 := NB161_165.out
      have hnc36 := NB165_161.out
      have hcz37_0 := bv_ BK161.out 0
      have hcz37_1 := bv_ BK161.out 1
      have hcz37_2 := bv_ BK161.out 2
      have hcz37_3 := bv_ BK161.out 3
      have hfz37_0 := blk_frozen BK161.out 0
      have hfz37_1 := blk_frozen BK161.out 1
      have hfz37_2 := blk_frozen BK161.out 2
      have hfz37_3 := blk_frozen BK161.out 3
      try go_wp2
      refine bodyPost_ret (results_cell_row rfl _ _ gb161 27 #[.bool t168, .int .i64 2, .int .i64 0, .int .u64 0] (0, 0) _ rfl (by (with_reducible repeat (first | refine blk_drewN ?_ _ | refine blk_drew ?_ | refine blk_alloc ?_ _)); refine blk_put (cs := #[.bool t168, .int .i64 2, .int .i64 0, .int .u64 0]) ?_ 3 _ rfl; (with_reducible repeat (first | refine blk_drewN ?_ _ | refine blk_drew ?_ | refine blk_alloc ?_ _)); refine blk_put (cs := #[.bool t168, .int .i64 2, .int .i64 0, .int .u64 0]) ?_ 2 _ rfl; (with_reducible repeat (first | refine blk_drewN ?_ _ | refine blk_drew ?_ | refine blk_alloc ?_ _)); refine blk_put (cs := #[.bool t168, .int .i64 0, .int .i64 0, .int .u64 0]) ?_ 1 _ rfl; (with_reducible repeat (first | refine blk_drewN ?_ _ | refine blk_drew ?_ | refine blk_alloc ?_ _)); refine blk_put (cs := #[.bool false, .int .i64 0, .int .i64 0, .int .u64 0]) ?_ 0 _ rfl; (with_reducible repeat (first | refine blk_drewN ?_ _ | refine blk_drew ?_ | refine blk_alloc ?_ _)); exact BK161.out) Tryz.underlying27 rfl (by kernel_rfl)) rfl ?_
      exact ⟨er_, hb3_ HB.out GE161.out GE165.out GE171.out⟩
     ·rw [if_neg c30] at H
      have c30b0 : (t169 == t173) = false := beq_eq_false_iff_ne.mpr c30
      have c30b1 : (t169 != t173) = true := bne_iff_ne.mpr c30
      have HC38 := A_ H;clear H
      try go_wp2
      replace BK161 := A_ (blk_drew BK161.out)
      replace BK165 := A_ (blk_drew BK165.out)
      replace BK171 := A_ (blk_drew BK171.out)
      replace HB := A_ (below_drew1 HB.out)
      refine start_ (n := 7) (S := fun w' => w'.cell? ⟨gb171, 0, none⟩ = some (.int .i64 t166) ∧ w'.cell? ⟨gb171, 1, none⟩ = some (.int .i64 t167) ∧ w'.cell? ⟨gb171, 2, none⟩ = some (.bool t168) ∧ w'.cell? ⟨gb171, 3, none⟩ = some (.int .u64 t169) ∧ w'.cell? ⟨gb171, 4, none⟩ = some (.int .u64 t170)) (ds := []) #[false, false, false, false, false, false, false] (by kernel_rfl) rfl rfl ⟨bc_ BK171.out 0, bc_ BK171.out 1, bc_ BK171.out 2, bc_ BK171.out 3, bc_ BK171.out 4⟩ (fun hHeld => ?_)
      generalize wc.drew = w39 at BK161 BK165 BK171 HB hHeld ⊢
      refine pu_ 0 (some 33) #[true, false, false, false, false, false, false] rfl rfl (by kernel_rfl) ?_
      refine pu_ 2 (some 35) #[true, false, true, false, false, false, false] rfl rfl (by kernel_rfl) ?_
      refine tk5_ 1 (some 34) #[true, true, true, false, false, false, false] rfl rfl (by kernel_rfl) hHeld ?_
      refine tk5_ 3 (some 36) #[true, true, true, true, false, false, false] rfl rfl (by kernel_rfl) hHeld ?_
      refine one_ (i := 4) (N := some 37) #[true, true, true, true, true, false, false] rfl rfl (by kernel_rfl) (by decide) (fun K hK => ?_)
      refine goes_ Tryz.func37 (by kernel_rfl) rfl #[.agg #[.int .i64 t166, .int .i64 t167]] (by rfl) rfl rfl mp_ ?_
      with_reducible refine (shape_format_ones.calls t166 t167 t173 _ A29.out).mono ?_
      rintro e w40 ⟨rfl, hb⟩
      refine ⟨_, rfl, ?_⟩
      replace BK161 := A_ (bb_ BK161.out hb)
      replace BK165 := A_ (bb_ BK165.out hb)
      replace BK171 := A_ (bb_ BK171.out hb)
      replace HB := A_ (below_step (hb3_ HB.out GE161.out GE165.out GE171.out) hb);(try clear hb);(try clear hb2);(try clear hk);(try clear hi)
      refine hK.out _ _ ⟨bc_ BK171.out 0, bc_ BK171.out 1, bc_ BK171.out 2, bc_ BK171.out 3, bc_ BK171.out 4⟩ (fun hHeld => ?_)
      clear hK K
      refine norm_ (a' := ?_) ?_ ?_
      rotate_left
      ·show Act.put _ (some 37) _ = _
       simp only [Act.put, lI_, l0_, lS_, i64_w, i32_w]
       rfl
      refine pu_ 5 (some 38) #[true, true, true, true, true, true, false] rfl rfl (by kernel_rfl) ?_
      refine pu_ 6 (some 32) #[true, true, true, true, true, true, true] rfl rfl (by kernel_rfl) ?_
      refine done_ (by kernel_rfl) ?_
      go_upto_region 9 with (fail)
      go_cut [42] (fun v42 wc => ∃ (kq : Nat) (x42_37 : Bool), v42 = .bool x42_37 ∧ Aside0 (shape_Open.j1 kq x42_37 t166 t167 t168 t169 t170 = some (r1, r2, r3, r4)) ∧ Aside0 (kq ≤ kj5) ∧ Aside0 (wc.heap[gb161]? = some (.cells #[.bool false, .int .i64 0, .int .i64 0, .int .u64 0] 27 (0, 0))) ∧ Aside0 (wc.heap[gb165]? = some (.cells #[.int .i64 t162, .int .i64 t163] 65 (0, 0))) ∧ Aside0 (wc.heap[gb171]? = some (.cells #[.int .i64 t166, .int .i64 t167, .bool t168, .int .u64 t169, .int .u64 t170] 69 (0, 0))) ∧ Aside0 (Below w.heap.size w wc))
      case first =>
       have H := HC38.out
       clear HC38
       by_cases c41 : t169 = 0
       ·rw [if_pos c41] at H
        have c41b0 : (t169 == 0) = true := beq_iff_eq.mpr c41
        have c41b1 : (t169 != 0) = false := bne_eq_false_iff_eq.mpr c41
        clear c41
        (first | rw [c41b0] | (simp only [i64_w, i32_w]; rw [c41b0]) | skip)
        have H' := A_ H
        clear H
        have hnb42 := NB171_161.out
        have hnc42 := NB161_171.out
        have hnb43 := NB171_165.out
        have hnc43 := NB165_171.out
        have hcz44_0 := bv_ BK171.out 0
        have hcz44_1 := bv_ BK171.out 1
        have hcz44_2 := bv_ BK171.out 2
        have hcz44_3 := bv_ BK171.out 3
        have hcz44_4 := bv_ BK171.out 4
        have hfz44_0 := blk_frozen BK171.out 0
        have hfz44_1 := blk_frozen BK171.out 1
        have hfz44_2 := blk_frozen BK171.out 2
        have hfz44_3 := blk_frozen BK171.out 3
        have hfz44_4 := blk_frozen BK171.out 4
        go_wp2
        go_meet
        case rel => exact ⟨_, ((t170 == 0)), sm_, H', ⟨by have := HJ5.out; first | omega | exact Nat.le_refl _⟩, ⟨bk_ BK161.out⟩, ⟨bk_ BK165.out⟩, ⟨bk_ BK171.out⟩, ⟨hb3_ HB.out GE161.out GE165.out GE171.out⟩⟩
       ·rw [if_neg c41] at H
        have c41b0 : (t169 == 0) = false := beq_eq_false_iff_ne.mpr c41
        have c41b1 : (t169 != 0) = true := bne_iff_ne.mpr c41
        (first | rw [c41b0] | (simp only [i64_w, i32_w]; rw [c41b0]) | skip)
        have H' := A_ H
        clear H
        have hnb45 := NB171_161.out
        have hnc45 := NB161_171.out
        have hnb46 := NB171_165.out
        have hnc46 := NB165_171.out
        have hcz47_0 := bv_ BK171.out 0
        have hcz47_1 := bv_ BK171.out 1
        have hcz47_2 := bv_ BK171.out 2
        have hcz47_3 := bv_ BK171.out 3
        have hcz47_4 := bv_ BK171.out 4
        have hfz47_0 := blk_frozen BK171.out 0
        have hfz47_1 := blk_frozen BK171.out 1
        have hfz47_2 := blk_frozen BK171.out 2
        have hfz47_3 := blk_frozen BK171.out 3
        have hfz47_4 := blk_frozen BK171.out 4
        go_wp2
        go_meet
        case rel => exact ⟨_, (false), sm_, H', ⟨by have := HJ5.out; first | omega | exact Nat.le_refl _⟩, ⟨bk_ BK161.out⟩, ⟨bk_ BK165.out⟩, ⟨bk_ BK171.out⟩, ⟨hb3_ HB.out GE161.out GE165.out GE171.out⟩⟩
      case rest =>
       clear HC38
       try clear c1
       try clear c2
       try clear p2
       try clear c3
       try clear c4
       try clear c10
       try clear c14
       try clear c15
       try clear c18
       try clear c18b0
       try clear c18b1
       try clear c25
       try clear c26
       try clear c27
       try clear c30
       try clear c30b0
       try clear c30b1
       try clear c33
       try clear c34
       try clear c36
       try clear c37
       try clear c41
       try clear c41b0
       try clear c41b1
       try clear c42
       try clear c43
       try clear c45
       try clear c46
       try clear hcz11_0
       try clear hcz11_1
       try clear hcz16_0
       try clear hcz16_1
       try clear hcz16_2
       try clear hcz16_3
       try clear hcz16_4
       try clear hcz28_0
       try clear hcz28_1
       try clear hcz28_2
       try clear hcz28_3
       try clear hcz35_0
       try clear hcz35_1
       try clear hcz35_2
       try clear hcz35_3
       try clear hcz35_4
       try clear hcz37_0
       try clear hcz37_1
       try clear hcz37_2
       try clear hcz37_3
       try clear hcz44_0
       try clear hcz44_1
       try clear hcz44_2
       try clear hcz44_3
       try clear hcz44_4
       try clear hcz47_0
       try clear hcz47_1
       try clear hcz47_2
       try clear hcz47_3
       try clear hcz47_4
       try clear hfz11_0
       try clear hfz11_1
       try clear hfz16_0
       try clear hfz16_1
       try clear hfz16_2
       try clear hfz16_3
       try clear hfz16_4
       try clear hfz28_0
       try clear hfz28_1
       try clear hfz28_2
       try clear hfz28_3
       try clear hfz35_0
       try clear hfz35_1
       try clear hfz35_2
       try clear hfz35_3
       try clear hfz35_4
       try clear hfz37_0
       try clear hfz37_1
       try clear hfz37_2
       try clear hfz37_3
       try clear hfz44_0
       try clear hfz44_1
       try clear hfz44_2
       try clear hfz44_3
       try clear hfz44_4
       try clear hfz47_0
       try clear hfz47_1
       try clear hfz47_2
       try clear hfz47_3
       try clear hfz47_4
       try clear p2
       obtain ⟨kq, x42_37, rfl, HA, HJ37, BK161, BK165, BK171, HB⟩ := hcut
       cases kq with
       | zero => exact absurd HA.out (by simp [shape_Open.j1])
       | succ kj37 =>
        have H := HA.out
        clear HA
        simp only [shape_Open.j1] at H
        by_cases c48 : x42_37 = true
        ·subst c48
         have H1 : (some (t168, 0, 0, 0)) = some (r1, r2, r3, r4) := by rw [if_pos rfl] at H; exact H
         clear H;have H := H1;clear H1
         simp only [Option.some.injEq, Prod.mk.injEq] at H
         obtain ⟨rfl, rfl, rfl, rfl⟩ := H
         have hnb49 := NB171_161.out
         have hnc49 := NB161_171.out
         have hnb50 := NB171_165.out
         have hnc50 := NB165_171.out
         have hcz51_0 := bv_ BK171.out 0
         have hcz51_1 := bv_ BK171.out 1
         have hcz51_2 := bv_ BK171.out 2
         have hcz51_3 := bv_ BK171.out 3
         have hcz51_4 := bv_ BK171.out 4
         have hfz51_0 := blk_frozen BK171.out 0
         have hfz51_1 := blk_frozen BK171.out 1
         have hfz51_2 := blk_frozen BK171.out 2
         have hfz51_3 := blk_frozen BK171.out 3
         have hfz51_4 := blk_frozen BK171.out 4
         have hnb52 := NB161_165.out
         have hnc52 := NB165_161.out
         have hcz53_0 := bv_ BK161.out 0
         have hcz53_1 := bv_ BK161.out 1
         have hcz53_2 := bv_ BK161.out 2
         have hcz53_3 := bv_ BK161.out 3
         have hfz53_0 := blk_frozen BK161.out 0
         have hfz53_1 := blk_frozen BK161.out 1
         have hfz53_2 := blk_frozen BK161.out 2
         have hfz53_3 := blk_frozen BK161.out 3
         go_wp2
         refine bodyPost_ret (results_cell_row rfl _ _ gb161 27 #[.bool t168, .int .i64 0, .int .i64 0, .int .u64 0] (0, 0) _ rfl (by (with_reducible repeat (first | refine blk_drewN ?_ _ | refine blk_drew ?_ | refine blk_alloc ?_ _)); refine blk_put (cs := #[.bool t168, .int .i64 0, .int .i64 0, .int .u64 0]) ?_ 3 _ rfl; (with_reducible repeat (first | refine blk_drewN ?_ _ | refine blk_drew ?_ | refine blk_alloc ?_ _)); refine blk_put (cs := #[.bool t168, .int .i64 0, .int .i64 0, .int .u64 0]) ?_ 2 _ rfl; (with_reducible repeat (first | refine blk_drewN ?_ _ | refine blk_drew ?_ | refine blk_alloc ?_ _)); refine blk_put (cs := #[.bool t168, .int .i64 0, .int .i64 0, .int .u64 0]) ?_ 1 _ rfl; (with_reducible repeat (first | refine blk_drewN ?_ _ | refine blk_drew ?_ | refine blk_alloc ?_ _)); refine blk_put (cs := #[.bool false, .int .i64 0, .int .i64 0, .int .u64 0]) ?_ 0 _ rfl; (with_reducible repeat (first | refine blk_drewN ?_ _ | refine blk_drew ?_ | refine blk_alloc ?_ _)); exact BK161.out) Tryz.underlying27 rfl (by kernel_rfl)) rfl ?_
         exact ⟨er_, hb3_ HB.out GE161.out GE165.out GE171.out⟩
        ·replace c48 := Bool.eq_false_iff.mpr c48
         subst c48
         have H1 : (if t169 = 0 then ((shape_format_low.f t166 t167).bind fun t174 => (some (t168, 1, t174, t170))) else ((shape_format_low.f t166 t167).bind fun t175 => (if 0 ≤ t167 then (some (t168, 1, wrap64 ((wrap64 (t175 + (wrap64 (t169)))) - 1), Go.bits .or .u64 (shl .u64 1 t167) t170)) else (none)))) = some (r1, r2, r3, r4) := by rw [if_neg (show ¬ (false = true) by decide)] at H; exact H
         clear H;have H := H1;clear H1
         by_cases c54 : t169 = 0
         ·rw [if_pos c54] at H
          have c54b0 : (t169 == 0) = true := beq_iff_eq.mpr c54
          have c54b1 : (t169 != 0) = false := bne_eq_false_iff_eq.mpr c54
          clear c54
          replace H := ob_ H
          obtain ⟨t174, A550, H⟩ := H
          replace H : (some (t168, 1, t174, t170)) = some (r1, r2, r3, r4) := H
          have A55 := A_ A550;clear A550
          simp only [Option.some.injEq, Prod.mk.injEq] at H
          obtain ⟨rfl, rfl, rfl, rfl⟩ := H
          have hnb56 := NB171_161.out
          have hnc56 := NB161_171.out
          have hnb57 := NB171_165.out
          have hnc57 := NB165_171.out
          have hcz58_0 := bv_ BK171.out 0
          have hcz58_1 := bv_ BK171.out 1
          have hcz58_2 := bv_ BK171.out 2
          have hcz58_3 := bv_ BK171.out 3
          have hcz58_4 := bv_ BK171.out 4
          have hfz58_0 := blk_frozen BK171.out 0
          have hfz58_1 := blk_frozen BK171.out 1
          have hfz58_2 := blk_frozen BK171.out 2
          have hfz58_3 := blk_frozen BK171.out 3
          have hfz58_4 := blk_frozen BK171.out 4
          try go_wp2
          replace BK161 := A_ (blk_drew BK161.out)
          replace BK165 := A_ (blk_drew BK165.out)
          replace BK171 := A_ (blk_drew BK171.out)
          replace HB := A_ (below_drew1 HB.out)
          refine start_ (n := 9) (S := fun w' => w'.cell? ⟨gb171, 0, none⟩ = some (.int .i64 t166) ∧ w'.cell? ⟨gb171, 1, none⟩ = some (.int .i64 t167) ∧ w'.cell? ⟨gb171, 2, none⟩ = some (.bool t168) ∧ w'.cell? ⟨gb171, 3, none⟩ = some (.int .u64 t169) ∧ w'.cell? ⟨gb171, 4, none⟩ = some (.int .u64 t170)) (ds := []) #[false, false, false, false, false, false, false, false, false] (by kernel_rfl) rfl rfl ⟨bc_ BK171.out 0, bc_ BK171.out 1, bc_ BK171.out 2, bc_ BK171.out 3, bc_ BK171.out 4⟩ (fun hHeld => ?_); refine with_tabW shape_Open.tab12 shape_Open.bits12 (fun HT_ HW_ => ?_)
          generalize wc.drew = w59 at BK161 BK165 BK171 HB hHeld ⊢
          refine pu_ 0 (some 58) #[true, false, false, false, false, false, false, false, false] rfl rfl (any_of HT_.out (by kernel_rfl)) ?_
          refine pu_ 2 (some 60) #[true, false, true, false, false, false, false, false, false] rfl rfl (any_of HT_.out (by kernel_rfl)) ?_
          refine pu_ 5 (some 63) #[true, false, true, false, false, true, false, false, false] rfl rfl (any_of HT_.out (by kernel_rfl)) ?_
          refine tk5_ 1 (some 59) #[true, true, true, false, false, true, false, false, false] rfl rfl (take_ofW HT_.out HW_.out (by kernel_rfl)) hHeld ?_
          refine tk5_ 3 (some 61) #[true, true, true, true, false, true, false, false, false] rfl rfl (take_ofW HT_.out HW_.out (by kernel_rfl)) hHeld ?_
          refine tk5_ 6 (some 64) #[true, true, true, true, false, true, true, false, false] rfl rfl (take_ofW HT_.out HW_.out (by kernel_rfl)) hHeld ?_
          refine one_ (i := 4) (N := some 62) #[true, true, true, true, true, true, true, false, false] rfl rfl (one_of HT_.out (by kernel_rfl)) (by decide) (fun K hK => ?_)
          refine goes_ Tryz.func38 (by kernel_rfl) rfl #[.agg #[.int .i64 t166, .int .i64 t167]] (by rfl) rfl rfl mp_ ?_
          with_reducible refine (shape_format_low.calls t166 t167 t174 _ A55.out).mono ?_
          rintro e w60 ⟨rfl, hb⟩
          refine ⟨_, rfl, ?_⟩
          replace BK161 := A_ (bb_ BK161.out hb)
          replace BK165 := A_ (bb_ BK165.out hb)
          replace BK171 := A_ (bb_ BK171.out hb)
          replace HB := A_ (below_step (hb3_ HB.out GE161.out GE165.out GE171.out) hb);(try clear hb);(try clear hb2);(try clear hk);(try clear hi)
          refine hK.out _ _ ⟨bc_ BK171.out 0, bc_ BK171.out 1, bc_ BK171.out 2, bc_ BK171.out 3, bc_ BK171.out 4⟩ (fun hHeld => ?_)
          clear hK K
          refine norm_ (a' := ?_) ?_ ?_
          rotate_left
          ·show Act.put _ (some 62) _ = _
           simp only [Act.put, lI_, l0_, lS_, i64_w, i32_w]
           rfl
          refine pu_ 7 (some 65) #[true, true, true, true, true, true, true, true, false] rfl rfl (any_of HT_.out (by kernel_rfl)) ?_
          refine one_ (i := 8) (N := none) #[true, true, true, true, true, true, true, true, true] rfl rfl (one_of HT_.out (by kernel_rfl)) (by decide) (fun K hK => ?_)
          have hs61 : w60.cell? ⟨gb161, 0, none⟩ = some (.bool false) := bc_ BK161.out 0
          have hfs61 := blk_frozen BK161.out 0
          have hns61_1 := NB165_161.out
          have hns61_2 := NB171_161.out
          have hms61_1 := NB161_165.out
          have hms61_2 := NB161_171.out
          have hs62 : w60.cell? ⟨gb161, 1, none⟩ = some (.int .i64 0) := bc_ BK161.out 1
          have hfs62 := blk_frozen BK161.out 1
          have hns62_1 := NB165_161.out
          have hns62_2 := NB171_161.out
          have hms62_1 := NB161_165.out
          have hms62_2 := NB161_171.out
          have hs63 : w60.cell? ⟨gb161, 2, none⟩ = some (.int .i64 0) := bc_ BK161.out 2
          have hfs63 := blk_frozen BK161.out 2
          have hns63_1 := NB165_161.out
          have hns63_2 := NB171_161.out
          have hms63_1 := NB161_165.out
          have hms63_2 := NB161_171.out
          have hs64 : w60.cell? ⟨gb161, 3, none⟩ = some (.int .u64 0) := bc_ BK161.out 3
          have hfs64 := blk_frozen BK161.out 3
          have hns64_1 := NB165_161.out
          have hns64_2 := NB171_161.out
          have hms64_1 := NB161_165.out
          have hms64_2 := NB161_171.out
          refine skip_ (w1 := ?_) (by rfl) rfl ?_ ?_
          rotate_left
          ·go_simp
           rfl
          refine hK.out _ _ ⟨((cell_far (p := ⟨gb161, _, none⟩) NB171_161.out _).trans (((cell_far (p := ⟨gb161, _, none⟩) NB171_161.out _).trans (((cell_far (p := ⟨gb161, _, none⟩) NB171_161.out _).trans (((cell_far (p := ⟨gb161, _, none⟩) NB171_161.out _).trans (hHeld.1)))))))), ((cell_far (p := ⟨gb161, _, none⟩) NB171_161.out _).trans (((cell_far (p := ⟨gb161, _, none⟩) NB171_161.out _).trans (((cell_far (p := ⟨gb161, _, none⟩) NB171_161.out _).trans (((cell_far (p := ⟨gb161, _, none⟩) NB171_161.out _).trans (hHeld.2.1)))))))), ((cell_far (p := ⟨gb161, _, none⟩) NB171_161.out _).trans (((cell_far (p := ⟨gb161, _, none⟩) NB171_161.out _).trans (((cell_far (p := ⟨gb161, _, none⟩) NB171_161.out _).trans (((cell_far (p := ⟨gb161, _, none⟩) NB171_161.out _).trans (hHeld.2.2.1)))))))), ((cell_far (p := ⟨gb161, _, none⟩) NB171_161.out _).trans (((cell_far (p := ⟨gb161, _, none⟩) NB171_161.out _).trans (((cell_far (p := ⟨gb161, _, none⟩) NB171_161.out _).trans (((cell_far (p := ⟨gb161, _, none⟩) NB171_161.out _).trans (hHeld.2.2.2.1)))))))), ((cell_far (p := ⟨gb161, _, none⟩) NB171_161.out _).trans (((cell_far (p := ⟨gb161, _, none⟩) NB171_161.out _).trans (((cell_far (p := ⟨gb161, _, none⟩) NB171_161.out _).trans (((cell_far (p := ⟨gb161, _, none⟩) NB171_161.out _).trans (hHeld.2.2.2.2))))))))⟩ (fun hHeld => ?_)
          clear hK K
          refine done_ (done_of HT_.out (by kernel_rfl)) ?_
          try go_wp2
          refine bodyPost_ret (results_cell_row rfl _ _ gb161 27 #[.bool t168, .int .i64 1, .int .i64 t174, .int .u64 t170] (0, 0) _ rfl (by (with_reducible repeat (first | refine blk_drewN ?_ _ | refine blk_drew ?_ | refine blk_alloc ?_ _)); refine blk_put (cs := #[.bool t168, .int .i64 1, .int .i64 t174, .int .u64 0]) ?_ 3 _ rfl; (with_reducible repeat (first | refine blk_drewN ?_ _ | refine blk_drew ?_ | refine blk_alloc ?_ _)); refine blk_put (cs := #[.bool t168, .int .i64 1, .int .i64 0, .int .u64 0]) ?_ 2 _ rfl; (with_reducible repeat (first | refine blk_drewN ?_ _ | refine blk_drew ?_ | refine blk_alloc ?_ _)); refine blk_put (cs := #[.bool t168, .int .i64 0, .int .i64 0, .int .u64 0]) ?_ 1 _ rfl; (with_reducible repeat (first | refine blk_drewN ?_ _ | refine blk_drew ?_ | refine blk_alloc ?_ _)); refine blk_put (cs := #[.bool false, .int .i64 0, .int .i64 0, .int .u64 0]) ?_ 0 _ rfl; (with_reducible repeat (first | refine blk_drewN ?_ _ | refine blk_drew ?_ | refine blk_alloc ?_ _)); exact BK161.out) Tryz.underlying27 rfl (by kernel_rfl)) rfl ?_
          exact ⟨er_, hb3_ HB.out GE161.out GE165.out GE171.out⟩
         ·rw [if_neg c54] at H
          have c54b0 : (t169 == 0) = false := beq_eq_false_iff_ne.mpr c54
          have c54b1 : (t169 != 0) = true := bne_iff_ne.mpr c54
          replace H := ob_ H
          obtain ⟨t175, A650, H⟩ := H
          replace H : (if 0 ≤ t167 then (some (t168, 1, wrap64 ((wrap64 (t175 + (wrap64 (t169)))) - 1), Go.bits .or .u64 (shl .u64 1 t167) t170)) else (none)) = some (r1, r2, r3, r4) := H
          have A65 := A_ A650;clear A650
          by_cases c66 : 0 ≤ t167
          ·rw [if_pos c66] at H
           have c66b0 := eq_true c66
           have c66b1 : decide (0 ≤ t167) = true := decide_eq_true c66
           clear c66
           obtain ⟨ji67, hji67⟩ : ∃ j_ : Int, (shl .u64 1 t167) = j_ := ⟨_, rfl⟩
           replace H : (some (t168, 1, wrap64 ((wrap64 (t175 + (wrap64 (t169)))) - 1), Go.bits .or .u64 (ji67) t170)) = some (r1, r2, r3, r4) := by first | (rw [hji67] at H; exact H) | (simp only [hji67] at H ⊢; exact H)
           (try rw [hji67] at A65)
           have hji67_ : (IntKind.u64.wrap (1 * 2 ^ min t167.toNat 64)) = ji67 := hji67
           have hji67z : t167 ≤ 64 → (IntKind.u64.wrap (1 * 2 ^ t167.toNat)) = ji67 := shl_small hji67
           have hji67u : (IntKind.u64.wrap (2 ^ min t167.toNat 64)) = ji67 := by have h_ := hji67_; rw [Int.one_mul] at h_; exact h_
           have hji67v : t167 ≤ 64 → (IntKind.u64.wrap (2 ^ t167.toNat)) = ji67 := fun hle_ => by have h_ := hji67z hle_; rw [Int.one_mul] at h_; exact h_
           simp only [Option.some.injEq, Prod.mk.injEq] at H
           obtain ⟨rfl, rfl, rfl, rfl⟩ := H
           have hnb68 := NB171_161.out
           have hnc68 := NB161_171.out
           have hnb69 := NB171_165.out
           have hnc69 := NB165_171.out
           have hcz70_0 := bv_ BK171.out 0
           have hcz70_1 := bv_ BK171.out 1
           have hcz70_2 := bv_ BK171.out 2
           have hcz70_3 := bv_ BK171.out 3
           have hcz70_4 := bv_ BK171.out 4
           have hfz70_0 := blk_frozen BK171.out 0
           have hfz70_1 := blk_frozen BK171.out 1
           have hfz70_2 := blk_frozen BK171.out 2
           have hfz70_3 := blk_frozen BK171.out 3
           have hfz70_4 := blk_frozen BK171.out 4
           try go_wp2
           replace BK161 := A_ (blk_drew BK161.out)
           replace BK165 := A_ (blk_drew BK165.out)
           replace BK171 := A_ (blk_drew BK171.out)
           replace HB := A_ (below_drew1 HB.out)
           refine start_ (n := 19) (S := fun w' => w'.cell? ⟨gb171, 0, none⟩ = some (.int .i64 t166) ∧ w'.cell? ⟨gb171, 1, none⟩ = some (.int .i64 t167) ∧ w'.cell? ⟨gb171, 2, none⟩ = some (.bool t168) ∧ w'.cell? ⟨gb171, 3, none⟩ = some (.int .u64 t169) ∧ w'.cell? ⟨gb171, 4, none⟩ = some (.int .u64 t170)) (ds := []) #[false, false, false, false, false, false, false, false, false, false, false, false, false, false, false, false, false, false, false] (by kernel_rfl) rfl rfl ⟨bc_ BK171.out 0, bc_ BK171.out 1, bc_ BK171.out 2, bc_ BK171.out 3, bc_ BK171.out 4⟩ (fun hHeld => ?_); refine with_tabW shape_Open.tab13 shape_Open.bits13 (fun HT_ HW_ => ?_)
           generalize wc.drew = w71 at BK161 BK165 BK171 HB hHeld ⊢
           refine pu_ 0 (some 66) #[true, false, false, false, false, false, false, false, false, false, false, false, false, false, false, false, false, false, false] rfl rfl (any_of HT_.out (by kernel_rfl)) ?_
           refine pu_ 2 (some 68) #[true, false, true, false, false, false, false, false, false, false, false, false, false, false, false, false, false, false, false] rfl rfl (any_of HT_.out (by kernel_rfl)) ?_
           refine pu_ 5 (some 71) #[true, false, true, false, false, true, false, false, false, false, false, false, false, false, false, false, false, false, false] rfl rfl (any_of HT_.out (by kernel_rfl)) ?_
           refine pu_ 10 (some 76) #[true, false, true, false, false, true, false, false, false, false, true, false, false, false, false, false, false, false, false] rfl rfl (any_of HT_.out (by kernel_rfl)) ?_
           refine pu_ 11 (some 77) #[true, false, true, false, false, true, false, false, false, false, true, true, false, false, false, false, false, false, false] rfl rfl (any_of HT_.out (by kernel_rfl)) ?_
           refine pu_ 14 (some 80) #[true, false, true, false, false, true, false, false, false, false, true, true, false, false, true, false, false, false, false] rfl rfl (any_of HT_.out (by kernel_rfl)) ?_
           refine tk5_ 1 (some 67) #[true, true, true, false, false, true, false, false, false, false, true, true, false, false, true, false, false, false, false] rfl rfl (take_ofW HT_.out HW_.out (by kernel_rfl)) hHeld ?_
           refine tk5_ 3 (some 69) #[true, true, true, true, false, true, false, false, false, false, true, true, false, false, true, false, false, false, false] rfl rfl (take_ofW HT_.out HW_.out (by kernel_rfl)) hHeld ?_
           refine tk5_ 6 (some 72) #[true, true, true, true, false, true, true, false, false, false, true, true, false, false, true, false, false, false, false] rfl rfl (take_ofW HT_.out HW_.out (by kernel_rfl)) hHeld ?_
           refine pu_ 7 (some 73) #[true, true, true, true, false, true, true, true, false, false, true, true, false, false, true, false, false, false, false] rfl rfl (any_of HT_.out (by kernel_rfl)) ?_
           refine tk5_ 12 (some 78) #[true, true, true, true, false, true, true, true, false, false, true, true, true, false, true, false, false, false, false] rfl rfl (take_ofW HT_.out HW_.out (by kernel_rfl)) hHeld ?_
           refine pu_ 13 (some 79) #[true, true, true, true, false, true, true, true, false, false, true, true, true, true, true, false, false, false, false] rfl rfl (any_of HT_.out (by kernel_rfl)) ?_
           refine tk5_ 15 (some 81) #[true, true, true, true, false, true, true, true, false, false, true, true, true, true, true, true, false, false, false] rfl rfl (take_ofW HT_.out HW_.out (by kernel_rfl)) hHeld ?_
           refine pu_ 16 (some 82) #[true, true, true, true, false, true, true, true, false, false, true, true, true, true, true, true, true, false, false] rfl rfl (any_of HT_.out (by kernel_rfl)) ?_
           refine one_ (i := 4) (N := some 70) #[true, true, true, true, true, true, true, true, false, false, true, true, true, true, true, true, true, false, false] rfl rfl (one_of HT_.out (by kernel_rfl)) (by decide) (fun K hK => ?_)
           refine goes_ Tryz.func38 (by kernel_rfl) rfl #[.agg #[.int .i64 t166, .int .i64 t167]] (by rfl) rfl rfl mp_ ?_
           with_reducible refine (shape_format_low.calls t166 t167 t175 _ A65.out).mono ?_
           rintro e w72 ⟨rfl, hb⟩
           refine ⟨_, rfl, ?_⟩
           replace BK161 := A_ (bb_ BK161.out hb)
           replace BK165 := A_ (bb_ BK165.out hb)
           replace BK171 := A_ (bb_ BK171.out hb)
           replace HB := A_ (below_step (hb3_ HB.out GE161.out GE165.out GE171.out) hb);(try clear hb);(try clear hb2);(try clear hk);(try clear hi)
           refine hK.out _ _ ⟨bc_ BK171.out 0, bc_ BK171.out 1, bc_ BK171.out 2, bc_ BK171.out 3, bc_ BK171.out 4⟩ (fun hHeld => ?_)
           clear hK K
           refine norm_ (a' := ?_) ?_ ?_
           rotate_left
           ·show Act.put _ (some 70) _ = _
            simp only [Act.put, lI_, l0_, lS_, i64_w, i32_w]
            rfl
           refine pu_ 8 (some 74) #[true, true, true, true, true, true, true, true, true, false, true, true, true, true, true, true, true, false, false] rfl rfl (any_of HT_.out (by kernel_rfl)) ?_
           refine pu_ 9 (some 75) #[true, true, true, true, true, true, true, true, true, true, true, true, true, true, true, true, true, false, false] rfl rfl (any_of HT_.out (by kernel_rfl)) ?_
           refine pu_ 17 (some 83) #[true, true, true, true, true, true, true, true, true, true, true, true, true, true, true, true, true, true, false] rfl rfl (any_of HT_.out (by kernel_rfl)) ?_
           refine one_ (i := 18) (N := none) #[true, true, true, true, true, true, true, true, true, true, true, true, true, true, true, true, true, true, true] rfl rfl (one_of HT_.out (by kernel_rfl)) (by decide) (fun K hK => ?_)
           have hs73 : w72.cell? ⟨gb161, 0, none⟩ = some (.bool false) := bc_ BK161.out 0
           have hfs73 := blk_frozen BK161.out 0
           have hns73_1 := NB165_161.out
           have hns73_2 := NB171_161.out
           have hms73_1 := NB161_165.out
           have hms73_2 := NB161_171.out
           have hs74 : w72.cell? ⟨gb161, 1, none⟩ = some (.int .i64 0) := bc_ BK161.out 1
           have hfs74 := blk_frozen BK161.out 1
           have hns74_1 := NB165_161.out
           have hns74_2 := NB171_161.out
           have hms74_1 := NB161_165.out
           have hms74_2 := NB161_171.out
           have hs75 : w72.cell? ⟨gb161, 2, none⟩ = some (.int .i64 0) := bc_ BK161.out 2
           have hfs75 := blk_frozen BK161.out 2
           have hns75_1 := NB165_161.out
           have hns75_2 := NB171_161.out
           have hms75_1 := NB161_165.out
           have hms75_2 := NB161_171.out
           have hs76 : w72.cell? ⟨gb161, 3, none⟩ = some (.int .u64 0) := bc_ BK161.out 3
           have hfs76 := blk_frozen BK161.out 3
           have hns76_1 := NB165_161.out
           have hns76_2 := NB171_161.out
           have hms76_1 := NB161_165.out
           have hms76_2 := NB161_171.out
           refine skip_ (w1 := ?_) (by rfl) rfl ?_ ?_
           rotate_left
           ·go_simp
            rfl
           refine hK.out _ _ ⟨((cell_far (p := ⟨gb161, _, none⟩) NB171_161.out _).trans (((cell_far (p := ⟨gb161, _, none⟩) NB171_161.out _).trans (((cell_far (p := ⟨gb161, _, none⟩) NB171_161.out _).trans (((cell_far (p := ⟨gb161, _, none⟩) NB171_161.out _).trans (hHeld.1)))))))), ((cell_far (p := ⟨gb161, _, none⟩) NB171_161.out _).trans (((cell_far (p := ⟨gb161, _, none⟩) NB171_161.out _).trans (((cell_far (p := ⟨gb161, _, none⟩) NB171_161.out _).trans (((cell_far (p := ⟨gb161, _, none⟩) NB171_161.out _).trans (hHeld.2.1)))))))), ((cell_far (p := ⟨gb161, _, none⟩) NB171_161.out _).trans (((cell_far (p := ⟨gb161, _, none⟩) NB171_161.out _).trans (((cell_far (p := ⟨gb161, _, none⟩) NB171_161.out _).trans (((cell_far (p := ⟨gb161, _, none⟩) NB171_161.out _).trans (hHeld.2.2.1)))))))), ((cell_far (p := ⟨gb161, _, none⟩) NB171_161.out _).trans (((cell_far (p := ⟨gb161, _, none⟩) NB171_161.out _).trans (((cell_far (p := ⟨gb161, _, none⟩) NB171_161.out _).trans (((cell_far (p := ⟨gb161, _, none⟩) NB171_161.out _).trans (hHeld.2.2.2.1)))))))), ((cell_far (p := ⟨gb161, _, none⟩) NB171_161.out _).trans (((cell_far (p := ⟨gb161, _, none⟩) NB171_161.out _).trans (((cell_far (p := ⟨gb161, _, none⟩) NB171_161.out _).trans (((cell_far (p := ⟨gb161, _, none⟩) NB171_161.out _).trans (hHeld.2.2.2.2))))))))⟩ (fun hHeld => ?_)
           clear hK K
           refine done_ (done_of HT_.out (by kernel_rfl)) ?_
           try go_wp2
           refine bodyPost_ret (results_cell_row rfl _ _ gb161 27 #[.bool t168, .int .i64 1, .int .i64 (wrap64 ((wrap64 (t175 + (wrap64 (t169)))) - 1)), .int .u64 (Go.bits .or .u64 (ji67) t170)] (0, 0) _ rfl (by (with_reducible repeat (first | refine blk_drewN ?_ _ | refine blk_drew ?_ | refine blk_alloc ?_ _)); refine blk_put (cs := #[.bool t168, .int .i64 1, .int .i64 (wrap64 ((wrap64 (t175 + (wrap64 (t169)))) - 1)), .int .u64 0]) ?_ 3 _ rfl; (with_reducible repeat (first | refine blk_drewN ?_ _ | refine blk_drew ?_ | refine blk_alloc ?_ _)); refine blk_put (cs := #[.bool t168, .int .i64 1, .int .i64 0, .int .u64 0]) ?_ 2 _ rfl; (with_reducible repeat (first | refine blk_drewN ?_ _ | refine blk_drew ?_ | refine blk_alloc ?_ _)); refine blk_put (cs := #[.bool t168, .int .i64 0, .int .i64 0, .int .u64 0]) ?_ 1 _ rfl; (with_reducible repeat (first | refine blk_drewN ?_ _ | refine blk_drew ?_ | refine blk_alloc ?_ _)); refine blk_put (cs := #[.bool false, .int .i64 0, .int .i64 0, .int .u64 0]) ?_ 0 _ rfl; (with_reducible repeat (first | refine blk_drewN ?_ _ | refine blk_drew ?_ | refine blk_alloc ?_ _)); exact BK161.out) Tryz.underlying27 rfl (by kernel_rfl)) rfl ?_
           exact ⟨by first | rfl | (simp [errW_none, errW_some] <;> rfl) | (simp only [← hji67]; first | rfl | (simp [errW_none, errW_some] <;> rfl)) | (simp [*, errW_none, errW_some] <;> rfl), hb3_ HB.out GE161.out GE165.out GE171.out⟩
          ·rw [if_neg c66] at H
           exact absurd H (by simp)
 ·replace c4 := Bool.eq_false_iff.mpr c4
  subst c4
  have H1 : (some (false, 0, 0, 0)) = some (r1, r2, r3, r4) := by rw [if_neg (show ¬ (false = true) by decide)] at H; exact H
  clear H;have H := H1;clear H1
  simp only [Option.some.injEq, Prod.mk.injEq] at H
  obtain ⟨rfl, rfl, rfl, rfl⟩ := H
  go_enter Tryz.func10, Tryz.ntmps10
  go_wp2_with (first | ((with_reducible refine gate_dst (N := 4) rfl ?_); refine be_ 4 #[.bool false, .int .i64 0, .int .i64 0, .int .u64 0] 27 ?_; intro gb161 hg w77 hbox hb; have BK161 := A_ (hbox); have GW161 := A_ (sz_ hg (hb_ HB.out)); have GE161 := A_ (sz_ hg (hb_ HB.out)); replace HB := A_ (below_step (hb_ HB.out) hb); clear hb hbox hg) | ((with_reducible refine gate_callee (f := 35) rfl ?_); refine goesL_ (some 10) rfl rfl Tryz.func35 (by kernel_rfl) rfl #[.int .i64 a0] rfl mp_ ?_; (with_reducible refine (shape_of.calls a0 t162 t163 false _ A3.out).mono ?_); rintro e w78 ⟨rfl, hb⟩; refine ⟨_, rfl, ?_⟩; replace BK161 := A_ (bb_ BK161.out hb); replace HB := A_ (below_step (hb1_ HB.out GE161.out) hb); (try clear hb); (try clear hb2); (try clear hk); (try clear hi)) | ((with_reducible refine gate_dst (N := 5) rfl ?_); refine be_ 5 #[.int .i64 0, .int .i64 0] 65 ?_; intro gb165 hg w79 hbox hb; have BK165 := A_ (hbox); have GW165 := A_ (sz_ hg (hb1_ HB.out GE161.out)); have GE165 := A_ (sz_ hg (hb1_ HB.out GE161.out)); have NB161_165 := A_ (nl_ hg BK161.out); have NB165_161 := A_ (ng_ hg BK161.out); replace BK161 := A_ (bb_ BK161.out hb); replace HB := A_ (below_step (hb1_ HB.out GE161.out) hb); clear hb hbox hg; have hnb80 := NB165_161.out; have hnc80 := NB161_165.out; have hcz81_0 := bv_ BK165.out 0; have hcz81_1 := bv_ BK165.out 1; have hfz81_0 := blk_frozen BK165.out 0; have hfz81_1 := blk_frozen BK165.out 1; have hcz82_0 := bv_ BK161.out 0; have hcz82_1 := bv_ BK161.out 1; have hcz82_2 := bv_ BK161.out 2; have hcz82_3 := bv_ BK161.out 3; have hfz82_0 := blk_frozen BK161.out 0; have hfz82_1 := blk_frozen BK161.out 1; have hfz82_2 := blk_frozen BK161.out 2; have hfz82_3 := blk_frozen BK161.out 3))
  refine bodyPost_ret (results_cell_row rfl _ _ gb161 27 #[.bool false, .int .i64 0, .int .i64 0, .int .u64 0] (0, 0) _ rfl (by (with_reducible repeat (first | refine blk_drewN ?_ _ | refine blk_drew ?_ | refine blk_alloc ?_ _)); refine blk_put (cs := #[.bool false, .int .i64 0, .int .i64 0, .int .u64 0]) ?_ 3 _ rfl; (with_reducible repeat (first | refine blk_drewN ?_ _ | refine blk_drew ?_ | refine blk_alloc ?_ _)); refine blk_put (cs := #[.bool false, .int .i64 0, .int .i64 0, .int .u64 0]) ?_ 2 _ rfl; (with_reducible repeat (first | refine blk_drewN ?_ _ | refine blk_drew ?_ | refine blk_alloc ?_ _)); refine blk_put (cs := #[.bool false, .int .i64 0, .int .i64 0, .int .u64 0]) ?_ 1 _ rfl; (with_reducible repeat (first | refine blk_drewN ?_ _ | refine blk_drew ?_ | refine blk_alloc ?_ _)); refine blk_put (cs := #[.bool false, .int .i64 0, .int .i64 0, .int .u64 0]) ?_ 0 _ rfl; (with_reducible repeat (first | refine blk_drewN ?_ _ | refine blk_drew ?_ | refine blk_alloc ?_ _)); refine blk_far ?_ NB161_165.out _; (with_reducible repeat (first | refine blk_drewN ?_ _ | refine blk_drew ?_ | refine blk_alloc ?_ _)); refine blk_far ?_ NB161_165.out _; (with_reducible repeat (first | refine blk_drewN ?_ _ | refine blk_drew ?_ | refine blk_alloc ?_ _)); exact BK161.out) Tryz.underlying27 rfl (by kernel_rfl)) rfl ?_
  exact ⟨er_, hb2_ HB.out GE161.out GE165.out⟩
end Go.Proofs.YtnmlmgmljoncoaaGreatDoor.PA
section
set_option linter.unusedVariables false
set_option linter.unusedSimpArgs false
namespace Go.Proofs.YtnmlmgmljoncoaaGreatDoor.Th
open Go.RowKit Go.Proofs.YtnmlmgmljoncoaaGreatDoorW.PrintWords Go.Proofs.YtnmlmgmljoncoaaGreatDoorW.PrintLast Go.Proofs.YtnmlmgmljoncoaaGreatDoorW.PrintMore Go.Proofs.YtnmlmgmljoncoaaGreatDoor.PA Bit Flo
def f32 : Fmt := ⟨23, -149, 255, by decide, by decide⟩
def f64 : Fmt := ⟨52, -1074, 2047, by decide, by decide⟩
def fmt (w : Int) : Fmt := if w = 32 then f32 else f64
theorem fmt32 : fmt 32 = f32 := rfl
theorem fmt64 : fmt 64 = f64 := rfl
def opn (w : Int) (a : Nat) : Bool × Int × Int × Int :=
  let F := fmt w
  let m := magN w a
  if m = 0 then (sgB w a, 0, 0, 0) else if m < F.inf then (sgB w a, 1, F.ex m, (F.sg m : Int)) else if m = F.inf then (sgB w a, 2, 0, 0) else (false, 3, 0, 0)

theorem ones32 : shape_format_ones.f 8 23 = some 255 := by decide +kernel
theorem low32 : shape_format_low.f 8 23 = some (-149) := by decide +kernel
theorem inf32 : f32.inf = 2139095040 := by decide
theorem sg32 (m : Nat) : f32.sg m = if m < 8388608 then m else 8388608 + m % 8388608 := by
  unfold Fmt.sg; rw [show (2 : Nat) ^ f32.f = 8388608 by decide]
theorem ex32 (m : Nat) : f32.ex m = if m < 8388608 then (-149 : Int) else ((m / 8388608 : Nat) : Int) - 1 + (-149) := by
  unfold Fmt.ex; rw [show (2 : Nat) ^ f32.f = 8388608 by decide]; rfl
theorem opn32 (a : Nat) : opn 32 a = if a % 2147483648 = 0 then (decide (a / 2147483648 % 2 = 1), 0, 0, 0) else if a % 2147483648 < 2139095040 then (decide (a / 2147483648 % 2 = 1), 1, (if a % 2147483648 < 8388608 then (-149 : Int) else ((a % 2147483648 / 8388608 : Nat) : Int) - 1 + (-149)), ((if a % 2147483648 < 8388608 then a % 2147483648 else 8388608 + a % 2147483648 % 8388608 : Nat) : Int))
    else if a % 2147483648 = 2139095040 then (decide (a / 2147483648 % 2 = 1), 2, 0, 0) else (false, 3, 0, 0) := by
  unfold opn
  simp only [show fmt 32 = f32 from rfl, inf32, sg32, ex32, magN, sgB, show sb 32 = 2147483648 by decide]
theorem split32 (a : Nat) (ha : a < 18446744073709551616) : shape_format_split.f 8 23 a = some (8, 23, decide (a / 2147483648 % 2 = 1), ((a / 8388608 % 256 : Nat) : Int), ((a % 8388608 : Nat) : Int)) := by
  unfold shape_format_split.f
  rw [show wrap64 (8 + 23) = 31 by decide +kernel, if_pos (by decide), if_pos (by decide), ones32, Option.bind_some]
  have e1 : shr .u64 (a : Int) 31 = ((a / 2147483648 : Nat) : Int) := by
    unfold shr; rw [show min (31 : Int).toNat IntKind.u64.bits = 31 by decide, show (2 : Int) ^ 31 = 2147483648 by decide]; omega
  have e2 : shr .u64 (a : Int) 23 = ((a / 8388608 : Nat) : Int) := by
    unfold shr; rw [show min (23 : Int).toNat IntKind.u64.bits = 23 by decide, show (2 : Int) ^ 23 = 8388608 by decide]; omega
  have e3 : IntKind.u64.wrap ((shl .u64 1 23) - 1) = ((8388607 : Nat) : Int) := by decide +kernel
  rw [e1, e2, e3, show (1 : Int) = ((1 : Nat) : Int) from rfl, show (255 : Int) = ((255 : Nat) : Int) from rfl,
    u64_and_nat _ 1 (by omega) (by decide), u64_and_nat _ 255 (by omega) (by decide), u64_and_nat a 8388607 ha (by decide)]
  have h1 := and_low (a / 2147483648) 1
  have h2 := and_low (a / 8388608) 8
  have h3 := and_low a 23
  rw [show (2 : Nat) ^ 1 - 1 = 1 by decide, show (2 : Nat) ^ 1 = 2 by decide] at h1
  rw [show (2 : Nat) ^ 8 - 1 = 255 by decide, show (2 : Nat) ^ 8 = 256 by decide] at h2
  rw [show (2 : Nat) ^ 23 - 1 = 8388607 by decide, show (2 : Nat) ^ 23 = 8388608 by decide] at h3
  rw [h1, h2, h3]
  have hb : ((((a / 2147483648 % 2 : Nat) : Int) == ((1 : Nat) : Int)) : Bool) = decide (a / 2147483648 % 2 = 1) := by
    rw [Bool.eq_iff_iff]; simp; omega
  rw [hb]
theorem open32 (a : Nat) (ha : a < 18446744073709551616) : Ev (fun k => shape_Open.f k 32 a) (opn 32 a) := by
  rw [opn32]
  unfold shape_Open.f
  refine Ev.bs (show shape_of.f 32 = some (8, 23, true) by decide) (Ev.pos rfl (Ev.bs (split32 a ha) (Ev.bs ones32 ?_)))
  simp only
  have hP : a % 2147483648 % 8388608 = a % 8388608 := by omega
  have hQ : a % 2147483648 / 8388608 = a / 8388608 % 256 := by omega
  have hT : a / 8388608 % 256 < 256 := Nat.mod_lt _ (by decide)
  have hE : a % 2147483648 = a / 8388608 % 256 * 8388608 + a % 8388608 := by omega
  rw [hP, hQ, hE]
  generalize a / 8388608 % 256 = e at *
  have hF : a % 8388608 < 8388608 := Nat.mod_lt _ (by decide)
  generalize a % 8388608 = fr at *
  generalize decide (a / 2147483648 % 2 = 1) = s
  by_cases h1 : e = 255
  · subst h1
    refine Ev.pos rfl ?_
    refine Ev.step (fun _ => shape_Open.j0.eq_2 ..) ?_
    by_cases h2 : fr = 0
    · subst h2
      refine Ev.neg (by decide) (Ev.bs ones32 (Ev.pos rfl (Ev.out ?_)))
      rw [if_neg (by omega), if_neg (by omega), if_pos (by omega)]
    · refine Ev.pos (by simp; omega) (Ev.out ?_)
      rw [if_neg (by omega), if_neg (by omega), if_neg (by omega)]
  · refine Ev.neg (by omega) ?_
    refine Ev.step (fun _ => shape_Open.j0.eq_2 ..) ?_
    refine Ev.neg (by decide) (Ev.bs ones32 (Ev.neg (by omega) ?_))
    by_cases h2 : e = 0
    · subst h2
      refine Ev.pos rfl (Ev.step (fun _ => shape_Open.j1.eq_2 ..) ?_)
      by_cases h3 : fr = 0
      · subst h3
        refine Ev.pos (by decide) (Ev.out ?_)
        rw [Nat.zero_mul, Nat.zero_add, if_pos rfl]
      · refine Ev.neg (by simp; omega) (Ev.pos rfl (Ev.bs low32 (Ev.out ?_)))
        rw [if_neg (by omega), if_pos (by omega), if_pos (by omega), if_pos (by omega)]
        simp
    · refine Ev.neg (by omega) (Ev.step (fun _ => shape_Open.j1.eq_2 ..) ?_)
      refine Ev.neg (by decide) (Ev.neg (by omega) (Ev.bs low32 (Ev.pos (by decide) (Ev.out ?_))))
      rw [if_neg (by omega), if_pos (by omega), if_neg (by omega), if_neg (by omega)]
      rw [w64_id (n := ((e : Nat) : Int)) (by omega) (by omega), w64_id (n := (-149 : Int) + _) (by omega) (by omega), w64_id (by omega) (by omega)]
      have e4 : shl .u64 1 23 = ((8388608 : Nat) : Int) := by decide +kernel
      rw [e4, u64_or_nat _ _ (by decide) (by omega)]
      have h4 := or_pow fr 1 23 (by rw [show (2 : Nat) ^ 23 = 8388608 by decide]; exact hF)
      rw [Nat.one_mul, show (2 : Nat) ^ 23 = 8388608 by decide, Nat.or_comm] at h4
      rw [h4, Nat.add_comm fr]
      congr 2
      congr 1
      omega

theorem ones64 : shape_format_ones.f 11 52 = some 2047 := by decide +kernel
theorem low64 : shape_format_low.f 11 52 = some (-1074) := by decide +kernel
theorem inf64 : f64.inf = 9218868437227405312 := by decide
theorem sg64 (m : Nat) : f64.sg m = if m < 4503599627370496 then m else 4503599627370496 + m % 4503599627370496 := by
  unfold Fmt.sg; rw [show (2 : Nat) ^ f64.f = 4503599627370496 by decide]
theorem ex64 (m : Nat) : f64.ex m = if m < 4503599627370496 then (-1074 : Int) else ((m / 4503599627370496 : Nat) : Int) - 1 + (-1074) := by
  unfold Fmt.ex; rw [show (2 : Nat) ^ f64.f = 4503599627370496 by decide]; rfl
theorem opn64 (a : Nat) : opn 64 a = if a % 9223372036854775808 = 0 then (decide (a / 9223372036854775808 % 2 = 1), 0, 0, 0) else if a % 9223372036854775808 < 9218868437227405312 then (decide (a / 9223372036854775808 % 2 = 1), 1, (if a % 9223372036854775808 < 4503599627370496 then (-1074 : Int) else ((a % 9223372036854775808 / 4503599627370496 : Nat) : Int) - 1 + (-1074)), ((if a % 9223372036854775808 < 4503599627370496 then a % 9223372036854775808 else 4503599627370496 + a % 9223372036854775808 % 4503599627370496 : Nat) : Int))
    else if a % 9223372036854775808 = 9218868437227405312 then (decide (a / 9223372036854775808 % 2 = 1), 2, 0, 0) else (false, 3, 0, 0) := by
  unfold opn
  simp only [show fmt 64 = f64 from rfl, inf64, sg64, ex64, magN, sgB, show sb 64 = 9223372036854775808 by decide]
theorem split64 (a : Nat) (ha : a < 18446744073709551616) : shape_format_split.f 11 52 a = some (11, 52, decide (a / 9223372036854775808 % 2 = 1), ((a / 4503599627370496 % 2048 : Nat) : Int), ((a % 4503599627370496 : Nat) : Int)) := by
  unfold shape_format_split.f
  rw [show wrap64 (11 + 52) = 63 by decide +kernel, if_pos (by decide), if_pos (by decide), ones64, Option.bind_some]
  have e1 : shr .u64 (a : Int) 63 = ((a / 9223372036854775808 : Nat) : Int) := by
    unfold shr; rw [show min (63 : Int).toNat IntKind.u64.bits = 63 by decide, show (2 : Int) ^ 63 = 9223372036854775808 by decide]; omega
  have e2 : shr .u64 (a : Int) 52 = ((a / 4503599627370496 : Nat) : Int) := by
    unfold shr; rw [show min (52 : Int).toNat IntKind.u64.bits = 52 by decide, show (2 : Int) ^ 52 = 4503599627370496 by decide]; omega
  have e3 : IntKind.u64.wrap ((shl .u64 1 52) - 1) = ((4503599627370495 : Nat) : Int) := by decide +kernel
  rw [e1, e2, e3, show (1 : Int) = ((1 : Nat) : Int) from rfl, show (2047 : Int) = ((2047 : Nat) : Int) from rfl,
    u64_and_nat _ 1 (by omega) (by decide), u64_and_nat _ 2047 (by omega) (by decide), u64_and_nat a 4503599627370495 ha (by decide)]
  have h1 := and_low (a / 9223372036854775808) 1
  have h2 := and_low (a / 4503599627370496) 11
  have h3 := and_low a 52
  rw [show (2 : Nat) ^ 1 - 1 = 1 by decide, show (2 : Nat) ^ 1 = 2 by decide] at h1
  rw [show (2 : Nat) ^ 11 - 1 = 2047 by decide, show (2 : Nat) ^ 11 = 2048 by decide] at h2
  rw [show (2 : Nat) ^ 52 - 1 = 4503599627370495 by decide, show (2 : Nat) ^ 52 = 4503599627370496 by decide] at h3
  rw [h1, h2, h3]
  have hb : ((((a / 9223372036854775808 % 2 : Nat) : Int) == ((1 : Nat) : Int)) : Bool) = decide (a / 9223372036854775808 % 2 = 1) := by
    rw [Bool.eq_iff_iff]; simp; omega
  rw [hb]
theorem open64 (a : Nat) (ha : a < 18446744073709551616) : Ev (fun k => shape_Open.f k 64 a) (opn 64 a) := by
  rw [opn64]
  unfold shape_Open.f
  refine Ev.bs (show shape_of.f 64 = some (11, 52, true) by decide) (Ev.pos rfl (Ev.bs (split64 a ha) (Ev.bs ones64 ?_)))
  simp only
  have hP : a % 9223372036854775808 % 4503599627370496 = a % 4503599627370496 := by omega
  have hQ : a % 9223372036854775808 / 4503599627370496 = a / 4503599627370496 % 2048 := by omega
  have hT : a / 4503599627370496 % 2048 < 2048 := Nat.mod_lt _ (by decide)
  have hE : a % 9223372036854775808 = a / 4503599627370496 % 2048 * 4503599627370496 + a % 4503599627370496 := by omega
  rw [hP, hQ, hE]
  generalize a / 4503599627370496 % 2048 = e at *
  have hF : a % 4503599627370496 < 4503599627370496 := Nat.mod_lt _ (by decide)
  generalize a % 4503599627370496 = fr at *
  generalize decide (a / 9223372036854775808 % 2 = 1) = s
  by_cases h1 : e = 2047
  · subst h1
    refine Ev.pos rfl ?_
    refine Ev.step (fun _ => shape_Open.j0.eq_2 ..) ?_
    by_cases h2 : fr = 0
    · subst h2
      refine Ev.neg (by decide) (Ev.bs ones64 (Ev.pos rfl (Ev.out ?_)))
      rw [if_neg (by omega), if_neg (by omega), if_pos (by omega)]
    · refine Ev.pos (by simp; omega) (Ev.out ?_)
      rw [if_neg (by omega), if_neg (by omega), if_neg (by omega)]
  · refine Ev.neg (by omega) ?_
    refine Ev.step (fun _ => shape_Open.j0.eq_2 ..) ?_
    refine Ev.neg (by decide) (Ev.bs ones64 (Ev.neg (by omega) ?_))
    by_cases h2 : e = 0
    · subst h2
      refine Ev.pos rfl (Ev.step (fun _ => shape_Open.j1.eq_2 ..) ?_)
      by_cases h3 : fr = 0
      · subst h3
        refine Ev.pos (by decide) (Ev.out ?_)
        rw [Nat.zero_mul, Nat.zero_add, if_pos rfl]
      · refine Ev.neg (by simp; omega) (Ev.pos rfl (Ev.bs low64 (Ev.out ?_)))
        rw [if_neg (by omega), if_pos (by omega), if_pos (by omega), if_pos (by omega)]
        simp
    · refine Ev.neg (by omega) (Ev.step (fun _ => shape_Open.j1.eq_2 ..) ?_)
      refine Ev.neg (by decide) (Ev.neg (by omega) (Ev.bs low64 (Ev.pos (by decide) (Ev.out ?_))))
      rw [if_neg (by omega), if_pos (by omega), if_neg (by omega), if_neg (by omega)]
      rw [w64_id (n := ((e : Nat) : Int)) (by omega) (by omega), w64_id (n := (-1074 : Int) + _) (by omega) (by omega), w64_id (by omega) (by omega)]
      have e4 : shl .u64 1 52 = ((4503599627370496 : Nat) : Int) := by decide +kernel
      rw [e4, u64_or_nat _ _ (by decide) (by omega)]
      have h4 := or_pow fr 1 52 (by rw [show (2 : Nat) ^ 52 = 4503599627370496 by decide]; exact hF)
      rw [Nat.one_mul, show (2 : Nat) ^ 52 = 4503599627370496 by decide, Nat.or_comm] at h4
      rw [h4, Nat.add_comm fr]
      congr 2
      congr 1
      omega

theorem openS (w : Int) (hw : w = 32 ∨ w = 64) (a : Nat) (ha : a < 18446744073709551616) : Ev (fun k => shape_Open.f k w a) (opn w a) := by
  rcases hw with rfl | rfl
  · exact open32 a ha
  · exact open64 a ha
def nanN (w : Int) : Nat := if w = 32 then 2143289344 else 9221120237041090560

theorem join32 (s : Bool) (e fr : Nat) (he : e ≤ 255) (hf : fr < 8388608) : shape_format_join.f 8 23 s e fr = some ((mkN 32 (e * 8388608 + fr) s : Nat) : Int) := by
  unfold shape_format_join.f
  have hs : shape_format_sign.f 8 23 s = some ((((if s then 1 else 0) * 2 ^ 31 : Nat) : Int)) := by cases s <;> decide +kernel
  rw [hs, Option.bind_some, if_pos (by decide)]
  have e1 : shl .u64 (e : Int) 23 = ((e * 8388608 : Nat) : Int) := by
    unfold shl; rw [show min (23 : Int).toNat IntKind.u64.bits = 23 by decide, show (2 : Int) ^ 23 = 8388608 by decide, IntKind.wrap_u64]; omega
  rw [e1]
  have hc : (if s then 1 else 0) ≤ 1 := by cases s <;> decide
  have h2 : mkN 32 (e * 8388608 + fr) s = e * 8388608 + fr + (if s then 1 else 0) * 2147483648 := by
    unfold mkN; rw [show sb 32 = 2147483648 by decide]; cases s <;> simp
  rw [h2]
  generalize (if s then 1 else 0) = c at *
  rw [show (2 : Nat) ^ 31 = 2147483648 by decide, u64_or_nat _ _ (by omega) (by omega)]
  have h3 := or_pow (e * 8388608) c 31 (by rw [show (2 : Nat) ^ 31 = 2147483648 by decide]; omega)
  rw [show (2 : Nat) ^ 31 = 2147483648 by decide, Nat.or_comm] at h3
  rw [h3, u64_or_nat _ _ (by omega) (by omega)]
  have h4 := or_pow fr (e + c * 256) 23 (by rw [show (2 : Nat) ^ 23 = 8388608 by decide]; exact hf)
  rw [show (2 : Nat) ^ 23 = 8388608 by decide, Nat.or_comm, show (e + c * 256) * 8388608 = e * 8388608 + c * 2147483648 by omega] at h4
  rw [h4]
  congr 2
  omega
theorem shNan32 : shape_Nan.f 32 = some ((nanN 32 : Nat) : Int) := by
  unfold shape_Nan.f
  rw [show shape_of.f 32 = some (8, 23, true) by decide, Option.bind_some, if_pos rfl, ones32, Option.bind_some, if_pos (by decide +kernel)]
  have e1 : shl .u64 1 (wrap64 (23 - 1)) = ((4194304 : Nat) : Int) := by decide +kernel
  have e2 := join32 false 255 4194304 (by decide) (by decide)
  simp only [e1]
  rw [show (255 : Int) = ((255 : Nat) : Int) from rfl, e2, Option.bind_some]
  decide
theorem shInf32 (s : Bool) : shape_Inf.f 32 s = some ((mkN 32 f32.inf s : Nat) : Int) := by
  unfold shape_Inf.f
  rw [show shape_of.f 32 = some (8, 23, true) by decide, Option.bind_some, if_pos rfl, ones32, Option.bind_some]
  have e2 := join32 s 255 0 (by decide) (by decide)
  simp only
  rw [show (255 : Int) = ((255 : Nat) : Int) from rfl, show (0 : Int) = ((0 : Nat) : Int) from rfl, e2, Option.bind_some, inf32]
theorem shZero32 (s : Bool) : shape_Zero.f 32 s = some ((mkN 32 0 s : Nat) : Int) := by
  cases s <;> decide +kernel
theorem fin32 (s : Bool) (kd : Int) (m : Nat) (h0 : 0 < m) (hm : m < f32.inf) : Ev (fun k => shape_format_finite.f k 8 23 s kd (f32.ex m) (f32.sg m : Nat)) (((mkN 32 m s : Nat) : Int), true) := by
  rw [inf32] at hm
  rw [sg32, ex32]
  unfold shape_format_finite.f
  have e2 : shl .u64 2 23 = ((16777216 : Nat) : Int) := by decide +kernel
  have e3 : shl .u64 1 23 = ((8388608 : Nat) : Int) := by decide +kernel
  have e4 : IntKind.u64.wrap (((8388608 : Nat) : Int) - 1) = ((8388607 : Nat) : Int) := by decide +kernel
  have hmod : m % 8388608 < 8388608 := Nat.mod_lt _ (by decide)
  refine Ev.bs low32 ?_
  by_cases h1 : m < 8388608
  · rw [if_pos h1, if_pos h1]
    refine Ev.neg (by omega) (Ev.pos (by decide) (Ev.neg (by rw [e2]; omega) ?_))
    refine Ev.step (fun _ => shape_format_finite.j0.eq_2 ..) ?_
    refine Ev.neg (by simp) (Ev.pos (by decide) (Ev.pos (by rw [e3]; omega) ?_))
    have h2 := join32 s 0 m (by decide) h1
    rw [Nat.zero_mul, Nat.zero_add] at h2
    exact Ev.bs h2 (Ev.out (by simp))
  · rw [if_neg h1, if_neg h1]
    refine Ev.neg (by omega) (Ev.pos (by decide) (Ev.neg (by rw [e2]; omega) ?_))
    refine Ev.step (fun _ => shape_format_finite.j0.eq_2 ..) ?_
    refine Ev.neg (by simp; omega) (Ev.pos (by decide) (Ev.neg (by rw [e3]; omega) (Ev.bs ones32 ?_)))
    have hq : m / 8388608 ≤ 254 := by omega
    have hq0 : 1 ≤ m / 8388608 := by omega
    have hmm : m = m / 8388608 * 8388608 + m % 8388608 := by omega
    have h2 := join32 s (m / 8388608) (m % 8388608) (by omega) hmod
    rw [← hmm] at h2
    generalize m / 8388608 = e at *
    generalize m % 8388608 = fr at *
    rw [show ((e : Nat) : Int) - 1 + (-149) - (-149) = ((e - 1 : Nat) : Int) by omega, w64_id (n := ((e - 1 : Nat) : Int)) (by omega) (by omega), w64_id (n := (255 : Int)) (by decide) (by decide), show wrap64 ((255 : Int) - 2) = 253 by decide +kernel]
    refine Ev.neg (by omega) ?_
    rw [u64_id (n := ((e - 1 : Nat) : Int)) (by omega) (by omega), u64_id (n := ((e - 1 : Nat) : Int) + 1) (by omega) (by omega), show ((e - 1 : Nat) : Int) + 1 = (e : Int) by omega, e3, e4, u64_and_nat _ _ (by omega) (by decide)]
    have h5 := and_low (8388608 + fr) 23
    rw [show (2 : Nat) ^ 23 - 1 = 8388607 by decide, show (2 : Nat) ^ 23 = 8388608 by decide] at h5
    rw [h5, show (8388608 + fr) % 8388608 = fr by omega]
    exact Ev.bs h2 (Ev.out rfl)
theorem close32 (s : Bool) (m : Nat) (h0 : 0 < m) (hm : m < f32.inf) : Ev (fun k => shape_Close.f k 32 s 1 (f32.ex m) (f32.sg m : Nat)) (((mkN 32 m s : Nat) : Int), 0) := by
  unfold shape_Close.f
  refine Ev.bs (show shape_of.f 32 = some (8, 23, true) by decide) (Ev.pos rfl (Ev.pos rfl (Ev.bind (fin32 s 1 m h0 hm) (Ev.pos rfl (Ev.out rfl)))))
theorem join64 (s : Bool) (e fr : Nat) (he : e ≤ 2047) (hf : fr < 4503599627370496) : shape_format_join.f 11 52 s e fr = some ((mkN 64 (e * 4503599627370496 + fr) s : Nat) : Int) := by
  unfold shape_format_join.f
  have hs : shape_format_sign.f 11 52 s = some ((((if s then 1 else 0) * 2 ^ 63 : Nat) : Int)) := by cases s <;> decide +kernel
  rw [hs, Option.bind_some, if_pos (by decide)]
  have e1 : shl .u64 (e : Int) 52 = ((e * 4503599627370496 : Nat) : Int) := by
    unfold shl; rw [show min (52 : Int).toNat IntKind.u64.bits = 52 by decide, show (2 : Int) ^ 52 = 4503599627370496 by decide, IntKind.wrap_u64]; omega
  rw [e1]
  have hc : (if s then 1 else 0) ≤ 1 := by cases s <;> decide
  have h2 : mkN 64 (e * 4503599627370496 + fr) s = e * 4503599627370496 + fr + (if s then 1 else 0) * 9223372036854775808 := by
    unfold mkN; rw [show sb 64 = 9223372036854775808 by decide]; cases s <;> simp
  rw [h2]
  generalize (if s then 1 else 0) = c at *
  rw [show (2 : Nat) ^ 63 = 9223372036854775808 by decide, u64_or_nat _ _ (by omega) (by omega)]
  have h3 := or_pow (e * 4503599627370496) c 63 (by rw [show (2 : Nat) ^ 63 = 9223372036854775808 by decide]; omega)
  rw [show (2 : Nat) ^ 63 = 9223372036854775808 by decide, Nat.or_comm] at h3
  rw [h3, u64_or_nat _ _ (by omega) (by omega)]
  have h4 := or_pow fr (e + c * 2048) 52 (by rw [show (2 : Nat) ^ 52 = 4503599627370496 by decide]; exact hf)
  rw [show (2 : Nat) ^ 52 = 4503599627370496 by decide, Nat.or_comm, show (e + c * 2048) * 4503599627370496 = e * 4503599627370496 + c * 9223372036854775808 by omega] at h4
  rw [h4]
  congr 2
  omega
theorem shNan64 : shape_Nan.f 64 = some ((nanN 64 : Nat) : Int) := by
  unfold shape_Nan.f
  rw [show shape_of.f 64 = some (11, 52, true) by decide, Option.bind_some, if_pos rfl, ones64, Option.bind_some, if_pos (by decide +kernel)]
  have e1 : shl .u64 1 (wrap64 (52 - 1)) = ((2251799813685248 : Nat) : Int) := by decide +kernel
  have e2 := join64 false 2047 2251799813685248 (by decide) (by decide)
  simp only [e1]
  rw [show (2047 : Int) = ((2047 : Nat) : Int) from rfl, e2, Option.bind_some]
  decide
theorem shInf64 (s : Bool) : shape_Inf.f 64 s = some ((mkN 64 f64.inf s : Nat) : Int) := by
  unfold shape_Inf.f
  rw [show shape_of.f 64 = some (11, 52, true) by decide, Option.bind_some, if_pos rfl, ones64, Option.bind_some]
  have e2 := join64 s 2047 0 (by decide) (by decide)
  simp only
  rw [show (2047 : Int) = ((2047 : Nat) : Int) from rfl, show (0 : Int) = ((0 : Nat) : Int) from rfl, e2, Option.bind_some, inf64]
theorem shZero64 (s : Bool) : shape_Zero.f 64 s = some ((mkN 64 0 s : Nat) : Int) := by
  cases s <;> decide +kernel
theorem fin64 (s : Bool) (kd : Int) (m : Nat) (h0 : 0 < m) (hm : m < f64.inf) : Ev (fun k => shape_format_finite.f k 11 52 s kd (f64.ex m) (f64.sg m : Nat)) (((mkN 64 m s : Nat) : Int), true) := by
  rw [inf64] at hm
  rw [sg64, ex64]
  unfold shape_format_finite.f
  have e2 : shl .u64 2 52 = ((9007199254740992 : Nat) : Int) := by decide +kernel
  have e3 : shl .u64 1 52 = ((4503599627370496 : Nat) : Int) := by decide +kernel
  have e4 : IntKind.u64.wrap (((4503599627370496 : Nat) : Int) - 1) = ((4503599627370495 : Nat) : Int) := by decide +kernel
  have hmod : m % 4503599627370496 < 4503599627370496 := Nat.mod_lt _ (by decide)
  refine Ev.bs low64 ?_
  by_cases h1 : m < 4503599627370496
  · rw [if_pos h1, if_pos h1]
    refine Ev.neg (by omega) (Ev.pos (by decide) (Ev.neg (by rw [e2]; omega) ?_))
    refine Ev.step (fun _ => shape_format_finite.j0.eq_2 ..) ?_
    refine Ev.neg (by simp) (Ev.pos (by decide) (Ev.pos (by rw [e3]; omega) ?_))
    have h2 := join64 s 0 m (by decide) h1
    rw [Nat.zero_mul, Nat.zero_add] at h2
    exact Ev.bs h2 (Ev.out (by simp))
  · rw [if_neg h1, if_neg h1]
    refine Ev.neg (by omega) (Ev.pos (by decide) (Ev.neg (by rw [e2]; omega) ?_))
    refine Ev.step (fun _ => shape_format_finite.j0.eq_2 ..) ?_
    refine Ev.neg (by simp; omega) (Ev.pos (by decide) (Ev.neg (by rw [e3]; omega) (Ev.bs ones64 ?_)))
    have hq : m / 4503599627370496 ≤ 2046 := by omega
    have hq0 : 1 ≤ m / 4503599627370496 := by omega
    have hmm : m = m / 4503599627370496 * 4503599627370496 + m % 4503599627370496 := by omega
    have h2 := join64 s (m / 4503599627370496) (m % 4503599627370496) (by omega) hmod
    rw [← hmm] at h2
    generalize m / 4503599627370496 = e at *
    generalize m % 4503599627370496 = fr at *
    rw [show ((e : Nat) : Int) - 1 + (-1074) - (-1074) = ((e - 1 : Nat) : Int) by omega, w64_id (n := ((e - 1 : Nat) : Int)) (by omega) (by omega), w64_id (n := (2047 : Int)) (by decide) (by decide), show wrap64 ((2047 : Int) - 2) = 2045 by decide +kernel]
    refine Ev.neg (by omega) ?_
    rw [u64_id (n := ((e - 1 : Nat) : Int)) (by omega) (by omega), u64_id (n := ((e - 1 : Nat) : Int) + 1) (by omega) (by omega), show ((e - 1 : Nat) : Int) + 1 = (e : Int) by omega, e3, e4, u64_and_nat _ _ (by omega) (by decide)]
    have h5 := and_low (4503599627370496 + fr) 52
    rw [show (2 : Nat) ^ 52 - 1 = 4503599627370495 by decide, show (2 : Nat) ^ 52 = 4503599627370496 by decide] at h5
    rw [h5, show (4503599627370496 + fr) % 4503599627370496 = fr by omega]
    exact Ev.bs h2 (Ev.out rfl)
theorem close64 (s : Bool) (m : Nat) (h0 : 0 < m) (hm : m < f64.inf) : Ev (fun k => shape_Close.f k 64 s 1 (f64.ex m) (f64.sg m : Nat)) (((mkN 64 m s : Nat) : Int), 0) := by
  unfold shape_Close.f
  refine Ev.bs (show shape_of.f 64 = some (11, 52, true) by decide) (Ev.pos rfl (Ev.pos rfl (Ev.bind (fin64 s 1 m h0 hm) (Ev.pos rfl (Ev.out rfl)))))
theorem sb_inf (w : Int) (hw : w = 32 ∨ w = 64) : (fmt w).inf < sb w := by rcases hw with rfl | rfl <;> decide
end Go.Proofs.YtnmlmgmljoncoaaGreatDoor.Th
end
namespace Go.Proofs.YtnmlmgmljoncoaaGreatDoor.PA
open Go.RowKit Go.Proofs.YtnmlmgmljoncoaaGreatDoorW.PrintWords Go.Proofs.YtnmlmgmljoncoaaGreatDoorW.PrintLast Go.Proofs.YtnmlmgmljoncoaaGreatDoorW.PrintMore
attribute [local go_sem] max2_int min2_int max_two min_two max_three min_three max_four min_four   -- for this text's walks alone
set_option linter.unusedVariables false
set_option linter.unusedSimpArgs false
set_option maxHeartbeats 8000000
set_option maxRecDepth 100000
-- IMPORT Derived.Test.YtnmlmgmljoncoaaGreatDoorShelf
def bits_Mul64.f (a0 : Int) (a1 : Int) : Option (Int × Int) := if (0 ≤ a0 ∧ a0 < 18446744073709551616) ∧ (0 ≤ a1 ∧ a1 < 18446744073709551616) then some (((a0.toNat * a1.toNat / 18446744073709551616 : Nat) : Int), ((a0.toNat * a1.toNat % 18446744073709551616 : Nat) : Int)) else none
theorem bits_Mul64.calls (a0 : Int) (a1 : Int) (r1 : Int) (r2 : Int) (w : World) (h : bits_Mul64.f a0 a1 = some (r1, r2)) :
  Calls Tryz.prog 249 #[.int .u64 a0, .int .u64 a1] w fun e w' => e = .returned (.tuple #[.int .u64 r1, .int .u64 r2]) ∧ Drawn0 w w' := by
 unfold bits_Mul64.f at h
 split at h
 ·rename_i hr
  obtain ⟨⟨h0, h1⟩, h2, h3⟩ := hr
  obtain ⟨rfl, rfl⟩ := Prod.mk.inj (Option.some.inj h)
  obtain ⟨x, rfl⟩ := Int.eq_ofNat_of_zero_le h0
  obtain ⟨y, rfl⟩ := Int.eq_ofNat_of_zero_le h2
  refine (Tryz.bits_Mul64 x y (by omega) (by omega) w).mono ?_
  rintro e w' ⟨rfl, rfl⟩
  exact ⟨rfl, Drawn0.refl _⟩
 ·cases h
def wide_Mul.f (a0 : Int) (a1 : Int) : Option (Int × Int) := (bits_Mul64.f a0 a1).bind fun bt325 => (some (bt325.1, bt325.2))
theorem wide_Mul.calls (a0 : Int) (a1 : Int) (r1 : Int) (r2 : Int) (w : World) (h : wide_Mul.f a0 a1 = some (r1, r2)) :
  Calls Tryz.prog 220 #[.int .u64 a0, .int .u64 a1] w fun e w' => e = .returned (.agg #[.int .u64 r1, .int .u64 r2]) ∧ Below w.heap.size w w' := by
 have hu166 := Tryz.underlying166
 have HB := A_ (Below.refl w.heap.size w)
 have H : ((bits_Mul64.f a0 a1).bind fun bt325 => (some (bt325.1, bt325.2))) = some (r1, r2) := h
 clear h
 replace H := ob_ H
 obtain ⟨⟨t325, t326⟩, A30, H⟩ := H
 replace H : (some (t325, t326)) = some (r1, r2) := H
 have A3 := A_ A30;clear A30
 simp only [Option.some.injEq, Prod.mk.injEq] at H
 obtain ⟨rfl, rfl⟩ := H
 go_enter Tryz.func220, Tryz.ntmps220
 go_wp2_with (first | ((with_reducible refine gate_dst (N := 4) rfl ?_); refine be_ 4 #[.int .u64 0, .int .u64 0] 166 ?_; intro gb324 hg w4 hbox hb; have BK324 := A_ (hbox); have GW324 := A_ (sz_ hg (hb_ HB.out)); have GE324 := A_ (sz_ hg (hb_ HB.out)); replace HB := A_ (below_step (hb_ HB.out) hb); clear hb hbox hg) | ((with_reducible refine gate_callee (f := 249) rfl ?_); refine goesL_ (some 10) rfl rfl Tryz.func249 (by kernel_rfl) rfl #[.int .u64 a0, .int .u64 a1] rfl mp_ ?_; (with_reducible refine (bits_Mul64.calls a0 a1 t325 t326 _ A3.out).mono ?_); rintro e w' ⟨rfl, ⟨nd, rfl⟩⟩; refine ⟨_, rfl, ?_⟩; (try (rw [drewN_self w4]; generalize hq_ : World.drewN w4 _ = w4; have n0_ : Aside0 (w4.heap[gb324]? = some (.cells #[.int .u64 0, .int .u64 0] 166 (0, 0))) := ⟨by rw [← hq_]; exact (bk_ BK324.out)⟩; have n1_ : Aside0 (Below w.heap.size w w4) := ⟨by rw [← hq_]; exact (hb1_ HB.out GE324.out)⟩; clear BK324 HB hq_; have BK324 := n0_; have HB := n1_; clear n0_ n1_)); have hcz5_0 := bv_ BK324.out 0; have hcz5_1 := bv_ BK324.out 1; have hfz5_0 := blk_frozen BK324.out 0; have hfz5_1 := blk_frozen BK324.out 1))
 refine bodyPost_ret (results_cell_row rfl _ _ gb324 166 #[.int .u64 t325, .int .u64 t326] (0, 0) _ rfl (by (with_reducible repeat (first | refine blk_drewN ?_ _ | refine blk_drew ?_ | refine blk_alloc ?_ _)); refine blk_put (cs := #[.int .u64 t325, .int .u64 0]) ?_ 1 _ rfl; (with_reducible repeat (first | refine blk_drewN ?_ _ | refine blk_drew ?_ | refine blk_alloc ?_ _)); refine blk_put (cs := #[.int .u64 0, .int .u64 0]) ?_ 0 _ rfl; (with_reducible repeat (first | refine blk_drewN ?_ _ | refine blk_drew ?_ | refine blk_alloc ?_ _)); exact BK324.out) Tryz.underlying166 rfl (by kernel_rfl)) rfl ?_
 exact ⟨er_, hb1_ HB.out GE324.out⟩
def wide_order.f (a0 : Int) (a1 : Int) : Option (Int) := if a0 < a1 then (some (-1)) else (if a0 > a1 then (some 1) else (some 0))
theorem wide_order.calls (a0 : Int) (a1 : Int) (r : Int) (w : World) (h : wide_order.f a0 a1 = some r) :
  Calls Tryz.prog 260 #[.int .u64 a0, .int .u64 a1] w fun e w' => e = .returned (.int .i64 r) ∧ Drawn0 w w' := by
 have H : (if a0 < a1 then (some (-1)) else (if a0 > a1 then (some 1) else (some 0))) = some r := h
 clear h
 by_cases c3 : a0 < a1
 ·rw [if_pos c3] at H
  have c3b0 : decide (a0 < a1) = true := decide_eq_true c3
  clear c3
  obtain rfl := Option.some.inj H
  go_enter Tryz.func260, Tryz.ntmps260
  go_wp2
  go_ret
  exact ⟨sm_, by repeat (first | exact Drawn0.refl _ | apply Drawn0.step)⟩
 ·rw [if_neg c3] at H
  have c3b0 : decide (a0 < a1) = false := decide_eq_false c3
  clear c3
  by_cases c4 : a0 > a1
  ·rw [if_pos c4] at H
   have c4b0 : decide (a1 < a0) = true := decide_eq_true c4
   clear c4
   obtain rfl := Option.some.inj H
   go_enter Tryz.func260, Tryz.ntmps260
   go_wp2
   go_ret
   exact ⟨sm_, by repeat (first | exact Drawn0.refl _ | apply Drawn0.step)⟩
  ·rw [if_neg c4] at H
   have c4b0 : decide (a1 < a0) = false := decide_eq_false c4
   clear c4
   obtain rfl := Option.some.inj H
   go_enter Tryz.func260, Tryz.ntmps260
   go_wp2
   go_ret
   exact ⟨sm_, by repeat (first | exact Drawn0.refl _ | apply Drawn0.step)⟩
def wide_Cmp.f (a0_0 : Int) (a0_1 : Int) (a1_0 : Int) (a1_1 : Int) : Option (Int) := if a0_0 = a1_0 then ((wide_order.f a0_1 a1_1).bind fun t329 => (some t329)) else ((wide_order.f a0_0 a1_0).bind fun t330 => (some t330))
theorem wide_Cmp.calls (a0_0 : Int) (a0_1 : Int) (a1_0 : Int) (a1_1 : Int) (r : Int) (w : World) (h : wide_Cmp.f a0_0 a0_1 a1_0 a1_1 = some r) :
  Calls Tryz.prog 246 #[.agg #[.int .u64 a0_0, .int .u64 a0_1], .agg #[.int .u64 a1_0, .int .u64 a1_1]] w fun e w' => e = .returned (.int .i64 r) ∧ Below w.heap.size w w' := by
 have hu166 := Tryz.underlying166
 have HB := A_ (Below.refl w.heap.size w)
 have H : (if a0_0 = a1_0 then ((wide_order.f a0_1 a1_1).bind fun t329 => (some t329)) else ((wide_order.f a0_0 a1_0).bind fun t330 => (some t330))) = some r := h
 clear h
 by_cases c3 : a0_0 = a1_0
 ·rw [if_pos c3] at H
  have c3b0 : (a0_0 == a1_0) = true := beq_iff_eq.mpr c3
  have c3b1 : (a0_0 != a1_0) = false := bne_eq_false_iff_eq.mpr c3
  clear c3
  replace H := ob_ H
  obtain ⟨t329, A40, H⟩ := H
  replace H : (some t329) = some r := H
  have A4 := A_ A40;clear A40
  obtain rfl := Option.some.inj H
  go_enter Tryz.func246, Tryz.ntmps246
  go_wp2_with (first | ((with_reducible refine gate_dst (N := 2) rfl ?_); refine be_ 2 #[.int .u64 a0_0, .int .u64 a0_1] 166 ?_; intro gb327 hg w5 hbox hb; have BK327 := A_ (hbox); have GW327 := A_ (sz_ hg (hb_ HB.out)); have GE327 := A_ (sz_ hg (hb_ HB.out)); replace HB := A_ (below_step (hb_ HB.out) hb); clear hb hbox hg) | ((with_reducible refine gate_dst (N := 3) rfl ?_); refine be_ 3 #[.int .u64 a1_0, .int .u64 a1_1] 166 ?_; intro gb328 hg w6 hbox hb; have BK328 := A_ (hbox); have GW328 := A_ (sz_ hg (hb1_ HB.out GE327.out)); have GE328 := A_ (sz_ hg (hb1_ HB.out GE327.out)); have NB327_328 := A_ (nl_ hg BK327.out); have NB328_327 := A_ (ng_ hg BK327.out); replace BK327 := A_ (bb_ BK327.out hb); replace HB := A_ (below_step (hb1_ HB.out GE327.out) hb); clear hb hbox hg; have hnb7 := NB327_328.out; have hnc7 := NB328_327.out; have hcz8_0 := bv_ BK327.out 0; have hcz8_1 := bv_ BK327.out 1; have hfz8_0 := blk_frozen BK327.out 0; have hfz8_1 := blk_frozen BK327.out 1; have hcz9_0 := bv_ BK328.out 0; have hcz9_1 := bv_ BK328.out 1; have hfz9_0 := blk_frozen BK328.out 0; have hfz9_1 := blk_frozen BK328.out 1) | ((with_reducible refine gate_callee (f := 260) rfl ?_); refine goesL_ (some 19) rfl rfl Tryz.func260 (by kernel_rfl) rfl #[.int .u64 a0_1, .int .u64 a1_1] rfl mp_ ?_; (with_reducible refine (wide_order.calls a0_1 a1_1 t329 _ A4.out).mono ?_); rintro e w' ⟨rfl, ⟨nd, rfl⟩⟩; refine ⟨_, rfl, ?_⟩))
  go_ret
  exact ⟨er_, hb2_ HB.out GE327.out GE328.out⟩
 ·rw [if_neg c3] at H
  have c3b0 : (a0_0 == a1_0) = false := beq_eq_false_iff_ne.mpr c3
  have c3b1 : (a0_0 != a1_0) = true := bne_iff_ne.mpr c3
  replace H := ob_ H
  obtain ⟨t330, A100, H⟩ := H
  replace H : (some t330) = some r := H
  have A10 := A_ A100;clear A100
  obtain rfl := Option.some.inj H
  go_enter Tryz.func246, Tryz.ntmps246
  go_wp2_with (first | ((with_reducible refine gate_dst (N := 2) rfl ?_); refine be_ 2 #[.int .u64 a0_0, .int .u64 a0_1] 166 ?_; intro gb327 hg w11 hbox hb; have BK327 := A_ (hbox); have GW327 := A_ (sz_ hg (hb_ HB.out)); have GE327 := A_ (sz_ hg (hb_ HB.out)); replace HB := A_ (below_step (hb_ HB.out) hb); clear hb hbox hg) | ((with_reducible refine gate_dst (N := 3) rfl ?_); refine be_ 3 #[.int .u64 a1_0, .int .u64 a1_1] 166 ?_; intro gb328 hg w12 hbox hb; have BK328 := A_ (hbox); have GW328 := A_ (sz_ hg (hb1_ HB.out GE327.out)); have GE328 := A_ (sz_ hg (hb1_ HB.out GE327.out)); have NB327_328 := A_ (nl_ hg BK327.out); have NB328_327 := A_ (ng_ hg BK327.out); replace BK327 := A_ (bb_ BK327.out hb); replace HB := A_ (below_step (hb1_ HB.out GE327.out) hb); clear hb hbox hg; have hnb13 := NB327_328.out; have hnc13 := NB328_327.out; have hcz14_0 := bv_ BK327.out 0; have hcz14_1 := bv_ BK327.out 1; have hfz14_0 := blk_frozen BK327.out 0; have hfz14_1 := blk_frozen BK327.out 1; have hcz15_0 := bv_ BK328.out 0; have hcz15_1 := bv_ BK328.out 1; have hfz15_0 := blk_frozen BK328.out 0; have hfz15_1 := blk_frozen BK328.out 1) | ((with_reducible refine gate_callee (f := 260) rfl ?_); refine goesL_ (some 14) rfl rfl Tryz.func260 (by kernel_rfl) rfl #[.int .u64 a0_0, .int .u64 a1_0] rfl mp_ ?_; (with_reducible refine (wide_order.calls a0_0 a1_0 t330 _ A10.out).mono ?_); rintro e w' ⟨rfl, ⟨nd, rfl⟩⟩; refine ⟨_, rfl, ?_⟩))
  go_ret
  exact ⟨er_, hb2_ HB.out GE327.out GE328.out⟩
end Go.Proofs.YtnmlmgmljoncoaaGreatDoor.PA
