/- What the Go functions that the statement ChopBack reaches compute, and the mathematics on it, in the order in which one leans on the other; for every input. -/
import Derived.Test.YthdeeoallfbjmaaDoorVChopBack1
import Derived.Test.YthdeeoallfbjmaaDoorMChopBack0
import Derived.Test.YthdeeoallfbjmaaDoorMChopBack1
import Derived.Test.YthdeeoallfbjmaaDoorMChopBack5
import Derived.Test.YthdeeoallfbjmaaDoorMChopBack3
import Derived.Test.YthdeeoallfbjmaaDoorMChopBack2
import Derived.Test.YthdeeoallfbjmaaDoorMChopBack4
namespace Go.Proofs.YthdeeoallfbjmaaDoor.PA
open Go.RowKit Go.Proofs.YthdeeoallfbjmaaDoorW.PrintWords Go.Proofs.YthdeeoallfbjmaaDoorW.PrintLast Go.Proofs.YthdeeoallfbjmaaDoorW.PrintMore
attribute [local go_sem] max2_int min2_int max_two min_two max_three min_three max_four min_four   -- for this text's walks alone
set_option linter.unusedVariables false
set_option linter.unusedSimpArgs false
set_option maxHeartbeats 8000000
set_option maxRecDepth 100000
mutual
def shape_Open.j0 : Nat → Bool → Int → Int → Bool → Int → Int → Option (Bool × Int × Int × Int)
 | 0, _, _, _, _, _, _ => none
 | k + 1, x19, x320000, x320001, x320002, x320003, x320004 => if x19 = true then (some (false, 3, 0, 0)) else ((shape_format_ones.f x320000 x320001).bind fun t321 => (if x320003 = t321 then (some (x320002, 2, 0, 0)) else (if x320003 = 0 then (shape_Open.j1 k (x320004 == 0) x320000 x320001 x320002 x320003 x320004) else (shape_Open.j1 k false x320000 x320001 x320002 x320003 x320004))))
def shape_Open.j1 : Nat → Bool → Int → Int → Bool → Int → Int → Option (Bool × Int × Int × Int)
 | 0, _, _, _, _, _, _ => none
 | k + 1, x42, x320000, x320001, x320002, x320003, x320004 => if x42 = true then (some (x320002, 0, 0, 0)) else (if x320003 = 0 then ((shape_format_low.f x320000 x320001).bind fun t322 => (some (x320002, 1, t322, x320004))) else ((shape_format_low.f x320000 x320001).bind fun t323 => (if 0 ≤ x320001 then (some (x320002, 1, wrap64 ((wrap64 (t323 + (wrap64 (x320003)))) - 1), Go.bits .or .u64 (shl .u64 1 x320001) x320004)) else (none))))
end
def shape_Open.f (k : Nat) (a0 : Int) (a1 : Int) : Option (Bool × Int × Int × Int) := (shape_of.f a0).bind fun bt310 => (if bt310.2.2 = true then ((shape_format_split.f bt310.1 bt310.2.1 a1).bind fun bt314 => ((shape_format_ones.f bt314.1 bt314.2.1).bind fun t320 => (if bt314.2.2.2.1 = t320 then (shape_Open.j0 k (bt314.2.2.2.2 != 0) bt314.1 bt314.2.1 bt314.2.2.1 bt314.2.2.2.1 bt314.2.2.2.2) else (shape_Open.j0 k false bt314.1 bt314.2.1 bt314.2.2.1 bt314.2.2.2.1 bt314.2.2.2.2)))) else (some (false, 0, 0, 0)))
theorem shape_Open.mono_l : ∀ k, (∀ y0 y1 y2 y3 y4 y5, LeO (shape_Open.j0 k y0 y1 y2 y3 y4 y5) (shape_Open.j0 (k + 1) y0 y1 y2 y3 y4 y5)) ∧ (∀ y0 y1 y2 y3 y4 y5, LeO (shape_Open.j1 k y0 y1 y2 y3 y4 y5) (shape_Open.j1 (k + 1) y0 y1 y2 y3 y4 y5))
 | 0 => ⟨fun _ _ _ _ _ _ r h => by simp [shape_Open.j0] at h, fun _ _ _ _ _ _ r h => by simp [shape_Open.j1] at h⟩
 | k + 1 => by
  obtain ⟨ih0, ih1⟩ := shape_Open.mono_l k
  refine ⟨?_, ?_⟩
  ·intro y0 y1 y2 y3 y4 y5
   unfold shape_Open.j0
   repeat' first
   | (with_reducible exact ih0 _ _ _ _ _ _)
   | (with_reducible exact ih1 _ _ _ _ _ _)
   | (with_reducible exact LeO.refl _)
   | (with_reducible exact LeO.none _)
   | (with_reducible refine LeO.ite ?_ ?_)
   | (with_reducible refine LeO.bind ?_ (fun _ => ?_))
   | exact ih0 _ _ _ _ _ _
   | exact ih1 _ _ _ _ _ _
   | exact LeO.none _
   | refine LeO.ite ?_ ?_
   | refine LeO.bind ?_ (fun _ => ?_)
  ·intro y0 y1 y2 y3 y4 y5
   unfold shape_Open.j1
   repeat' first
   | (with_reducible exact ih0 _ _ _ _ _ _)
   | (with_reducible exact ih1 _ _ _ _ _ _)
   | (with_reducible exact LeO.refl _)
   | (with_reducible exact LeO.none _)
   | (with_reducible refine LeO.ite ?_ ?_)
   | (with_reducible refine LeO.bind ?_ (fun _ => ?_))
   | exact ih0 _ _ _ _ _ _
   | exact ih1 _ _ _ _ _ _
   | exact LeO.none _
   | refine LeO.ite ?_ ?_
   | refine LeO.bind ?_ (fun _ => ?_)
theorem shape_Open.mono : ∀ a0 a1 k, LeO (shape_Open.f k a0 a1) (shape_Open.f (k + 1) a0 a1) := by
 intro a0 a1 k
 obtain ⟨ih0, ih1⟩ := shape_Open.mono_l k
 unfold shape_Open.f
 repeat' first
   | (with_reducible exact ih0 _ _ _ _ _ _)
   | (with_reducible exact ih1 _ _ _ _ _ _)
   | (with_reducible exact LeO.refl _)
   | (with_reducible exact LeO.none _)
   | (with_reducible refine LeO.ite ?_ ?_)
   | (with_reducible refine LeO.bind ?_ (fun _ => ?_))
   | exact ih0 _ _ _ _ _ _
   | exact ih1 _ _ _ _ _ _
   | exact LeO.none _
   | refine LeO.ite ?_ ?_
   | refine LeO.bind ?_ (fun _ => ?_)
def shape_Open.T5 : Bool × List (List Nat × List Nat) := (true, [([], []), ([0], [0]), ([], []), ([2], [2]), ([3], [3]), ([1, 4], [1, 4]), ([5, 4], [5]), ([6], [6]), ([7, 6], [6, 7]), ([8, 6], [6, 8]), ([6, 9], [6, 9]), ([10, 6], [10])])
def shape_Open.B5 : List Nat := [0, 1, 0, 4, 12, 31, 63, 127, 255, 511, 1023, 2047]
theorem shape_Open.tab5 : rtab .any (opsOf Tryd.f62 5) = shape_Open.T5 := by kernel_rfl
theorem shape_Open.bits5 : waitsOk shape_Open.T5.2 shape_Open.B5 = true := by kernel_rfl
def shape_Open.T12 : Bool × List (List Nat × List Nat) := (true, [([], []), ([0], [0]), ([], []), ([2], [2]), ([3], [3]), ([], []), ([5], [5]), ([1, 4, 6], [1, 4, 6]), ([7, 4, 0, 1, 2, 3, 4, 5, 6, 7], [7])])
def shape_Open.B12 : List Nat := [0, 1, 0, 4, 12, 0, 32, 127, 255]
theorem shape_Open.tab12 : rtab .any (opsOf Tryd.f62 12) = shape_Open.T12 := by kernel_rfl
theorem shape_Open.bits12 : waitsOk shape_Open.T12.2 shape_Open.B12 = true := by kernel_rfl
def shape_Open.T13 : Bool × List (List Nat × List Nat) := (true, [([], []), ([0], [0]), ([], []), ([2], [2]), ([3], [3]), ([], []), ([5], [5]), ([6], [6]), ([4, 7], [4, 7]), ([8], [8]), ([], []), ([10], [10]), ([11], [11]), ([12], [12]), ([], []), ([14], [14]), ([13, 15], [13, 15]), ([1, 9, 16], [1, 9, 16]), ([17, 4, 0, 1, 2, 3, 4, 5, 6, 7, 8, 9, 10, 11, 12, 13, 14, 15, 16, 17], [17])])
def shape_Open.B13 : List Nat := [0, 1, 0, 4, 12, 0, 32, 96, 252, 508, 0, 1024, 3072, 7168, 0, 16384, 64512, 131071, 262143]
theorem shape_Open.tab13 : rtab .any (opsOf Tryd.f62 13) = shape_Open.T13 := by kernel_rfl
theorem shape_Open.bits13 : waitsOk shape_Open.T13.2 shape_Open.B13 = true := by kernel_rfl
theorem shape_Open.calls (k : Nat) (a0 : Int) (a1 : Int) (r1 : Bool) (r2 : Int) (r3 : Int) (r4 : Int) (w : World) (h : shape_Open.f k a0 a1 = some (r1, r2, r3, r4)) :
  Calls Tryd.prog 62 #[.int .i64 a0, .int .u64 a1] w fun e w' => e = .returned (.agg #[.bool r1, .int .i64 r2, .int .i64 r3, .int .u64 r4]) ∧ Below w.heap.size w w' := by
 have hu75 := Tryd.underlying75
 have hu78 := Tryd.underlying78
 have hu102 := Tryd.underlying102
 have HB := A_ (Below.refl w.heap.size w)
 have H : ((shape_of.f a0).bind fun bt310 => (if bt310.2.2 = true then ((shape_format_split.f bt310.1 bt310.2.1 a1).bind fun bt314 => ((shape_format_ones.f bt314.1 bt314.2.1).bind fun t320 => (if bt314.2.2.2.1 = t320 then (shape_Open.j0 k (bt314.2.2.2.2 != 0) bt314.1 bt314.2.1 bt314.2.2.1 bt314.2.2.2.1 bt314.2.2.2.2) else (shape_Open.j0 k false bt314.1 bt314.2.1 bt314.2.2.1 bt314.2.2.2.1 bt314.2.2.2.2)))) else (some (false, 0, 0, 0)))) = some (r1, r2, r3, r4) := h
 clear h
 replace H := ob_ H
 obtain ⟨⟨t310, t311, t312⟩, A30, H⟩ := H
 replace H : (if t312 = true then ((shape_format_split.f t310 t311 a1).bind fun bt314 => ((shape_format_ones.f bt314.1 bt314.2.1).bind fun t320 => (if bt314.2.2.2.1 = t320 then (shape_Open.j0 k (bt314.2.2.2.2 != 0) bt314.1 bt314.2.1 bt314.2.2.1 bt314.2.2.2.1 bt314.2.2.2.2) else (shape_Open.j0 k false bt314.1 bt314.2.1 bt314.2.2.1 bt314.2.2.2.1 bt314.2.2.2.2)))) else (some (false, 0, 0, 0))) = some (r1, r2, r3, r4) := H
 have A3 := A_ A30;clear A30
 by_cases c4 : t312 = true
 ·subst c4
  have H1 : ((shape_format_split.f t310 t311 a1).bind fun bt314 => ((shape_format_ones.f bt314.1 bt314.2.1).bind fun t320 => (if bt314.2.2.2.1 = t320 then (shape_Open.j0 k (bt314.2.2.2.2 != 0) bt314.1 bt314.2.1 bt314.2.2.1 bt314.2.2.2.1 bt314.2.2.2.2) else (shape_Open.j0 k false bt314.1 bt314.2.1 bt314.2.2.1 bt314.2.2.2.1 bt314.2.2.2.2)))) = some (r1, r2, r3, r4) := by rw [if_pos rfl] at H; exact H
  clear H;have H := H1;clear H1
  replace H := ob_ H
  obtain ⟨⟨t314, t315, t316, t317, t318⟩, A50, H⟩ := H
  replace H : ((shape_format_ones.f t314 t315).bind fun t320 => (if t317 = t320 then (shape_Open.j0 k (t318 != 0) t314 t315 t316 t317 t318) else (shape_Open.j0 k false t314 t315 t316 t317 t318))) = some (r1, r2, r3, r4) := H
  have A5 := A_ A50;clear A50;have HC6 := A_ H;clear H
  go_enter Tryd.func62, Tryd.ntmps62
  go_upto_region 5 with (first | ((with_reducible refine gate_dst (N := 4) rfl ?_); refine be_ 4 #[.bool false, .int .i64 0, .int .i64 0, .int .u64 0] 75 ?_; intro gb309 hg w7 hbox hb; have BK309 := A_ (hbox); have GW309 := A_ (sz_ hg (hb_ HB.out)); have GE309 := A_ (sz_ hg (hb_ HB.out)); replace HB := A_ (below_step (hb_ HB.out) hb); clear hb hbox hg) | ((with_reducible refine gate_callee (f := 63) rfl ?_); refine goesL_ (some 10) rfl rfl Tryd.func63 (by kernel_rfl) rfl #[.int .i64 a0] rfl mp_ ?_; (with_reducible refine (shape_of.calls a0 t310 t311 true _ A3.out).mono ?_); rintro e w8 ⟨rfl, hb⟩; refine ⟨_, rfl, ?_⟩; replace BK309 := A_ (bb_ BK309.out hb); replace HB := A_ (below_step (hb1_ HB.out GE309.out) hb); (try clear hb); (try clear hb2); (try clear hk); (try clear hi)) | ((with_reducible refine gate_dst (N := 5) rfl ?_); refine be_ 5 #[.int .i64 0, .int .i64 0] 78 ?_; intro gb313 hg w9 hbox hb; have BK313 := A_ (hbox); have GW313 := A_ (sz_ hg (hb1_ HB.out GE309.out)); have GE313 := A_ (sz_ hg (hb1_ HB.out GE309.out)); have NB309_313 := A_ (nl_ hg BK309.out); have NB313_309 := A_ (ng_ hg BK309.out); replace BK309 := A_ (bb_ BK309.out hb); replace HB := A_ (below_step (hb1_ HB.out GE309.out) hb); clear hb hbox hg; have hnb10 := NB313_309.out; have hnc10 := NB309_313.out; have hcz11_0 := bv_ BK313.out 0; have hcz11_1 := bv_ BK313.out 1; have hfz11_0 := blk_frozen BK313.out 0; have hfz11_1 := blk_frozen BK313.out 1) | ((with_reducible refine gate_callee (f := 87) rfl ?_); refine goesL_ (some 18) rfl rfl Tryd.func87 (by kernel_rfl) rfl #[.agg #[.int .i64 t310, .int .i64 t311], .int .u64 a1] rfl mp_ ?_; (with_reducible refine (shape_format_split.calls t310 t311 a1 t314 t315 t316 t317 t318 _ A5.out).mono ?_); rintro e w12 ⟨rfl, hb⟩; refine ⟨_, rfl, ?_⟩; replace BK309 := A_ (blk_below (g := gb309) (o := .cells #[.bool false, .int .i64 0, .int .i64 0, .int .u64 0] 75 (0, 0)) (bf2_ BK309.out NB309_313.out NB309_313.out) hb); replace BK313 := A_ (blk_below (g := gb313) (o := .cells #[.int .i64 t310, .int .i64 t311] 78 (0, 0)) (by (with_reducible repeat (first | refine blk_drewN ?_ _ | refine blk_drew ?_ | refine blk_alloc ?_ _)); refine blk_put (cs := #[.int .i64 t310, .int .i64 0]) ?_ 1 _ rfl; (with_reducible repeat (first | refine blk_drewN ?_ _ | refine blk_drew ?_ | refine blk_alloc ?_ _)); refine blk_put (cs := #[.int .i64 0, .int .i64 0]) ?_ 0 _ rfl; (with_reducible repeat (first | refine blk_drewN ?_ _ | refine blk_drew ?_ | refine blk_alloc ?_ _)); exact BK313.out) hb); replace HB := A_ (below_step (hb2_ HB.out GE309.out GE313.out) hb); (try clear hb); (try clear hb2); (try clear hk); (try clear hi)) | ((with_reducible refine gate_dst (N := 7) rfl ?_); refine be_ 7 #[.int .i64 0, .int .i64 0, .bool false, .int .u64 0, .int .u64 0] 102 ?_; intro gb319 hg w13 hbox hb; have BK319 := A_ (hbox); have GW319 := A_ (sz_ hg (hb2_ HB.out GE309.out GE313.out)); have GE319 := A_ (sz_ hg (hb2_ HB.out GE309.out GE313.out)); have NB309_319 := A_ (nl_ hg BK309.out); have NB319_309 := A_ (ng_ hg BK309.out); have NB313_319 := A_ (nl_ hg BK313.out); have NB319_313 := A_ (ng_ hg BK313.out); replace BK309 := A_ (bb_ BK309.out hb); replace BK313 := A_ (bb_ BK313.out hb); replace HB := A_ (below_step (hb2_ HB.out GE309.out GE313.out) hb); clear hb hbox hg; have hnb14 := NB319_309.out; have hnc14 := NB309_319.out; have hnb15 := NB319_313.out; have hnc15 := NB313_319.out; have hcz16_0 := bv_ BK319.out 0; have hcz16_1 := bv_ BK319.out 1; have hcz16_2 := bv_ BK319.out 2; have hcz16_3 := bv_ BK319.out 3; have hcz16_4 := bv_ BK319.out 4; have hfz16_0 := blk_frozen BK319.out 0; have hfz16_1 := blk_frozen BK319.out 1; have hfz16_2 := blk_frozen BK319.out 2; have hfz16_3 := blk_frozen BK319.out 3; have hfz16_4 := blk_frozen BK319.out 4))
  (try simp only [Act.put, lI_, l0_, lS_])
  go_cut [19] (fun v19 wc => ∃ (kq : Nat) (x19_5 : Bool), v19 = .bool x19_5 ∧ Aside0 (shape_Open.j0 kq x19_5 t314 t315 t316 t317 t318 = some (r1, r2, r3, r4)) ∧ Aside0 (kq ≤ k) ∧ Aside0 (wc.heap[gb309]? = some (.cells #[.bool false, .int .i64 0, .int .i64 0, .int .u64 0] 75 (0, 0))) ∧ Aside0 (wc.heap[gb313]? = some (.cells #[.int .i64 t310, .int .i64 t311] 78 (0, 0))) ∧ Aside0 (wc.heap[gb319]? = some (.cells #[.int .i64 t314, .int .i64 t315, .bool t316, .int .u64 t317, .int .u64 t318] 102 (0, 0))) ∧ Aside0 (Below w.heap.size w wc))
  case first =>
   have H := HC6.out
   clear HC6
   replace H := ob_ H
   obtain ⟨t320, A170, H⟩ := H
   replace H : (if t317 = t320 then (shape_Open.j0 k (t318 != 0) t314 t315 t316 t317 t318) else (shape_Open.j0 k false t314 t315 t316 t317 t318)) = some (r1, r2, r3, r4) := H
   have A17 := A_ A170;clear A170
   by_cases c18 : t317 = t320
   ·rw [if_pos c18] at H
    have c18b0 : (t317 == t320) = true := beq_iff_eq.mpr c18
    have c18b1 : (t317 != t320) = false := bne_eq_false_iff_eq.mpr c18
    clear c18
    (first | rw [c18b0] | (simp only [i64_w, i32_w]; rw [c18b0]) | skip)
    have H' := A_ H
    clear H
    try go_wp2
    have n0_ : Aside0 ((((((w13.setCell ⟨gb319, 0, none⟩ (.int .i64 t314)).setCell ⟨gb319, 1, none⟩ (.int .i64 t315)).setCell ⟨gb319, 2, none⟩ (.bool t316)).setCell ⟨gb319, 3, none⟩ (.int .u64 t317)).setCell ⟨gb319, 4, none⟩ (.int .u64 t318)).heap[gb309]? = some (.cells #[.bool false, .int .i64 0, .int .i64 0, .int .u64 0] 75 (0, 0))) := ⟨bf5_ BK309.out NB309_319.out NB309_319.out NB309_319.out NB309_319.out NB309_319.out⟩
    have n1_ : Aside0 ((((((w13.setCell ⟨gb319, 0, none⟩ (.int .i64 t314)).setCell ⟨gb319, 1, none⟩ (.int .i64 t315)).setCell ⟨gb319, 2, none⟩ (.bool t316)).setCell ⟨gb319, 3, none⟩ (.int .u64 t317)).setCell ⟨gb319, 4, none⟩ (.int .u64 t318)).heap[gb313]? = some (.cells #[.int .i64 t310, .int .i64 t311] 78 (0, 0))) := ⟨bf5_ BK313.out NB313_319.out NB313_319.out NB313_319.out NB313_319.out NB313_319.out⟩
    have n2_ : Aside0 ((((((w13.setCell ⟨gb319, 0, none⟩ (.int .i64 t314)).setCell ⟨gb319, 1, none⟩ (.int .i64 t315)).setCell ⟨gb319, 2, none⟩ (.bool t316)).setCell ⟨gb319, 3, none⟩ (.int .u64 t317)).setCell ⟨gb319, 4, none⟩ (.int .u64 t318)).heap[gb319]? = some (.cells #[.int .i64 t314, .int .i64 t315, .bool t316, .int .u64 t317, .int .u64 t318] 102 (0, 0))) := ⟨by (with_reducible repeat (first | refine blk_drewN ?_ _ | refine blk_drew ?_ | refine blk_alloc ?_ _)); refine blk_put (cs := #[.int .i64 t314, .int .i64 t315, .bool t316, .int .u64 t317, .int .u64 0]) ?_ 4 _ rfl; (with_reducible repeat (first | refine blk_drewN ?_ _ | refine blk_drew ?_ | refine blk_alloc ?_ _)); refine blk_put (cs := #[.int .i64 t314, .int .i64 t315, .bool t316, .int .u64 0, .int .u64 0]) ?_ 3 _ rfl; (with_reducible repeat (first | refine blk_drewN ?_ _ | refine blk_drew ?_ | refine blk_alloc ?_ _)); refine blk_put (cs := #[.int .i64 t314, .int .i64 t315, .bool false, .int .u64 0, .int .u64 0]) ?_ 2 _ rfl; (with_reducible repeat (first | refine blk_drewN ?_ _ | refine blk_drew ?_ | refine blk_alloc ?_ _)); refine blk_put (cs := #[.int .i64 t314, .int .i64 0, .bool false, .int .u64 0, .int .u64 0]) ?_ 1 _ rfl; (with_reducible repeat (first | refine blk_drewN ?_ _ | refine blk_drew ?_ | refine blk_alloc ?_ _)); refine blk_put (cs := #[.int .i64 0, .int .i64 0, .bool false, .int .u64 0, .int .u64 0]) ?_ 0 _ rfl; (with_reducible repeat (first | refine blk_drewN ?_ _ | refine blk_drew ?_ | refine blk_alloc ?_ _)); exact BK319.out⟩
    have n3_ : Aside0 (Below w.heap.size w (((((w13.setCell ⟨gb319, 0, none⟩ (.int .i64 t314)).setCell ⟨gb319, 1, none⟩ (.int .i64 t315)).setCell ⟨gb319, 2, none⟩ (.bool t316)).setCell ⟨gb319, 3, none⟩ (.int .u64 t317)).setCell ⟨gb319, 4, none⟩ (.int .u64 t318))) := ⟨hb3_ HB.out GE309.out GE313.out GE319.out⟩
    (try clear BK309);(try clear BK313);(try clear BK319);(try clear HB)
    generalize (((((w13.setCell ⟨gb319, 0, none⟩ (.int .i64 t314)).setCell ⟨gb319, 1, none⟩ (.int .i64 t315)).setCell ⟨gb319, 2, none⟩ (.bool t316)).setCell ⟨gb319, 3, none⟩ (.int .u64 t317)).setCell ⟨gb319, 4, none⟩ (.int .u64 t318)) = w19 at n0_ n1_ n2_ n3_ ⊢
    have BK309 := n0_;have BK313 := n1_;have BK319 := n2_;have HB := n3_;clear n0_ n1_ n2_ n3_
    replace BK309 := A_ (blk_drew BK309.out)
    replace BK313 := A_ (blk_drew BK313.out)
    replace BK319 := A_ (blk_drew BK319.out)
    replace HB := A_ (below_drew1 HB.out)
    refine start_ (n := 12) (S := fun w' => w'.cell? ⟨gb319, 0, none⟩ = some (.int .i64 t314) ∧ w'.cell? ⟨gb319, 1, none⟩ = some (.int .i64 t315) ∧ w'.cell? ⟨gb319, 2, none⟩ = some (.bool t316) ∧ w'.cell? ⟨gb319, 3, none⟩ = some (.int .u64 t317) ∧ w'.cell? ⟨gb319, 4, none⟩ = some (.int .u64 t318)) (ds := []) #[false, false, false, false, false, false, false, false, false, false, false, false] (by kernel_rfl) rfl rfl ⟨bc_ BK319.out 0, bc_ BK319.out 1, bc_ BK319.out 2, bc_ BK319.out 3, bc_ BK319.out 4⟩ (fun hHeld => ?_); refine with_tabW shape_Open.tab5 shape_Open.bits5 (fun HT_ HW_ => ?_)
    generalize w19.drew = w20 at BK309 BK313 BK319 HB hHeld ⊢
    refine pu_ 0 (some 20) #[true, false, false, false, false, false, false, false, false, false, false, false] rfl rfl (any_of HT_.out (by kernel_rfl)) ?_
    refine pu_ 2 (some 22) #[true, false, true, false, false, false, false, false, false, false, false, false] rfl rfl (any_of HT_.out (by kernel_rfl)) ?_
    refine tk5_ 1 (some 21) #[true, true, true, false, false, false, false, false, false, false, false, false] rfl rfl (take_ofW HT_.out HW_.out (by kernel_rfl)) hHeld ?_
    refine tk5_ 3 (some 23) #[true, true, true, true, false, false, false, false, false, false, false, false] rfl rfl (take_ofW HT_.out HW_.out (by kernel_rfl)) hHeld ?_
    refine one_ (i := 4) (N := some 24) #[true, true, true, true, true, false, false, false, false, false, false, false] rfl rfl (one_of HT_.out (by kernel_rfl)) (by decide) (fun K hK => ?_)
    refine goes_ Tryd.func65 (by kernel_rfl) rfl #[.agg #[.int .i64 t314, .int .i64 t315]] (by rfl) rfl rfl mp_ ?_
    with_reducible refine (shape_format_ones.calls t314 t315 t320 _ A17.out).mono ?_
    rintro e w21 ⟨rfl, hb⟩
    refine ⟨_, rfl, ?_⟩
    replace BK309 := A_ (bb_ BK309.out hb)
    replace BK313 := A_ (bb_ BK313.out hb)
    replace BK319 := A_ (bb_ BK319.out hb)
    replace HB := A_ (below_step (hb3_ HB.out GE309.out GE313.out GE319.out) hb);(try clear hb);(try clear hb2);(try clear hk);(try clear hi)
    refine hK.out _ _ ⟨bc_ BK319.out 0, bc_ BK319.out 1, bc_ BK319.out 2, bc_ BK319.out 3, bc_ BK319.out 4⟩ (fun hHeld => ?_)
    clear hK K
    refine norm_ (a' := ?_) ?_ ?_
    rotate_left
    ·show Act.put _ (some 24) _ = _
     simp only [Act.put, lI_, l0_, lS_, i64_w, i32_w]
     rfl
    refine pu_ 5 (some 25) #[true, true, true, true, true, true, false, false, false, false, false, false] rfl rfl (any_of HT_.out (by kernel_rfl)) ?_
    refine pu_ 6 (some 26) #[true, true, true, true, true, true, true, false, false, false, false, false] rfl rfl (any_of HT_.out (by kernel_rfl)) ?_
    refine pu_ 7 (some 27) #[true, true, true, true, true, true, true, true, false, false, false, false] rfl rfl (any_of HT_.out (by kernel_rfl)) ?_
    refine tk5_ 8 (some 28) #[true, true, true, true, true, true, true, true, true, false, false, false] rfl rfl (take_ofW HT_.out HW_.out (by kernel_rfl)) hHeld ?_
    refine pu_ 9 (some 29) #[true, true, true, true, true, true, true, true, true, true, false, false] rfl rfl (any_of HT_.out (by kernel_rfl)) ?_
    refine pu_ 10 (some 30) #[true, true, true, true, true, true, true, true, true, true, true, false] rfl rfl (any_of HT_.out (by kernel_rfl)) ?_
    refine pu_ 11 (some 19) #[true, true, true, true, true, true, true, true, true, true, true, true] rfl rfl (any_of HT_.out (by kernel_rfl)) ?_
    refine done_ (done_of HT_.out (by kernel_rfl)) ?_
    try go_wp2
    go_meet
    case rel => exact ⟨_, ((t318 != 0)), sm_, H', ⟨by first | omega | exact Nat.le_refl _⟩, ⟨bk_ BK309.out⟩, ⟨bk_ BK313.out⟩, ⟨bk_ BK319.out⟩, ⟨hb3_ HB.out GE309.out GE313.out GE319.out⟩⟩
   ·rw [if_neg c18] at H
    have c18b0 : (t317 == t320) = false := beq_eq_false_iff_ne.mpr c18
    have c18b1 : (t317 != t320) = true := bne_iff_ne.mpr c18
    (first | rw [c18b0] | (simp only [i64_w, i32_w]; rw [c18b0]) | skip)
    have H' := A_ H
    clear H
    try go_wp2
    have n0_ : Aside0 ((((((w13.setCell ⟨gb319, 0, none⟩ (.int .i64 t314)).setCell ⟨gb319, 1, none⟩ (.int .i64 t315)).setCell ⟨gb319, 2, none⟩ (.bool t316)).setCell ⟨gb319, 3, none⟩ (.int .u64 t317)).setCell ⟨gb319, 4, none⟩ (.int .u64 t318)).heap[gb309]? = some (.cells #[.bool false, .int .i64 0, .int .i64 0, .int .u64 0] 75 (0, 0))) := ⟨bf5_ BK309.out NB309_319.out NB309_319.out NB309_319.out NB309_319.out NB309_319.out⟩
    have n1_ : Aside0 ((((((w13.setCell ⟨gb319, 0, none⟩ (.int .i64 t314)).setCell ⟨gb319, 1, none⟩ (.int .i64 t315)).setCell ⟨gb319, 2, none⟩ (.bool t316)).setCell ⟨gb319, 3, none⟩ (.int .u64 t317)).setCell ⟨gb319, 4, none⟩ (.int .u64 t318)).heap[gb313]? = some (.cells #[.int .i64 t310, .int .i64 t311] 78 (0, 0))) := ⟨bf5_ BK313.out NB313_319.out NB313_319.out NB313_319.out NB313_319.out NB313_319.out⟩
    have n2_ : Aside0 ((((((w13.setCell ⟨gb319, 0, none⟩ (.int .i64 t314)).setCell ⟨gb319, 1, none⟩ (.int .i64 t315)).setCell ⟨gb319, 2, none⟩ (.bool t316)).setCell ⟨gb319, 3, none⟩ (.int .u64 t317)).setCell ⟨gb319, 4, none⟩ (.int .u64 t318)).heap[gb319]? = some (.cells #[.int .i64 t314, .int .i64 t315, .bool t316, .int .u64 t317, .int .u64 t318] 102 (0, 0))) := ⟨by (with_reducible repeat (first | refine blk_drewN ?_ _ | refine blk_drew ?_ | refine blk_alloc ?_ _)); refine blk_put (cs := #[.int .i64 t314, .int .i64 t315, .bool t316, .int .u64 t317, .int .u64 0]) ?_ 4 _ rfl; (with_reducible repeat (first | refine blk_drewN ?_ _ | refine blk_drew ?_ | refine blk_alloc ?_ _)); refine blk_put (cs := #[.int .i64 t314, .int .i64 t315, .bool t316, .int .u64 0, .int .u64 0]) ?_ 3 _ rfl; (with_reducible repeat (first | refine blk_drewN ?_ _ | refine blk_drew ?_ | refine blk_alloc ?_ _)); refine blk_put (cs := #[.int .i64 t314, .int .i64 t315, .bool false, .int .u64 0, .int .u64 0]) ?_ 2 _ rfl; (with_reducible repeat (first | refine blk_drewN ?_ _ | refine blk_drew ?_ | refine blk_alloc ?_ _)); refine blk_put (cs := #[.int .i64 t314, .int .i64 0, .bool false, .int .u64 0, .int .u64 0]) ?_ 1 _ rfl; (with_reducible repeat (first | refine blk_drewN ?_ _ | refine blk_drew ?_ | refine blk_alloc ?_ _)); refine blk_put (cs := #[.int .i64 0, .int .i64 0, .bool false, .int .u64 0, .int .u64 0]) ?_ 0 _ rfl; (with_reducible repeat (first | refine blk_drewN ?_ _ | refine blk_drew ?_ | refine blk_alloc ?_ _)); exact BK319.out⟩
    have n3_ : Aside0 (Below w.heap.size w (((((w13.setCell ⟨gb319, 0, none⟩ (.int .i64 t314)).setCell ⟨gb319, 1, none⟩ (.int .i64 t315)).setCell ⟨gb319, 2, none⟩ (.bool t316)).setCell ⟨gb319, 3, none⟩ (.int .u64 t317)).setCell ⟨gb319, 4, none⟩ (.int .u64 t318))) := ⟨hb3_ HB.out GE309.out GE313.out GE319.out⟩
    (try clear BK309);(try clear BK313);(try clear BK319);(try clear HB)
    generalize (((((w13.setCell ⟨gb319, 0, none⟩ (.int .i64 t314)).setCell ⟨gb319, 1, none⟩ (.int .i64 t315)).setCell ⟨gb319, 2, none⟩ (.bool t316)).setCell ⟨gb319, 3, none⟩ (.int .u64 t317)).setCell ⟨gb319, 4, none⟩ (.int .u64 t318)) = w22 at n0_ n1_ n2_ n3_ ⊢
    have BK309 := n0_;have BK313 := n1_;have BK319 := n2_;have HB := n3_;clear n0_ n1_ n2_ n3_
    replace BK309 := A_ (blk_drew BK309.out)
    replace BK313 := A_ (blk_drew BK313.out)
    replace BK319 := A_ (blk_drew BK319.out)
    replace HB := A_ (below_drew1 HB.out)
    refine start_ (n := 12) (S := fun w' => w'.cell? ⟨gb319, 0, none⟩ = some (.int .i64 t314) ∧ w'.cell? ⟨gb319, 1, none⟩ = some (.int .i64 t315) ∧ w'.cell? ⟨gb319, 2, none⟩ = some (.bool t316) ∧ w'.cell? ⟨gb319, 3, none⟩ = some (.int .u64 t317) ∧ w'.cell? ⟨gb319, 4, none⟩ = some (.int .u64 t318)) (ds := []) #[false, false, false, false, false, false, false, false, false, false, false, false] (by kernel_rfl) rfl rfl ⟨bc_ BK319.out 0, bc_ BK319.out 1, bc_ BK319.out 2, bc_ BK319.out 3, bc_ BK319.out 4⟩ (fun hHeld => ?_); refine with_tabW shape_Open.tab5 shape_Open.bits5 (fun HT_ HW_ => ?_)
    generalize w22.drew = w23 at BK309 BK313 BK319 HB hHeld ⊢
    refine pu_ 0 (some 20) #[true, false, false, false, false, false, false, false, false, false, false, false] rfl rfl (any_of HT_.out (by kernel_rfl)) ?_
    refine pu_ 2 (some 22) #[true, false, true, false, false, false, false, false, false, false, false, false] rfl rfl (any_of HT_.out (by kernel_rfl)) ?_
    refine tk5_ 1 (some 21) #[true, true, true, false, false, false, false, false, false, false, false, false] rfl rfl (take_ofW HT_.out HW_.out (by kernel_rfl)) hHeld ?_
    refine tk5_ 3 (some 23) #[true, true, true, true, false, false, false, false, false, false, false, false] rfl rfl (take_ofW HT_.out HW_.out (by kernel_rfl)) hHeld ?_
    refine one_ (i := 4) (N := some 24) #[true, true, true, true, true, false, false, false, false, false, false, false] rfl rfl (one_of HT_.out (by kernel_rfl)) (by decide) (fun K hK => ?_)
    refine goes_ Tryd.func65 (by kernel_rfl) rfl #[.agg #[.int .i64 t314, .int .i64 t315]] (by rfl) rfl rfl mp_ ?_
    with_reducible refine (shape_format_ones.calls t314 t315 t320 _ A17.out).mono ?_
    rintro e w24 ⟨rfl, hb⟩
    refine ⟨_, rfl, ?_⟩
    replace BK309 := A_ (bb_ BK309.out hb)
    replace BK313 := A_ (bb_ BK313.out hb)
    replace BK319 := A_ (bb_ BK319.out hb)
    replace HB := A_ (below_step (hb3_ HB.out GE309.out GE313.out GE319.out) hb);(try clear hb);(try clear hb2);(try clear hk);(try clear hi)
    refine hK.out _ _ ⟨bc_ BK319.out 0, bc_ BK319.out 1, bc_ BK319.out 2, bc_ BK319.out 3, bc_ BK319.out 4⟩ (fun hHeld => ?_)
    clear hK K
    refine norm_ (a' := ?_) ?_ ?_
    rotate_left
    ·show Act.put _ (some 24) _ = _
     simp only [Act.put, lI_, l0_, lS_, i64_w, i32_w]
     rfl
    refine pu_ 5 (some 25) #[true, true, true, true, true, true, false, false, false, false, false, false] rfl rfl (any_of HT_.out (by kernel_rfl)) ?_
    refine pu_ 6 (some 26) #[true, true, true, true, true, true, true, false, false, false, false, false] rfl rfl (any_of HT_.out (by kernel_rfl)) ?_
    refine pure_ (i := 7) (N := some 27) (v := undef) (a' := ?_) #[true, true, true, true, true, true, true, true, false, false, false, false] rfl rfl (any_of HT_.out (by kernel_rfl)) (fun _ _ _ h => h) (Or.inr ⟨by rfl, rfl⟩) ?_ ?_
    rotate_left
    ·simp only [Act.put, lI_, l0_, lS_, i64_w, i32_w]
     rfl
    refine pure_ (i := 8) (N := some 28) (v := undef) (a' := ?_) #[true, true, true, true, true, true, true, true, true, false, false, false] rfl rfl (any_of HT_.out (by kernel_rfl)) (fun _ _ _ h => h) (Or.inr ⟨by rfl, rfl⟩) ?_ ?_
    rotate_left
    ·simp only [Act.put, lI_, l0_, lS_, i64_w, i32_w]
     rfl
    refine pure_ (i := 9) (N := some 29) (v := undef) (a' := ?_) #[true, true, true, true, true, true, true, true, true, true, false, false] rfl rfl (any_of HT_.out (by kernel_rfl)) (fun _ _ _ h => h) (Or.inr ⟨by rfl, rfl⟩) ?_ ?_
    rotate_left
    ·simp only [Act.put, lI_, l0_, lS_, i64_w, i32_w]
     rfl
    refine pu_ 10 (some 30) #[true, true, true, true, true, true, true, true, true, true, true, false] rfl rfl (any_of HT_.out (by kernel_rfl)) ?_
    refine pu_ 11 (some 19) #[true, true, true, true, true, true, true, true, true, true, true, true] rfl rfl (any_of HT_.out (by kernel_rfl)) ?_
    refine done_ (done_of HT_.out (by kernel_rfl)) ?_
    try go_wp2
    go_meet
    case rel => exact ⟨_, (false), sm_, H', ⟨by first | omega | exact Nat.le_refl _⟩, ⟨bk_ BK309.out⟩, ⟨bk_ BK313.out⟩, ⟨bk_ BK319.out⟩, ⟨hb3_ HB.out GE309.out GE313.out GE319.out⟩⟩
  case rest =>
   clear HC6
   try clear c1
   try clear p2
   try clear c4
   try clear c6
   try clear c8
   try clear c10
   try clear c14
   try clear c15
   try clear c18
   try clear c18b0
   try clear c18b1
   try clear hcz11_0
   try clear hcz11_1
   try clear hcz16_0
   try clear hcz16_1
   try clear hcz16_2
   try clear hcz16_3
   try clear hcz16_4
   try clear hfz11_0
   try clear hfz11_1
   try clear hfz16_0
   try clear hfz16_1
   try clear hfz16_2
   try clear hfz16_3
   try clear hfz16_4
   obtain ⟨kq, x19_5, rfl, HA, HJ5, BK309, BK313, BK319, HB⟩ := hcut
   cases kq with
   | zero => exact absurd HA.out (by simp [shape_Open.j0])
   | succ kj5 =>
    have H := HA.out
    clear HA
    simp only [shape_Open.j0] at H
    by_cases c25 : x19_5 = true
    ·subst c25
     have H1 : (some (false, 3, 0, 0)) = some (r1, r2, r3, r4) := by rw [if_pos rfl] at H; exact H
     clear H;have H := H1;clear H1
     simp only [Option.some.injEq, Prod.mk.injEq] at H
     obtain ⟨rfl, rfl, rfl, rfl⟩ := H
     have hnb26 := NB309_313.out
     have hnc26 := NB313_309.out
     have hnb27 := NB309_319.out
     have hnc27 := NB319_309.out
     have hcz28_0 := bv_ BK309.out 0
     have hcz28_1 := bv_ BK309.out 1
     have hcz28_2 := bv_ BK309.out 2
     have hcz28_3 := bv_ BK309.out 3
     have hfz28_0 := blk_frozen BK309.out 0
     have hfz28_1 := blk_frozen BK309.out 1
     have hfz28_2 := blk_frozen BK309.out 2
     have hfz28_3 := blk_frozen BK309.out 3
     go_wp2
     refine bodyPost_ret (results_cell_row rfl _ _ gb309 75 #[.bool false, .int .i64 3, .int .i64 0, .int .u64 0] (0, 0) _ rfl (by (with_reducible repeat (first | refine blk_drewN ?_ _ | refine blk_drew ?_ | refine blk_alloc ?_ _)); refine blk_put (cs := #[.bool false, .int .i64 3, .int .i64 0, .int .u64 0]) ?_ 3 _ rfl; (with_reducible repeat (first | refine blk_drewN ?_ _ | refine blk_drew ?_ | refine blk_alloc ?_ _)); refine blk_put (cs := #[.bool false, .int .i64 3, .int .i64 0, .int .u64 0]) ?_ 2 _ rfl; (with_reducible repeat (first | refine blk_drewN ?_ _ | refine blk_drew ?_ | refine blk_alloc ?_ _)); refine blk_put (cs := #[.bool false, .int .i64 0, .int .i64 0, .int .u64 0]) ?_ 1 _ rfl; (with_reducible repeat (first | refine blk_drewN ?_ _ | refine blk_drew ?_ | refine blk_alloc ?_ _)); refine blk_put (cs := #[.bool false, .int .i64 0, .int .i64 0, .int .u64 0]) ?_ 0 _ rfl; (with_reducible repeat (first | refine blk_drewN ?_ _ | refine blk_drew ?_ | refine blk_alloc ?_ _)); exact BK309.out) Tryd.underlying75 rfl (by kernel_rfl)) rfl ?_
     exact ⟨er_, hb3_ HB.out GE309.out GE313.out GE319.out⟩
    ·replace c25 := Bool.eq_false_iff.mpr c25
     subst c25
     have H1 : ((shape_format_ones.f t314 t315).bind fun t321 => (if t317 = t321 then (some (t316, 2, 0, 0)) else (if t317 = 0 then (shape_Open.j1 kj5 (t318 == 0) t314 t315 t316 t317 t318) else (shape_Open.j1 kj5 false t314 t315 t316 t317 t318)))) = some (r1, r2, r3, r4) := by rw [if_neg (show ¬ (false = true) by decide)] at H; exact H
     clear H;have H := H1;clear H1
     replace H := ob_ H
     obtain ⟨t321, A290, H⟩ := H
     replace H : (if t317 = t321 then (some (t316, 2, 0, 0)) else (if t317 = 0 then (shape_Open.j1 kj5 (t318 == 0) t314 t315 t316 t317 t318) else (shape_Open.j1 kj5 false t314 t315 t316 t317 t318))) = some (r1, r2, r3, r4) := H
     have A29 := A_ A290;clear A290
     by_cases c30 : t317 = t321
     ·rw [if_pos c30] at H
      have c30b0 : (t317 == t321) = true := beq_iff_eq.mpr c30
      have c30b1 : (t317 != t321) = false := bne_eq_false_iff_eq.mpr c30
      clear c30
      simp only [Option.some.injEq, Prod.mk.injEq] at H
      obtain ⟨rfl, rfl, rfl, rfl⟩ := H
      try go_wp2
      replace BK309 := A_ (blk_drew BK309.out)
      replace BK313 := A_ (blk_drew BK313.out)
      replace BK319 := A_ (blk_drew BK319.out)
      replace HB := A_ (below_drew1 HB.out)
      refine start_ (n := 7) (S := fun w' => w'.cell? ⟨gb319, 0, none⟩ = some (.int .i64 t314) ∧ w'.cell? ⟨gb319, 1, none⟩ = some (.int .i64 t315) ∧ w'.cell? ⟨gb319, 2, none⟩ = some (.bool t316) ∧ w'.cell? ⟨gb319, 3, none⟩ = some (.int .u64 t317) ∧ w'.cell? ⟨gb319, 4, none⟩ = some (.int .u64 t318)) (ds := []) #[false, false, false, false, false, false, false] (by kernel_rfl) rfl rfl ⟨bc_ BK319.out 0, bc_ BK319.out 1, bc_ BK319.out 2, bc_ BK319.out 3, bc_ BK319.out 4⟩ (fun hHeld => ?_)
      generalize wc.drew = w31 at BK309 BK313 BK319 HB hHeld ⊢
      refine pu_ 0 (some 33) #[true, false, false, false, false, false, false] rfl rfl (by kernel_rfl) ?_
      refine pu_ 2 (some 35) #[true, false, true, false, false, false, false] rfl rfl (by kernel_rfl) ?_
      refine tk5_ 1 (some 34) #[true, true, true, false, false, false, false] rfl rfl (by kernel_rfl) hHeld ?_
      refine tk5_ 3 (some 36) #[true, true, true, true, false, false, false] rfl rfl (by kernel_rfl) hHeld ?_
      refine one_ (i := 4) (N := some 37) #[true, true, true, true, true, false, false] rfl rfl (by kernel_rfl) (by decide) (fun K hK => ?_)
      refine goes_ Tryd.func65 (by kernel_rfl) rfl #[.agg #[.int .i64 t314, .int .i64 t315]] (by rfl) rfl rfl mp_ ?_
      with_reducible refine (shape_format_ones.calls t314 t315 t321 _ A29.out).mono ?_
      rintro e w32 ⟨rfl, hb⟩
      refine ⟨_, rfl, ?_⟩
      replace BK309 := A_ (bb_ BK309.out hb)
      replace BK313 := A_ (bb_ BK313.out hb)
      replace BK319 := A_ (bb_ BK319.out hb)
      replace HB := A_ (below_step (hb3_ HB.out GE309.out GE313.out GE319.out) hb);(try clear hb);(try clear hb2);(try clear hk);(try clear hi)
      refine hK.out _ _ ⟨bc_ BK319.out 0, bc_ BK319.out 1, bc_ BK319.out 2, bc_ BK319.out 3, bc_ BK319.out 4⟩ (fun hHeld => ?_)
      clear hK K
      refine norm_ (a' := ?_) ?_ ?_
      rotate_left
      ·show Act.put _ (some 37) _ = _
       simp only [Act.put, lI_, l0_, lS_, i64_w, i32_w]
       rfl
      refine pu_ 5 (some 38) #[true, true, true, true, true, true, false] rfl rfl (by kernel_rfl) ?_
      refine pu_ 6 (some 32) #[true, true, true, true, true, true, true] rfl rfl (by kernel_rfl) ?_
      refine done_ (by kernel_rfl) ?_
      have hnb33 := NB319_309.out
      have hnc33 := NB309_319.out
      have hnb34 := NB319_313.out
      have hnc34 := NB313_319.out
      have hcz35_0 := bv_ BK319.out 0
      have hcz35_1 := bv_ BK319.out 1
      have hcz35_2 := bv_ BK319.out 2
      have hcz35_3 := bv_ BK319.out 3
      have hcz35_4 := bv_ BK319.out 4
      have hfz35_0 := blk_frozen BK319.out 0
      have hfz35_1 := blk_frozen BK319.out 1
      have hfz35_2 := blk_frozen BK319.out 2
      have hfz35_3 := blk_frozen BK319.out 3
      have hfz35_4 := blk_frozen BK319.out 4
      have hnb36 := NB309_313.out
      have hnc36 := NB313_309.out
      have hcz37_0 := bv_ BK309.out 0
      have hcz37_1 := bv_ BK309.out 1
      have hcz37_2 := bv_ BK309.out 2
      have hcz37_3 := bv_ BK309.out 3
      have hfz37_0 := blk_frozen BK309.out 0
      have hfz37_1 := blk_frozen BK309.out 1
      have hfz37_2 := blk_frozen BK309.out 2
      have hfz37_3 := blk_frozen BK309.out 3
      try go_wp2
      refine bodyPost_ret (results_cell_row rfl _ _ gb309 75 #[.bool t316, .int .i64 2, .int .i64 0, .int .u64 0] (0, 0) _ rfl (by (with_reducible repeat (first | refine blk_drewN ?_ _ | refine blk_drew ?_ | refine blk_alloc ?_ _)); refine blk_put (cs := #[.bool t316, .int .i64 2, .int .i64 0, .int .u64 0]) ?_ 3 _ rfl; (with_reducible repeat (first | refine blk_drewN ?_ _ | refine blk_drew ?_ | refine blk_alloc ?_ _)); refine blk_put (cs := #[.bool t316, .int .i64 2, .int .i64 0, .int .u64 0]) ?_ 2 _ rfl; (with_reducible repeat (first | refine blk_drewN ?_ _ | refine blk_drew ?_ | refine blk_alloc ?_ _)); refine blk_put (cs := #[.bool t316, .int .i64 0, .int .i64 0, .int .u64 0]) ?_ 1 _ rfl; (with_reducible repeat (first | refine blk_drewN ?_ _ | refine blk_drew ?_ | refine blk_alloc ?_ _)); refine blk_put (cs := #[.bool false, .int .i64 0, .int .i64 0, .int .u64 0]) ?_ 0 _ rfl; (with_reducible repeat (first | refine blk_drewN ?_ _ | refine blk_drew ?_ | refine blk_alloc ?_ _)); exact BK309.out) Tryd.underlying75 rfl (by kernel_rfl)) rfl ?_
      exact ⟨er_, hb3_ HB.out GE309.out GE313.out GE319.out⟩
     ·rw [if_neg c30] at H
      have c30b0 : (t317 == t321) = false := beq_eq_false_iff_ne.mpr c30
      have c30b1 : (t317 != t321) = true := bne_iff_ne.mpr c30
      have HC38 := A_ H;clear H
      try go_wp2
      replace BK309 := A_ (blk_drew BK309.out)
      replace BK313 := A_ (blk_drew BK313.out)
      replace BK319 := A_ (blk_drew BK319.out)
      replace HB := A_ (below_drew1 HB.out)
      refine start_ (n := 7) (S := fun w' => w'.cell? ⟨gb319, 0, none⟩ = some (.int .i64 t314) ∧ w'.cell? ⟨gb319, 1, none⟩ = some (.int .i64 t315) ∧ w'.cell? ⟨gb319, 2, none⟩ = some (.bool t316) ∧ w'.cell? ⟨gb319, 3, none⟩ = some (.int .u64 t317) ∧ w'.cell? ⟨gb319, 4, none⟩ = some (.int .u64 t318)) (ds := []) #[false, false, false, false, false, false, false] (by kernel_rfl) rfl rfl ⟨bc_ BK319.out 0, bc_ BK319.out 1, bc_ BK319.out 2, bc_ BK319.out 3, bc_ BK319.out 4⟩ (fun hHeld => ?_)
      generalize wc.drew = w39 at BK309 BK313 BK319 HB hHeld ⊢
      refine pu_ 0 (some 33) #[true, false, false, false, false, false, false] rfl rfl (by kernel_rfl) ?_
      refine pu_ 2 (some 35) #[true, false, true, false, false, false, false] rfl rfl (by kernel_rfl) ?_
      refine tk5_ 1 (some 34) #[true, true, true, false, false, false, false] rfl rfl (by kernel_rfl) hHeld ?_
      refine tk5_ 3 (some 36) #[true, true, true, true, false, false, false] rfl rfl (by kernel_rfl) hHeld ?_
      refine one_ (i := 4) (N := some 37) #[true, true, true, true, true, false, false] rfl rfl (by kernel_rfl) (by decide) (fun K hK => ?_)
      refine goes_ Tryd.func65 (by kernel_rfl) rfl #[.agg #[.int .i64 t314, .int .i64 t315]] (by rfl) rfl rfl mp_ ?_
      with_reducible refine (shape_format_ones.calls t314 t315 t321 _ A29.out).mono ?_
      rintro e w40 ⟨rfl, hb⟩
      refine ⟨_, rfl, ?_⟩
      replace BK309 := A_ (bb_ BK309.out hb)
      replace BK313 := A_ (bb_ BK313.out hb)
      replace BK319 := A_ (bb_ BK319.out hb)
      replace HB := A_ (below_step (hb3_ HB.out GE309.out GE313.out GE319.out) hb);(try clear hb);(try clear hb2);(try clear hk);(try clear hi)
      refine hK.out _ _ ⟨bc_ BK319.out 0, bc_ BK319.out 1, bc_ BK319.out 2, bc_ BK319.out 3, bc_ BK319.out 4⟩ (fun hHeld => ?_)
      clear hK K
      refine norm_ (a' := ?_) ?_ ?_
      rotate_left
      ·show Act.put _ (some 37) _ = _
       simp only [Act.put, lI_, l0_, lS_, i64_w, i32_w]
       rfl
      refine pu_ 5 (some 38) #[true, true, true, true, true, true, false] rfl rfl (by kernel_rfl) ?_
      refine pu_ 6 (some 32) #[true, true, true, true, true, true, true] rfl rfl (by kernel_rfl) ?_
      refine done_ (by kernel_rfl) ?_
      go_upto_region 9 with (fail)
      go_cut [42] (fun v42 wc => ∃ (kq : Nat) (x42_37 : Bool), v42 = .bool x42_37 ∧ Aside0 (shape_Open.j1 kq x42_37 t314 t315 t316 t317 t318 = some (r1, r2, r3, r4)) ∧ Aside0 (kq ≤ kj5) ∧ Aside0 (wc.heap[gb309]? = some (.cells #[.bool false, .int .i64 0, .int .i64 0, .int .u64 0] 75 (0, 0))) ∧ Aside0 (wc.heap[gb313]? = some (.cells #[.int .i64 t310, .int .i64 t311] 78 (0, 0))) ∧ Aside0 (wc.heap[gb319]? = some (.cells #[.int .i64 t314, .int .i64 t315, .bool t316, .int .u64 t317, .int .u64 t318] 102 (0, 0))) ∧ Aside0 (Below w.heap.size w wc))
      case first =>
       have H := HC38.out
       clear HC38
       by_cases c41 : t317 = 0
       ·rw [if_pos c41] at H
        have c41b0 : (t317 == 0) = true := beq_iff_eq.mpr c41
        have c41b1 : (t317 != 0) = false := bne_eq_false_iff_eq.mpr c41
        clear c41
        (first | rw [c41b0] | (simp only [i64_w, i32_w]; rw [c41b0]) | skip)
        have H' := A_ H
        clear H
        have hnb42 := NB319_309.out
        have hnc42 := NB309_319.out
        have hnb43 := NB319_313.out
        have hnc43 := NB313_319.out
        have hcz44_0 := bv_ BK319.out 0
        have hcz44_1 := bv_ BK319.out 1
        have hcz44_2 := bv_ BK319.out 2
        have hcz44_3 := bv_ BK319.out 3
        have hcz44_4 := bv_ BK319.out 4
        have hfz44_0 := blk_frozen BK319.out 0
        have hfz44_1 := blk_frozen BK319.out 1
        have hfz44_2 := blk_frozen BK319.out 2
        have hfz44_3 := blk_frozen BK319.out 3
        have hfz44_4 := blk_frozen BK319.out 4
        go_wp2
        go_meet
        case rel => exact ⟨_, ((t318 == 0)), sm_, H', ⟨by have := HJ5.out; first | omega | exact Nat.le_refl _⟩, ⟨bk_ BK309.out⟩, ⟨bk_ BK313.out⟩, ⟨bk_ BK319.out⟩, ⟨hb3_ HB.out GE309.out GE313.out GE319.out⟩⟩
       ·rw [if_neg c41] at H
        have c41b0 : (t317 == 0) = false := beq_eq_false_iff_ne.mpr c41
        have c41b1 : (t317 != 0) = true := bne_iff_ne.mpr c41
        (first | rw [c41b0] | (simp only [i64_w, i32_w]; rw [c41b0]) | skip)
        have H' := A_ H
        clear H
        have hnb45 := NB319_309.out
        have hnc45 := NB309_319.out
        have hnb46 := NB319_313.out
        have hnc46 := NB313_319.out
        have hcz47_0 := bv_ BK319.out 0
        have hcz47_1 := bv_ BK319.out 1
        have hcz47_2 := bv_ BK319.out 2
        have hcz47_3 := bv_ BK319.out 3
        have hcz47_4 := bv_ BK319.out 4
        have hfz47_0 := blk_frozen BK319.out 0
        have hfz47_1 := blk_frozen BK319.out 1
        have hfz47_2 := blk_frozen BK319.out 2
        have hfz47_3 := blk_frozen BK319.out 3
        have hfz47_4 := blk_frozen BK319.out 4
        go_wp2
        go_meet
        case rel => exact ⟨_, (false), sm_, H', ⟨by have := HJ5.out; first | omega | exact Nat.le_refl _⟩, ⟨bk_ BK309.out⟩, ⟨bk_ BK313.out⟩, ⟨bk_ BK319.out⟩, ⟨hb3_ HB.out GE309.out GE313.out GE319.out⟩⟩
      case rest =>
       clear HC38
       try clear c1
       try clear c2
       try clear p2
       try clear c3
       try clear c4
       try clear c6
       try clear c8
       try clear c10
       try clear c14
       try clear c15
       try clear c18
       try clear c18b0
       try clear c18b1
       try clear c25
       try clear c26
       try clear c27
       try clear c30
       try clear c30b0
       try clear c30b1
       try clear c33
       try clear c34
       try clear c36
       try clear c41
       try clear c41b0
       try clear c41b1
       try clear c42
       try clear c43
       try clear c45
       try clear c46
       try clear hcz11_0
       try clear hcz11_1
       try clear hcz16_0
       try clear hcz16_1
       try clear hcz16_2
       try clear hcz16_3
       try clear hcz16_4
       try clear hcz28_0
       try clear hcz28_1
       try clear hcz28_2
       try clear hcz28_3
       try clear hcz35_0
       try clear hcz35_1
       try clear hcz35_2
       try clear hcz35_3
       try clear hcz35_4
       try clear hcz37_0
       try clear hcz37_1
       try clear hcz37_2
       try clear hcz37_3
       try clear hcz44_0
       try clear hcz44_1
       try clear hcz44_2
       try clear hcz44_3
       try clear hcz44_4
       try clear hcz47_0
       try clear hcz47_1
       try clear hcz47_2
       try clear hcz47_3
       try clear hcz47_4
       try clear hfz11_0
       try clear hfz11_1
       try clear hfz16_0
       try clear hfz16_1
       try clear hfz16_2
       try clear hfz16_3
       try clear hfz16_4
       try clear hfz28_0
       try clear hfz28_1
       try clear hfz28_2
       try clear hfz28_3
       try clear hfz35_0
       try clear hfz35_1
       try clear hfz35_2
       try clear hfz35_3
       try clear hfz35_4
       try clear hfz37_0
       try clear hfz37_1
       try clear hfz37_2
       try clear hfz37_3
       try clear hfz44_0
       try clear hfz44_1
       try clear hfz44_2
       try clear hfz44_3
       try clear hfz44_4
       try clear hfz47_0
       try clear hfz47_1
       try clear hfz47_2
       try clear hfz47_3
       try clear hfz47_4
       try clear p2
       obtain ⟨kq, x42_37, rfl, HA, HJ37, BK309, BK313, BK319, HB⟩ := hcut
       cases kq with
       | zero => exact absurd HA.out (by simp [shape_Open.j1])
       | succ kj37 =>
        have H := HA.out
        clear HA
        simp only [shape_Open.j1] at H
        by_cases c48 : x42_37 = true
        ·subst c48
         have H1 : (some (t316, 0, 0, 0)) = some (r1, r2, r3, r4) := by rw [if_pos rfl] at H; exact H
         clear H;have H := H1;clear H1
         simp only [Option.some.injEq, Prod.mk.injEq] at H
         obtain ⟨rfl, rfl, rfl, rfl⟩ := H
         have hnb49 := NB319_309.out
         have hnc49 := NB309_319.out
         have hnb50 := NB319_313.out
         have hnc50 := NB313_319.out
         have hcz51_0 := bv_ BK319.out 0
         have hcz51_1 := bv_ BK319.out 1
         have hcz51_2 := bv_ BK319.out 2
         have hcz51_3 := bv_ BK319.out 3
         have hcz51_4 := bv_ BK319.out 4
         have hfz51_0 := blk_frozen BK319.out 0
         have hfz51_1 := blk_frozen BK319.out 1
         have hfz51_2 := blk_frozen BK319.out 2
         have hfz51_3 := blk_frozen BK319.out 3
         have hfz51_4 := blk_frozen BK319.out 4
         have hnb52 := NB309_313.out
         have hnc52 := NB313_309.out
         have hcz53_0 := bv_ BK309.out 0
         have hcz53_1 := bv_ BK309.out 1
         have hcz53_2 := bv_ BK309.out 2
         have hcz53_3 := bv_ BK309.out 3
         have hfz53_0 := blk_frozen BK309.out 0
         have hfz53_1 := blk_frozen BK309.out 1
         have hfz53_2 := blk_frozen BK309.out 2
         have hfz53_3 := blk_frozen BK309.out 3
         go_wp2
         refine bodyPost_ret (results_cell_row rfl _ _ gb309 75 #[.bool t316, .int .i64 0, .int .i64 0, .int .u64 0] (0, 0) _ rfl (by (with_reducible repeat (first | refine blk_drewN ?_ _ | refine blk_drew ?_ | refine blk_alloc ?_ _)); refine blk_put (cs := #[.bool t316, .int .i64 0, .int .i64 0, .int .u64 0]) ?_ 3 _ rfl; (with_reducible repeat (first | refine blk_drewN ?_ _ | refine blk_drew ?_ | refine blk_alloc ?_ _)); refine blk_put (cs := #[.bool t316, .int .i64 0, .int .i64 0, .int .u64 0]) ?_ 2 _ rfl; (with_reducible repeat (first | refine blk_drewN ?_ _ | refine blk_drew ?_ | refine blk_alloc ?_ _)); refine blk_put (cs := #[.bool t316, .int .i64 0, .int .i64 0, .int .u64 0]) ?_ 1 _ rfl; (with_reducible repeat (first | refine blk_drewN ?_ _ | refine blk_drew ?_ | refine blk_alloc ?_ _)); refine blk_put (cs := #[.bool false, .int .i64 0, .int .i64 0, .int .u64 0]) ?_ 0 _ rfl; (with_reducible repeat (first | refine blk_drewN ?_ _ | refine blk_drew ?_ | refine blk_alloc ?_ _)); exact BK309.out) Tryd.underlying75 rfl (by kernel_rfl)) rfl ?_
         exact ⟨er_, hb3_ HB.out GE309.out GE313.out GE319.out⟩
        ·replace c48 := Bool.eq_false_iff.mpr c48
         subst c48
         have H1 : (if t317 = 0 then ((shape_format_low.f t314 t315).bind fun t322 => (some (t316, 1, t322, t318))) else ((shape_format_low.f t314 t315).bind fun t323 => (if 0 ≤ t315 then (some (t316, 1, wrap64 ((wrap64 (t323 + (wrap64 (t317)))) - 1), Go.bits .or .u64 (shl .u64 1 t315) t318)) else (none)))) = some (r1, r2, r3, r4) := by rw [if_neg (show ¬ (false = true) by decide)] at H; exact H
         clear H;have H := H1;clear H1
         by_cases c54 : t317 = 0
         ·rw [if_pos c54] at H
          have c54b0 : (t317 == 0) = true := beq_iff_eq.mpr c54
          have c54b1 : (t317 != 0) = false := bne_eq_false_iff_eq.mpr c54
          clear c54
          replace H := ob_ H
          obtain ⟨t322, A550, H⟩ := H
          replace H : (some (t316, 1, t322, t318)) = some (r1, r2, r3, r4) := H
          have A55 := A_ A550;clear A550
          simp only [Option.some.injEq, Prod.mk.injEq] at H
          obtain ⟨rfl, rfl, rfl, rfl⟩ := H
          have hnb56 := NB319_309.out
          have hnc56 := NB309_319.out
          have hnb57 := NB319_313.out
          have hnc57 := NB313_319.out
          have hcz58_0 := bv_ BK319.out 0
          have hcz58_1 := bv_ BK319.out 1
          have hcz58_2 := bv_ BK319.out 2
          have hcz58_3 := bv_ BK319.out 3
          have hcz58_4 := bv_ BK319.out 4
          have hfz58_0 := blk_frozen BK319.out 0
          have hfz58_1 := blk_frozen BK319.out 1
          have hfz58_2 := blk_frozen BK319.out 2
          have hfz58_3 := blk_frozen BK319.out 3
          have hfz58_4 := blk_frozen BK319.out 4
          try go_wp2
          replace BK309 := A_ (blk_drew BK309.out)
          replace BK313 := A_ (blk_drew BK313.out)
          replace BK319 := A_ (blk_drew BK319.out)
          replace HB := A_ (below_drew1 HB.out)
          refine start_ (n := 9) (S := fun w' => w'.cell? ⟨gb319, 0, none⟩ = some (.int .i64 t314) ∧ w'.cell? ⟨gb319, 1, none⟩ = some (.int .i64 t315) ∧ w'.cell? ⟨gb319, 2, none⟩ = some (.bool t316) ∧ w'.cell? ⟨gb319, 3, none⟩ = some (.int .u64 t317) ∧ w'.cell? ⟨gb319, 4, none⟩ = some (.int .u64 t318)) (ds := []) #[false, false, false, false, false, false, false, false, false] (by kernel_rfl) rfl rfl ⟨bc_ BK319.out 0, bc_ BK319.out 1, bc_ BK319.out 2, bc_ BK319.out 3, bc_ BK319.out 4⟩ (fun hHeld => ?_); refine with_tabW shape_Open.tab12 shape_Open.bits12 (fun HT_ HW_ => ?_)
          generalize wc.drew = w59 at BK309 BK313 BK319 HB hHeld ⊢
          refine pu_ 0 (some 58) #[true, false, false, false, false, false, false, false, false] rfl rfl (any_of HT_.out (by kernel_rfl)) ?_
          refine pu_ 2 (some 60) #[true, false, true, false, false, false, false, false, false] rfl rfl (any_of HT_.out (by kernel_rfl)) ?_
          refine pu_ 5 (some 63) #[true, false, true, false, false, true, false, false, false] rfl rfl (any_of HT_.out (by kernel_rfl)) ?_
          refine tk5_ 1 (some 59) #[true, true, true, false, false, true, false, false, false] rfl rfl (take_ofW HT_.out HW_.out (by kernel_rfl)) hHeld ?_
          refine tk5_ 3 (some 61) #[true, true, true, true, false, true, false, false, false] rfl rfl (take_ofW HT_.out HW_.out (by kernel_rfl)) hHeld ?_
          refine tk5_ 6 (some 64) #[true, true, true, true, false, true, true, false, false] rfl rfl (take_ofW HT_.out HW_.out (by kernel_rfl)) hHeld ?_
          refine one_ (i := 4) (N := some 62) #[true, true, true, true, true, true, true, false, false] rfl rfl (one_of HT_.out (by kernel_rfl)) (by decide) (fun K hK => ?_)
          refine goes_ Tryd.func88 (by kernel_rfl) rfl #[.agg #[.int .i64 t314, .int .i64 t315]] (by rfl) rfl rfl mp_ ?_
          with_reducible refine (shape_format_low.calls t314 t315 t322 _ A55.out).mono ?_
          rintro e w60 ⟨rfl, hb⟩
          refine ⟨_, rfl, ?_⟩
          replace BK309 := A_ (bb_ BK309.out hb)
          replace BK313 := A_ (bb_ BK313.out hb)
          replace BK319 := A_ (bb_ BK319.out hb)
          replace HB := A_ (below_step (hb3_ HB.out GE309.out GE313.out GE319.out) hb);(try clear hb);(try clear hb2);(try clear hk);(try clear hi)
          refine hK.out _ _ ⟨bc_ BK319.out 0, bc_ BK319.out 1, bc_ BK319.out 2, bc_ BK319.out 3, bc_ BK319.out 4⟩ (fun hHeld => ?_)
          clear hK K
          refine norm_ (a' := ?_) ?_ ?_
          rotate_left
          ·show Act.put _ (some 62) _ = _
           simp only [Act.put, lI_, l0_, lS_, i64_w, i32_w]
           rfl
          refine pu_ 7 (some 65) #[true, true, true, true, true, true, true, true, false] rfl rfl (any_of HT_.out (by kernel_rfl)) ?_
          refine one_ (i := 8) (N := none) #[true, true, true, true, true, true, true, true, true] rfl rfl (one_of HT_.out (by kernel_rfl)) (by decide) (fun K hK => ?_)
          have hs61 : w60.cell? ⟨gb309, 0, none⟩ = some (.bool false) := bc_ BK309.out 0
          have hfs61 := blk_frozen BK309.out 0
          have hns61_1 := NB313_309.out
          have hns61_2 := NB319_309.out
          have hms61_1 := NB309_313.out
          have hms61_2 := NB309_319.out
          have hs62 : w60.cell? ⟨gb309, 1, none⟩ = some (.int .i64 0) := bc_ BK309.out 1
          have hfs62 := blk_frozen BK309.out 1
          have hns62_1 := NB313_309.out
          have hns62_2 := NB319_309.out
          have hms62_1 := NB309_313.out
          have hms62_2 := NB309_319.out
          have hs63 : w60.cell? ⟨gb309, 2, none⟩ = some (.int .i64 0) := bc_ BK309.out 2
          have hfs63 := blk_frozen BK309.out 2
          have hns63_1 := NB313_309.out
          have hns63_2 := NB319_309.out
          have hms63_1 := NB309_313.out
          have hms63_2 := NB309_319.out
          have hs64 : w60.cell? ⟨gb309, 3, none⟩ = some (.int .u64 0) := bc_ BK309.out 3
          have hfs64 := blk_frozen BK309.out 3
          have hns64_1 := NB313_309.out
          have hns64_2 := NB319_309.out
          have hms64_1 := NB309_313.out
          have hms64_2 := NB309_319.out
          refine skip_ (w1 := ?_) (by rfl) rfl ?_ ?_
          rotate_left
          ·go_simp
           rfl
          refine hK.out _ _ ⟨((cell_far (p := ⟨gb309, _, none⟩) NB319_309.out _).trans (((cell_far (p := ⟨gb309, _, none⟩) NB319_309.out _).trans (((cell_far (p := ⟨gb309, _, none⟩) NB319_309.out _).trans (((cell_far (p := ⟨gb309, _, none⟩) NB319_309.out _).trans (hHeld.1)))))))), ((cell_far (p := ⟨gb309, _, none⟩) NB319_309.out _).trans (((cell_far (p := ⟨gb309, _, none⟩) NB319_309.out _).trans (((cell_far (p := ⟨gb309, _, none⟩) NB319_309.out _).trans (((cell_far (p := ⟨gb309, _, none⟩) NB319_309.out _).trans (hHeld.2.1)))))))), ((cell_far (p := ⟨gb309, _, none⟩) NB319_309.out _).trans (((cell_far (p := ⟨gb309, _, none⟩) NB319_309.out _).trans (((cell_far (p := ⟨gb309, _, none⟩) NB319_309.out _).trans (((cell_far (p := ⟨gb309, _, none⟩) NB319_309.out _).trans (hHeld.2.2.1)))))))), ((cell_far (p := ⟨gb309, _, none⟩) NB319_309.out _).trans (((cell_far (p := ⟨gb309, _, none⟩) NB319_309.out _).trans (((cell_far (p := ⟨gb309, _, none⟩) NB319_309.out _).trans (((cell_far (p := ⟨gb309, _, none⟩) NB319_309.out _).trans (hHeld.2.2.2.1)))))))), ((cell_far (p := ⟨gb309, _, none⟩) NB319_309.out _).trans (((cell_far (p := ⟨gb309, _, none⟩) NB319_309.out _).trans (((cell_far (p := ⟨gb309, _, none⟩) NB319_309.out _).trans (((cell_far (p := ⟨gb309, _, none⟩) NB319_309.out _).trans (hHeld.2.2.2.2))))))))⟩ (fun hHeld => ?_)
          clear hK K
          refine done_ (done_of HT_.out (by kernel_rfl)) ?_
          try go_wp2
          refine bodyPost_ret (results_cell_row rfl _ _ gb309 75 #[.bool t316, .int .i64 1, .int .i64 t322, .int .u64 t318] (0, 0) _ rfl (by (with_reducible repeat (first | refine blk_drewN ?_ _ | refine blk_drew ?_ | refine blk_alloc ?_ _)); refine blk_put (cs := #[.bool t316, .int .i64 1, .int .i64 t322, .int .u64 0]) ?_ 3 _ rfl; (with_reducible repeat (first | refine blk_drewN ?_ _ | refine blk_drew ?_ | refine blk_alloc ?_ _)); refine blk_put (cs := #[.bool t316, .int .i64 1, .int .i64 0, .int .u64 0]) ?_ 2 _ rfl; (with_reducible repeat (first | refine blk_drewN ?_ _ | refine blk_drew ?_ | refine blk_alloc ?_ _)); refine blk_put (cs := #[.bool t316, .int .i64 0, .int .i64 0, .int .u64 0]) ?_ 1 _ rfl; (with_reducible repeat (first | refine blk_drewN ?_ _ | refine blk_drew ?_ | refine blk_alloc ?_ _)); refine blk_put (cs := #[.bool false, .int .i64 0, .int .i64 0, .int .u64 0]) ?_ 0 _ rfl; (with_reducible repeat (first | refine blk_drewN ?_ _ | refine blk_drew ?_ | refine blk_alloc ?_ _)); exact BK309.out) Tryd.underlying75 rfl (by kernel_rfl)) rfl ?_
          exact ⟨er_, hb3_ HB.out GE309.out GE313.out GE319.out⟩
         ·rw [if_neg c54] at H
          have c54b0 : (t317 == 0) = false := beq_eq_false_iff_ne.mpr c54
          have c54b1 : (t317 != 0) = true := bne_iff_ne.mpr c54
          replace H := ob_ H
          obtain ⟨t323, A650, H⟩ := H
          replace H : (if 0 ≤ t315 then (some (t316, 1, wrap64 ((wrap64 (t323 + (wrap64 (t317)))) - 1), Go.bits .or .u64 (shl .u64 1 t315) t318)) else (none)) = some (r1, r2, r3, r4) := H
          have A65 := A_ A650;clear A650
          by_cases c66 : 0 ≤ t315
          ·rw [if_pos c66] at H
           have c66b0 := eq_true c66
           have c66b1 : decide (0 ≤ t315) = true := decide_eq_true c66
           clear c66
           obtain ⟨ji67, hji67⟩ : ∃ j_ : Int, (shl .u64 1 t315) = j_ := ⟨_, rfl⟩
           replace H : (some (t316, 1, wrap64 ((wrap64 (t323 + (wrap64 (t317)))) - 1), Go.bits .or .u64 (ji67) t318)) = some (r1, r2, r3, r4) := by first | (rw [hji67] at H; exact H) | (simp only [hji67] at H ⊢; exact H)
           (try rw [hji67] at A65)
           have hji67_ : (IntKind.u64.wrap (1 * 2 ^ min t315.toNat 64)) = ji67 := hji67
           have hji67z : t315 ≤ 64 → (IntKind.u64.wrap (1 * 2 ^ t315.toNat)) = ji67 := shl_small hji67
           have hji67u : (IntKind.u64.wrap (2 ^ min t315.toNat 64)) = ji67 := by have h_ := hji67_; rw [Int.one_mul] at h_; exact h_
           have hji67v : t315 ≤ 64 → (IntKind.u64.wrap (2 ^ t315.toNat)) = ji67 := fun hle_ => by have h_ := hji67z hle_; rw [Int.one_mul] at h_; exact h_
           simp only [Option.some.injEq, Prod.mk.injEq] at H
           obtain ⟨rfl, rfl, rfl, rfl⟩ := H
           have hnb68 := NB319_309.out
           have hnc68 := NB309_319.out
           have hnb69 := NB319_313.out
           have hnc69 := NB313_319.out
           have hcz70_0 := bv_ BK319.out 0
           have hcz70_1 := bv_ BK319.out 1
           have hcz70_2 := bv_ BK319.out 2
           have hcz70_3 := bv_ BK319.out 3
           have hcz70_4 := bv_ BK319.out 4
           have hfz70_0 := blk_frozen BK319.out 0
           have hfz70_1 := blk_frozen BK319.out 1
           have hfz70_2 := blk_frozen BK319.out 2
           have hfz70_3 := blk_frozen BK319.out 3
           have hfz70_4 := blk_frozen BK319.out 4
           try go_wp2
           replace BK309 := A_ (blk_drew BK309.out)
           replace BK313 := A_ (blk_drew BK313.out)
           replace BK319 := A_ (blk_drew BK319.out)
           replace HB := A_ (below_drew1 HB.out)
           refine start_ (n := 19) (S := fun w' => w'.cell? ⟨gb319, 0, none⟩ = some (.int .i64 t314) ∧ w'.cell? ⟨gb319, 1, none⟩ = some (.int .i64 t315) ∧ w'.cell? ⟨gb319, 2, none⟩ = some (.bool t316) ∧ w'.cell? ⟨gb319, 3, none⟩ = some (.int .u64 t317) ∧ w'.cell? ⟨gb319, 4, none⟩ = some (.int .u64 t318)) (ds := []) #[false, false, false, false, false, false, false, false, false, false, false, false, false, false, false, false, false, false, false] (by kernel_rfl) rfl rfl ⟨bc_ BK319.out 0, bc_ BK319.out 1, bc_ BK319.out 2, bc_ BK319.out 3, bc_ BK319.out 4⟩ (fun hHeld => ?_); refine with_tabW shape_Open.tab13 shape_Open.bits13 (fun HT_ HW_ => ?_)
           generalize wc.drew = w71 at BK309 BK313 BK319 HB hHeld ⊢
           refine pu_ 0 (some 66) #[true, false, false, false, false, false, false, false, false, false, false, false, false, false, false, false, false, false, false] rfl rfl (any_of HT_.out (by kernel_rfl)) ?_
           refine pu_ 2 (some 68) #[true, false, true, false, false, false, false, false, false, false, false, false, false, false, false, false, false, false, false] rfl rfl (any_of HT_.out (by kernel_rfl)) ?_
           refine pu_ 5 (some 71) #[true, false, true, false, false, true, false, false, false, false, false, false, false, false, false, false, false, false, false] rfl rfl (any_of HT_.out (by kernel_rfl)) ?_
           refine pu_ 10 (some 76) #[true, false, true, false, false, true, false, false, false, false, true, false, false, false, false, false, false, false, false] rfl rfl (any_of HT_.out (by kernel_rfl)) ?_
           refine pu_ 11 (some 77) #[true, false, true, false, false, true, false, false, false, false, true, true, false, false, false, false, false, false, false] rfl rfl (any_of HT_.out (by kernel_rfl)) ?_
           refine pu_ 14 (some 80) #[true, false, true, false, false, true, false, false, false, false, true, true, false, false, true, false, false, false, false] rfl rfl (any_of HT_.out (by kernel_rfl)) ?_
           refine tk5_ 1 (some 67) #[true, true, true, false, false, true, false, false, false, false, true, true, false, false, true, false, false, false, false] rfl rfl (take_ofW HT_.out HW_.out (by kernel_rfl)) hHeld ?_
           refine tk5_ 3 (some 69) #[true, true, true, true, false, true, false, false, false, false, true, true, false, false, true, false, false, false, false] rfl rfl (take_ofW HT_.out HW_.out (by kernel_rfl)) hHeld ?_
           refine tk5_ 6 (some 72) #[true, true, true, true, false, true, true, false, false, false, true, true, false, false, true, false, false, false, false] rfl rfl (take_ofW HT_.out HW_.out (by kernel_rfl)) hHeld ?_
           refine pu_ 7 (some 73) #[true, true, true, true, false, true, true, true, false, false, true, true, false, false, true, false, false, false, false] rfl rfl (any_of HT_.out (by kernel_rfl)) ?_
           refine tk5_ 12 (some 78) #[true, true, true, true, false, true, true, true, false, false, true, true, true, false, true, false, false, false, false] rfl rfl (take_ofW HT_.out HW_.out (by kernel_rfl)) hHeld ?_
           refine pu_ 13 (some 79) #[true, true, true, true, false, true, true, true, false, false, true, true, true, true, true, false, false, false, false] rfl rfl (any_of HT_.out (by kernel_rfl)) ?_
           refine tk5_ 15 (some 81) #[true, true, true, true, false, true, true, true, false, false, true, true, true, true, true, true, false, false, false] rfl rfl (take_ofW HT_.out HW_.out (by kernel_rfl)) hHeld ?_
           refine pu_ 16 (some 82) #[true, true, true, true, false, true, true, true, false, false, true, true, true, true, true, true, true, false, false] rfl rfl (any_of HT_.out (by kernel_rfl)) ?_
           refine one_ (i := 4) (N := some 70) #[true, true, true, true, true, true, true, true, false, false, true, true, true, true, true, true, true, false, false] rfl rfl (one_of HT_.out (by kernel_rfl)) (by decide) (fun K hK => ?_)
           refine goes_ Tryd.func88 (by kernel_rfl) rfl #[.agg #[.int .i64 t314, .int .i64 t315]] (by rfl) rfl rfl mp_ ?_
           with_reducible refine (shape_format_low.calls t314 t315 t323 _ A65.out).mono ?_
           rintro e w72 ⟨rfl, hb⟩
           refine ⟨_, rfl, ?_⟩
           replace BK309 := A_ (bb_ BK309.out hb)
           replace BK313 := A_ (bb_ BK313.out hb)
           replace BK319 := A_ (bb_ BK319.out hb)
           replace HB := A_ (below_step (hb3_ HB.out GE309.out GE313.out GE319.out) hb);(try clear hb);(try clear hb2);(try clear hk);(try clear hi)
           refine hK.out _ _ ⟨bc_ BK319.out 0, bc_ BK319.out 1, bc_ BK319.out 2, bc_ BK319.out 3, bc_ BK319.out 4⟩ (fun hHeld => ?_)
           clear hK K
           refine norm_ (a' := ?_) ?_ ?_
           rotate_left
           ·show Act.put _ (some 70) _ = _
            simp only [Act.put, lI_, l0_, lS_, i64_w, i32_w]
            rfl
           refine pu_ 8 (some 74) #[true, true, true, true, true, true, true, true, true, false, true, true, true, true, true, true, true, false, false] rfl rfl (any_of HT_.out (by kernel_rfl)) ?_
           refine pu_ 9 (some 75) #[true, true, true, true, true, true, true, true, true, true, true, true, true, true, true, true, true, false, false] rfl rfl (any_of HT_.out (by kernel_rfl)) ?_
           refine pu_ 17 (some 83) #[true, true, true, true, true, true, true, true, true, true, true, true, true, true, true, true, true, true, false] rfl rfl (any_of HT_.out (by kernel_rfl)) ?_
           refine one_ (i := 18) (N := none) #[true, true, true, true, true, true, true, true, true, true, true, true, true, true, true, true, true, true, true] rfl rfl (one_of HT_.out (by kernel_rfl)) (by decide) (fun K hK => ?_)
           have hs73 : w72.cell? ⟨gb309, 0, none⟩ = some (.bool false) := bc_ BK309.out 0
           have hfs73 := blk_frozen BK309.out 0
           have hns73_1 := NB313_309.out
           have hns73_2 := NB319_309.out
           have hms73_1 := NB309_313.out
           have hms73_2 := NB309_319.out
           have hs74 : w72.cell? ⟨gb309, 1, none⟩ = some (.int .i64 0) := bc_ BK309.out 1
           have hfs74 := blk_frozen BK309.out 1
           have hns74_1 := NB313_309.out
           have hns74_2 := NB319_309.out
           have hms74_1 := NB309_313.out
           have hms74_2 := NB309_319.out
           have hs75 : w72.cell? ⟨gb309, 2, none⟩ = some (.int .i64 0) := bc_ BK309.out 2
           have hfs75 := blk_frozen BK309.out 2
           have hns75_1 := NB313_309.out
           have hns75_2 := NB319_309.out
           have hms75_1 := NB309_313.out
           have hms75_2 := NB309_319.out
           have hs76 : w72.cell? ⟨gb309, 3, none⟩ = some (.int .u64 0) := bc_ BK309.out 3
           have hfs76 := blk_frozen BK309.out 3
           have hns76_1 := NB313_309.out
           have hns76_2 := NB319_309.out
           have hms76_1 := NB309_313.out
           have hms76_2 := NB309_319.out
           refine skip_ (w1 := ?_) (by rfl) rfl ?_ ?_
           rotate_left
           ·go_simp
            rfl
           refine hK.out _ _ ⟨((cell_far (p := ⟨gb309, _, none⟩) NB319_309.out _).trans (((cell_far (p := ⟨gb309, _, none⟩) NB319_309.out _).trans (((cell_far (p := ⟨gb309, _, none⟩) NB319_309.out _).trans (((cell_far (p := ⟨gb309, _, none⟩) NB319_309.out _).trans (hHeld.1)))))))), ((cell_far (p := ⟨gb309, _, none⟩) NB319_309.out _).trans (((cell_far (p := ⟨gb309, _, none⟩) NB319_309.out _).trans (((cell_far (p := ⟨gb309, _, none⟩) NB319_309.out _).trans (((cell_far (p := ⟨gb309, _, none⟩) NB319_309.out _).trans (hHeld.2.1)))))))), ((cell_far (p := ⟨gb309, _, none⟩) NB319_309.out _).trans (((cell_far (p := ⟨gb309, _, none⟩) NB319_309.out _).trans (((cell_far (p := ⟨gb309, _, none⟩) NB319_309.out _).trans (((cell_far (p := ⟨gb309, _, none⟩) NB319_309.out _).trans (hHeld.2.2.1)))))))), ((cell_far (p := ⟨gb309, _, none⟩) NB319_309.out _).trans (((cell_far (p := ⟨gb309, _, none⟩) NB319_309.out _).trans (((cell_far (p := ⟨gb309, _, none⟩) NB319_309.out _).trans (((cell_far (p := ⟨gb309, _, none⟩) NB319_309.out _).trans (hHeld.2.2.2.1)))))))), ((cell_far (p := ⟨gb309, _, none⟩) NB319_309.out _).trans (((cell_far (p := ⟨gb309, _, none⟩) NB319_309.out _).trans (((cell_far (p := ⟨gb309, _, none⟩) NB319_309.out _).trans (((cell_far (p := ⟨gb309, _, none⟩) NB319_309.out _).trans (hHeld.2.2.2.2))))))))⟩ (fun hHeld => ?_)
           clear hK K
           refine done_ (done_of HT_.out (by kernel_rfl)) ?_
           try go_wp2
           refine bodyPost_ret (results_cell_row rfl _ _ gb309 75 #[.bool t316, .int .i64 1, .int .i64 (wrap64 ((wrap64 (t323 + (wrap64 (t317)))) - 1)), .int .u64 (Go.bits .or .u64 (ji67) t318)] (0, 0) _ rfl (by (with_reducible repeat (first | refine blk_drewN ?_ _ | refine blk_drew ?_ | refine blk_alloc ?_ _)); refine blk_put (cs := #[.bool t316, .int .i64 1, .int .i64 (wrap64 ((wrap64 (t323 + (wrap64 (t317)))) - 1)), .int .u64 0]) ?_ 3 _ rfl; (with_reducible repeat (first | refine blk_drewN ?_ _ | refine blk_drew ?_ | refine blk_alloc ?_ _)); refine blk_put (cs := #[.bool t316, .int .i64 1, .int .i64 0, .int .u64 0]) ?_ 2 _ rfl; (with_reducible repeat (first | refine blk_drewN ?_ _ | refine blk_drew ?_ | refine blk_alloc ?_ _)); refine blk_put (cs := #[.bool t316, .int .i64 0, .int .i64 0, .int .u64 0]) ?_ 1 _ rfl; (with_reducible repeat (first | refine blk_drewN ?_ _ | refine blk_drew ?_ | refine blk_alloc ?_ _)); refine blk_put (cs := #[.bool false, .int .i64 0, .int .i64 0, .int .u64 0]) ?_ 0 _ rfl; (with_reducible repeat (first | refine blk_drewN ?_ _ | refine blk_drew ?_ | refine blk_alloc ?_ _)); exact BK309.out) Tryd.underlying75 rfl (by kernel_rfl)) rfl ?_
           exact ⟨by first | rfl | (simp [errW_none, errW_some] <;> rfl) | (simp only [← hji67]; first | rfl | (simp [errW_none, errW_some] <;> rfl)) | (simp [*, errW_none, errW_some] <;> rfl), hb3_ HB.out GE309.out GE313.out GE319.out⟩
          ·rw [if_neg c66] at H
           exact absurd H (by simp)
 ·replace c4 := Bool.eq_false_iff.mpr c4
  subst c4
  have H1 : (some (false, 0, 0, 0)) = some (r1, r2, r3, r4) := by rw [if_neg (show ¬ (false = true) by decide)] at H; exact H
  clear H;have H := H1;clear H1
  simp only [Option.some.injEq, Prod.mk.injEq] at H
  obtain ⟨rfl, rfl, rfl, rfl⟩ := H
  go_enter Tryd.func62, Tryd.ntmps62
  go_wp2_with (first | ((with_reducible refine gate_dst (N := 4) rfl ?_); refine be_ 4 #[.bool false, .int .i64 0, .int .i64 0, .int .u64 0] 75 ?_; intro gb309 hg w77 hbox hb; have BK309 := A_ (hbox); have GW309 := A_ (sz_ hg (hb_ HB.out)); have GE309 := A_ (sz_ hg (hb_ HB.out)); replace HB := A_ (below_step (hb_ HB.out) hb); clear hb hbox hg) | ((with_reducible refine gate_callee (f := 63) rfl ?_); refine goesL_ (some 10) rfl rfl Tryd.func63 (by kernel_rfl) rfl #[.int .i64 a0] rfl mp_ ?_; (with_reducible refine (shape_of.calls a0 t310 t311 false _ A3.out).mono ?_); rintro e w78 ⟨rfl, hb⟩; refine ⟨_, rfl, ?_⟩; replace BK309 := A_ (bb_ BK309.out hb); replace HB := A_ (below_step (hb1_ HB.out GE309.out) hb); (try clear hb); (try clear hb2); (try clear hk); (try clear hi)) | ((with_reducible refine gate_dst (N := 5) rfl ?_); refine be_ 5 #[.int .i64 0, .int .i64 0] 78 ?_; intro gb313 hg w79 hbox hb; have BK313 := A_ (hbox); have GW313 := A_ (sz_ hg (hb1_ HB.out GE309.out)); have GE313 := A_ (sz_ hg (hb1_ HB.out GE309.out)); have NB309_313 := A_ (nl_ hg BK309.out); have NB313_309 := A_ (ng_ hg BK309.out); replace BK309 := A_ (bb_ BK309.out hb); replace HB := A_ (below_step (hb1_ HB.out GE309.out) hb); clear hb hbox hg; have hnb80 := NB313_309.out; have hnc80 := NB309_313.out; have hcz81_0 := bv_ BK313.out 0; have hcz81_1 := bv_ BK313.out 1; have hfz81_0 := blk_frozen BK313.out 0; have hfz81_1 := blk_frozen BK313.out 1; have hcz82_0 := bv_ BK309.out 0; have hcz82_1 := bv_ BK309.out 1; have hcz82_2 := bv_ BK309.out 2; have hcz82_3 := bv_ BK309.out 3; have hfz82_0 := blk_frozen BK309.out 0; have hfz82_1 := blk_frozen BK309.out 1; have hfz82_2 := blk_frozen BK309.out 2; have hfz82_3 := blk_frozen BK309.out 3))
  refine bodyPost_ret (results_cell_row rfl _ _ gb309 75 #[.bool false, .int .i64 0, .int .i64 0, .int .u64 0] (0, 0) _ rfl (by (with_reducible repeat (first | refine blk_drewN ?_ _ | refine blk_drew ?_ | refine blk_alloc ?_ _)); refine blk_put (cs := #[.bool false, .int .i64 0, .int .i64 0, .int .u64 0]) ?_ 3 _ rfl; (with_reducible repeat (first | refine blk_drewN ?_ _ | refine blk_drew ?_ | refine blk_alloc ?_ _)); refine blk_put (cs := #[.bool false, .int .i64 0, .int .i64 0, .int .u64 0]) ?_ 2 _ rfl; (with_reducible repeat (first | refine blk_drewN ?_ _ | refine blk_drew ?_ | refine blk_alloc ?_ _)); refine blk_put (cs := #[.bool false, .int .i64 0, .int .i64 0, .int .u64 0]) ?_ 1 _ rfl; (with_reducible repeat (first | refine blk_drewN ?_ _ | refine blk_drew ?_ | refine blk_alloc ?_ _)); refine blk_put (cs := #[.bool false, .int .i64 0, .int .i64 0, .int .u64 0]) ?_ 0 _ rfl; (with_reducible repeat (first | refine blk_drewN ?_ _ | refine blk_drew ?_ | refine blk_alloc ?_ _)); refine blk_far ?_ NB309_313.out _; (with_reducible repeat (first | refine blk_drewN ?_ _ | refine blk_drew ?_ | refine blk_alloc ?_ _)); refine blk_far ?_ NB309_313.out _; (with_reducible repeat (first | refine blk_drewN ?_ _ | refine blk_drew ?_ | refine blk_alloc ?_ _)); exact BK309.out) Tryd.underlying75 rfl (by kernel_rfl)) rfl ?_
  exact ⟨er_, hb2_ HB.out GE309.out GE313.out⟩
end Go.Proofs.YthdeeoallfbjmaaDoor.PA
section
set_option linter.unusedVariables false
set_option linter.unusedSimpArgs false
namespace Go.Proofs.YthdeeoallfbjmaaDoor.Th
open Go.RowKit Go.Proofs.YthdeeoallfbjmaaDoorW.PrintWords Go.Proofs.YthdeeoallfbjmaaDoorW.PrintLast Go.Proofs.YthdeeoallfbjmaaDoorW.PrintMore Go.Proofs.YthdeeoallfbjmaaDoor.PA Bit Flo
def f32 : Fmt := ⟨23, -149, 255, by decide, by decide⟩
def f64 : Fmt := ⟨52, -1074, 2047, by decide, by decide⟩
def fmt (w : Int) : Fmt := if w = 32 then f32 else f64
theorem fmt32 : fmt 32 = f32 := rfl
theorem fmt64 : fmt 64 = f64 := rfl
def opn (w : Int) (a : Nat) : Bool × Int × Int × Int :=
  let F := fmt w
  let m := magN w a
  if m = 0 then (sgB w a, 0, 0, 0) else if m < F.inf then (sgB w a, 1, F.ex m, (F.sg m : Int)) else if m = F.inf then (sgB w a, 2, 0, 0) else (false, 3, 0, 0)

theorem ones32 : shape_format_ones.f 8 23 = some 255 := by decide +kernel
theorem low32 : shape_format_low.f 8 23 = some (-149) := by decide +kernel
theorem inf32 : f32.inf = 2139095040 := by decide
theorem sg32 (m : Nat) : f32.sg m = if m < 8388608 then m else 8388608 + m % 8388608 := by
  unfold Fmt.sg; rw [show (2 : Nat) ^ f32.f = 8388608 by decide]
theorem ex32 (m : Nat) : f32.ex m = if m < 8388608 then (-149 : Int) else ((m / 8388608 : Nat) : Int) - 1 + (-149) := by
  unfold Fmt.ex; rw [show (2 : Nat) ^ f32.f = 8388608 by decide]; rfl
theorem opn32 (a : Nat) : opn 32 a = if a % 2147483648 = 0 then (decide (a / 2147483648 % 2 = 1), 0, 0, 0) else if a % 2147483648 < 2139095040 then (decide (a / 2147483648 % 2 = 1), 1, (if a % 2147483648 < 8388608 then (-149 : Int) else ((a % 2147483648 / 8388608 : Nat) : Int) - 1 + (-149)), ((if a % 2147483648 < 8388608 then a % 2147483648 else 8388608 + a % 2147483648 % 8388608 : Nat) : Int))
    else if a % 2147483648 = 2139095040 then (decide (a / 2147483648 % 2 = 1), 2, 0, 0) else (false, 3, 0, 0) := by
  unfold opn
  simp only [show fmt 32 = f32 from rfl, inf32, sg32, ex32, magN, sgB, show sb 32 = 2147483648 by decide]
theorem split32 (a : Nat) (ha : a < 18446744073709551616) : shape_format_split.f 8 23 a = some (8, 23, decide (a / 2147483648 % 2 = 1), ((a / 8388608 % 256 : Nat) : Int), ((a % 8388608 : Nat) : Int)) := by
  unfold shape_format_split.f
  rw [show wrap64 (8 + 23) = 31 by decide +kernel, if_pos (by decide), if_pos (by decide), ones32, Option.bind_some]
  have e1 : shr .u64 (a : Int) 31 = ((a / 2147483648 : Nat) : Int) := by
    unfold shr; rw [show min (31 : Int).toNat IntKind.u64.bits = 31 by decide, show (2 : Int) ^ 31 = 2147483648 by decide]; omega
  have e2 : shr .u64 (a : Int) 23 = ((a / 8388608 : Nat) : Int) := by
    unfold shr; rw [show min (23 : Int).toNat IntKind.u64.bits = 23 by decide, show (2 : Int) ^ 23 = 8388608 by decide]; omega
  have e3 : IntKind.u64.wrap ((shl .u64 1 23) - 1) = ((8388607 : Nat) : Int) := by decide +kernel
  rw [e1, e2, e3, show (1 : Int) = ((1 : Nat) : Int) from rfl, show (255 : Int) = ((255 : Nat) : Int) from rfl,
    u64_and_nat _ 1 (by omega) (by decide), u64_and_nat _ 255 (by omega) (by decide), u64_and_nat a 8388607 ha (by decide)]
  have h1 := and_low (a / 2147483648) 1
  have h2 := and_low (a / 8388608) 8
  have h3 := and_low a 23
  rw [show (2 : Nat) ^ 1 - 1 = 1 by decide, show (2 : Nat) ^ 1 = 2 by decide] at h1
  rw [show (2 : Nat) ^ 8 - 1 = 255 by decide, show (2 : Nat) ^ 8 = 256 by decide] at h2
  rw [show (2 : Nat) ^ 23 - 1 = 8388607 by decide, show (2 : Nat) ^ 23 = 8388608 by decide] at h3
  rw [h1, h2, h3]
  have hb : ((((a / 2147483648 % 2 : Nat) : Int) == ((1 : Nat) : Int)) : Bool) = decide (a / 2147483648 % 2 = 1) := by
    rw [Bool.eq_iff_iff]; simp; omega
  rw [hb]
theorem open32 (a : Nat) (ha : a < 18446744073709551616) : Ev (fun k => shape_Open.f k 32 a) (opn 32 a) := by
  rw [opn32]
  unfold shape_Open.f
  refine Ev.bs (show shape_of.f 32 = some (8, 23, true) by decide) (Ev.pos rfl (Ev.bs (split32 a ha) (Ev.bs ones32 ?_)))
  simp only
  have hP : a % 2147483648 % 8388608 = a % 8388608 := by omega
  have hQ : a % 2147483648 / 8388608 = a / 8388608 % 256 := by omega
  have hT : a / 8388608 % 256 < 256 := Nat.mod_lt _ (by decide)
  have hE : a % 2147483648 = a / 8388608 % 256 * 8388608 + a % 8388608 := by omega
  rw [hP, hQ, hE]
  generalize a / 8388608 % 256 = e at *
  have hF : a % 8388608 < 8388608 := Nat.mod_lt _ (by decide)
  generalize a % 8388608 = fr at *
  generalize decide (a / 2147483648 % 2 = 1) = s
  by_cases h1 : e = 255
  · subst h1
    refine Ev.pos rfl ?_
    refine Ev.step (fun _ => shape_Open.j0.eq_2 ..) ?_
    by_cases h2 : fr = 0
    · subst h2
      refine Ev.neg (by decide) (Ev.bs ones32 (Ev.pos rfl (Ev.out ?_)))
      rw [if_neg (by omega), if_neg (by omega), if_pos (by omega)]
    · refine Ev.pos (by simp; omega) (Ev.out ?_)
      rw [if_neg (by omega), if_neg (by omega), if_neg (by omega)]
  · refine Ev.neg (by omega) ?_
    refine Ev.step (fun _ => shape_Open.j0.eq_2 ..) ?_
    refine Ev.neg (by decide) (Ev.bs ones32 (Ev.neg (by omega) ?_))
    by_cases h2 : e = 0
    · subst h2
      refine Ev.pos rfl (Ev.step (fun _ => shape_Open.j1.eq_2 ..) ?_)
      by_cases h3 : fr = 0
      · subst h3
        refine Ev.pos (by decide) (Ev.out ?_)
        rw [Nat.zero_mul, Nat.zero_add, if_pos rfl]
      · refine Ev.neg (by simp; omega) (Ev.pos rfl (Ev.bs low32 (Ev.out ?_)))
        rw [if_neg (by omega), if_pos (by omega), if_pos (by omega), if_pos (by omega)]
        simp
    · refine Ev.neg (by omega) (Ev.step (fun _ => shape_Open.j1.eq_2 ..) ?_)
      refine Ev.neg (by decide) (Ev.neg (by omega) (Ev.bs low32 (Ev.pos (by decide) (Ev.out ?_))))
      rw [if_neg (by omega), if_pos (by omega), if_neg (by omega), if_neg (by omega)]
      rw [w64_id (n := ((e : Nat) : Int)) (by omega) (by omega), w64_id (n := (-149 : Int) + _) (by omega) (by omega), w64_id (by omega) (by omega)]
      have e4 : shl .u64 1 23 = ((8388608 : Nat) : Int) := by decide +kernel
      rw [e4, u64_or_nat _ _ (by decide) (by omega)]
      have h4 := or_pow fr 1 23 (by rw [show (2 : Nat) ^ 23 = 8388608 by decide]; exact hF)
      rw [Nat.one_mul, show (2 : Nat) ^ 23 = 8388608 by decide, Nat.or_comm] at h4
      rw [h4, Nat.add_comm fr]
      congr 2
      congr 1
      omega

theorem ones64 : shape_format_ones.f 11 52 = some 2047 := by decide +kernel
theorem low64 : shape_format_low.f 11 52 = some (-1074) := by decide +kernel
theorem inf64 : f64.inf = 9218868437227405312 := by decide
theorem sg64 (m : Nat) : f64.sg m = if m < 4503599627370496 then m else 4503599627370496 + m % 4503599627370496 := by
  unfold Fmt.sg; rw [show (2 : Nat) ^ f64.f = 4503599627370496 by decide]
theorem ex64 (m : Nat) : f64.ex m = if m < 4503599627370496 then (-1074 : Int) else ((m / 4503599627370496 : Nat) : Int) - 1 + (-1074) := by
  unfold Fmt.ex; rw [show (2 : Nat) ^ f64.f = 4503599627370496 by decide]; rfl
theorem opn64 (a : Nat) : opn 64 a = if a % 9223372036854775808 = 0 then (decide (a / 9223372036854775808 % 2 = 1), 0, 0, 0) else if a % 9223372036854775808 < 9218868437227405312 then (decide (a / 9223372036854775808 % 2 = 1), 1, (if a % 9223372036854775808 < 4503599627370496 then (-1074 : Int) else ((a % 9223372036854775808 / 4503599627370496 : Nat) : Int) - 1 + (-1074)), ((if a % 9223372036854775808 < 4503599627370496 then a % 9223372036854775808 else 4503599627370496 + a % 9223372036854775808 % 4503599627370496 : Nat) : Int))
    else if a % 9223372036854775808 = 9218868437227405312 then (decide (a / 9223372036854775808 % 2 = 1), 2, 0, 0) else (false, 3, 0, 0) := by
  unfold opn
  simp only [show fmt 64 = f64 from rfl, inf64, sg64, ex64, magN, sgB, show sb 64 = 9223372036854775808 by decide]
theorem split64 (a : Nat) (ha : a < 18446744073709551616) : shape_format_split.f 11 52 a = some (11, 52, decide (a / 9223372036854775808 % 2 = 1), ((a / 4503599627370496 % 2048 : Nat) : Int), ((a % 4503599627370496 : Nat) : Int)) := by
  unfold shape_format_split.f
  rw [show wrap64 (11 + 52) = 63 by decide +kernel, if_pos (by decide), if_pos (by decide), ones64, Option.bind_some]
  have e1 : shr .u64 (a : Int) 63 = ((a / 9223372036854775808 : Nat) : Int) := by
    unfold shr; rw [show min (63 : Int).toNat IntKind.u64.bits = 63 by decide, show (2 : Int) ^ 63 = 9223372036854775808 by decide]; omega
  have e2 : shr .u64 (a : Int) 52 = ((a / 4503599627370496 : Nat) : Int) := by
    unfold shr; rw [show min (52 : Int).toNat IntKind.u64.bits = 52 by decide, show (2 : Int) ^ 52 = 4503599627370496 by decide]; omega
  have e3 : IntKind.u64.wrap ((shl .u64 1 52) - 1) = ((4503599627370495 : Nat) : Int) := by decide +kernel
  rw [e1, e2, e3, show (1 : Int) = ((1 : Nat) : Int) from rfl, show (2047 : Int) = ((2047 : Nat) : Int) from rfl,
    u64_and_nat _ 1 (by omega) (by decide), u64_and_nat _ 2047 (by omega) (by decide), u64_and_nat a 4503599627370495 ha (by decide)]
  have h1 := and_low (a / 9223372036854775808) 1
  have h2 := and_low (a / 4503599627370496) 11
  have h3 := and_low a 52
  rw [show (2 : Nat) ^ 1 - 1 = 1 by decide, show (2 : Nat) ^ 1 = 2 by decide] at h1
  rw [show (2 : Nat) ^ 11 - 1 = 2047 by decide, show (2 : Nat) ^ 11 = 2048 by decide] at h2
  rw [show (2 : Nat) ^ 52 - 1 = 4503599627370495 by decide, show (2 : Nat) ^ 52 = 4503599627370496 by decide] at h3
  rw [h1, h2, h3]
  have hb : ((((a / 9223372036854775808 % 2 : Nat) : Int) == ((1 : Nat) : Int)) : Bool) = decide (a / 9223372036854775808 % 2 = 1) := by
    rw [Bool.eq_iff_iff]; simp; omega
  rw [hb]
theorem open64 (a : Nat) (ha : a < 18446744073709551616) : Ev (fun k => shape_Open.f k 64 a) (opn 64 a) := by
  rw [opn64]
  unfold shape_Open.f
  refine Ev.bs (show shape_of.f 64 = some (11, 52, true) by decide) (Ev.pos rfl (Ev.bs (split64 a ha) (Ev.bs ones64 ?_)))
  simp only
  have hP : a % 9223372036854775808 % 4503599627370496 = a % 4503599627370496 := by omega
  have hQ : a % 9223372036854775808 / 4503599627370496 = a / 4503599627370496 % 2048 := by omega
  have hT : a / 4503599627370496 % 2048 < 2048 := Nat.mod_lt _ (by decide)
  have hE : a % 9223372036854775808 = a / 4503599627370496 % 2048 * 4503599627370496 + a % 4503599627370496 := by omega
  rw [hP, hQ, hE]
  generalize a / 4503599627370496 % 2048 = e at *
  have hF : a % 4503599627370496 < 4503599627370496 := Nat.mod_lt _ (by decide)
  generalize a % 4503599627370496 = fr at *
  generalize decide (a / 9223372036854775808 % 2 = 1) = s
  by_cases h1 : e = 2047
  · subst h1
    refine Ev.pos rfl ?_
    refine Ev.step (fun _ => shape_Open.j0.eq_2 ..) ?_
    by_cases h2 : fr = 0
    · subst h2
      refine Ev.neg (by decide) (Ev.bs ones64 (Ev.pos rfl (Ev.out ?_)))
      rw [if_neg (by omega), if_neg (by omega), if_pos (by omega)]
    · refine Ev.pos (by simp; omega) (Ev.out ?_)
      rw [if_neg (by omega), if_neg (by omega), if_neg (by omega)]
  · refine Ev.neg (by omega) ?_
    refine Ev.step (fun _ => shape_Open.j0.eq_2 ..) ?_
    refine Ev.neg (by decide) (Ev.bs ones64 (Ev.neg (by omega) ?_))
    by_cases h2 : e = 0
    · subst h2
      refine Ev.pos rfl (Ev.step (fun _ => shape_Open.j1.eq_2 ..) ?_)
      by_cases h3 : fr = 0
      · subst h3
        refine Ev.pos (by decide) (Ev.out ?_)
        rw [Nat.zero_mul, Nat.zero_add, if_pos rfl]
      · refine Ev.neg (by simp; omega) (Ev.pos rfl (Ev.bs low64 (Ev.out ?_)))
        rw [if_neg (by omega), if_pos (by omega), if_pos (by omega), if_pos (by omega)]
        simp
    · refine Ev.neg (by omega) (Ev.step (fun _ => shape_Open.j1.eq_2 ..) ?_)
      refine Ev.neg (by decide) (Ev.neg (by omega) (Ev.bs low64 (Ev.pos (by decide) (Ev.out ?_))))
      rw [if_neg (by omega), if_pos (by omega), if_neg (by omega), if_neg (by omega)]
      rw [w64_id (n := ((e : Nat) : Int)) (by omega) (by omega), w64_id (n := (-1074 : Int) + _) (by omega) (by omega), w64_id (by omega) (by omega)]
      have e4 : shl .u64 1 52 = ((4503599627370496 : Nat) : Int) := by decide +kernel
      rw [e4, u64_or_nat _ _ (by decide) (by omega)]
      have h4 := or_pow fr 1 52 (by rw [show (2 : Nat) ^ 52 = 4503599627370496 by decide]; exact hF)
      rw [Nat.one_mul, show (2 : Nat) ^ 52 = 4503599627370496 by decide, Nat.or_comm] at h4
      rw [h4, Nat.add_comm fr]
      congr 2
      congr 1
      omega

theorem openS (w : Int) (hw : w = 32 ∨ w = 64) (a : Nat) (ha : a < 18446744073709551616) : Ev (fun k => shape_Open.f k w a) (opn w a) := by
  rcases hw with rfl | rfl
  · exact open32 a ha
  · exact open64 a ha
def nanN (w : Int) : Nat := if w = 32 then 2143289344 else 9221120237041090560

theorem join32 (s : Bool) (e fr : Nat) (he : e ≤ 255) (hf : fr < 8388608) : shape_format_join.f 8 23 s e fr = some ((mkN 32 (e * 8388608 + fr) s : Nat) : Int) := by
  unfold shape_format_join.f
  have hs : shape_format_sign.f 8 23 s = some ((((if s then 1 else 0) * 2 ^ 31 : Nat) : Int)) := by cases s <;> decide +kernel
  rw [hs, Option.bind_some, if_pos (by decide)]
  have e1 : shl .u64 (e : Int) 23 = ((e * 8388608 : Nat) : Int) := by
    unfold shl; rw [show min (23 : Int).toNat IntKind.u64.bits = 23 by decide, show (2 : Int) ^ 23 = 8388608 by decide, IntKind.wrap_u64]; omega
  rw [e1]
  have hc : (if s then 1 else 0) ≤ 1 := by cases s <;> decide
  have h2 : mkN 32 (e * 8388608 + fr) s = e * 8388608 + fr + (if s then 1 else 0) * 2147483648 := by
    unfold mkN; rw [show sb 32 = 2147483648 by decide]; cases s <;> simp
  rw [h2]
  generalize (if s then 1 else 0) = c at *
  rw [show (2 : Nat) ^ 31 = 2147483648 by decide, u64_or_nat _ _ (by omega) (by omega)]
  have h3 := or_pow (e * 8388608) c 31 (by rw [show (2 : Nat) ^ 31 = 2147483648 by decide]; omega)
  rw [show (2 : Nat) ^ 31 = 2147483648 by decide, Nat.or_comm] at h3
  rw [h3, u64_or_nat _ _ (by omega) (by omega)]
  have h4 := or_pow fr (e + c * 256) 23 (by rw [show (2 : Nat) ^ 23 = 8388608 by decide]; exact hf)
  rw [show (2 : Nat) ^ 23 = 8388608 by decide, Nat.or_comm, show (e + c * 256) * 8388608 = e * 8388608 + c * 2147483648 by omega] at h4
  rw [h4]
  congr 2
  omega
theorem shInf32 (s : Bool) : shape_Inf.f 32 s = some ((mkN 32 f32.inf s : Nat) : Int) := by
  unfold shape_Inf.f
  rw [show shape_of.f 32 = some (8, 23, true) by decide, Option.bind_some, if_pos rfl, ones32, Option.bind_some]
  have e2 := join32 s 255 0 (by decide) (by decide)
  simp only
  rw [show (255 : Int) = ((255 : Nat) : Int) from rfl, show (0 : Int) = ((0 : Nat) : Int) from rfl, e2, Option.bind_some, inf32]
theorem shZero32 (s : Bool) : shape_Zero.f 32 s = some ((mkN 32 0 s : Nat) : Int) := by
  cases s <;> decide +kernel
theorem fin32 (s : Bool) (kd : Int) (m : Nat) (h0 : 0 < m) (hm : m < f32.inf) : Ev (fun k => shape_format_finite.f k 8 23 s kd (f32.ex m) (f32.sg m : Nat)) (((mkN 32 m s : Nat) : Int), true) := by
  rw [inf32] at hm
  rw [sg32, ex32]
  unfold shape_format_finite.f
  have e2 : shl .u64 2 23 = ((16777216 : Nat) : Int) := by decide +kernel
  have e3 : shl .u64 1 23 = ((8388608 : Nat) : Int) := by decide +kernel
  have e4 : IntKind.u64.wrap (((8388608 : Nat) : Int) - 1) = ((8388607 : Nat) : Int) := by decide +kernel
  have hmod : m % 8388608 < 8388608 := Nat.mod_lt _ (by decide)
  refine Ev.bs low32 ?_
  by_cases h1 : m < 8388608
  · rw [if_pos h1, if_pos h1]
    refine Ev.neg (by omega) (Ev.pos (by decide) (Ev.neg (by rw [e2]; omega) ?_))
    refine Ev.step (fun _ => shape_format_finite.j0.eq_2 ..) ?_
    refine Ev.neg (by simp) (Ev.pos (by decide) (Ev.pos (by rw [e3]; omega) ?_))
    have h2 := join32 s 0 m (by decide) h1
    rw [Nat.zero_mul, Nat.zero_add] at h2
    exact Ev.bs h2 (Ev.out (by simp))
  · rw [if_neg h1, if_neg h1]
    refine Ev.neg (by omega) (Ev.pos (by decide) (Ev.neg (by rw [e2]; omega) ?_))
    refine Ev.step (fun _ => shape_format_finite.j0.eq_2 ..) ?_
    refine Ev.neg (by simp; omega) (Ev.pos (by decide) (Ev.neg (by rw [e3]; omega) (Ev.bs ones32 ?_)))
    have hq : m / 8388608 ≤ 254 := by omega
    have hq0 : 1 ≤ m / 8388608 := by omega
    have hmm : m = m / 8388608 * 8388608 + m % 8388608 := by omega
    have h2 := join32 s (m / 8388608) (m % 8388608) (by omega) hmod
    rw [← hmm] at h2
    generalize m / 8388608 = e at *
    generalize m % 8388608 = fr at *
    rw [show ((e : Nat) : Int) - 1 + (-149) - (-149) = ((e - 1 : Nat) : Int) by omega, w64_id (n := ((e - 1 : Nat) : Int)) (by omega) (by omega), w64_id (n := (255 : Int)) (by decide) (by decide), show wrap64 ((255 : Int) - 2) = 253 by decide +kernel]
    refine Ev.neg (by omega) ?_
    rw [u64_id (n := ((e - 1 : Nat) : Int)) (by omega) (by omega), u64_id (n := ((e - 1 : Nat) : Int) + 1) (by omega) (by omega), show ((e - 1 : Nat) : Int) + 1 = (e : Int) by omega, e3, e4, u64_and_nat _ _ (by omega) (by decide)]
    have h5 := and_low (8388608 + fr) 23
    rw [show (2 : Nat) ^ 23 - 1 = 8388607 by decide, show (2 : Nat) ^ 23 = 8388608 by decide] at h5
    rw [h5, show (8388608 + fr) % 8388608 = fr by omega]
    exact Ev.bs h2 (Ev.out rfl)
theorem close32 (s : Bool) (m : Nat) (h0 : 0 < m) (hm : m < f32.inf) : Ev (fun k => shape_Close.f k 32 s 1 (f32.ex m) (f32.sg m : Nat)) (((mkN 32 m s : Nat) : Int), 0) := by
  unfold shape_Close.f
  refine Ev.bs (show shape_of.f 32 = some (8, 23, true) by decide) (Ev.pos rfl (Ev.pos rfl (Ev.bind (fin32 s 1 m h0 hm) (Ev.pos rfl (Ev.out rfl)))))
theorem join64 (s : Bool) (e fr : Nat) (he : e ≤ 2047) (hf : fr < 4503599627370496) : shape_format_join.f 11 52 s e fr = some ((mkN 64 (e * 4503599627370496 + fr) s : Nat) : Int) := by
  unfold shape_format_join.f
  have hs : shape_format_sign.f 11 52 s = some ((((if s then 1 else 0) * 2 ^ 63 : Nat) : Int)) := by cases s <;> decide +kernel
  rw [hs, Option.bind_some, if_pos (by decide)]
  have e1 : shl .u64 (e : Int) 52 = ((e * 4503599627370496 : Nat) : Int) := by
    unfold shl; rw [show min (52 : Int).toNat IntKind.u64.bits = 52 by decide, show (2 : Int) ^ 52 = 4503599627370496 by decide, IntKind.wrap_u64]; omega
  rw [e1]
  have hc : (if s then 1 else 0) ≤ 1 := by cases s <;> decide
  have h2 : mkN 64 (e * 4503599627370496 + fr) s = e * 4503599627370496 + fr + (if s then 1 else 0) * 9223372036854775808 := by
    unfold mkN; rw [show sb 64 = 9223372036854775808 by decide]; cases s <;> simp
  rw [h2]
  generalize (if s then 1 else 0) = c at *
  rw [show (2 : Nat) ^ 63 = 9223372036854775808 by decide, u64_or_nat _ _ (by omega) (by omega)]
  have h3 := or_pow (e * 4503599627370496) c 63 (by rw [show (2 : Nat) ^ 63 = 9223372036854775808 by decide]; omega)
  rw [show (2 : Nat) ^ 63 = 9223372036854775808 by decide, Nat.or_comm] at h3
  rw [h3, u64_or_nat _ _ (by omega) (by omega)]
  have h4 := or_pow fr (e + c * 2048) 52 (by rw [show (2 : Nat) ^ 52 = 4503599627370496 by decide]; exact hf)
  rw [show (2 : Nat) ^ 52 = 4503599627370496 by decide, Nat.or_comm, show (e + c * 2048) * 4503599627370496 = e * 4503599627370496 + c * 9223372036854775808 by omega] at h4
  rw [h4]
  congr 2
  omega
theorem shInf64 (s : Bool) : shape_Inf.f 64 s = some ((mkN 64 f64.inf s : Nat) : Int) := by
  unfold shape_Inf.f
  rw [show shape_of.f 64 = some (11, 52, true) by decide, Option.bind_some, if_pos rfl, ones64, Option.bind_some]
  have e2 := join64 s 2047 0 (by decide) (by decide)
  simp only
  rw [show (2047 : Int) = ((2047 : Nat) : Int) from rfl, show (0 : Int) = ((0 : Nat) : Int) from rfl, e2, Option.bind_some, inf64]
theorem shZero64 (s : Bool) : shape_Zero.f 64 s = some ((mkN 64 0 s : Nat) : Int) := by
  cases s <;> decide +kernel
theorem fin64 (s : Bool) (kd : Int) (m : Nat) (h0 : 0 < m) (hm : m < f64.inf) : Ev (fun k => shape_format_finite.f k 11 52 s kd (f64.ex m) (f64.sg m : Nat)) (((mkN 64 m s : Nat) : Int), true) := by
  rw [inf64] at hm
  rw [sg64, ex64]
  unfold shape_format_finite.f
  have e2 : shl .u64 2 52 = ((9007199254740992 : Nat) : Int) := by decide +kernel
  have e3 : shl .u64 1 52 = ((4503599627370496 : Nat) : Int) := by decide +kernel
  have e4 : IntKind.u64.wrap (((4503599627370496 : Nat) : Int) - 1) = ((4503599627370495 : Nat) : Int) := by decide +kernel
  have hmod : m % 4503599627370496 < 4503599627370496 := Nat.mod_lt _ (by decide)
  refine Ev.bs low64 ?_
  by_cases h1 : m < 4503599627370496
  · rw [if_pos h1, if_pos h1]
    refine Ev.neg (by omega) (Ev.pos (by decide) (Ev.neg (by rw [e2]; omega) ?_))
    refine Ev.step (fun _ => shape_format_finite.j0.eq_2 ..) ?_
    refine Ev.neg (by simp) (Ev.pos (by decide) (Ev.pos (by rw [e3]; omega) ?_))
    have h2 := join64 s 0 m (by decide) h1
    rw [Nat.zero_mul, Nat.zero_add] at h2
    exact Ev.bs h2 (Ev.out (by simp))
  · rw [if_neg h1, if_neg h1]
    refine Ev.neg (by omega) (Ev.pos (by decide) (Ev.neg (by rw [e2]; omega) ?_))
    refine Ev.step (fun _ => shape_format_finite.j0.eq_2 ..) ?_
    refine Ev.neg (by simp; omega) (Ev.pos (by decide) (Ev.neg (by rw [e3]; omega) (Ev.bs ones64 ?_)))
    have hq : m / 4503599627370496 ≤ 2046 := by omega
    have hq0 : 1 ≤ m / 4503599627370496 := by omega
    have hmm : m = m / 4503599627370496 * 4503599627370496 + m % 4503599627370496 := by omega
    have h2 := join64 s (m / 4503599627370496) (m % 4503599627370496) (by omega) hmod
    rw [← hmm] at h2
    generalize m / 4503599627370496 = e at *
    generalize m % 4503599627370496 = fr at *
    rw [show ((e : Nat) : Int) - 1 + (-1074) - (-1074) = ((e - 1 : Nat) : Int) by omega, w64_id (n := ((e - 1 : Nat) : Int)) (by omega) (by omega), w64_id (n := (2047 : Int)) (by decide) (by decide), show wrap64 ((2047 : Int) - 2) = 2045 by decide +kernel]
    refine Ev.neg (by omega) ?_
    rw [u64_id (n := ((e - 1 : Nat) : Int)) (by omega) (by omega), u64_id (n := ((e - 1 : Nat) : Int) + 1) (by omega) (by omega), show ((e - 1 : Nat) : Int) + 1 = (e : Int) by omega, e3, e4, u64_and_nat _ _ (by omega) (by decide)]
    have h5 := and_low (4503599627370496 + fr) 52
    rw [show (2 : Nat) ^ 52 - 1 = 4503599627370495 by decide, show (2 : Nat) ^ 52 = 4503599627370496 by decide] at h5
    rw [h5, show (4503599627370496 + fr) % 4503599627370496 = fr by omega]
    exact Ev.bs h2 (Ev.out rfl)
theorem close64 (s : Bool) (m : Nat) (h0 : 0 < m) (hm : m < f64.inf) : Ev (fun k => shape_Close.f k 64 s 1 (f64.ex m) (f64.sg m : Nat)) (((mkN 64 m s : Nat) : Int), 0) := by
  unfold shape_Close.f
  refine Ev.bs (show shape_of.f 64 = some (11, 52, true) by decide) (Ev.pos rfl (Ev.pos rfl (Ev.bind (fin64 s 1 m h0 hm) (Ev.pos rfl (Ev.out rfl)))))
end Go.Proofs.YthdeeoallfbjmaaDoor.Th
end
section
set_option linter.unusedVariables false
set_option linter.unusedSimpArgs false
namespace Go.Proofs.YthdeeoallfbjmaaDoor.Th
open Go.RowKit Go.Proofs.YthdeeoallfbjmaaDoorW.PrintWords Go.Proofs.YthdeeoallfbjmaaDoorW.PrintLast Go.Proofs.YthdeeoallfbjmaaDoorW.PrintMore Go.Proofs.YthdeeoallfbjmaaDoor.PA Bit Dig
def wn (h l : Nat) : Nat := h * 18446744073709551616 + l
theorem wn_hi {h l : Nat} (hl : l < 18446744073709551616) : wn h l / 18446744073709551616 = h := by unfold wn; omega
theorem wn_lo {h l : Nat} (hl : l < 18446744073709551616) : wn h l % 18446744073709551616 = l := by unfold wn; omega
theorem wn_div (V : Nat) : wn (V / 18446744073709551616) (V % 18446744073709551616) = V := by unfold wn; omega
theorem wn_lt {h l : Nat} (hh : h < 18446744073709551616) (hl : l < 18446744073709551616) : wn h l < 340282366920938463463374607431768211456 := by unfold wn; omega
theorem p128 : (340282366920938463463374607431768211456 : Nat) = 2 ^ 128 := by decide
theorem p64 : (18446744073709551616 : Nat) = 2 ^ 64 := by decide
theorem bl_128 {n : Nat} (h : n < 340282366920938463463374607431768211456) : bl n ≤ 128 := bl_le.2 h
theorem bitLen_aux (f : Nat) : ∀ x, x < 2 ^ f → Lib.bitLenAux f x = bl x := by
  induction f with
  | zero => intro x h; obtain rfl : x = 0 := by simpa using h
            rfl
  | succ f ih =>
    intro x h
    unfold Lib.bitLenAux
    by_cases h0 : x = 0
    · rw [if_pos h0, h0, bl_zero]
    · rw [if_neg h0, ih _ (by rw [Nat.pow_succ] at h; omega), bl_half (show 0 < x by omega)]; omega
theorem bitLen_bl {x : Nat} (h : x < 18446744073709551616) : Lib.bitLen x = bl x := bitLen_aux 64 x h
theorem lenW (a b : Nat) (ha : a < 18446744073709551616) (hb : b < 18446744073709551616) : wide_Len.f a b = some ((bl (wn a b) : Nat) : Int) := by
  unfold wide_Len.f bits_Len64.f
  rw [if_pos (show 0 ≤ (a : Int) ∧ (a : Int) ≤ 18446744073709551615 by omega), if_pos (show 0 ≤ (b : Int) ∧ (b : Int) ≤ 18446744073709551615 by omega)]
  by_cases h : (a : Int) > 0
  · rw [if_pos h, Option.bind_some, Int.toNat_natCast, bitLen_bl ha]
    have h1 := bl64 ha
    have h2 := bl_add_low a b 64 (by omega) hb
    rw [w64_id (by omega) (by omega)]
    unfold wn
    rw [p64, h2]; congr 1; omega
  · rw [if_neg h, Option.bind_some, Int.toNat_natCast, bitLen_bl hb]
    have : a = 0 := by omega
    subst this
    unfold wn; rw [Nat.zero_mul, Nat.zero_add]
theorem shlN (c n : Nat) (hn : n < 64) : shl .u64 (c : Int) (n : Int) = ((c * 2 ^ n % 18446744073709551616 : Nat) : Int) := by
  unfold shl
  rw [show min ((n : Int)).toNat IntKind.u64.bits = n by rw [show IntKind.u64.bits = 64 by decide]; omega, IntKind.wrap_u64]
  have hp : (2 : Int) ^ n = ((2 ^ n : Nat) : Int) := by rw [Int.natCast_pow]; rfl
  rw [hp, ← Int.natCast_mul]; omega
theorem shrN' (c n : Nat) (hn : n < 64) : shr .u64 (c : Int) (n : Int) = ((c / 2 ^ n : Nat) : Int) := by
  unfold shr
  rw [show min ((n : Int)).toNat IntKind.u64.bits = n by rw [show IntKind.u64.bits = 64 by decide]; omega]
  have hp : (2 : Int) ^ n = ((2 ^ n : Nat) : Int) := by rw [Int.natCast_pow]; rfl
  rw [hp]; omega
theorem or_add (x y n : Nat) (hn : n ≤ 64) (hx : 2 ^ n ∣ x) (hy : y < 2 ^ n) (h : x < 18446744073709551616) (h2 : y < 18446744073709551616) : Go.bits .or .u64 (x : Int) (y : Int) = ((x + y : Nat) : Int) := by
  rw [u64_or_nat x y h h2]
  congr 1
  obtain ⟨c, rfl⟩ := hx
  rw [Nat.or_comm, Nat.mul_comm, or_pow y c n hy]; omega
theorem left_arith (h l n : Nat) (h0 : 0 < n) (hn : n < 64) (hl : l < 2 ^ 64) :
    wn h l * 2 ^ n % 2 ^ 128 / 2 ^ 64 = h * 2 ^ n % 2 ^ 64 + l / 2 ^ (64 - n) ∧ wn h l * 2 ^ n % 2 ^ 128 % 2 ^ 64 = l * 2 ^ n % 2 ^ 64 ∧ 2 ^ n ∣ h * 2 ^ n % 2 ^ 64 ∧ l / 2 ^ (64 - n) < 2 ^ n := by
  have hd : l / 2 ^ (64 - n) < 2 ^ n := by
    rw [Nat.div_lt_iff_lt_mul (Nat.pow_pos (by decide)), ← Nat.pow_add, show n + (64 - n) = 64 by omega]; exact hl
  have e64 : 2 ^ 64 = 2 ^ n * 2 ^ (64 - n) := by rw [← Nat.pow_add]; congr 1; omega
  have hdv : 2 ^ n ∣ h * 2 ^ n % 2 ^ 64 := by
    rw [e64]; exact (Nat.dvd_mod_iff (Nat.dvd_mul_right _ _)).2 (Nat.dvd_mul_left _ _)
  have hq : l * 2 ^ n = l / 2 ^ (64 - n) * 2 ^ 64 + l * 2 ^ n % 2 ^ 64 := by
    have h1 := Nat.div_add_mod (l * 2 ^ n) (2 ^ 64)
    have h2 : l * 2 ^ n / 2 ^ 64 = l / 2 ^ (64 - n) := by
      rw [e64, Nat.mul_comm l, Nat.mul_div_mul_left _ _ (Nat.pow_pos (by decide))]
    rw [h2, Nat.mul_comm] at h1
    omega
  have hlow := Nat.mod_lt (l * 2 ^ n) (show 0 < 2 ^ 64 by decide)
  have hhi := Nat.mod_lt (h * 2 ^ n) (show 0 < 2 ^ 64 by decide)
  have hh := Nat.div_add_mod (h * 2 ^ n) (2 ^ 64)
  have hv : wn h l * 2 ^ n = 2 ^ 128 * (h * 2 ^ n / 2 ^ 64) + ((h * 2 ^ n % 2 ^ 64 + l / 2 ^ (64 - n)) * 2 ^ 64 + l * 2 ^ n % 2 ^ 64) := by
    unfold wn
    rw [Nat.add_mul, p64, Nat.mul_right_comm, hq]
    generalize h * 2 ^ n = u at *
    generalize l * 2 ^ n % 2 ^ 64 = v at *
    rw [show (2 : Nat) ^ 128 = 340282366920938463463374607431768211456 by decide]
    rw [show (2 : Nat) ^ 64 = 18446744073709551616 by decide] at *
    omega
  have hs : h * 2 ^ n % 2 ^ 64 + l / 2 ^ (64 - n) < 2 ^ 64 := by
    obtain ⟨c, hc⟩ := hdv
    have h3 : c < 2 ^ (64 - n) := by
      rw [hc, e64] at hhi
      exact Nat.lt_of_mul_lt_mul_left hhi
    have h4 : 2 ^ n * (c + 1) ≤ 2 ^ n * 2 ^ (64 - n) := Nat.mul_le_mul_left _ h3
    rw [← e64, Nat.mul_add, Nat.mul_one, ← hc] at h4
    omega
  have hm : wn h l * 2 ^ n % 2 ^ 128 = (h * 2 ^ n % 2 ^ 64 + l / 2 ^ (64 - n)) * 2 ^ 64 + l * 2 ^ n % 2 ^ 64 := by
    rw [hv, Nat.mul_add_mod, Nat.mod_eq_of_lt]
    generalize h * 2 ^ n % 2 ^ 64 + l / 2 ^ (64 - n) = s at *
    generalize l * 2 ^ n % 2 ^ 64 = v at *
    rw [show (2 : Nat) ^ 128 = 340282366920938463463374607431768211456 by decide]
    rw [show (2 : Nat) ^ 64 = 18446744073709551616 by decide] at *
    omega
  refine ⟨?_, ?_, hdv, hd⟩
  · rw [hm, Nat.mul_comm, Nat.mul_add_div (by decide), Nat.div_eq_of_lt hlow, Nat.add_zero]
  · rw [hm, Nat.mul_comm, Nat.mul_add_mod, Nat.mod_mod]
def lfV (a : Nat) (n : Int) : Nat := a * 2 ^ n.toNat % 340282366920938463463374607431768211456
theorem leftW (h l : Nat) (n : Int) (hh : h < 18446744073709551616) (hl : l < 18446744073709551616) (hn : n < 9223372036854775808) :
    wide_Left.f h l n = some (((lfV (wn h l) n / 18446744073709551616 : Nat) : Int), ((lfV (wn h l) n % 18446744073709551616 : Nat) : Int)) := by
  unfold wide_Left.f lfV
  have hw := wn_lt hh hl
  by_cases h0 : n ≤ 0
  · rw [if_pos h0, show n.toNat = 0 by omega, Nat.pow_zero, Nat.mul_one, Nat.mod_eq_of_lt hw, wn_hi hl, wn_lo hl]
  · rw [if_neg h0]
    obtain ⟨m, rfl⟩ := Int.eq_ofNat_of_zero_le (show 0 ≤ n by omega)
    rw [Int.toNat_natCast]
    by_cases h1 : (m : Int) ≥ 128
    · rw [if_pos h1, p128, show m = 128 + (m - 128) by omega, Nat.pow_add, Nat.mul_left_comm, Nat.mul_mod_right]; rfl
    · rw [if_neg h1]
      by_cases h2 : (m : Int) ≥ 64
      · rw [if_pos h2, w64_id (by omega) (by omega), if_pos (by omega), show (m : Int) - 64 = ((m - 64 : Nat) : Int) by omega, shlN _ _ (by omega)]
        have e : wn h l * 2 ^ m % 340282366920938463463374607431768211456 = l * 2 ^ (m - 64) % 18446744073709551616 * 18446744073709551616 := by
          rw [show 2 ^ m = 2 ^ (m - 64) * 18446744073709551616 by rw [p64, ← Nat.pow_add]; congr 1; omega, ← Nat.mul_assoc, show (340282366920938463463374607431768211456 : Nat) = 18446744073709551616 * 18446744073709551616 by decide, Nat.mul_mod_mul_right]
          congr 1
          unfold wn
          rw [Nat.add_mul, Nat.mul_right_comm, Nat.add_comm, Nat.add_mul_mod_self_right]
        rw [e, Nat.mul_div_cancel _ (by decide), Nat.mul_mod_left]; rfl
      · rw [if_neg h2, if_pos (by omega), w64_id (by omega) (by omega), if_pos (by omega), show (64 : Int) - m = ((64 - m : Nat) : Int) by omega, shlN _ _ (by omega), shlN _ _ (by omega), shrN' _ _ (by omega)]
        obtain ⟨k1, k2, k3, k4⟩ := left_arith h l m (by omega) (by omega) hl
        rw [← p64] at k1 k2 k3
        rw [← p128] at k1 k2
        have k5 := Nat.mod_lt (h * 2 ^ m) (show 0 < 18446744073709551616 by decide)
        have k6 := Nat.div_le_self l (2 ^ (64 - m))
        rw [or_add _ _ m (by omega) k3 k4 (by omega) (by omega), k1, k2]
theorem ofW (n : Nat) : wide_Of.f n = some (0, (n : Int)) := rfl
theorem wn_ne (V h l : Nat) (hV : V < 340282366920938463463374607431768211456) (hl : l < 18446744073709551616) :
    (!(((V / 18446744073709551616 : Nat) : Int) == (h : Int)) || !(((V % 18446744073709551616 : Nat) : Int) == (l : Int))) = decide (V ≠ wn h l) := by
  have e : (((V / 18446744073709551616 : Nat) : Int) == (h : Int)) = decide (V / 18446744073709551616 = h) := by
    rw [Bool.eq_iff_iff]; simp; omega
  have e2 : (((V % 18446744073709551616 : Nat) : Int) == (l : Int)) = decide (V % 18446744073709551616 = l) := by
    rw [Bool.eq_iff_iff]; simp; omega
  rw [e, e2]
  have h3 : V = wn h l ↔ V / 18446744073709551616 = h ∧ V % 18446744073709551616 = l := by
    unfold wn; omega
  by_cases h1 : V / 18446744073709551616 = h <;> by_cases h2 : V % 18446744073709551616 = l <;> simp [h1, h2, h3]
end Go.Proofs.YthdeeoallfbjmaaDoor.Th
end
