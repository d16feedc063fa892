/- What the Go functions that the statement NumericSwaps reaches compute, and the mathematics on it, in the order in which one leans on the other; for every input. -/
import Derived.Test.YtnmlmgmljoncoaaGreatDoorVNumericSwaps0
import Derived.Test.YtnmlmgmljoncoaaGreatDoorMNumericSwaps0
import Derived.Test.YtnmlmgmljoncoaaGreatDoorMNumericSwaps1
namespace Go.Proofs.YtnmlmgmljoncoaaGreatDoor.PA
open Go.RowKit Go.Proofs.YtnmlmgmljoncoaaGreatDoorW.PrintWords Go.Proofs.YtnmlmgmljoncoaaGreatDoorW.PrintLast Go.Proofs.YtnmlmgmljoncoaaGreatDoorW.PrintMore
attribute [local go_sem] max2_int min2_int max_two min_two max_three min_three max_four min_four   -- for this text's walks alone
set_option linter.unusedVariables false
set_option linter.unusedSimpArgs false
set_option maxHeartbeats 8000000
set_option maxRecDepth 100000
mutual
def shape_Open.j0 : Nat → Bool → Int → Int → Bool → Int → Int → Option (Bool × Int × Int × Int)
 | 0, _, _, _, _, _, _ => none
 | k + 1, x19, x180000, x180001, x180002, x180003, x180004 => if x19 = true then (some (false, 3, 0, 0)) else ((shape_format_ones.f x180000 x180001).bind fun t181 => (if x180003 = t181 then (some (x180002, 2, 0, 0)) else (if x180003 = 0 then (shape_Open.j1 k (x180004 == 0) x180000 x180001 x180002 x180003 x180004) else (shape_Open.j1 k false x180000 x180001 x180002 x180003 x180004))))
def shape_Open.j1 : Nat → Bool → Int → Int → Bool → Int → Int → Option (Bool × Int × Int × Int)
 | 0, _, _, _, _, _, _ => none
 | k + 1, x42, x180000, x180001, x180002, x180003, x180004 => if x42 = true then (some (x180002, 0, 0, 0)) else (if x180003 = 0 then ((shape_format_low.f x180000 x180001).bind fun t182 => (some (x180002, 1, t182, x180004))) else ((shape_format_low.f x180000 x180001).bind fun t183 => (if 0 ≤ x180001 then (some (x180002, 1, wrap64 ((wrap64 (t183 + (wrap64 (x180003)))) - 1), Go.bits .or .u64 (shl .u64 1 x180001) x180004)) else (none))))
end
def shape_Open.f (k : Nat) (a0 : Int) (a1 : Int) : Option (Bool × Int × Int × Int) := (shape_of.f a0).bind fun bt170 => (if bt170.2.2 = true then ((shape_format_split.f bt170.1 bt170.2.1 a1).bind fun bt174 => ((shape_format_ones.f bt174.1 bt174.2.1).bind fun t180 => (if bt174.2.2.2.1 = t180 then (shape_Open.j0 k (bt174.2.2.2.2 != 0) bt174.1 bt174.2.1 bt174.2.2.1 bt174.2.2.2.1 bt174.2.2.2.2) else (shape_Open.j0 k false bt174.1 bt174.2.1 bt174.2.2.1 bt174.2.2.2.1 bt174.2.2.2.2)))) else (some (false, 0, 0, 0)))
theorem shape_Open.mono_l : ∀ k, (∀ y0 y1 y2 y3 y4 y5, LeO (shape_Open.j0 k y0 y1 y2 y3 y4 y5) (shape_Open.j0 (k + 1) y0 y1 y2 y3 y4 y5)) ∧ (∀ y0 y1 y2 y3 y4 y5, LeO (shape_Open.j1 k y0 y1 y2 y3 y4 y5) (shape_Open.j1 (k + 1) y0 y1 y2 y3 y4 y5))
 | 0 => ⟨fun _ _ _ _ _ _ r h => by simp [shape_Open.j0] at h, fun _ _ _ _ _ _ r h => by simp [shape_Open.j1] at h⟩
 | k + 1 => by
  obtain ⟨ih0, ih1⟩ := shape_Open.mono_l k
  refine ⟨?_, ?_⟩
  ·intro y0 y1 y2 y3 y4 y5
   unfold shape_Open.j0
   repeat' first
   | (with_reducible exact ih0 _ _ _ _ _ _)
   | (with_reducible exact ih1 _ _ _ _ _ _)
   | (with_reducible exact LeO.refl _)
   | (with_reducible exact LeO.none _)
   | (with_reducible refine LeO.ite ?_ ?_)
   | (with_reducible refine LeO.bind ?_ (fun _ => ?_))
   | exact ih0 _ _ _ _ _ _
   | exact ih1 _ _ _ _ _ _
   | exact LeO.none _
   | refine LeO.ite ?_ ?_
   | refine LeO.bind ?_ (fun _ => ?_)
  ·intro y0 y1 y2 y3 y4 y5
   unfold shape_Open.j1
   repeat' first
   | (with_reducible exact ih0 _ _ _ _ _ _)
   | (with_reducible exact ih1 _ _ _ _ _ _)
   | (with_reducible exact LeO.refl _)
   | (with_reducible exact LeO.none _)
   | (with_reducible refine LeO.ite ?_ ?_)
   | (with_reducible refine LeO.bind ?_ (fun _ => ?_))
   | exact ih0 _ _ _ _ _ _
   | exact ih1 _ _ _ _ _ _
   | exact LeO.none _
   | refine LeO.ite ?_ ?_
   | refine LeO.bind ?_ (fun _ => ?_)
theorem shape_Open.mono : ∀ a0 a1 k, LeO (shape_Open.f k a0 a1) (shape_Open.f (k + 1) a0 a1) := by
 intro a0 a1 k
 obtain ⟨ih0, ih1⟩ := shape_Open.mono_l k
 unfold shape_Open.f
 repeat' first
   | (with_reducible exact ih0 _ _ _ _ _ _)
   | (with_reducible exact ih1 _ _ _ _ _ _)
   | (with_reducible exact LeO.refl _)
   | (with_reducible exact LeO.none _)
   | (with_reducible refine LeO.ite ?_ ?_)
   | (with_reducible refine LeO.bind ?_ (fun _ => ?_))
   | exact ih0 _ _ _ _ _ _
   | exact ih1 _ _ _ _ _ _
   | exact LeO.none _
   | refine LeO.ite ?_ ?_
   | refine LeO.bind ?_ (fun _ => ?_)
def shape_Open.T5 : Bool × List (List Nat × List Nat) := (true, [([], []), ([0], [0]), ([], []), ([2], [2]), ([3], [3]), ([1, 4], [1, 4]), ([5, 4], [5]), ([6], [6]), ([7, 6], [6, 7]), ([8, 6], [6, 8]), ([6, 9], [6, 9]), ([10, 6], [10])])
def shape_Open.B5 : List Nat := [0, 1, 0, 4, 12, 31, 63, 127, 255, 511, 1023, 2047]
theorem shape_Open.tab5 : rtab .any (opsOf Tryz.f10 5) = shape_Open.T5 := by kernel_rfl
theorem shape_Open.bits5 : waitsOk shape_Open.T5.2 shape_Open.B5 = true := by kernel_rfl
def shape_Open.T12 : Bool × List (List Nat × List Nat) := (true, [([], []), ([0], [0]), ([], []), ([2], [2]), ([3], [3]), ([], []), ([5], [5]), ([1, 4, 6], [1, 4, 6]), ([7, 4, 0, 1, 2, 3, 4, 5, 6, 7], [7])])
def shape_Open.B12 : List Nat := [0, 1, 0, 4, 12, 0, 32, 127, 255]
theorem shape_Open.tab12 : rtab .any (opsOf Tryz.f10 12) = shape_Open.T12 := by kernel_rfl
theorem shape_Open.bits12 : waitsOk shape_Open.T12.2 shape_Open.B12 = true := by kernel_rfl
def shape_Open.T13 : Bool × List (List Nat × List Nat) := (true, [([], []), ([0], [0]), ([], []), ([2], [2]), ([3], [3]), ([], []), ([5], [5]), ([6], [6]), ([4, 7], [4, 7]), ([8], [8]), ([], []), ([10], [10]), ([11], [11]), ([12], [12]), ([], []), ([14], [14]), ([13, 15], [13, 15]), ([1, 9, 16], [1, 9, 16]), ([17, 4, 0, 1, 2, 3, 4, 5, 6, 7, 8, 9, 10, 11, 12, 13, 14, 15, 16, 17], [17])])
def shape_Open.B13 : List Nat := [0, 1, 0, 4, 12, 0, 32, 96, 252, 508, 0, 1024, 3072, 7168, 0, 16384, 64512, 131071, 262143]
theorem shape_Open.tab13 : rtab .any (opsOf Tryz.f10 13) = shape_Open.T13 := by kernel_rfl
theorem shape_Open.bits13 : waitsOk shape_Open.T13.2 shape_Open.B13 = true := by kernel_rfl
theorem shape_Open.calls (k : Nat) (a0 : Int) (a1 : Int) (r1 : Bool) (r2 : Int) (r3 : Int) (r4 : Int) (w : World) (h : shape_Open.f k a0 a1 = some (r1, r2, r3, r4)) :
  Calls Tryz.prog 10 #[.int .i64 a0, .int .u64 a1] w fun e w' => e = .returned (.agg #[.bool r1, .int .i64 r2, .int .i64 r3, .int .u64 r4]) ∧ Below w.heap.size w w' := by
 have hu27 := Tryz.underlying27
 have hu65 := Tryz.underlying65
 have hu69 := Tryz.underlying69
 have HB := A_ (Below.refl w.heap.size w)
 have H : ((shape_of.f a0).bind fun bt170 => (if bt170.2.2 = true then ((shape_format_split.f bt170.1 bt170.2.1 a1).bind fun bt174 => ((shape_format_ones.f bt174.1 bt174.2.1).bind fun t180 => (if bt174.2.2.2.1 = t180 then (shape_Open.j0 k (bt174.2.2.2.2 != 0) bt174.1 bt174.2.1 bt174.2.2.1 bt174.2.2.2.1 bt174.2.2.2.2) else (shape_Open.j0 k false bt174.1 bt174.2.1 bt174.2.2.1 bt174.2.2.2.1 bt174.2.2.2.2)))) else (some (false, 0, 0, 0)))) = some (r1, r2, r3, r4) := h
 clear h
 replace H := ob_ H
 obtain ⟨⟨t170, t171, t172⟩, A30, H⟩ := H
 replace H : (if t172 = true then ((shape_format_split.f t170 t171 a1).bind fun bt174 => ((shape_format_ones.f bt174.1 bt174.2.1).bind fun t180 => (if bt174.2.2.2.1 = t180 then (shape_Open.j0 k (bt174.2.2.2.2 != 0) bt174.1 bt174.2.1 bt174.2.2.1 bt174.2.2.2.1 bt174.2.2.2.2) else (shape_Open.j0 k false bt174.1 bt174.2.1 bt174.2.2.1 bt174.2.2.2.1 bt174.2.2.2.2)))) else (some (false, 0, 0, 0))) = some (r1, r2, r3, r4) := H
 have A3 := A_ A30;clear A30
 by_cases c4 : t172 = true
 ·subst c4
  have H1 : ((shape_format_split.f t170 t171 a1).bind fun bt174 => ((shape_format_ones.f bt174.1 bt174.2.1).bind fun t180 => (if bt174.2.2.2.1 = t180 then (shape_Open.j0 k (bt174.2.2.2.2 != 0) bt174.1 bt174.2.1 bt174.2.2.1 bt174.2.2.2.1 bt174.2.2.2.2) else (shape_Open.j0 k false bt174.1 bt174.2.1 bt174.2.2.1 bt174.2.2.2.1 bt174.2.2.2.2)))) = some (r1, r2, r3, r4) := by rw [if_pos rfl] at H; exact H
  clear H;have H := H1;clear H1
  replace H := ob_ H
  obtain ⟨⟨t174, t175, t176, t177, t178⟩, A50, H⟩ := H
  replace H : ((shape_format_ones.f t174 t175).bind fun t180 => (if t177 = t180 then (shape_Open.j0 k (t178 != 0) t174 t175 t176 t177 t178) else (shape_Open.j0 k false t174 t175 t176 t177 t178))) = some (r1, r2, r3, r4) := H
  have A5 := A_ A50;clear A50;have HC6 := A_ H;clear H
  go_enter Tryz.func10, Tryz.ntmps10
  go_upto_region 5 with (first | ((with_reducible refine gate_dst (N := 4) rfl ?_); refine be_ 4 #[.bool false, .int .i64 0, .int .i64 0, .int .u64 0] 27 ?_; intro gb169 hg w7 hbox hb; have BK169 := A_ (hbox); have GW169 := A_ (sz_ hg (hb_ HB.out)); have GE169 := A_ (sz_ hg (hb_ HB.out)); replace HB := A_ (below_step (hb_ HB.out) hb); clear hb hbox hg) | ((with_reducible refine gate_callee (f := 35) rfl ?_); refine goesL_ (some 10) rfl rfl Tryz.func35 (by kernel_rfl) rfl #[.int .i64 a0] rfl mp_ ?_; (with_reducible refine (shape_of.calls a0 t170 t171 true _ A3.out).mono ?_); rintro e w8 ⟨rfl, hb⟩; refine ⟨_, rfl, ?_⟩; replace BK169 := A_ (bb_ BK169.out hb); replace HB := A_ (below_step (hb1_ HB.out GE169.out) hb); (try clear hb); (try clear hb2); (try clear hk); (try clear hi)) | ((with_reducible refine gate_dst (N := 5) rfl ?_); refine be_ 5 #[.int .i64 0, .int .i64 0] 65 ?_; intro gb173 hg w9 hbox hb; have BK173 := A_ (hbox); have GW173 := A_ (sz_ hg (hb1_ HB.out GE169.out)); have GE173 := A_ (sz_ hg (hb1_ HB.out GE169.out)); have NB169_173 := A_ (nl_ hg BK169.out); have NB173_169 := A_ (ng_ hg BK169.out); replace BK169 := A_ (bb_ BK169.out hb); replace HB := A_ (below_step (hb1_ HB.out GE169.out) hb); clear hb hbox hg; have hnb10 := NB173_169.out; have hnc10 := NB169_173.out; have hcz11_0 := bv_ BK173.out 0; have hcz11_1 := bv_ BK173.out 1; have hfz11_0 := blk_frozen BK173.out 0; have hfz11_1 := blk_frozen BK173.out 1) | ((with_reducible refine gate_callee (f := 36) rfl ?_); refine goesL_ (some 18) rfl rfl Tryz.func36 (by kernel_rfl) rfl #[.agg #[.int .i64 t170, .int .i64 t171], .int .u64 a1] rfl mp_ ?_; (with_reducible refine (shape_format_split.calls t170 t171 a1 t174 t175 t176 t177 t178 _ A5.out).mono ?_); rintro e w12 ⟨rfl, hb⟩; refine ⟨_, rfl, ?_⟩; replace BK169 := A_ (blk_below (g := gb169) (o := .cells #[.bool false, .int .i64 0, .int .i64 0, .int .u64 0] 27 (0, 0)) (bf2_ BK169.out NB169_173.out NB169_173.out) hb); replace BK173 := A_ (blk_below (g := gb173) (o := .cells #[.int .i64 t170, .int .i64 t171] 65 (0, 0)) (by (with_reducible repeat (first | refine blk_drewN ?_ _ | refine blk_drew ?_ | refine blk_alloc ?_ _)); refine blk_put (cs := #[.int .i64 t170, .int .i64 0]) ?_ 1 _ rfl; (with_reducible repeat (first | refine blk_drewN ?_ _ | refine blk_drew ?_ | refine blk_alloc ?_ _)); refine blk_put (cs := #[.int .i64 0, .int .i64 0]) ?_ 0 _ rfl; (with_reducible repeat (first | refine blk_drewN ?_ _ | refine blk_drew ?_ | refine blk_alloc ?_ _)); exact BK173.out) hb); replace HB := A_ (below_step (hb2_ HB.out GE169.out GE173.out) hb); (try clear hb); (try clear hb2); (try clear hk); (try clear hi)) | ((with_reducible refine gate_dst (N := 7) rfl ?_); refine be_ 7 #[.int .i64 0, .int .i64 0, .bool false, .int .u64 0, .int .u64 0] 69 ?_; intro gb179 hg w13 hbox hb; have BK179 := A_ (hbox); have GW179 := A_ (sz_ hg (hb2_ HB.out GE169.out GE173.out)); have GE179 := A_ (sz_ hg (hb2_ HB.out GE169.out GE173.out)); have NB169_179 := A_ (nl_ hg BK169.out); have NB179_169 := A_ (ng_ hg BK169.out); have NB173_179 := A_ (nl_ hg BK173.out); have NB179_173 := A_ (ng_ hg BK173.out); replace BK169 := A_ (bb_ BK169.out hb); replace BK173 := A_ (bb_ BK173.out hb); replace HB := A_ (below_step (hb2_ HB.out GE169.out GE173.out) hb); clear hb hbox hg; have hnb14 := NB179_169.out; have hnc14 := NB169_179.out; have hnb15 := NB179_173.out; have hnc15 := NB173_179.out; have hcz16_0 := bv_ BK179.out 0; have hcz16_1 := bv_ BK179.out 1; have hcz16_2 := bv_ BK179.out 2; have hcz16_3 := bv_ BK179.out 3; have hcz16_4 := bv_ BK179.out 4; have hfz16_0 := blk_frozen BK179.out 0; have hfz16_1 := blk_frozen BK179.out 1; have hfz16_2 := blk_frozen BK179.out 2; have hfz16_3 := blk_frozen BK179.out 3; have hfz16_4 := blk_frozen BK179.out 4))
  (try simp only [Act.put, lI_, l0_, lS_])
  go_cut [19] (fun v19 wc => ∃ (kq : Nat) (x19_5 : Bool), v19 = .bool x19_5 ∧ Aside0 (shape_Open.j0 kq x19_5 t174 t175 t176 t177 t178 = some (r1, r2, r3, r4)) ∧ Aside0 (kq ≤ k) ∧ Aside0 (wc.heap[gb169]? = some (.cells #[.bool false, .int .i64 0, .int .i64 0, .int .u64 0] 27 (0, 0))) ∧ Aside0 (wc.heap[gb173]? = some (.cells #[.int .i64 t170, .int .i64 t171] 65 (0, 0))) ∧ Aside0 (wc.heap[gb179]? = some (.cells #[.int .i64 t174, .int .i64 t175, .bool t176, .int .u64 t177, .int .u64 t178] 69 (0, 0))) ∧ Aside0 (Below w.heap.size w wc))
  case first =>
   have H := HC6.out
   clear HC6
   replace H := ob_ H
   obtain ⟨t180, A170, H⟩ := H
   replace H : (if t177 = t180 then (shape_Open.j0 k (t178 != 0) t174 t175 t176 t177 t178) else (shape_Open.j0 k false t174 t175 t176 t177 t178)) = some (r1, r2, r3, r4) := H
   have A17 := A_ A170;clear A170
   by_cases c18 : t177 = t180
   ·rw [if_pos c18] at H
    have c18b0 : (t177 == t180) = true := beq_iff_eq.mpr c18
    have c18b1 : (t177 != t180) = false := bne_eq_false_iff_eq.mpr c18
    clear c18
    (first | rw [c18b0] | (simp only [i64_w, i32_w]; rw [c18b0]) | skip)
    have H' := A_ H
    clear H
    try go_wp2
    have n0_ : Aside0 ((((((w13.setCell ⟨gb179, 0, none⟩ (.int .i64 t174)).setCell ⟨gb179, 1, none⟩ (.int .i64 t175)).setCell ⟨gb179, 2, none⟩ (.bool t176)).setCell ⟨gb179, 3, none⟩ (.int .u64 t177)).setCell ⟨gb179, 4, none⟩ (.int .u64 t178)).heap[gb169]? = some (.cells #[.bool false, .int .i64 0, .int .i64 0, .int .u64 0] 27 (0, 0))) := ⟨bf5_ BK169.out NB169_179.out NB169_179.out NB169_179.out NB169_179.out NB169_179.out⟩
    have n1_ : Aside0 ((((((w13.setCell ⟨gb179, 0, none⟩ (.int .i64 t174)).setCell ⟨gb179, 1, none⟩ (.int .i64 t175)).setCell ⟨gb179, 2, none⟩ (.bool t176)).setCell ⟨gb179, 3, none⟩ (.int .u64 t177)).setCell ⟨gb179, 4, none⟩ (.int .u64 t178)).heap[gb173]? = some (.cells #[.int .i64 t170, .int .i64 t171] 65 (0, 0))) := ⟨bf5_ BK173.out NB173_179.out NB173_179.out NB173_179.out NB173_179.out NB173_179.out⟩
    have n2_ : Aside0 ((((((w13.setCell ⟨gb179, 0, none⟩ (.int .i64 t174)).setCell ⟨gb179, 1, none⟩ (.int .i64 t175)).setCell ⟨gb179, 2, none⟩ (.bool t176)).setCell ⟨gb179, 3, none⟩ (.int .u64 t177)).setCell ⟨gb179, 4, none⟩ (.int .u64 t178)).heap[gb179]? = some (.cells #[.int .i64 t174, .int .i64 t175, .bool t176, .int .u64 t177, .int .u64 t178] 69 (0, 0))) := ⟨by (with_reducible repeat (first | refine blk_drewN ?_ _ | refine blk_drew ?_ | refine blk_alloc ?_ _)); refine blk_put (cs := #[.int .i64 t174, .int .i64 t175, .bool t176, .int .u64 t177, .int .u64 0]) ?_ 4 _ rfl; (with_reducible repeat (first | refine blk_drewN ?_ _ | refine blk_drew ?_ | refine blk_alloc ?_ _)); refine blk_put (cs := #[.int .i64 t174, .int .i64 t175, .bool t176, .int .u64 0, .int .u64 0]) ?_ 3 _ rfl; (with_reducible repeat (first | refine blk_drewN ?_ _ | refine blk_drew ?_ | refine blk_alloc ?_ _)); refine blk_put (cs := #[.int .i64 t174, .int .i64 t175, .bool false, .int .u64 0, .int .u64 0]) ?_ 2 _ rfl; (with_reducible repeat (first | refine blk_drewN ?_ _ | refine blk_drew ?_ | refine blk_alloc ?_ _)); refine blk_put (cs := #[.int .i64 t174, .int .i64 0, .bool false, .int .u64 0, .int .u64 0]) ?_ 1 _ rfl; (with_reducible repeat (first | refine blk_drewN ?_ _ | refine blk_drew ?_ | refine blk_alloc ?_ _)); refine blk_put (cs := #[.int .i64 0, .int .i64 0, .bool false, .int .u64 0, .int .u64 0]) ?_ 0 _ rfl; (with_reducible repeat (first | refine blk_drewN ?_ _ | refine blk_drew ?_ | refine blk_alloc ?_ _)); exact BK179.out⟩
    have n3_ : Aside0 (Below w.heap.size w (((((w13.setCell ⟨gb179, 0, none⟩ (.int .i64 t174)).setCell ⟨gb179, 1, none⟩ (.int .i64 t175)).setCell ⟨gb179, 2, none⟩ (.bool t176)).setCell ⟨gb179, 3, none⟩ (.int .u64 t177)).setCell ⟨gb179, 4, none⟩ (.int .u64 t178))) := ⟨hb3_ HB.out GE169.out GE173.out GE179.out⟩
    (try clear BK169);(try clear BK173);(try clear BK179);(try clear HB)
    generalize (((((w13.setCell ⟨gb179, 0, none⟩ (.int .i64 t174)).setCell ⟨gb179, 1, none⟩ (.int .i64 t175)).setCell ⟨gb179, 2, none⟩ (.bool t176)).setCell ⟨gb179, 3, none⟩ (.int .u64 t177)).setCell ⟨gb179, 4, none⟩ (.int .u64 t178)) = w19 at n0_ n1_ n2_ n3_ ⊢
    have BK169 := n0_;have BK173 := n1_;have BK179 := n2_;have HB := n3_;clear n0_ n1_ n2_ n3_
    replace BK169 := A_ (blk_drew BK169.out)
    replace BK173 := A_ (blk_drew BK173.out)
    replace BK179 := A_ (blk_drew BK179.out)
    replace HB := A_ (below_drew1 HB.out)
    refine start_ (n := 12) (S := fun w' => w'.cell? ⟨gb179, 0, none⟩ = some (.int .i64 t174) ∧ w'.cell? ⟨gb179, 1, none⟩ = some (.int .i64 t175) ∧ w'.cell? ⟨gb179, 2, none⟩ = some (.bool t176) ∧ w'.cell? ⟨gb179, 3, none⟩ = some (.int .u64 t177) ∧ w'.cell? ⟨gb179, 4, none⟩ = some (.int .u64 t178)) (ds := []) #[false, false, false, false, false, false, false, false, false, false, false, false] (by kernel_rfl) rfl rfl ⟨bc_ BK179.out 0, bc_ BK179.out 1, bc_ BK179.out 2, bc_ BK179.out 3, bc_ BK179.out 4⟩ (fun hHeld => ?_); refine with_tabW shape_Open.tab5 shape_Open.bits5 (fun HT_ HW_ => ?_)
    generalize w19.drew = w20 at BK169 BK173 BK179 HB hHeld ⊢
    refine pu_ 0 (some 20) #[true, false, false, false, false, false, false, false, false, false, false, false] rfl rfl (any_of HT_.out (by kernel_rfl)) ?_
    refine pu_ 2 (some 22) #[true, false, true, false, false, false, false, false, false, false, false, false] rfl rfl (any_of HT_.out (by kernel_rfl)) ?_
    refine tk5_ 1 (some 21) #[true, true, true, false, false, false, false, false, false, false, false, false] rfl rfl (take_ofW HT_.out HW_.out (by kernel_rfl)) hHeld ?_
    refine tk5_ 3 (some 23) #[true, true, true, true, false, false, false, false, false, false, false, false] rfl rfl (take_ofW HT_.out HW_.out (by kernel_rfl)) hHeld ?_
    refine one_ (i := 4) (N := some 24) #[true, true, true, true, true, false, false, false, false, false, false, false] rfl rfl (one_of HT_.out (by kernel_rfl)) (by decide) (fun K hK => ?_)
    refine goes_ Tryz.func37 (by kernel_rfl) rfl #[.agg #[.int .i64 t174, .int .i64 t175]] (by rfl) rfl rfl mp_ ?_
    with_reducible refine (shape_format_ones.calls t174 t175 t180 _ A17.out).mono ?_
    rintro e w21 ⟨rfl, hb⟩
    refine ⟨_, rfl, ?_⟩
    replace BK169 := A_ (bb_ BK169.out hb)
    replace BK173 := A_ (bb_ BK173.out hb)
    replace BK179 := A_ (bb_ BK179.out hb)
    replace HB := A_ (below_step (hb3_ HB.out GE169.out GE173.out GE179.out) hb);(try clear hb);(try clear hb2);(try clear hk);(try clear hi)
    refine hK.out _ _ ⟨bc_ BK179.out 0, bc_ BK179.out 1, bc_ BK179.out 2, bc_ BK179.out 3, bc_ BK179.out 4⟩ (fun hHeld => ?_)
    clear hK K
    refine norm_ (a' := ?_) ?_ ?_
    rotate_left
    ·show Act.put _ (some 24) _ = _
     simp only [Act.put, lI_, l0_, lS_, i64_w, i32_w]
     rfl
    refine pu_ 5 (some 25) #[true, true, true, true, true, true, false, false, false, false, false, false] rfl rfl (any_of HT_.out (by kernel_rfl)) ?_
    refine pu_ 6 (some 26) #[true, true, true, true, true, true, true, false, false, false, false, false] rfl rfl (any_of HT_.out (by kernel_rfl)) ?_
    refine pu_ 7 (some 27) #[true, true, true, true, true, true, true, true, false, false, false, false] rfl rfl (any_of HT_.out (by kernel_rfl)) ?_
    refine tk5_ 8 (some 28) #[true, true, true, true, true, true, true, true, true, false, false, false] rfl rfl (take_ofW HT_.out HW_.out (by kernel_rfl)) hHeld ?_
    refine pu_ 9 (some 29) #[true, true, true, true, true, true, true, true, true, true, false, false] rfl rfl (any_of HT_.out (by kernel_rfl)) ?_
    refine pu_ 10 (some 30) #[true, true, true, true, true, true, true, true, true, true, true, false] rfl rfl (any_of HT_.out (by kernel_rfl)) ?_
    refine pu_ 11 (some 19) #[true, true, true, true, true, true, true, true, true, true, true, true] rfl rfl (any_of HT_.out (by kernel_rfl)) ?_
    refine done_ (done_of HT_.out (by kernel_rfl)) ?_
    try go_wp2
    go_meet
    case rel => exact ⟨_, ((t178 != 0)), sm_, H', ⟨by first | omega | exact Nat.le_refl _⟩, ⟨bk_ BK169.out⟩, ⟨bk_ BK173.out⟩, ⟨bk_ BK179.out⟩, ⟨hb3_ HB.out GE169.out GE173.out GE179.out⟩⟩
   ·rw [if_neg c18] at H
    have c18b0 : (t177 == t180) = false := beq_eq_false_iff_ne.mpr c18
    have c18b1 : (t177 != t180) = true := bne_iff_ne.mpr c18
    (first | rw [c18b0] | (simp only [i64_w, i32_w]; rw [c18b0]) | skip)
    have H' := A_ H
    clear H
    try go_wp2
    have n0_ : Aside0 ((((((w13.setCell ⟨gb179, 0, none⟩ (.int .i64 t174)).setCell ⟨gb179, 1, none⟩ (.int .i64 t175)).setCell ⟨gb179, 2, none⟩ (.bool t176)).setCell ⟨gb179, 3, none⟩ (.int .u64 t177)).setCell ⟨gb179, 4, none⟩ (.int .u64 t178)).heap[gb169]? = some (.cells #[.bool false, .int .i64 0, .int .i64 0, .int .u64 0] 27 (0, 0))) := ⟨bf5_ BK169.out NB169_179.out NB169_179.out NB169_179.out NB169_179.out NB169_179.out⟩
    have n1_ : Aside0 ((((((w13.setCell ⟨gb179, 0, none⟩ (.int .i64 t174)).setCell ⟨gb179, 1, none⟩ (.int .i64 t175)).setCell ⟨gb179, 2, none⟩ (.bool t176)).setCell ⟨gb179, 3, none⟩ (.int .u64 t177)).setCell ⟨gb179, 4, none⟩ (.int .u64 t178)).heap[gb173]? = some (.cells #[.int .i64 t170, .int .i64 t171] 65 (0, 0))) := ⟨bf5_ BK173.out NB173_179.out NB173_179.out NB173_179.out NB173_179.out NB173_179.out⟩
    have n2_ : Aside0 ((((((w13.setCell ⟨gb179, 0, none⟩ (.int .i64 t174)).setCell ⟨gb179, 1, none⟩ (.int .i64 t175)).setCell ⟨gb179, 2, none⟩ (.bool t176)).setCell ⟨gb179, 3, none⟩ (.int .u64 t177)).setCell ⟨gb179, 4, none⟩ (.int .u64 t178)).heap[gb179]? = some (.cells #[.int .i64 t174, .int .i64 t175, .bool t176, .int .u64 t177, .int .u64 t178] 69 (0, 0))) := ⟨by (with_reducible repeat (first | refine blk_drewN ?_ _ | refine blk_drew ?_ | refine blk_alloc ?_ _)); refine blk_put (cs := #[.int .i64 t174, .int .i64 t175, .bool t176, .int .u64 t177, .int .u64 0]) ?_ 4 _ rfl; (with_reducible repeat (first | refine blk_drewN ?_ _ | refine blk_drew ?_ | refine blk_alloc ?_ _)); refine blk_put (cs := #[.int .i64 t174, .int .i64 t175, .bool t176, .int .u64 0, .int .u64 0]) ?_ 3 _ rfl; (with_reducible repeat (first | refine blk_drewN ?_ _ | refine blk_drew ?_ | refine blk_alloc ?_ _)); refine blk_put (cs := #[.int .i64 t174, .int .i64 t175, .bool false, .int .u64 0, .int .u64 0]) ?_ 2 _ rfl; (with_reducible repeat (first | refine blk_drewN ?_ _ | refine blk_drew ?_ | refine blk_alloc ?_ _)); refine blk_put (cs := #[.int .i64 t174, .int .i64 0, .bool false, .int .u64 0, .int .u64 0]) ?_ 1 _ rfl; (with_reducible repeat (first | refine blk_drewN ?_ _ | refine blk_drew ?_ | refine blk_alloc ?_ _)); refine blk_put (cs := #[.int .i64 0, .int .i64 0, .bool false, .int .u64 0, .int .u64 0]) ?_ 0 _ rfl; (with_reducible repeat (first | refine blk_drewN ?_ _ | refine blk_drew ?_ | refine blk_alloc ?_ _)); exact BK179.out⟩
    have n3_ : Aside0 (Below w.heap.size w (((((w13.setCell ⟨gb179, 0, none⟩ (.int .i64 t174)).setCell ⟨gb179, 1, none⟩ (.int .i64 t175)).setCell ⟨gb179, 2, none⟩ (.bool t176)).setCell ⟨gb179, 3, none⟩ (.int .u64 t177)).setCell ⟨gb179, 4, none⟩ (.int .u64 t178))) := ⟨hb3_ HB.out GE169.out GE173.out GE179.out⟩
    (try clear BK169);(try clear BK173);(try clear BK179);(try clear HB)
    generalize (((((w13.setCell ⟨gb179, 0, none⟩ (.int .i64 t174)).setCell ⟨gb179, 1, none⟩ (.int .i64 t175)).setCell ⟨gb179, 2, none⟩ (.bool t176)).setCell ⟨gb179, 3, none⟩ (.int .u64 t177)).setCell ⟨gb179, 4, none⟩ (.int .u64 t178)) = w22 at n0_ n1_ n2_ n3_ ⊢
    have BK169 := n0_;have BK173 := n1_;have BK179 := n2_;have HB := n3_;clear n0_ n1_ n2_ n3_
    replace BK169 := A_ (blk_drew BK169.out)
    replace BK173 := A_ (blk_drew BK173.out)
    replace BK179 := A_ (blk_drew BK179.out)
    replace HB := A_ (below_drew1 HB.out)
    refine start_ (n := 12) (S := fun w' => w'.cell? ⟨gb179, 0, none⟩ = some (.int .i64 t174) ∧ w'.cell? ⟨gb179, 1, none⟩ = some (.int .i64 t175) ∧ w'.cell? ⟨gb179, 2, none⟩ = some (.bool t176) ∧ w'.cell? ⟨gb179, 3, none⟩ = some (.int .u64 t177) ∧ w'.cell? ⟨gb179, 4, none⟩ = some (.int .u64 t178)) (ds := []) #[false, false, false, false, false, false, false, false, false, false, false, false] (by kernel_rfl) rfl rfl ⟨bc_ BK179.out 0, bc_ BK179.out 1, bc_ BK179.out 2, bc_ BK179.out 3, bc_ BK179.out 4⟩ (fun hHeld => ?_); refine with_tabW shape_Open.tab5 shape_Open.bits5 (fun HT_ HW_ => ?_)
    generalize w22.drew = w23 at BK169 BK173 BK179 HB hHeld ⊢
    refine pu_ 0 (some 20) #[true, false, false, false, false, false, false, false, false, false, false, false] rfl rfl (any_of HT_.out (by kernel_rfl)) ?_
    refine pu_ 2 (some 22) #[true, false, true, false, false, false, false, false, false, false, false, false] rfl rfl (any_of HT_.out (by kernel_rfl)) ?_
    refine tk5_ 1 (some 21) #[true, true, true, false, false, false, false, false, false, false, false, false] rfl rfl (take_ofW HT_.out HW_.out (by kernel_rfl)) hHeld ?_
    refine tk5_ 3 (some 23) #[true, true, true, true, false, false, false, false, false, false, false, false] rfl rfl (take_ofW HT_.out HW_.out (by kernel_rfl)) hHeld ?_
    refine one_ (i := 4) (N := some 24) #[true, true, true, true, true, false, false, false, false, false, false, false] rfl rfl (one_of HT_.out (by kernel_rfl)) (by decide) (fun K hK => ?_)
    refine goes_ Tryz.func37 (by kernel_rfl) rfl #[.agg #[.int .i64 t174, .int .i64 t175]] (by rfl) rfl rfl mp_ ?_
    with_reducible refine (shape_format_ones.calls t174 t175 t180 _ A17.out).mono ?_
    rintro e w24 ⟨rfl, hb⟩
    refine ⟨_, rfl, ?_⟩
    replace BK169 := A_ (bb_ BK169.out hb)
    replace BK173 := A_ (bb_ BK173.out hb)
    replace BK179 := A_ (bb_ BK179.out hb)
    replace HB := A_ (below_step (hb3_ HB.out GE169.out GE173.out GE179.out) hb);(try clear hb);(try clear hb2);(try clear hk);(try clear hi)
    refine hK.out _ _ ⟨bc_ BK179.out 0, bc_ BK179.out 1, bc_ BK179.out 2, bc_ BK179.out 3, bc_ BK179.out 4⟩ (fun hHeld => ?_)
    clear hK K
    refine norm_ (a' := ?_) ?_ ?_
    rotate_left
    ·show Act.put _ (some 24) _ = _
     simp only [Act.put, lI_, l0_, lS_, i64_w, i32_w]
     rfl
    refine pu_ 5 (some 25) #[true, true, true, true, true, true, false, false, false, false, false, false] rfl rfl (any_of HT_.out (by kernel_rfl)) ?_
    refine pu_ 6 (some 26) #[true, true, true, true, true, true, true, false, false, false, false, false] rfl rfl (any_of HT_.out (by kernel_rfl)) ?_
    refine pure_ (i := 7) (N := some 27) (v := undef) (a' := ?_) #[true, true, true, true, true, true, true, true, false, false, false, false] rfl rfl (any_of HT_.out (by kernel_rfl)) (fun _ _ _ h => h) (Or.inr ⟨by rfl, rfl⟩) ?_ ?_
    rotate_left
    ·simp only [Act.put, lI_, l0_, lS_, i64_w, i32_w]
     rfl
    refine pure_ (i := 8) (N := some 28) (v := undef) (a' := ?_) #[true, true, true, true, true, true, true, true, true, false, false, false] rfl rfl (any_of HT_.out (by kernel_rfl)) (fun _ _ _ h => h) (Or.inr ⟨by rfl, rfl⟩) ?_ ?_
    rotate_left
    ·simp only [Act.put, lI_, l0_, lS_, i64_w, i32_w]
     rfl
    refine pure_ (i := 9) (N := some 29) (v := undef) (a' := ?_) #[true, true, true, true, true, true, true, true, true, true, false, false] rfl rfl (any_of HT_.out (by kernel_rfl)) (fun _ _ _ h => h) (Or.inr ⟨by rfl, rfl⟩) ?_ ?_
    rotate_left
    ·simp only [Act.put, lI_, l0_, lS_, i64_w, i32_w]
     rfl
    refine pu_ 10 (some 30) #[true, true, true, true, true, true, true, true, true, true, true, false] rfl rfl (any_of HT_.out (by kernel_rfl)) ?_
    refine pu_ 11 (some 19) #[true, true, true, true, true, true, true, true, true, true, true, true] rfl rfl (any_of HT_.out (by kernel_rfl)) ?_
    refine done_ (done_of HT_.out (by kernel_rfl)) ?_
    try go_wp2
    go_meet
    case rel => exact ⟨_, (false), sm_, H', ⟨by first | omega | exact Nat.le_refl _⟩, ⟨bk_ BK169.out⟩, ⟨bk_ BK173.out⟩, ⟨bk_ BK179.out⟩, ⟨hb3_ HB.out GE169.out GE173.out GE179.out⟩⟩
  case rest =>
   clear HC6
   try clear c1
   try clear p2
   try clear c3
   try clear c4
   try clear c10
   try clear c14
   try clear c15
   try clear c18
   try clear c18b0
   try clear c18b1
   try clear hcz11_0
   try clear hcz11_1
   try clear hcz16_0
   try clear hcz16_1
   try clear hcz16_2
   try clear hcz16_3
   try clear hcz16_4
   try clear hfz11_0
   try clear hfz11_1
   try clear hfz16_0
   try clear hfz16_1
   try clear hfz16_2
   try clear hfz16_3
   try clear hfz16_4
   obtain ⟨kq, x19_5, rfl, HA, HJ5, BK169, BK173, BK179, HB⟩ := hcut
   cases kq with
   | zero => exact absurd HA.out (by simp [shape_Open.j0])
   | succ kj5 =>
    have H := HA.out
    clear HA
    simp only [shape_Open.j0] at H
    by_cases c25 : x19_5 = true
    ·subst c25
     have H1 : (some (false, 3, 0, 0)) = some (r1, r2, r3, r4) := by rw [if_pos rfl] at H; exact H
     clear H;have H := H1;clear H1
     simp only [Option.some.injEq, Prod.mk.injEq] at H
     obtain ⟨rfl, rfl, rfl, rfl⟩ := H
     have hnb26 := NB169_173.out
     have hnc26 := NB173_169.out
     have hnb27 := NB169_179.out
     have hnc27 := NB179_169.out
     have hcz28_0 := bv_ BK169.out 0
     have hcz28_1 := bv_ BK169.out 1
     have hcz28_2 := bv_ BK169.out 2
     have hcz28_3 := bv_ BK169.out 3
     have hfz28_0 := blk_frozen BK169.out 0
     have hfz28_1 := blk_frozen BK169.out 1
     have hfz28_2 := blk_frozen BK169.out 2
     have hfz28_3 := blk_frozen BK169.out 3
     go_wp2
     refine bodyPost_ret (results_cell_row rfl _ _ gb169 27 #[.bool false, .int .i64 3, .int .i64 0, .int .u64 0] (0, 0) _ rfl (by (with_reducible repeat (first | refine blk_drewN ?_ _ | refine blk_drew ?_ | refine blk_alloc ?_ _)); refine blk_put (cs := #[.bool false, .int .i64 3, .int .i64 0, .int .u64 0]) ?_ 3 _ rfl; (with_reducible repeat (first | refine blk_drewN ?_ _ | refine blk_drew ?_ | refine blk_alloc ?_ _)); refine blk_put (cs := #[.bool false, .int .i64 3, .int .i64 0, .int .u64 0]) ?_ 2 _ rfl; (with_reducible repeat (first | refine blk_drewN ?_ _ | refine blk_drew ?_ | refine blk_alloc ?_ _)); refine blk_put (cs := #[.bool false, .int .i64 0, .int .i64 0, .int .u64 0]) ?_ 1 _ rfl; (with_reducible repeat (first | refine blk_drewN ?_ _ | refine blk_drew ?_ | refine blk_alloc ?_ _)); refine blk_put (cs := #[.bool false, .int .i64 0, .int .i64 0, .int .u64 0]) ?_ 0 _ rfl; (with_reducible repeat (first | refine blk_drewN ?_ _ | refine blk_drew ?_ | refine blk_alloc ?_ _)); exact BK169.out) Tryz.underlying27 rfl (by kernel_rfl)) rfl ?_
     exact ⟨er_, hb3_ HB.out GE169.out GE173.out GE179.out⟩
    ·replace c25 := Bool.eq_false_iff.mpr c25
     subst c25
     have H1 : ((shape_format_ones.f t174 t175).bind fun t181 => (if t177 = t181 then (some (t176, 2, 0, 0)) else (if t177 = 0 then (shape_Open.j1 kj5 (t178 == 0) t174 t175 t176 t177 t178) else (shape_Open.j1 kj5 false t174 t175 t176 t177 t178)))) = some (r1, r2, r3, r4) := by rw [if_neg (show ¬ (false = true) by decide)] at H; exact H
     clear H;have H := H1;clear H1
     replace H := ob_ H
     obtain ⟨t181, A290, H⟩ := H
     replace H : (if t177 = t181 then (some (t176, 2, 0, 0)) else (if t177 = 0 then (shape_Open.j1 kj5 (t178 == 0) t174 t175 t176 t177 t178) else (shape_Open.j1 kj5 false t174 t175 t176 t177 t178))) = some (r1, r2, r3, r4) := H
     have A29 := A_ A290;clear A290
     by_cases c30 : t177 = t181
     ·rw [if_pos c30] at H
      have c30b0 : (t177 == t181) = true := beq_iff_eq.mpr c30
      have c30b1 : (t177 != t181) = false := bne_eq_false_iff_eq.mpr c30
      clear c30
      simp only [Option.some.injEq, Prod.mk.injEq] at H
      obtain ⟨rfl, rfl, rfl, rfl⟩ := H
      try go_wp2
      replace BK169 := A_ (blk_drew BK169.out)
      replace BK173 := A_ (blk_drew BK173.out)
      replace BK179 := A_ (blk_drew BK179.out)
      replace HB := A_ (below_drew1 HB.out)
      refine start_ (n := 7) (S := fun w' => w'.cell? ⟨gb179, 0, none⟩ = some (.int .i64 t174) ∧ w'.cell? ⟨gb179, 1, none⟩ = some (.int .i64 t175) ∧ w'.cell? ⟨gb179, 2, none⟩ = some (.bool t176) ∧ w'.cell? ⟨gb179, 3, none⟩ = some (.int .u64 t177) ∧ w'.cell? ⟨gb179, 4, none⟩ = some (.int .u64 t178)) (ds := []) #[false, false, false, false, false, false, false] (by kernel_rfl) rfl rfl ⟨bc_ BK179.out 0, bc_ BK179.out 1, bc_ BK179.out 2, bc_ BK179.out 3, bc_ BK179.out 4⟩ (fun hHeld => ?_)
      generalize wc.drew = w31 at BK169 BK173 BK179 HB hHeld ⊢
      refine pu_ 0 (some 33) #[true, false, false, false, false, false, false] rfl rfl (by kernel_rfl) ?_
      refine pu_ 2 (some 35) #[true, false, true, false, false, false, false] rfl rfl (by kernel_rfl) ?_
      refine tk5_ 1 (some 34) #[true, true, true, false, false, false, false] rfl rfl (by kernel_rfl) hHeld ?_
      refine tk5_ 3 (some 36) #[true, true, true, true, false, false, false] rfl rfl (by kernel_rfl) hHeld ?_
      refine one_ (i := 4) (N := some 37) #[true, true, true, true, true, false, false] rfl rfl (by kernel_rfl) (by decide) (fun K hK => ?_)
      refine goes_ Tryz.func37 (by kernel_rfl) rfl #[.agg #[.int .i64 t174, .int .i64 t175]] (by rfl) rfl rfl mp_ ?_
      with_reducible refine (shape_format_ones.calls t174 t175 t181 _ A29.out).mono ?_
      rintro e w32 ⟨rfl, hb⟩
      refine ⟨_, rfl, ?_⟩
      replace BK169 := A_ (bb_ BK169.out hb)
      replace BK173 := A_ (bb_ BK173.out hb)
      replace BK179 := A_ (bb_ BK179.out hb)
      replace HB := A_ (below_step (hb3_ HB.out GE169.out GE173.out GE179.out) hb);(try clear hb);(try clear hb2);(try clear hk);(try clear hi)
      refine hK.out _ _ ⟨bc_ BK179.out 0, bc_ BK179.out 1, bc_ BK179.out 2, bc_ BK179.out 3, bc_ BK179.out 4⟩ (fun hHeld => ?_)
      clear hK K
      refine norm_ (a' := ?_) ?_ ?_
      rotate_left
      ·show Act.put _ (some 37) _ = _
       simp only [Act.put, lI_, l0_, lS_, i64_w, i32_w]
       rfl
      refine pu_ 5 (some 38) #[true, true, true, true, true, true, false] rfl rfl (by kernel_rfl) ?_
      refine pu_ 6 (some 32) #[true, true, true, true, true, true, true] rfl rfl (by kernel_rfl) ?_
      refine done_ (by kernel_rfl) ?_
      have hnb33 := NB179_169.out
      have hnc33 := NB169_179.out
      have hnb34 := NB179_173.out
      have hnc34 := NB173_179.out
      have hcz35_0 := bv_ BK179.out 0
      have hcz35_1 := bv_ BK179.out 1
      have hcz35_2 := bv_ BK179.out 2
      have hcz35_3 := bv_ BK179.out 3
      have hcz35_4 := bv_ BK179.out 4
      have hfz35_0 := blk_frozen BK179.out 0
      have hfz35_1 := blk_frozen BK179.out 1
      have hfz35_2 := blk_frozen BK179.out 2
      have hfz35_3 := blk_frozen BK179.out 3
      have hfz35_4 := blk_frozen BK179.out 4
      have hnb36 := NB169_173.out
      have hnc36 := NB173_169.out
      have hcz37_0 := bv_ BK169.out 0
      have hcz37_1 := bv_ BK169.out 1
      have hcz37_2 := bv_ BK169.out 2
      have hcz37_3 := bv_ BK169.out 3
      have hfz37_0 := blk_frozen BK169.out 0
      have hfz37_1 := blk_frozen BK169.out 1
      have hfz37_2 := blk_frozen BK169.out 2
      have hfz37_3 := blk_frozen BK169.out 3
      try go_wp2
      refine bodyPost_ret (results_cell_row rfl _ _ gb169 27 #[.bool t176, .int .i64 2, .int .i64 0, .int .u64 0] (0, 0) _ rfl (by (with_reducible repeat (first | refine blk_drewN ?_ _ | refine blk_drew ?_ | refine blk_alloc ?_ _)); refine blk_put (cs := #[.bool t176, .int .i64 2, .int .i64 0, .int .u64 0]) ?_ 3 _ rfl; (with_reducible repeat (first | refine blk_drewN ?_ _ | refine blk_drew ?_ | refine blk_alloc ?_ _)); refine blk_put (cs := #[.bool t176, .int .i64 2, .int .i64 0, .int .u64 0]) ?_ 2 _ rfl; (with_reducible repeat (first | refine blk_drewN ?_ _ | refine blk_drew ?_ | refine blk_alloc ?_ _)); refine blk_put (cs := #[.bool t176, .int .i64 0, .int .i64 0, .int .u64 0]) ?_ 1 _ rfl; (with_reducible repeat (first | refine blk_drewN ?_ _ | refine blk_drew ?_ | refine blk_alloc ?_ _)); refine blk_put (cs := #[.bool false, .int .i64 0, .int .i64 0, .int .u64 0]) ?_ 0 _ rfl; (with_reducible repeat (first | refine blk_drewN ?_ _ | refine blk_drew ?_ | refine blk_alloc ?_ _)); exact BK169.out) Tryz.underlying27 rfl (by kernel_rfl)) rfl ?_
      exact ⟨er_, hb3_ HB.out GE169.out GE173.out GE179.out⟩
     ·rw [if_neg c30] at H
      have c30b0 : (t177 == t181) = false := beq_eq_false_iff_ne.mpr c30
      have c30b1 : (t177 != t181) = true := bne_iff_ne.mpr c30
      have HC38 := A_ H;clear H
      try go_wp2
      replace BK169 := A_ (blk_drew BK169.out)
      replace BK173 := A_ (blk_drew BK173.out)
      replace BK179 := A_ (blk_drew BK179.out)
      replace HB := A_ (below_drew1 HB.out)
      refine start_ (n := 7) (S := fun w' => w'.cell? ⟨gb179, 0, none⟩ = some (.int .i64 t174) ∧ w'.cell? ⟨gb179, 1, none⟩ = some (.int .i64 t175) ∧ w'.cell? ⟨gb179, 2, none⟩ = some (.bool t176) ∧ w'.cell? ⟨gb179, 3, none⟩ = some (.int .u64 t177) ∧ w'.cell? ⟨gb179, 4, none⟩ = some (.int .u64 t178)) (ds := []) #[false, false, false, false, false, false, false] (by kernel_rfl) rfl rfl ⟨bc_ BK179.out 0, bc_ BK179.out 1, bc_ BK179.out 2, bc_ BK179.out 3, bc_ BK179.out 4⟩ (fun hHeld => ?_)
      generalize wc.drew = w39 at BK169 BK173 BK179 HB hHeld ⊢
      refine pu_ 0 (some 33) #[true, false, false, false, false, false, false] rfl rfl (by kernel_rfl) ?_
      refine pu_ 2 (some 35) #[true, false, true, false, false, false, false] rfl rfl (by kernel_rfl) ?_
      refine tk5_ 1 (some 34) #[true, true, true, false, false, false, false] rfl rfl (by kernel_rfl) hHeld ?_
      refine tk5_ 3 (some 36) #[true, true, true, true, false, false, false] rfl rfl (by kernel_rfl) hHeld ?_
      refine one_ (i := 4) (N := some 37) #[true, true, true, true, true, false, false] rfl rfl (by kernel_rfl) (by decide) (fun K hK => ?_)
      refine goes_ Tryz.func37 (by kernel_rfl) rfl #[.agg #[.int .i64 t174, .int .i64 t175]] (by rfl) rfl rfl mp_ ?_
      with_reducible refine (shape_format_ones.calls t174 t175 t181 _ A29.out).mono ?_
      rintro e w40 ⟨rfl, hb⟩
      refine ⟨_, rfl, ?_⟩
      replace BK169 := A_ (bb_ BK169.out hb)
      replace BK173 := A_ (bb_ BK173.out hb)
      replace BK179 := A_ (bb_ BK179.out hb)
      replace HB := A_ (below_step (hb3_ HB.out GE169.out GE173.out GE179.out) hb);(try clear hb);(try clear hb2);(try clear hk);(try clear hi)
      refine hK.out _ _ ⟨bc_ BK179.out 0, bc_ BK179.out 1, bc_ BK179.out 2, bc_ BK179.out 3, bc_ BK179.out 4⟩ (fun hHeld => ?_)
      clear hK K
      refine norm_ (a' := ?_) ?_ ?_
      rotate_left
      ·show Act.put _ (some 37) _ = _
       simp only [Act.put, lI_, l0_, lS_, i64_w, i32_w]
       rfl
      refine pu_ 5 (some 38) #[true, true, true, true, true, true, false] rfl rfl (by kernel_rfl) ?_
      refine pu_ 6 (some 32) #[true, true, true, true, true, true, true] rfl rfl (by kernel_rfl) ?_
      refine done_ (by kernel_rfl) ?_
      go_upto_region 9 with (fail)
      go_cut [42] (fun v42 wc => ∃ (kq : Nat) (x42_37 : Bool), v42 = .bool x42_37 ∧ Aside0 (shape_Open.j1 kq x42_37 t174 t175 t176 t177 t178 = some (r1, r2, r3, r4)) ∧ Aside0 (kq ≤ kj5) ∧ Aside0 (wc.heap[gb169]? = some (.cells #[.bool false, .int .i64 0, .int .i64 0, .int .u64 0] 27 (0, 0))) ∧ Aside0 (wc.heap[gb173]? = some (.cells #[.int .i64 t170, .int .i64 t171] 65 (0, 0))) ∧ Aside0 (wc.heap[gb179]? = some (.cells #[.int .i64 t174, .int .i64 t175, .bool t176, .int .u64 t177, .int .u64 t178] 69 (0, 0))) ∧ Aside0 (Below w.heap.size w wc))
      case first =>
       have H := HC38.out
       clear HC38
       by_cases c41 : t177 = 0
       ·rw [if_pos c41] at H
        have c41b0 : (t177 == 0) = true := beq_iff_eq.mpr c41
        have c41b1 : (t177 != 0) = false := bne_eq_false_iff_eq.mpr c41
        clear c41
        (first | rw [c41b0] | (simp only [i64_w, i32_w]; rw [c41b0]) | skip)
        have H' := A_ H
        clear H
        have hnb42 := NB179_169.out
        have hnc42 := NB169_179.out
        have hnb43 := NB179_173.out
        have hnc43 := NB173_179.out
        have hcz44_0 := bv_ BK179.out 0
        have hcz44_1 := bv_ BK179.out 1
        have hcz44_2 := bv_ BK179.out 2
        have hcz44_3 := bv_ BK179.out 3
        have hcz44_4 := bv_ BK179.out 4
        have hfz44_0 := blk_frozen BK179.out 0
        have hfz44_1 := blk_frozen BK179.out 1
        have hfz44_2 := blk_frozen BK179.out 2
        have hfz44_3 := blk_frozen BK179.out 3
        have hfz44_4 := blk_frozen BK179.out 4
        go_wp2
        go_meet
        case rel => exact ⟨_, ((t178 == 0)), sm_, H', ⟨by have := HJ5.out; first | omega | exact Nat.le_refl _⟩, ⟨bk_ BK169.out⟩, ⟨bk_ BK173.out⟩, ⟨bk_ BK179.out⟩, ⟨hb3_ HB.out GE169.out GE173.out GE179.out⟩⟩
       ·rw [if_neg c41] at H
        have c41b0 : (t177 == 0) = false := beq_eq_false_iff_ne.mpr c41
        have c41b1 : (t177 != 0) = true := bne_iff_ne.mpr c41
        (first | rw [c41b0] | (simp only [i64_w, i32_w]; rw [c41b0]) | skip)
        have H' := A_ H
        clear H
        have hnb45 := NB179_169.out
        have hnc45 := NB169_179.out
        have hnb46 := NB179_173.out
        have hnc46 := NB173_179.out
        have hcz47_0 := bv_ BK179.out 0
        have hcz47_1 := bv_ BK179.out 1
        have hcz47_2 := bv_ BK179.out 2
        have hcz47_3 := bv_ BK179.out 3
        have hcz47_4 := bv_ BK179.out 4
        have hfz47_0 := blk_frozen BK179.out 0
        have hfz47_1 := blk_frozen BK179.out 1
        have hfz47_2 := blk_frozen BK179.out 2
        have hfz47_3 := blk_frozen BK179.out 3
        have hfz47_4 := blk_frozen BK179.out 4
        go_wp2
        go_meet
        case rel => exact ⟨_, (false), sm_, H', ⟨by have := HJ5.out; first | omega | exact Nat.le_refl _⟩, ⟨bk_ BK169.out⟩, ⟨bk_ BK173.out⟩, ⟨bk_ BK179.out⟩, ⟨hb3_ HB.out GE169.out GE173.out GE179.out⟩⟩
      case rest =>
       clear HC38
       try clear c1
       try clear c2
       try clear p2
       try clear c3
       try clear c4
       try clear c10
       try clear c14
       try clear c15
       try clear c18
       try clear c18b0
       try clear c18b1
       try clear c25
       try clear c26
       try clear c27
       try clear c30
       try clear c30b0
       try clear c30b1
       try clear c33
       try clear c34
       try clear c36
       try clear c37
       try clear c41
       try clear c41b0
       try clear c41b1
       try clear c42
       try clear c43
       try clear c45
       try clear c46
       try clear hcz11_0
       try clear hcz11_1
       try clear hcz16_0
       try clear hcz16_1
       try clear hcz16_2
       try clear hcz16_3
       try clear hcz16_4
       try clear hcz28_0
       try clear hcz28_1
       try clear hcz28_2
       try clear hcz28_3
       try clear hcz35_0
       try clear hcz35_1
       try clear hcz35_2
       try clear hcz35_3
       try clear hcz35_4
       try clear hcz37_0
       try clear hcz37_1
       try clear hcz37_2
       try clear hcz37_3
       try clear hcz44_0
       try clear hcz44_1
       try clear hcz44_2
       try clear hcz44_3
       try clear hcz44_4
       try clear hcz47_0
       try clear hcz47_1
       try clear hcz47_2
       try clear hcz47_3
       try clear hcz47_4
       try clear hfz11_0
       try clear hfz11_1
       try clear hfz16_0
       try clear hfz16_1
       try clear hfz16_2
       try clear hfz16_3
       try clear hfz16_4
       try clear hfz28_0
       try clear hfz28_1
       try clear hfz28_2
       try clear hfz28_3
       try clear hfz35_0
       try clear hfz35_1
       try clear hfz35_2
       try clear hfz35_3
       try clear hfz35_4
       try clear hfz37_0
       try clear hfz37_1
       try clear hfz37_2
       try clear hfz37_3
       try clear hfz44_0
       try clear hfz44_1
       try clear hfz44_2
       try clear hfz44_3
       try clear hfz44_4
       try clear hfz47_0
       try clear hfz47_1
       try clear hfz47_2
       try clear hfz47_3
       try clear hfz47_4
       try clear p2
       obtain ⟨kq, x42_37, rfl, HA, HJ37, BK169, BK173, BK179, HB⟩ := hcut
       cases kq with
       | zero => exact absurd HA.out (by simp [shape_Open.j1])
       | succ kj37 =>
        have H := HA.out
        clear HA
        simp only [shape_Open.j1] at H
        by_cases c48 : x42_37 = true
        ·subst c48
         have H1 : (some (t176, 0, 0, 0)) = some (r1, r2, r3, r4) := by rw [if_pos rfl] at H; exact H
         clear H;have H := H1;clear H1
         simp only [Option.some.injEq, Prod.mk.injEq] at H
         obtain ⟨rfl, rfl, rfl, rfl⟩ := H
         have hnb49 := NB179_169.out
         have hnc49 := NB169_179.out
         have hnb50 := NB179_173.out
         have hnc50 := NB173_179.out
         have hcz51_0 := bv_ BK179.out 0
         have hcz51_1 := bv_ BK179.out 1
         have hcz51_2 := bv_ BK179.out 2
         have hcz51_3 := bv_ BK179.out 3
         have hcz51_4 := bv_ BK179.out 4
         have hfz51_0 := blk_frozen BK179.out 0
         have hfz51_1 := blk_frozen BK179.out 1
         have hfz51_2 := blk_frozen BK179.out 2
         have hfz51_3 := blk_frozen BK179.out 3
         have hfz51_4 := blk_frozen BK179.out 4
         have hnb52 := NB169_173.out
         have hnc52 := NB173_169.out
         have hcz53_0 := bv_ BK169.out 0
         have hcz53_1 := bv_ BK169.out 1
         have hcz53_2 := bv_ BK169.out 2
         have hcz53_3 := bv_ BK169.out 3
         have hfz53_0 := blk_frozen BK169.out 0
         have hfz53_1 := blk_frozen BK169.out 1
         have hfz53_2 := blk_frozen BK169.out 2
         have hfz53_3 := blk_frozen BK169.out 3
         go_wp2
         refine bodyPost_ret (results_cell_row rfl _ _ gb169 27 #[.bool t176, .int .i64 0, .int .i64 0, .int .u64 0] (0, 0) _ rfl (by (with_reducible repeat (first | refine blk_drewN ?_ _ | refine blk_drew ?_ | refine blk_alloc ?_ _)); refine blk_put (cs := #[.bool t176, .int .i64 0, .int .i64 0, .int .u64 0]) ?_ 3 _ rfl; (with_reducible repeat (first | refine blk_drewN ?_ _ | refine blk_drew ?_ | refine blk_alloc ?_ _)); refine blk_put (cs := #[.bool t176, .int .i64 0, .int .i64 0, .int .u64 0]) ?_ 2 _ rfl; (with_reducible repeat (first | refine blk_drewN ?_ _ | refine blk_drew ?_ | refine blk_alloc ?_ _)); refine blk_put (cs := #[.bool t176, .int .i64 0, .int .i64 0, .int .u64 0]) ?_ 1 _ rfl; (with_reducible repeat (first | refine blk_drewN ?_ _ | refine blk_drew ?_ | refine blk_alloc ?_ _)); refine blk_put (cs := #[.bool false, .int .i64 0, .int .i64 0, .int .u64 0]) ?_ 0 _ rfl; (with_reducible repeat (first | refine blk_drewN ?_ _ | refine blk_drew ?_ | refine blk_alloc ?_ _)); exact BK169.out) Tryz.underlying27 rfl (by kernel_rfl)) rfl ?_
         exact ⟨er_, hb3_ HB.out GE169.out GE173.out GE179.out⟩
        ·replace c48 := Bool.eq_false_iff.mpr c48
         subst c48
         have H1 : (if t177 = 0 then ((shape_format_low.f t174 t175).bind fun t182 => (some (t176, 1, t182, t178))) else ((shape_format_low.f t174 t175).bind fun t183 => (if 0 ≤ t175 then (some (t176, 1, wrap64 ((wrap64 (t183 + (wrap64 (t177)))) - 1), Go.bits .or .u64 (shl .u64 1 t175) t178)) else (none)))) = some (r1, r2, r3, r4) := by rw [if_neg (show ¬ (false = true) by decide)] at H; exact H
         clear H;have H := H1;clear H1
         by_cases c54 : t177 = 0
         ·rw [if_pos c54] at H
          have c54b0 : (t177 == 0) = true := beq_iff_eq.mpr c54
          have c54b1 : (t177 != 0) = false := bne_eq_false_iff_eq.mpr c54
          clear c54
          replace H := ob_ H
          obtain ⟨t182, A550, H⟩ := H
          replace H : (some (t176, 1, t182, t178)) = some (r1, r2, r3, r4) := H
          have A55 := A_ A550;clear A550
          simp only [Option.some.injEq, Prod.mk.injEq] at H
          obtain ⟨rfl, rfl, rfl, rfl⟩ := H
          have hnb56 := NB179_169.out
          have hnc56 := NB169_179.out
          have hnb57 := NB179_173.out
          have hnc57 := NB173_179.out
          have hcz58_0 := bv_ BK179.out 0
          have hcz58_1 := bv_ BK179.out 1
          have hcz58_2 := bv_ BK179.out 2
          have hcz58_3 := bv_ BK179.out 3
          have hcz58_4 := bv_ BK179.out 4
          have hfz58_0 := blk_frozen BK179.out 0
          have hfz58_1 := blk_frozen BK179.out 1
          have hfz58_2 := blk_frozen BK179.out 2
          have hfz58_3 := blk_frozen BK179.out 3
          have hfz58_4 := blk_frozen BK179.out 4
          try go_wp2
          replace BK169 := A_ (blk_drew BK169.out)
          replace BK173 := A_ (blk_drew BK173.out)
          replace BK179 := A_ (blk_drew BK179.out)
          replace HB := A_ (below_drew1 HB.out)
          refine start_ (n := 9) (S := fun w' => w'.cell? ⟨gb179, 0, none⟩ = some (.int .i64 t174) ∧ w'.cell? ⟨gb179, 1, none⟩ = some (.int .i64 t175) ∧ w'.cell? ⟨gb179, 2, none⟩ = some (.bool t176) ∧ w'.cell? ⟨gb179, 3, none⟩ = some (.int .u64 t177) ∧ w'.cell? ⟨gb179, 4, none⟩ = some (.int .u64 t178)) (ds := []) #[false, false, false, false, false, false, false, false, false] (by kernel_rfl) rfl rfl ⟨bc_ BK179.out 0, bc_ BK179.out 1, bc_ BK179.out 2, bc_ BK179.out 3, bc_ BK179.out 4⟩ (fun hHeld => ?_); refine with_tabW shape_Open.tab12 shape_Open.bits12 (fun HT_ HW_ => ?_)
          generalize wc.drew = w59 at BK169 BK173 BK179 HB hHeld ⊢
          refine pu_ 0 (some 58) #[true, false, false, false, false, false, false, false, false] rfl rfl (any_of HT_.out (by kernel_rfl)) ?_
          refine pu_ 2 (some 60) #[true, false, true, false, false, false, false, false, false] rfl rfl (any_of HT_.out (by kernel_rfl)) ?_
          refine pu_ 5 (some 63) #[true, false, true, false, false, true, false, false, false] rfl rfl (any_of HT_.out (by kernel_rfl)) ?_
          refine tk5_ 1 (some 59) #[true, true, true, false, false, true, false, false, false] rfl rfl (take_ofW HT_.out HW_.out (by kernel_rfl)) hHeld ?_
          refine tk5_ 3 (some 61) #[true, true, true, true, false, true, false, false, false] rfl rfl (take_ofW HT_.out HW_.out (by kernel_rfl)) hHeld ?_
          refine tk5_ 6 (some 64) #[true, true, true, true, false, true, true, false, false] rfl rfl (take_ofW HT_.out HW_.out (by kernel_rfl)) hHeld ?_
          refine one_ (i := 4) (N := some 62) #[true, true, true, true, true, true, true, false, false] rfl rfl (one_of HT_.out (by kernel_rfl)) (by decide) (fun K hK => ?_)
          refine goes_ Tryz.func38 (by kernel_rfl) rfl #[.agg #[.int .i64 t174, .int .i64 t175]] (by rfl) rfl rfl mp_ ?_
          with_reducible refine (shape_format_low.calls t174 t175 t182 _ A55.out).mono ?_
          rintro e w60 ⟨rfl, hb⟩
          refine ⟨_, rfl, ?_⟩
          replace BK169 := A_ (bb_ BK169.out hb)
          replace BK173 := A_ (bb_ BK173.out hb)
          replace BK179 := A_ (bb_ BK179.out hb)
          replace HB := A_ (below_step (hb3_ HB.out GE169.out GE173.out GE179.out) hb);(try clear hb);(try clear hb2);(try clear hk);(try clear hi)
          refine hK.out _ _ ⟨bc_ BK179.out 0, bc_ BK179.out 1, bc_ BK179.out 2, bc_ BK179.out 3, bc_ BK179.out 4⟩ (fun hHeld => ?_)
          clear hK K
          refine norm_ (a' := ?_) ?_ ?_
          rotate_left
          ·show Act.put _ (some 62) _ = _
           simp only [Act.put, lI_, l0_, lS_, i64_w, i32_w]
           rfl
          refine pu_ 7 (some 65) #[true, true, true, true, true, true, true, true, false] rfl rfl (any_of HT_.out (by kernel_rfl)) ?_
          refine one_ (i := 8) (N := none) #[true, true, true, true, true, true, true, true, true] rfl rfl (one_of HT_.out (by kernel_rfl)) (by decide) (fun K hK => ?_)
          have hs61 : w60.cell? ⟨gb169, 0, none⟩ = some (.bool false) := bc_ BK169.out 0
          have hfs61 := blk_frozen BK169.out 0
          have hns61_1 := NB173_169.out
          have hns61_2 := NB179_169.out
          have hms61_1 := NB169_173.out
          have hms61_2 := NB169_179.out
          have hs62 : w60.cell? ⟨gb169, 1, none⟩ = some (.int .i64 0) := bc_ BK169.out 1
          have hfs62 := blk_frozen BK169.out 1
          have hns62_1 := NB173_169.out
          have hns62_2 := NB179_169.out
          have hms62_1 := NB169_173.out
          have hms62_2 := NB169_179.out
          have hs63 : w60.cell? ⟨gb169, 2, none⟩ = some (.int .i64 0) := bc_ BK169.out 2
          have hfs63 := blk_frozen BK169.out 2
          have hns63_1 := NB173_169.out
          have hns63_2 := NB179_169.out
          have hms63_1 := NB169_173.out
          have hms63_2 := NB169_179.out
          have hs64 : w60.cell? ⟨gb169, 3, none⟩ = some (.int .u64 0) := bc_ BK169.out 3
          have hfs64 := blk_frozen BK169.out 3
          have hns64_1 := NB173_169.out
          have hns64_2 := NB179_169.out
          have hms64_1 := NB169_173.out
          have hms64_2 := NB169_179.out
          refine skip_ (w1 := ?_) (by rfl) rfl ?_ ?_
          rotate_left
          ·go_simp
           rfl
          refine hK.out _ _ ⟨((cell_far (p := ⟨gb169, _, none⟩) NB179_169.out _).trans (((cell_far (p := ⟨gb169, _, none⟩) NB179_169.out _).trans (((cell_far (p := ⟨gb169, _, none⟩) NB179_169.out _).trans (((cell_far (p := ⟨gb169, _, none⟩) NB179_169.out _).trans (hHeld.1)))))))), ((cell_far (p := ⟨gb169, _, none⟩) NB179_169.out _).trans (((cell_far (p := ⟨gb169, _, none⟩) NB179_169.out _).trans (((cell_far (p := ⟨gb169, _, none⟩) NB179_169.out _).trans (((cell_far (p := ⟨gb169, _, none⟩) NB179_169.out _).trans (hHeld.2.1)))))))), ((cell_far (p := ⟨gb169, _, none⟩) NB179_169.out _).trans (((cell_far (p := ⟨gb169, _, none⟩) NB179_169.out _).trans (((cell_far (p := ⟨gb169, _, none⟩) NB179_169.out _).trans (((cell_far (p := ⟨gb169, _, none⟩) NB179_169.out _).trans (hHeld.2.2.1)))))))), ((cell_far (p := ⟨gb169, _, none⟩) NB179_169.out _).trans (((cell_far (p := ⟨gb169, _, none⟩) NB179_169.out _).trans (((cell_far (p := ⟨gb169, _, none⟩) NB179_169.out _).trans (((cell_far (p := ⟨gb169, _, none⟩) NB179_169.out _).trans (hHeld.2.2.2.1)))))))), ((cell_far (p := ⟨gb169, _, none⟩) NB179_169.out _).trans (((cell_far (p := ⟨gb169, _, none⟩) NB179_169.out _).trans (((cell_far (p := ⟨gb169, _, none⟩) NB179_169.out _).trans (((cell_far (p := ⟨gb169, _, none⟩) NB179_169.out _).trans (hHeld.2.2.2.2))))))))⟩ (fun hHeld => ?_)
          clear hK K
          refine done_ (done_of HT_.out (by kernel_rfl)) ?_
          try go_wp2
          refine bodyPost_ret (results_cell_row rfl _ _ gb169 27 #[.bool t176, .int .i64 1, .int .i64 t182, .int .u64 t178] (0, 0) _ rfl (by (with_reducible repeat (first | refine blk_drewN ?_ _ | refine blk_drew ?_ | refine blk_alloc ?_ _)); refine blk_put (cs := #[.bool t176, .int .i64 1, .int .i64 t182, .int .u64 0]) ?_ 3 _ rfl; (with_reducible repeat (first | refine blk_drewN ?_ _ | refine blk_drew ?_ | refine blk_alloc ?_ _)); refine blk_put (cs := #[.bool t176, .int .i64 1, .int .i64 0, .int .u64 0]) ?_ 2 _ rfl; (with_reducible repeat (first | refine blk_drewN ?_ _ | refine blk_drew ?_ | refine blk_alloc ?_ _)); refine blk_put (cs := #[.bool t176, .int .i64 0, .int .i64 0, .int .u64 0]) ?_ 1 _ rfl; (with_reducible repeat (first | refine blk_drewN ?_ _ | refine blk_drew ?_ | refine blk_alloc ?_ _)); refine blk_put (cs := #[.bool false, .int .i64 0, .int .i64 0, .int .u64 0]) ?_ 0 _ rfl; (with_reducible repeat (first | refine blk_drewN ?_ _ | refine blk_drew ?_ | refine blk_alloc ?_ _)); exact BK169.out) Tryz.underlying27 rfl (by kernel_rfl)) rfl ?_
          exact ⟨er_, hb3_ HB.out GE169.out GE173.out GE179.out⟩
         ·rw [if_neg c54] at H
          have c54b0 : (t177 == 0) = false := beq_eq_false_iff_ne.mpr c54
          have c54b1 : (t177 != 0) = true := bne_iff_ne.mpr c54
          replace H := ob_ H
          obtain ⟨t183, A650, H⟩ := H
          replace H : (if 0 ≤ t175 then (some (t176, 1, wrap64 ((wrap64 (t183 + (wrap64 (t177)))) - 1), Go.bits .or .u64 (shl .u64 1 t175) t178)) else (none)) = some (r1, r2, r3, r4) := H
          have A65 := A_ A650;clear A650
          by_cases c66 : 0 ≤ t175
          ·rw [if_pos c66] at H
           have c66b0 := eq_true c66
           have c66b1 : decide (0 ≤ t175) = true := decide_eq_true c66
           clear c66
           obtain ⟨ji67, hji67⟩ : ∃ j_ : Int, (shl .u64 1 t175) = j_ := ⟨_, rfl⟩
           replace H : (some (t176, 1, wrap64 ((wrap64 (t183 + (wrap64 (t177)))) - 1), Go.bits .or .u64 (ji67) t178)) = some (r1, r2, r3, r4) := by first | (rw [hji67] at H; exact H) | (simp only [hji67] at H ⊢; exact H)
           (try rw [hji67] at A65)
           have hji67_ : (IntKind.u64.wrap (1 * 2 ^ min t175.toNat 64)) = ji67 := hji67
           have hji67z : t175 ≤ 64 → (IntKind.u64.wrap (1 * 2 ^ t175.toNat)) = ji67 := shl_small hji67
           have hji67u : (IntKind.u64.wrap (2 ^ min t175.toNat 64)) = ji67 := by have h_ := hji67_; rw [Int.one_mul] at h_; exact h_
           have hji67v : t175 ≤ 64 → (IntKind.u64.wrap (2 ^ t175.toNat)) = ji67 := fun hle_ => by have h_ := hji67z hle_; rw [Int.one_mul] at h_; exact h_
           simp only [Option.some.injEq, Prod.mk.injEq] at H
           obtain ⟨rfl, rfl, rfl, rfl⟩ := H
           have hnb68 := NB179_169.out
           have hnc68 := NB169_179.out
           have hnb69 := NB179_173.out
           have hnc69 := NB173_179.out
           have hcz70_0 := bv_ BK179.out 0
           have hcz70_1 := bv_ BK179.out 1
           have hcz70_2 := bv_ BK179.out 2
           have hcz70_3 := bv_ BK179.out 3
           have hcz70_4 := bv_ BK179.out 4
           have hfz70_0 := blk_frozen BK179.out 0
           have hfz70_1 := blk_frozen BK179.out 1
           have hfz70_2 := blk_frozen BK179.out 2
           have hfz70_3 := blk_frozen BK179.out 3
           have hfz70_4 := blk_frozen BK179.out 4
           try go_wp2
           replace BK169 := A_ (blk_drew BK169.out)
           replace BK173 := A_ (blk_drew BK173.out)
           replace BK179 := A_ (blk_drew BK179.out)
           replace HB := A_ (below_drew1 HB.out)
           refine start_ (n := 19) (S := fun w' => w'.cell? ⟨gb179, 0, none⟩ = some (.int .i64 t174) ∧ w'.cell? ⟨gb179, 1, none⟩ = some (.int .i64 t175) ∧ w'.cell? ⟨gb179, 2, none⟩ = some (.bool t176) ∧ w'.cell? ⟨gb179, 3, none⟩ = some (.int .u64 t177) ∧ w'.cell? ⟨gb179, 4, none⟩ = some (.int .u64 t178)) (ds := []) #[false, false, false, false, false, false, false, false, false, false, false, false, false, false, false, false, false, false, false] (by kernel_rfl) rfl rfl ⟨bc_ BK179.out 0, bc_ BK179.out 1, bc_ BK179.out 2, bc_ BK179.out 3, bc_ BK179.out 4⟩ (fun hHeld => ?_); refine with_tabW shape_Open.tab13 shape_Open.bits13 (fun HT_ HW_ => ?_)
           generalize wc.drew = w71 at BK169 BK173 BK179 HB hHeld ⊢
           refine pu_ 0 (some 66) #[true, false, false, false, false, false, false, false, false, false, false, false, false, false, false, false, false, false, false] rfl rfl (any_of HT_.out (by kernel_rfl)) ?_
           refine pu_ 2 (some 68) #[true, false, true, false, false, false, false, false, false, false, false, false, false, false, false, false, false, false, false] rfl rfl (any_of HT_.out (by kernel_rfl)) ?_
           refine pu_ 5 (some 71) #[true, false, true, false, false, true, false, false, false, false, false, false, false, false, false, false, false, false, false] rfl rfl (any_of HT_.out (by kernel_rfl)) ?_
           refine pu_ 10 (some 76) #[true, false, true, false, false, true, false, false, false, false, true, false, false, false, false, false, false, false, false] rfl rfl (any_of HT_.out (by kernel_rfl)) ?_
           refine pu_ 11 (some 77) #[true, false, true, false, false, true, false, false, false, false, true, true, false, false, false, false, false, false, false] rfl rfl (any_of HT_.out (by kernel_rfl)) ?_
           refine pu_ 14 (some 80) #[true, false, true, false, false, true, false, false, false, false, true, true, false, false, true, false, false, false, false] rfl rfl (any_of HT_.out (by kernel_rfl)) ?_
           refine tk5_ 1 (some 67) #[true, true, true, false, false, true, false, false, false, false, true, true, false, false, true, false, false, false, false] rfl rfl (take_ofW HT_.out HW_.out (by kernel_rfl)) hHeld ?_
           refine tk5_ 3 (some 69) #[true, true, true, true, false, true, false, false, false, false, true, true, false, false, true, false, false, false, false] rfl rfl (take_ofW HT_.out HW_.out (by kernel_rfl)) hHeld ?_
           refine tk5_ 6 (some 72) #[true, true, true, true, false, true, true, false, false, false, true, true, false, false, true, false, false, false, false] rfl rfl (take_ofW HT_.out HW_.out (by kernel_rfl)) hHeld ?_
           refine pu_ 7 (some 73) #[true, true, true, true, false, true, true, true, false, false, true, true, false, false, true, false, false, false, false] rfl rfl (any_of HT_.out (by kernel_rfl)) ?_
           refine tk5_ 12 (some 78) #[true, true, true, true, false, true, true, true, false, false, true, true, true, false, true, false, false, false, false] rfl rfl (take_ofW HT_.out HW_.out (by kernel_rfl)) hHeld ?_
           refine pu_ 13 (some 79) #[true, true, true, true, false, true, true, true, false, false, true, true, true, true, true, false, false, false, false] rfl rfl (any_of HT_.out (by kernel_rfl)) ?_
           refine tk5_ 15 (some 81) #[true, true, true, true, false, true, true, true, false, false, true, true, true, true, true, true, false, false, false] rfl rfl (take_ofW HT_.out HW_.out (by kernel_rfl)) hHeld ?_
           refine pu_ 16 (some 82) #[true, true, true, true, false, true, true, true, false, false, true, true, true, true, true, true, true, false, false] rfl rfl (any_of HT_.out (by kernel_rfl)) ?_
           refine one_ (i := 4) (N := some 70) #[true, true, true, true, true, true, true, true, false, false, true, true, true, true, true, true, true, false, false] rfl rfl (one_of HT_.out (by kernel_rfl)) (by decide) (fun K hK => ?_)
           refine goes_ Tryz.func38 (by kernel_rfl) rfl #[.agg #[.int .i64 t174, .int .i64 t175]] (by rfl) rfl rfl mp_ ?_
           with_reducible refine (shape_format_low.calls t174 t175 t183 _ A65.out).mono ?_
           rintro e w72 ⟨rfl, hb⟩
           refine ⟨_, rfl, ?_⟩
           replace BK169 := A_ (bb_ BK169.out hb)
           replace BK173 := A_ (bb_ BK173.out hb)
           replace BK179 := A_ (bb_ BK179.out hb)
           replace HB := A_ (below_step (hb3_ HB.out GE169.out GE173.out GE179.out) hb);(try clear hb);(try clear hb2);(try clear hk);(try clear hi)
           refine hK.out _ _ ⟨bc_ BK179.out 0, bc_ BK179.out 1, bc_ BK179.out 2, bc_ BK179.out 3, bc_ BK179.out 4⟩ (fun hHeld => ?_)
           clear hK K
           refine norm_ (a' := ?_) ?_ ?_
           rotate_left
           ·show Act.put _ (some 70) _ = _
            simp only [Act.put, lI_, l0_, lS_, i64_w, i32_w]
            rfl
           refine pu_ 8 (some 74) #[true, true, true, true, true, true, true, true, true, false, true, true, true, true, true, true, true, false, false] rfl rfl (any_of HT_.out (by kernel_rfl)) ?_
           refine pu_ 9 (some 75) #[true, true, true, true, true, true, true, true, true, true, true, true, true, true, true, true, true, false, false] rfl rfl (any_of HT_.out (by kernel_rfl)) ?_
           refine pu_ 17 (some 83) #[true, true, true, true, true, true, true, true, true, true, true, true, true, true, true, true, true, true, false] rfl rfl (any_of HT_.out (by kernel_rfl)) ?_
           refine one_ (i := 18) (N := none) #[true, true, true, true, true, true, true, true, true, true, true, true, true, true, true, true, true, true, true] rfl rfl (one_of HT_.out (by kernel_rfl)) (by decide) (fun K hK => ?_)
           have hs73 : w72.cell? ⟨gb169, 0, none⟩ = some (.bool false) := bc_ BK169.out 0
           have hfs73 := blk_frozen BK169.out 0
           have hns73_1 := NB173_169.out
           have hns73_2 := NB179_169.out
           have hms73_1 := NB169_173.out
           have hms73_2 := NB169_179.out
           have hs74 : w72.cell? ⟨gb169, 1, none⟩ = some (.int .i64 0) := bc_ BK169.out 1
           have hfs74 := blk_frozen BK169.out 1
           have hns74_1 := NB173_169.out
           have hns74_2 := NB179_169.out
           have hms74_1 := NB169_173.out
           have hms74_2 := NB169_179.out
           have hs75 : w72.cell? ⟨gb169, 2, none⟩ = some (.int .i64 0) := bc_ BK169.out 2
           have hfs75 := blk_frozen BK169.out 2
           have hns75_1 := NB173_169.out
           have hns75_2 := NB179_169.out
           have hms75_1 := NB169_173.out
           have hms75_2 := NB169_179.out
           have hs76 : w72.cell? ⟨gb169, 3, none⟩ = some (.int .u64 0) := bc_ BK169.out 3
           have hfs76 := blk_frozen BK169.out 3
           have hns76_1 := NB173_169.out
           have hns76_2 := NB179_169.out
           have hms76_1 := NB169_173.out
           have hms76_2 := NB169_179.out
           refine skip_ (w1 := ?_) (by rfl) rfl ?_ ?_
           rotate_left
           ·go_simp
            rfl
           refine hK.out _ _ ⟨((cell_far (p := ⟨gb169, _, none⟩) NB179_169.out _).trans (((cell_far (p := ⟨gb169, _, none⟩) NB179_169.out _).trans (((cell_far (p := ⟨gb169, _, none⟩) NB179_169.out _).trans (((cell_far (p := ⟨gb169, _, none⟩) NB179_169.out _).trans (hHeld.1)))))))), ((cell_far (p := ⟨gb169, _, none⟩) NB179_169.out _).trans (((cell_far (p := ⟨gb169, _, none⟩) NB179_169.out _).trans (((cell_far (p := ⟨gb169, _, none⟩) NB179_169.out _).trans (((cell_far (p := ⟨gb169, _, none⟩) NB179_169.out _).trans (hHeld.2.1)))))))), ((cell_far (p := ⟨gb169, _, none⟩) NB179_169.out _).trans (((cell_far (p := ⟨gb169, _, none⟩) NB179_169.out _).trans (((cell_far (p := ⟨gb169, _, none⟩) NB179_169.out _).trans (((cell_far (p := ⟨gb169, _, none⟩) NB179_169.out _).trans (hHeld.2.2.1)))))))), ((cell_far (p := ⟨gb169, _, none⟩) NB179_169.out _).trans (((cell_far (p := ⟨gb169, _, none⟩) NB179_169.out _).trans (((cell_far (p := ⟨gb169, _, none⟩) NB179_169.out _).trans (((cell_far (p := ⟨gb169, _, none⟩) NB179_169.out _).trans (hHeld.2.2.2.1)))))))), ((cell_far (p := ⟨gb169, _, none⟩) NB179_169.out _).trans (((cell_far (p := ⟨gb169, _, none⟩) NB179_169.out _).trans (((cell_far (p := ⟨gb169, _, none⟩) NB179_169.out _).trans (((cell_far (p := ⟨gb169, _, none⟩) NB179_169.out _).trans (hHeld.2.2.2.2))))))))⟩ (fun hHeld => ?_)
           clear hK K
           refine done_ (done_of HT_.out (by kernel_rfl)) ?_
           try go_wp2
           refine bodyPost_ret (results_cell_row rfl _ _ gb169 27 #[.bool t176, .int .i64 1, .int .i64 (wrap64 ((wrap64 (t183 + (wrap64 (t177)))) - 1)), .int .u64 (Go.bits .or .u64 (ji67) t178)] (0, 0) _ rfl (by (with_reducible repeat (first | refine blk_drewN ?_ _ | refine blk_drew ?_ | refine blk_alloc ?_ _)); refine blk_put (cs := #[.bool t176, .int .i64 1, .int .i64 (wrap64 ((wrap64 (t183 + (wrap64 (t177)))) - 1)), .int .u64 0]) ?_ 3 _ rfl; (with_reducible repeat (first | refine blk_drewN ?_ _ | refine blk_drew ?_ | refine blk_alloc ?_ _)); refine blk_put (cs := #[.bool t176, .int .i64 1, .int .i64 0, .int .u64 0]) ?_ 2 _ rfl; (with_reducible repeat (first | refine blk_drewN ?_ _ | refine blk_drew ?_ | refine blk_alloc ?_ _)); refine blk_put (cs := #[.bool t176, .int .i64 0, .int .i64 0, .int .u64 0]) ?_ 1 _ rfl; (with_reducible repeat (first | refine blk_drewN ?_ _ | refine blk_drew ?_ | refine blk_alloc ?_ _)); refine blk_put (cs := #[.bool false, .int .i64 0, .int .i64 0, .int .u64 0]) ?_ 0 _ rfl; (with_reducible repeat (first | refine blk_drewN ?_ _ | refine blk_drew ?_ | refine blk_alloc ?_ _)); exact BK169.out) Tryz.underlying27 rfl (by kernel_rfl)) rfl ?_
           exact ⟨by first | rfl | (simp [errW_none, errW_some] <;> rfl) | (simp only [← hji67]; first | rfl | (simp [errW_none, errW_some] <;> rfl)) | (simp [*, errW_none, errW_some] <;> rfl), hb3_ HB.out GE169.out GE173.out GE179.out⟩
          ·rw [if_neg c66] at H
           exact absurd H (by simp)
 ·replace c4 := Bool.eq_false_iff.mpr c4
  subst c4
  have H1 : (some (false, 0, 0, 0)) = some (r1, r2, r3, r4) := by rw [if_neg (show ¬ (false = true) by decide)] at H; exact H
  clear H;have H := H1;clear H1
  simp only [Option.some.injEq, Prod.mk.injEq] at H
  obtain ⟨rfl, rfl, rfl, rfl⟩ := H
  go_enter Tryz.func10, Tryz.ntmps10
  go_wp2_with (first | ((with_reducible refine gate_dst (N := 4) rfl ?_); refine be_ 4 #[.bool false, .int .i64 0, .int .i64 0, .int .u64 0] 27 ?_; intro gb169 hg w77 hbox hb; have BK169 := A_ (hbox); have GW169 := A_ (sz_ hg (hb_ HB.out)); have GE169 := A_ (sz_ hg (hb_ HB.out)); replace HB := A_ (below_step (hb_ HB.out) hb); clear hb hbox hg) | ((with_reducible refine gate_callee (f := 35) rfl ?_); refine goesL_ (some 10) rfl rfl Tryz.func35 (by kernel_rfl) rfl #[.int .i64 a0] rfl mp_ ?_; (with_reducible refine (shape_of.calls a0 t170 t171 false _ A3.out).mono ?_); rintro e w78 ⟨rfl, hb⟩; refine ⟨_, rfl, ?_⟩; replace BK169 := A_ (bb_ BK169.out hb); replace HB := A_ (below_step (hb1_ HB.out GE169.out) hb); (try clear hb); (try clear hb2); (try clear hk); (try clear hi)) | ((with_reducible refine gate_dst (N := 5) rfl ?_); refine be_ 5 #[.int .i64 0, .int .i64 0] 65 ?_; intro gb173 hg w79 hbox hb; have BK173 := A_ (hbox); have GW173 := A_ (sz_ hg (hb1_ HB.out GE169.out)); have GE173 := A_ (sz_ hg (hb1_ HB.out GE169.out)); have NB169_173 := A_ (nl_ hg BK169.out); have NB173_169 := A_ (ng_ hg BK169.out); replace BK169 := A_ (bb_ BK169.out hb); replace HB := A_ (below_step (hb1_ HB.out GE169.out) hb); clear hb hbox hg; have hnb80 := NB173_169.out; have hnc80 := NB169_173.out; have hcz81_0 := bv_ BK173.out 0; have hcz81_1 := bv_ BK173.out 1; have hfz81_0 := blk_frozen BK173.out 0; have hfz81_1 := blk_frozen BK173.out 1; have hcz82_0 := bv_ BK169.out 0; have hcz82_1 := bv_ BK169.out 1; have hcz82_2 := bv_ BK169.out 2; have hcz82_3 := bv_ BK169.out 3; have hfz82_0 := blk_frozen BK169.out 0; have hfz82_1 := blk_frozen BK169.out 1; have hfz82_2 := blk_frozen BK169.out 2; have hfz82_3 := blk_frozen BK169.out 3))
  refine bodyPost_ret (results_cell_row rfl _ _ gb169 27 #[.bool false, .int .i64 0, .int .i64 0, .int .u64 0] (0, 0) _ rfl (by (with_reducible repeat (first | refine blk_drewN ?_ _ | refine blk_drew ?_ | refine blk_alloc ?_ _)); refine blk_put (cs := #[.bool false, .int .i64 0, .int .i64 0, .int .u64 0]) ?_ 3 _ rfl; (with_reducible repeat (first | refine blk_drewN ?_ _ | refine blk_drew ?_ | refine blk_alloc ?_ _)); refine blk_put (cs := #[.bool false, .int .i64 0, .int .i64 0, .int .u64 0]) ?_ 2 _ rfl; (with_reducible repeat (first | refine blk_drewN ?_ _ | refine blk_drew ?_ | refine blk_alloc ?_ _)); refine blk_put (cs := #[.bool false, .int .i64 0, .int .i64 0, .int .u64 0]) ?_ 1 _ rfl; (with_reducible repeat (first | refine blk_drewN ?_ _ | refine blk_drew ?_ | refine blk_alloc ?_ _)); refine blk_put (cs := #[.bool false, .int .i64 0, .int .i64 0, .int .u64 0]) ?_ 0 _ rfl; (with_reducible repeat (first | refine blk_drewN ?_ _ | refine blk_drew ?_ | refine blk_alloc ?_ _)); refine blk_far ?_ NB169_173.out _; (with_reducible repeat (first | refine blk_drewN ?_ _ | refine blk_drew ?_ | refine blk_alloc ?_ _)); refine blk_far ?_ NB169_173.out _; (with_reducible repeat (first | refine blk_drewN ?_ _ | refine blk_drew ?_ | refine blk_alloc ?_ _)); exact BK169.out) Tryz.underlying27 rfl (by kernel_rfl)) rfl ?_
  exact ⟨er_, hb2_ HB.out GE169.out GE173.out⟩
def shape_format_sign.f (a0_0 : Int) (a0_1 : Int) (a1 : Bool) : Option (Int) := if a1 = true then (if 0 ≤ (wrap64 (a0_0 + a0_1)) then (some (shl .u64 1 (wrap64 (a0_0 + a0_1)))) else (none)) else (some 0)
theorem shape_format_sign.calls (a0_0 : Int) (a0_1 : Int) (a1 : Bool) (r : Int) (w : World) (h : shape_format_sign.f a0_0 a0_1 a1 = some r) :
  Calls Tryz.prog 160 #[.agg #[.int .i64 a0_0, .int .i64 a0_1], .bool a1] w fun e w' => e = .returned (.int .u64 r) ∧ Below w.heap.size w w' := by
 have hu65 := Tryz.underlying65
 have HB := A_ (Below.refl w.heap.size w)
 have H : (if a1 = true then (if 0 ≤ (wrap64 (a0_0 + a0_1)) then (some (shl .u64 1 (wrap64 (a0_0 + a0_1)))) else (none)) else (some 0)) = some r := h
 clear h
 by_cases c3 : a1 = true
 ·subst c3
  have H1 : (if 0 ≤ (wrap64 (a0_0 + a0_1)) then (some (shl .u64 1 (wrap64 (a0_0 + a0_1)))) else (none)) = some r := by rw [if_pos rfl] at H; exact H
  clear H;have H := H1;clear H1
  obtain ⟨ji4, hji4⟩ : ∃ j_ : Int, (wrap64 (a0_0 + a0_1)) = j_ := ⟨_, rfl⟩
  replace H : (if 0 ≤ (ji4) then (some (shl .u64 1 (ji4))) else (none)) = some r := by first | (rw [hji4] at H; exact H) | (simp only [hji4] at H ⊢; exact H)
  have hji4w : (IntKind.i64.wrap (a0_0 + a0_1)) = ji4 := (i64_w _).trans hji4
  by_cases c5 : 0 ≤ (ji4)
  ·rw [if_pos c5] at H
   have c5b0 := eq_true c5
   have c5b1 : decide (0 ≤ (ji4)) = true := decide_eq_true c5
   clear c5
   obtain ⟨ji6, hji6⟩ : ∃ j_ : Int, (shl .u64 1 (ji4)) = j_ := ⟨_, rfl⟩
   replace H : (some ji6) = some r := by first | (rw [hji6] at H; exact H) | (simp only [hji6] at H ⊢; exact H)
   have hji6_ : (IntKind.u64.wrap (1 * 2 ^ min (ji4).toNat 64)) = ji6 := hji6
   have hji6z : (ji4) ≤ 64 → (IntKind.u64.wrap (1 * 2 ^ (ji4).toNat)) = ji6 := shl_small hji6
   have hji6u : (IntKind.u64.wrap (2 ^ min (ji4).toNat 64)) = ji6 := by have h_ := hji6_; rw [Int.one_mul] at h_; exact h_
   have hji6v : (ji4) ≤ 64 → (IntKind.u64.wrap (2 ^ (ji4).toNat)) = ji6 := fun hle_ => by have h_ := hji6z hle_; rw [Int.one_mul] at h_; exact h_
   obtain rfl := Option.some.inj H
   go_enter Tryz.func160, Tryz.ntmps160
   go_wp2_with (first | ((with_reducible refine gate_dst (N := 2) rfl ?_); refine be_ 2 #[.int .i64 a0_0, .int .i64 a0_1] 65 ?_; intro gb184 hg w7 hbox hb; have BK184 := A_ (hbox); have GW184 := A_ (sz_ hg (hb_ HB.out)); have GE184 := A_ (sz_ hg (hb_ HB.out)); replace HB := A_ (below_step (hb_ HB.out) hb); clear hb hbox hg; have hcz8_0 := bv_ BK184.out 0; have hcz8_1 := bv_ BK184.out 1; have hfz8_0 := blk_frozen BK184.out 0; have hfz8_1 := blk_frozen BK184.out 1))
   go_ret
   exact ⟨by first | rfl | (simp [errW_none, errW_some] <;> rfl) | (simp only [← hji4, ← hji6]; first | rfl | (simp [errW_none, errW_some] <;> rfl)) | (simp [*, errW_none, errW_some] <;> rfl), hb1_ HB.out GE184.out⟩
  ·rw [if_neg c5] at H
   exact absurd H (by simp)
 ·replace c3 := Bool.eq_false_iff.mpr c3
  subst c3
  have H1 : (some 0) = some r := by rw [if_neg (show ¬ (false = true) by decide)] at H; exact H
  clear H;have H := H1;clear H1
  obtain rfl := Option.some.inj H
  go_enter Tryz.func160, Tryz.ntmps160
  go_wp2_with (first | ((with_reducible refine gate_dst (N := 2) rfl ?_); refine be_ 2 #[.int .i64 a0_0, .int .i64 a0_1] 65 ?_; intro gb184 hg w9 hbox hb; have BK184 := A_ (hbox); have GW184 := A_ (sz_ hg (hb_ HB.out)); have GE184 := A_ (sz_ hg (hb_ HB.out)); replace HB := A_ (below_step (hb_ HB.out) hb); clear hb hbox hg))
  go_ret
  exact ⟨er_, hb1_ HB.out GE184.out⟩
def shape_Zero.f (a0 : Int) (a1 : Bool) : Option (Int) := (shape_of.f a0).bind fun bt185 => (if bt185.2.2 = true then ((shape_format_sign.f bt185.1 bt185.2.1 a1).bind fun t189 => (some t189)) else (some 0))
theorem shape_Zero.calls (a0 : Int) (a1 : Bool) (r : Int) (w : World) (h : shape_Zero.f a0 a1 = some r) :
  Calls Tryz.prog 145 #[.int .i64 a0, .bool a1] w fun e w' => e = .returned (.int .u64 r) ∧ Below w.heap.size w w' := by
 have hu65 := Tryz.underlying65
 have HB := A_ (Below.refl w.heap.size w)
 have H : ((shape_of.f a0).bind fun bt185 => (if bt185.2.2 = true then ((shape_format_sign.f bt185.1 bt185.2.1 a1).bind fun t189 => (some t189)) else (some 0))) = some r := h
 clear h
 replace H := ob_ H
 obtain ⟨⟨t185, t186, t187⟩, A30, H⟩ := H
 replace H : (if t187 = true then ((shape_format_sign.f t185 t186 a1).bind fun t189 => (some t189)) else (some 0)) = some r := H
 have A3 := A_ A30;clear A30
 by_cases c4 : t187 = true
 ·subst c4
  have H1 : ((shape_format_sign.f t185 t186 a1).bind fun t189 => (some t189)) = some r := by rw [if_pos rfl] at H; exact H
  clear H;have H := H1;clear H1
  replace H := ob_ H
  obtain ⟨t189, A50, H⟩ := H
  replace H : (some t189) = some r := H
  have A5 := A_ A50;clear A50
  obtain rfl := Option.some.inj H
  go_enter Tryz.func145, Tryz.ntmps145
  go_wp2_with (first | ((with_reducible refine gate_callee (f := 35) rfl ?_); refine goesL_ (some 9) rfl rfl Tryz.func35 (by kernel_rfl) rfl #[.int .i64 a0] rfl mp_ ?_; (with_reducible refine (shape_of.calls a0 t185 t186 true _ A3.out).mono ?_); rintro e w6 ⟨rfl, hb⟩; refine ⟨_, rfl, ?_⟩; replace HB := A_ (below_step (hb_ HB.out) hb); (try clear hb); (try clear hb2); (try clear hk); (try clear hi)) | ((with_reducible refine gate_dst (N := 5) rfl ?_); refine be_ 5 #[.int .i64 0, .int .i64 0] 65 ?_; intro gb188 hg w7 hbox hb; have BK188 := A_ (hbox); have GW188 := A_ (sz_ hg (hb_ HB.out)); have GE188 := A_ (sz_ hg (hb_ HB.out)); replace HB := A_ (below_step (hb_ HB.out) hb); clear hb hbox hg; have hcz8_0 := bv_ BK188.out 0; have hcz8_1 := bv_ BK188.out 1; have hfz8_0 := blk_frozen BK188.out 0; have hfz8_1 := blk_frozen BK188.out 1) | ((with_reducible refine gate_callee (f := 160) rfl ?_); refine goesL_ (some 16) rfl rfl Tryz.func160 (by kernel_rfl) rfl #[.agg #[.int .i64 t185, .int .i64 t186], .bool a1] rfl mp_ ?_; (with_reducible refine (shape_format_sign.calls t185 t186 a1 t189 _ A5.out).mono ?_); rintro e w9 ⟨rfl, hb⟩; refine ⟨_, rfl, ?_⟩; replace BK188 := A_ (blk_below (g := gb188) (o := .cells #[.int .i64 t185, .int .i64 t186] 65 (0, 0)) (by (with_reducible repeat (first | refine blk_drewN ?_ _ | refine blk_drew ?_ | refine blk_alloc ?_ _)); refine blk_put (cs := #[.int .i64 t185, .int .i64 0]) ?_ 1 _ rfl; (with_reducible repeat (first | refine blk_drewN ?_ _ | refine blk_drew ?_ | refine blk_alloc ?_ _)); refine blk_put (cs := #[.int .i64 0, .int .i64 0]) ?_ 0 _ rfl; (with_reducible repeat (first | refine blk_drewN ?_ _ | refine blk_drew ?_ | refine blk_alloc ?_ _)); exact BK188.out) hb); replace HB := A_ (below_step (hb1_ HB.out GE188.out) hb); (try clear hb); (try clear hb2); (try clear hk); (try clear hi)))
  go_ret
  exact ⟨er_, hb1_ HB.out GE188.out⟩
 ·replace c4 := Bool.eq_false_iff.mpr c4
  subst c4
  have H1 : (some 0) = some r := by rw [if_neg (show ¬ (false = true) by decide)] at H; exact H
  clear H;have H := H1;clear H1
  obtain rfl := Option.some.inj H
  go_enter Tryz.func145, Tryz.ntmps145
  go_wp2_with (first | ((with_reducible refine gate_callee (f := 35) rfl ?_); refine goesL_ (some 9) rfl rfl Tryz.func35 (by kernel_rfl) rfl #[.int .i64 a0] rfl mp_ ?_; (with_reducible refine (shape_of.calls a0 t185 t186 false _ A3.out).mono ?_); rintro e w10 ⟨rfl, hb⟩; refine ⟨_, rfl, ?_⟩; replace HB := A_ (below_step (hb_ HB.out) hb); (try clear hb); (try clear hb2); (try clear hk); (try clear hi)) | ((with_reducible refine gate_dst (N := 5) rfl ?_); refine be_ 5 #[.int .i64 0, .int .i64 0] 65 ?_; intro gb188 hg w11 hbox hb; have BK188 := A_ (hbox); have GW188 := A_ (sz_ hg (hb_ HB.out)); have GE188 := A_ (sz_ hg (hb_ HB.out)); replace HB := A_ (below_step (hb_ HB.out) hb); clear hb hbox hg; have hcz12_0 := bv_ BK188.out 0; have hcz12_1 := bv_ BK188.out 1; have hfz12_0 := blk_frozen BK188.out 0; have hfz12_1 := blk_frozen BK188.out 1))
  go_ret
  exact ⟨er_, hb1_ HB.out GE188.out⟩
def order_Rank.j0 : Nat → Int → Int → Bool → Bool → Int → Int → Int → Option (Int × Bool)
 | 0, _, _, _, _, _, _, _ => none
 | k + 1, x0, x1, x18, x195000, x195001, x195002, x195003 => if x18 = true then (some (0, false)) else ((shape_Cut.f x0 x1).bind fun t196 => ((shape_Zero.f x0 true).bind fun t197 => (if x195000 = true then (some (wrap64 (-(wrap64 (Go.bits .andNot .u64 t196 t197))), true)) else (some (wrap64 (Go.bits .andNot .u64 t196 t197), true)))))
def order_Rank.f (k : Nat) (a0 : Int) (a1 : Int) : Option (Int × Bool) := (shape_Open.f k a0 a1).bind fun bt190 => ((order_known.f a0).bind fun t195 => (if t195 = true then (order_Rank.j0 k a0 a1 (bt190.2.1 == 3) bt190.1 bt190.2.1 bt190.2.2.1 bt190.2.2.2) else (order_Rank.j0 k a0 a1 true bt190.1 bt190.2.1 bt190.2.2.1 bt190.2.2.2)))
theorem order_Rank.mono_l : ∀ k, (∀ y0 y1 y2 y3 y4 y5 y6, LeO (order_Rank.j0 k y0 y1 y2 y3 y4 y5 y6) (order_Rank.j0 (k + 1) y0 y1 y2 y3 y4 y5 y6))
 | 0 => fun _ _ _ _ _ _ _ r h => by simp [order_Rank.j0] at h
 | k + 1 => by
  have ih0 := order_Rank.mono_l k
  ·intro y0 y1 y2 y3 y4 y5 y6
   unfold order_Rank.j0
   repeat' first
   | (with_reducible exact ih0 _ _ _ _ _ _ _)
   | (with_reducible exact shape_Open.mono _ _ _)
   | (with_reducible exact LeO.refl _)
   | (with_reducible exact LeO.none _)
   | (with_reducible refine LeO.ite ?_ ?_)
   | (with_reducible refine LeO.bind ?_ (fun _ => ?_))
   | exact ih0 _ _ _ _ _ _ _
   | exact shape_Open.mono _ _ _
   | exact LeO.none _
   | refine LeO.ite ?_ ?_
   | refine LeO.bind ?_ (fun _ => ?_)
theorem order_Rank.mono : ∀ a0 a1 k, LeO (order_Rank.f k a0 a1) (order_Rank.f (k + 1) a0 a1) := by
 intro a0 a1 k
 have ih0 := order_Rank.mono_l k
 unfold order_Rank.f
 repeat' first
   | (with_reducible exact ih0 _ _ _ _ _ _ _)
   | (with_reducible exact shape_Open.mono _ _ _)
   | (with_reducible exact LeO.refl _)
   | (with_reducible exact LeO.none _)
   | (with_reducible refine LeO.ite ?_ ?_)
   | (with_reducible refine LeO.bind ?_ (fun _ => ?_))
   | exact ih0 _ _ _ _ _ _ _
   | exact shape_Open.mono _ _ _
   | exact LeO.none _
   | refine LeO.ite ?_ ?_
   | refine LeO.bind ?_ (fun _ => ?_)
theorem order_Rank.calls (k : Nat) (a0 : Int) (a1 : Int) (r1 : Int) (r2 : Bool) (w : World) (h : order_Rank.f k a0 a1 = some (r1, r2)) :
  Calls Tryz.prog 197 #[.int .i64 a0, .int .u64 a1] w fun e w' => e = .returned (.tuple #[.int .i64 r1, .bool r2]) ∧ Below w.heap.size w w' := by
 have hu27 := Tryz.underlying27
 have HB := A_ (Below.refl w.heap.size w)
 have H : ((shape_Open.f k a0 a1).bind fun bt190 => ((order_known.f a0).bind fun t195 => (if t195 = true then (order_Rank.j0 k a0 a1 (bt190.2.1 == 3) bt190.1 bt190.2.1 bt190.2.2.1 bt190.2.2.2) else (order_Rank.j0 k a0 a1 true bt190.1 bt190.2.1 bt190.2.2.1 bt190.2.2.2)))) = some (r1, r2) := h
 clear h
 replace H := ob_ H
 obtain ⟨⟨t190, t191, t192, t193⟩, A30, H⟩ := H
 replace H : ((order_known.f a0).bind fun t195 => (if t195 = true then (order_Rank.j0 k a0 a1 (t191 == 3) t190 t191 t192 t193) else (order_Rank.j0 k a0 a1 true t190 t191 t192 t193))) = some (r1, r2) := H
 have A3 := A_ A30;clear A30;have HC4 := A_ H;clear H
 go_enter Tryz.func197, Tryz.ntmps197
 go_upto_region 2 with (first | ((with_reducible refine gate_callee (f := 10) rfl ?_); refine goesL_ (some 10) rfl rfl Tryz.func10 (by kernel_rfl) rfl #[.int .i64 a0, .int .u64 a1] rfl mp_ ?_; (with_reducible refine (shape_Open.calls k a0 a1 t190 t191 t192 t193 _ A3.out).mono ?_); rintro e w5 ⟨rfl, hb⟩; refine ⟨_, rfl, ?_⟩; replace HB := A_ (below_step (hb_ HB.out) hb); (try clear hb); (try clear hb2); (try clear hk); (try clear hi)) | ((with_reducible refine gate_dst (N := 6) rfl ?_); refine be_ 6 #[.bool false, .int .i64 0, .int .i64 0, .int .u64 0] 27 ?_; intro gb194 hg w6 hbox hb; have BK194 := A_ (hbox); have GW194 := A_ (sz_ hg (hb_ HB.out)); have GE194 := A_ (sz_ hg (hb_ HB.out)); replace HB := A_ (below_step (hb_ HB.out) hb); clear hb hbox hg; have hcz7_0 := bv_ BK194.out 0; have hcz7_1 := bv_ BK194.out 1; have hcz7_2 := bv_ BK194.out 2; have hcz7_3 := bv_ BK194.out 3; have hfz7_0 := blk_frozen BK194.out 0; have hfz7_1 := blk_frozen BK194.out 1; have hfz7_2 := blk_frozen BK194.out 2; have hfz7_3 := blk_frozen BK194.out 3))
 (try simp only [Act.put, lI_, l0_, lS_])
 go_cut [18] (fun v18 wc => ∃ (kq : Nat) (x18_3 : Bool), v18 = .bool x18_3 ∧ Aside0 (order_Rank.j0 kq a0 a1 x18_3 t190 t191 t192 t193 = some (r1, r2)) ∧ Aside0 (kq ≤ k) ∧ Aside0 (wc.heap[gb194]? = some (.cells #[.bool t190, .int .i64 t191, .int .i64 t192, .int .u64 t193] 27 (0, 0))) ∧ Aside0 (Below w.heap.size w wc))
 case first =>
  have H := HC4.out
  clear HC4
  replace H := ob_ H
  obtain ⟨t195, A80, H⟩ := H
  replace H : (if t195 = true then (order_Rank.j0 k a0 a1 (t191 == 3) t190 t191 t192 t193) else (order_Rank.j0 k a0 a1 true t190 t191 t192 t193)) = some (r1, r2) := H
  have A8 := A_ A80;clear A80
  by_cases c9 : t195 = true
  ·subst c9
   have H1 : (order_Rank.j0 k a0 a1 (t191 == 3) t190 t191 t192 t193) = some (r1, r2) := by rw [if_pos rfl] at H; exact H
   clear H;have H := H1;clear H1
   have H' := A_ H
   clear H
   go_wp2_with (first | ((with_reducible refine gate_callee (f := 125) rfl ?_); refine goesL_ (some 12) rfl rfl Tryz.func125 (by kernel_rfl) rfl #[.int .i64 a0] rfl mp_ ?_; (with_reducible refine (order_known.calls a0 true _ A8.out).mono ?_); rintro e w' ⟨rfl, ⟨nd, rfl⟩⟩; refine ⟨_, rfl, ?_⟩; have hcz10_0 := bv_ BK194.out 0; have hcz10_1 := bv_ BK194.out 1; have hcz10_2 := bv_ BK194.out 2; have hcz10_3 := bv_ BK194.out 3; have hfz10_0 := blk_frozen BK194.out 0; have hfz10_1 := blk_frozen BK194.out 1; have hfz10_2 := blk_frozen BK194.out 2; have hfz10_3 := blk_frozen BK194.out 3))
   go_meet
   case rel => exact ⟨_, ((t191 == 3)), sm_, H', ⟨by first | omega | exact Nat.le_refl _⟩, ⟨by (with_reducible repeat (first | refine blk_drewN ?_ _ | refine blk_drew ?_ | refine blk_alloc ?_ _)); refine blk_put (cs := #[.bool t190, .int .i64 t191, .int .i64 t192, .int .u64 0]) ?_ 3 _ rfl; (with_reducible repeat (first | refine blk_drewN ?_ _ | refine blk_drew ?_ | refine blk_alloc ?_ _)); refine blk_put (cs := #[.bool t190, .int .i64 t191, .int .i64 0, .int .u64 0]) ?_ 2 _ rfl; (with_reducible repeat (first | refine blk_drewN ?_ _ | refine blk_drew ?_ | refine blk_alloc ?_ _)); refine blk_put (cs := #[.bool t190, .int .i64 0, .int .i64 0, .int .u64 0]) ?_ 1 _ rfl; (with_reducible repeat (first | refine blk_drewN ?_ _ | refine blk_drew ?_ | refine blk_alloc ?_ _)); refine blk_put (cs := #[.bool false, .int .i64 0, .int .i64 0, .int .u64 0]) ?_ 0 _ rfl; (with_reducible repeat (first | refine blk_drewN ?_ _ | refine blk_drew ?_ | refine blk_alloc ?_ _)); exact BK194.out⟩, ⟨hb1_ HB.out GE194.out⟩⟩
  ·replace c9 := Bool.eq_false_iff.mpr c9
   subst c9
   have H1 : (order_Rank.j0 k a0 a1 true t190 t191 t192 t193) = some (r1, r2) := by rw [if_neg (show ¬ (false = true) by decide)] at H; exact H
   clear H;have H := H1;clear H1
   have H' := A_ H
   clear H
   go_wp2_with (first | ((with_reducible refine gate_callee (f := 125) rfl ?_); refine goesL_ (some 12) rfl rfl Tryz.func125 (by kernel_rfl) rfl #[.int .i64 a0] rfl mp_ ?_; (with_reducible refine (order_known.calls a0 false _ A8.out).mono ?_); rintro e w' ⟨rfl, ⟨nd, rfl⟩⟩; refine ⟨_, rfl, ?_⟩))
   go_meet
   case rel => exact ⟨_, (true), sm_, H', ⟨by first | omega | exact Nat.le_refl _⟩, ⟨by (with_reducible repeat (first | refine blk_drewN ?_ _ | refine blk_drew ?_ | refine blk_alloc ?_ _)); refine blk_put (cs := #[.bool t190, .int .i64 t191, .int .i64 t192, .int .u64 0]) ?_ 3 _ rfl; (with_reducible repeat (first | refine blk_drewN ?_ _ | refine blk_drew ?_ | refine blk_alloc ?_ _)); refine blk_put (cs := #[.bool t190, .int .i64 t191, .int .i64 0, .int .u64 0]) ?_ 2 _ rfl; (with_reducible repeat (first | refine blk_drewN ?_ _ | refine blk_drew ?_ | refine blk_alloc ?_ _)); refine blk_put (cs := #[.bool t190, .int .i64 0, .int .i64 0, .int .u64 0]) ?_ 1 _ rfl; (with_reducible repeat (first | refine blk_drewN ?_ _ | refine blk_drew ?_ | refine blk_alloc ?_ _)); refine blk_put (cs := #[.bool false, .int .i64 0, .int .i64 0, .int .u64 0]) ?_ 0 _ rfl; (with_reducible repeat (first | refine blk_drewN ?_ _ | refine blk_drew ?_ | refine blk_alloc ?_ _)); exact BK194.out⟩, ⟨hb1_ HB.out GE194.out⟩⟩
 case rest =>
  clear HC4
  try clear c1
  try clear p2
  try clear c9
  try clear c10
  try clear hcz10_0
  try clear hcz10_1
  try clear hcz10_2
  try clear hcz10_3
  try clear hcz7_0
  try clear hcz7_1
  try clear hcz7_2
  try clear hcz7_3
  try clear hfz10_0
  try clear hfz10_1
  try clear hfz10_2
  try clear hfz10_3
  try clear hfz7_0
  try clear hfz7_1
  try clear hfz7_2
  try clear hfz7_3
  obtain ⟨kq, x18_3, rfl, HA, HJ3, BK194, HB⟩ := hcut
  cases kq with
  | zero => exact absurd HA.out (by simp [order_Rank.j0])
  | succ kj3 =>
   have H := HA.out
   clear HA
   simp only [order_Rank.j0] at H
   by_cases c11 : x18_3 = true
   ·subst c11
    have H1 : (some (0, false)) = some (r1, r2) := by rw [if_pos rfl] at H; exact H
    clear H;have H := H1;clear H1
    simp only [Option.some.injEq, Prod.mk.injEq] at H
    obtain ⟨rfl, rfl⟩ := H
    go_wp2
    go_ret2
    exact ⟨er_, hb1_ HB.out GE194.out⟩
   ·replace c11 := Bool.eq_false_iff.mpr c11
    subst c11
    have H1 : ((shape_Cut.f a0 a1).bind fun t196 => ((shape_Zero.f a0 true).bind fun t197 => (if t190 = true then (some (wrap64 (-(wrap64 (Go.bits .andNot .u64 t196 t197))), true)) else (some (wrap64 (Go.bits .andNot .u64 t196 t197), true))))) = some (r1, r2) := by rw [if_neg (show ¬ (false = true) by decide)] at H; exact H
    clear H;have H := H1;clear H1
    replace H := ob_ H
    obtain ⟨t196, A120, H⟩ := H
    replace H : ((shape_Zero.f a0 true).bind fun t197 => (if t190 = true then (some (wrap64 (-(wrap64 (Go.bits .andNot .u64 t196 t197))), true)) else (some (wrap64 (Go.bits .andNot .u64 t196 t197), true)))) = some (r1, r2) := H
    have A12 := A_ A120;clear A120
    replace H := ob_ H
    obtain ⟨t197, A130, H⟩ := H
    replace H : (if t190 = true then (some (wrap64 (-(wrap64 (Go.bits .andNot .u64 t196 t197))), true)) else (some (wrap64 (Go.bits .andNot .u64 t196 t197), true))) = some (r1, r2) := H
    have A13 := A_ A130;clear A130
    by_cases c14 : t190 = true
    ·subst c14
     have H1 : (some (wrap64 (-(wrap64 (Go.bits .andNot .u64 t196 t197))), true)) = some (r1, r2) := by rw [if_pos rfl] at H; exact H
     clear H;have H := H1;clear H1
     simp only [Option.some.injEq, Prod.mk.injEq] at H
     obtain ⟨rfl, rfl⟩ := H
     go_wp2_with (first | ((with_reducible refine gate_callee (f := 17) rfl ?_); refine goesL_ (some 21) rfl rfl Tryz.func17 (by kernel_rfl) rfl #[.int .i64 a0, .int .u64 a1] rfl mp_ ?_; (with_reducible refine (shape_Cut.calls a0 a1 t196 _ A12.out).mono ?_); rintro e w' ⟨rfl, ⟨nd, rfl⟩⟩; refine ⟨_, rfl, ?_⟩) | ((with_reducible refine gate_callee (f := 145) rfl ?_); refine goesL_ (some 23) rfl rfl Tryz.func145 (by kernel_rfl) rfl #[.int .i64 a0, .bool true] rfl mp_ ?_; (with_reducible refine (shape_Zero.calls a0 true t197 _ A13.out).mono ?_); rintro e w15 ⟨rfl, hb⟩; refine ⟨_, rfl, ?_⟩; replace BK194 := A_ (bb_ BK194.out hb); replace HB := A_ (below_step (hb1_ HB.out GE194.out) hb); (try clear hb); (try clear hb2); (try clear hk); (try clear hi); have hcz16_0 := bv_ BK194.out 0; have hcz16_1 := bv_ BK194.out 1; have hcz16_2 := bv_ BK194.out 2; have hcz16_3 := bv_ BK194.out 3; have hfz16_0 := blk_frozen BK194.out 0; have hfz16_1 := blk_frozen BK194.out 1; have hfz16_2 := blk_frozen BK194.out 2; have hfz16_3 := blk_frozen BK194.out 3))
     go_ret2
     exact ⟨er_, hb1_ HB.out GE194.out⟩
    ·replace c14 := Bool.eq_false_iff.mpr c14
     subst c14
     have H1 : (some (wrap64 (Go.bits .andNot .u64 t196 t197), true)) = some (r1, r2) := by rw [if_neg (show ¬ (false = true) by decide)] at H; exact H
     clear H;have H := H1;clear H1
     simp only [Option.some.injEq, Prod.mk.injEq] at H
     obtain ⟨rfl, rfl⟩ := H
     go_wp2_with (first | ((with_reducible refine gate_callee (f := 17) rfl ?_); refine goesL_ (some 21) rfl rfl Tryz.func17 (by kernel_rfl) rfl #[.int .i64 a0, .int .u64 a1] rfl mp_ ?_; (with_reducible refine (shape_Cut.calls a0 a1 t196 _ A12.out).mono ?_); rintro e w' ⟨rfl, ⟨nd, rfl⟩⟩; refine ⟨_, rfl, ?_⟩) | ((with_reducible refine gate_callee (f := 145) rfl ?_); refine goesL_ (some 23) rfl rfl Tryz.func145 (by kernel_rfl) rfl #[.int .i64 a0, .bool true] rfl mp_ ?_; (with_reducible refine (shape_Zero.calls a0 true t197 _ A13.out).mono ?_); rintro e w17 ⟨rfl, hb⟩; refine ⟨_, rfl, ?_⟩; replace BK194 := A_ (bb_ BK194.out hb); replace HB := A_ (below_step (hb1_ HB.out GE194.out) hb); (try clear hb); (try clear hb2); (try clear hk); (try clear hi); have hcz18_0 := bv_ BK194.out 0; have hcz18_1 := bv_ BK194.out 1; have hcz18_2 := bv_ BK194.out 2; have hcz18_3 := bv_ BK194.out 3; have hfz18_0 := blk_frozen BK194.out 0; have hfz18_1 := blk_frozen BK194.out 1; have hfz18_2 := blk_frozen BK194.out 2; have hfz18_3 := blk_frozen BK194.out 3))
     go_ret2
     exact ⟨er_, hb1_ HB.out GE194.out⟩
def order_Eq.f (k : Nat) (a0 : Int) (a1 : Int) (a2 : Int) : Option (Bool) := (order_Rank.f k a0 a1).bind fun b1 => (order_Rank.f k a0 a2).bind fun b2 => some (b1.2 && b2.2 && b1.1 == b2.1)
theorem order_Eq.mono : ∀ a0 a1 a2 k, LeO (order_Eq.f k a0 a1 a2) (order_Eq.f (k + 1) a0 a1 a2) := by
 intro a0 a1 a2 k
 unfold order_Eq.f
 exact LeO.bind (order_Rank.mono _ _ _) fun _ => LeO.bind (order_Rank.mono _ _ _) fun _ => LeO.refl _
theorem order_Eq.calls (k : Nat) (a0 : Int) (a1 : Int) (a2 : Int) (r : Bool) (w : World) (h : order_Eq.f k a0 a1 a2 = some r) :
  Calls Tryz.prog 62 #[.int .i64 a0, .int .u64 a1, .int .u64 a2] w fun e w' => e = .returned (.bool r) ∧ Below w.heap.size w w' := by
 obtain ⟨⟨x, ok⟩, A0, H⟩ := ob_ h
 obtain ⟨⟨y, there⟩, A1, H⟩ := ob_ H
 have B0 := A_ A0;have B1 := A_ A1
 have HB := A_ (Below.refl w.heap.size w)
 obtain rfl := Option.some.inj H
 clear h H A0 A1
 cases ok <;> cases there <;> by_cases hxy : x = y
 all_goals
  go_enter Tryz.func62, Tryz.ntmps62
  go_wp2_with (first | (go_at_call 197; (with_reducible refine (order_Rank.calls k a0 a1 x _ _ B0.out).mono ?_); rintro e w1 ⟨rfl, hb⟩; have n0_ := A_ (below_step HB.out hb); clear HB hb; have HB := n0_; clear n0_) | (go_at_call 197; (with_reducible refine (order_Rank.calls k a0 a2 y _ _ B1.out).mono ?_); rintro e w1 ⟨rfl, hb⟩; have n0_ := A_ (below_step HB.out hb); clear HB hb; have HB := n0_; clear n0_) | go_in)
  go_ret
  exact ⟨sm_, HB.out⟩
def order_Le.f (k : Nat) (a0 : Int) (a1 : Int) (a2 : Int) : Option (Bool) := (order_Rank.f k a0 a1).bind fun b1 => (order_Rank.f k a0 a2).bind fun b2 => some (b1.2 && b2.2 && decide (b1.1 ≤ b2.1))
theorem order_Le.mono : ∀ a0 a1 a2 k, LeO (order_Le.f k a0 a1 a2) (order_Le.f (k + 1) a0 a1 a2) := by
 intro a0 a1 a2 k
 unfold order_Le.f
 exact LeO.bind (order_Rank.mono _ _ _) fun _ => LeO.bind (order_Rank.mono _ _ _) fun _ => LeO.refl _
theorem order_Le.calls (k : Nat) (a0 : Int) (a1 : Int) (a2 : Int) (r : Bool) (w : World) (h : order_Le.f k a0 a1 a2 = some r) :
  Calls Tryz.prog 66 #[.int .i64 a0, .int .u64 a1, .int .u64 a2] w fun e w' => e = .returned (.bool r) ∧ Below w.heap.size w w' := by
 obtain ⟨⟨x, ok⟩, A0, H⟩ := ob_ h
 obtain ⟨⟨y, there⟩, A1, H⟩ := ob_ H
 have B0 := A_ A0;have B1 := A_ A1
 have HB := A_ (Below.refl w.heap.size w)
 obtain rfl := Option.some.inj H
 clear h H A0 A1
 cases ok <;> cases there <;> by_cases hxy : x ≤ y
 all_goals
  go_enter Tryz.func66, Tryz.ntmps66
  go_wp2_with (first | (go_at_call 197; (with_reducible refine (order_Rank.calls k a0 a1 x _ _ B0.out).mono ?_); rintro e w1 ⟨rfl, hb⟩; have n0_ := A_ (below_step HB.out hb); clear HB hb; have HB := n0_; clear n0_) | (go_at_call 197; (with_reducible refine (order_Rank.calls k a0 a2 y _ _ B1.out).mono ?_); rintro e w1 ⟨rfl, hb⟩; have n0_ := A_ (below_step HB.out hb); clear HB hb; have HB := n0_; clear n0_) | go_in)
  go_ret
  exact ⟨sm_, HB.out⟩
def order_Ge.f (k : Nat) (a0 : Int) (a1 : Int) (a2 : Int) : Option (Bool) := (order_Le.f k a0 a2 a1).bind fun t201 => (some t201)
theorem order_Ge.mono : ∀ a0 a1 a2 k, LeO (order_Ge.f k a0 a1 a2) (order_Ge.f (k + 1) a0 a1 a2) := by
 intro a0 a1 a2 k
 unfold order_Ge.f
 repeat' first
   | (with_reducible exact order_Le.mono _ _ _ _)
   | (with_reducible exact LeO.refl _)
   | (with_reducible exact LeO.none _)
   | (with_reducible refine LeO.ite ?_ ?_)
   | (with_reducible refine LeO.bind ?_ (fun _ => ?_))
   | exact order_Le.mono _ _ _ _
   | exact LeO.none _
   | refine LeO.ite ?_ ?_
   | refine LeO.bind ?_ (fun _ => ?_)
theorem order_Ge.calls (k : Nat) (a0 : Int) (a1 : Int) (a2 : Int) (r : Bool) (w : World) (h : order_Ge.f k a0 a1 a2 = some r) :
  Calls Tryz.prog 67 #[.int .i64 a0, .int .u64 a1, .int .u64 a2] w fun e w' => e = .returned (.bool r) ∧ Below w.heap.size w w' := by
 have HB := A_ (Below.refl w.heap.size w)
 have H : ((order_Le.f k a0 a2 a1).bind fun t201 => (some t201)) = some r := h
 clear h
 replace H := ob_ H
 obtain ⟨t201, A40, H⟩ := H
 replace H : (some t201) = some r := H
 have A4 := A_ A40;clear A40
 obtain rfl := Option.some.inj H
 go_enter Tryz.func67, Tryz.ntmps67
 go_wp2_with (first | ((with_reducible refine gate_callee (f := 66) rfl ?_); refine goesL_ (some 10) rfl rfl Tryz.func66 (by kernel_rfl) rfl #[.int .i64 a0, .int .u64 a2, .int .u64 a1] rfl mp_ ?_; (with_reducible refine (order_Le.calls k a0 a2 a1 t201 _ A4.out).mono ?_); rintro e w5 ⟨rfl, hb⟩; refine ⟨_, rfl, ?_⟩; replace HB := A_ (below_step (hb_ HB.out) hb); (try clear hb); (try clear hb2); (try clear hk); (try clear hi)))
 go_ret
 exact ⟨er_, hb_ HB.out⟩
def order_Lt.f (k : Nat) (a0 : Int) (a1 : Int) (a2 : Int) : Option (Bool) := (order_Rank.f k a0 a1).bind fun b1 => (order_Rank.f k a0 a2).bind fun b2 => some (b1.2 && b2.2 && decide (b1.1 < b2.1))
theorem order_Lt.mono : ∀ a0 a1 a2 k, LeO (order_Lt.f k a0 a1 a2) (order_Lt.f (k + 1) a0 a1 a2) := by
 intro a0 a1 a2 k
 unfold order_Lt.f
 exact LeO.bind (order_Rank.mono _ _ _) fun _ => LeO.bind (order_Rank.mono _ _ _) fun _ => LeO.refl _
theorem order_Lt.calls (k : Nat) (a0 : Int) (a1 : Int) (a2 : Int) (r : Bool) (w : World) (h : order_Lt.f k a0 a1 a2 = some r) :
  Calls Tryz.prog 64 #[.int .i64 a0, .int .u64 a1, .int .u64 a2] w fun e w' => e = .returned (.bool r) ∧ Below w.heap.size w w' := by
 obtain ⟨⟨x, ok⟩, A0, H⟩ := ob_ h
 obtain ⟨⟨y, there⟩, A1, H⟩ := ob_ H
 have B0 := A_ A0;have B1 := A_ A1
 have HB := A_ (Below.refl w.heap.size w)
 obtain rfl := Option.some.inj H
 clear h H A0 A1
 cases ok <;> cases there <;> by_cases hxy : x < y
 all_goals
  go_enter Tryz.func64, Tryz.ntmps64
  go_wp2_with (first | (go_at_call 197; (with_reducible refine (order_Rank.calls k a0 a1 x _ _ B0.out).mono ?_); rintro e w1 ⟨rfl, hb⟩; have n0_ := A_ (below_step HB.out hb); clear HB hb; have HB := n0_; clear n0_) | (go_at_call 197; (with_reducible refine (order_Rank.calls k a0 a2 y _ _ B1.out).mono ?_); rintro e w1 ⟨rfl, hb⟩; have n0_ := A_ (below_step HB.out hb); clear HB hb; have HB := n0_; clear n0_) | go_in)
  go_ret
  exact ⟨sm_, HB.out⟩
def order_Gt.f (k : Nat) (a0 : Int) (a1 : Int) (a2 : Int) : Option (Bool) := (order_Lt.f k a0 a2 a1).bind fun t200 => (some t200)
theorem order_Gt.mono : ∀ a0 a1 a2 k, LeO (order_Gt.f k a0 a1 a2) (order_Gt.f (k + 1) a0 a1 a2) := by
 intro a0 a1 a2 k
 unfold order_Gt.f
 repeat' first
   | (with_reducible exact order_Lt.mono _ _ _ _)
   | (with_reducible exact LeO.refl _)
   | (with_reducible exact LeO.none _)
   | (with_reducible refine LeO.ite ?_ ?_)
   | (with_reducible refine LeO.bind ?_ (fun _ => ?_))
   | exact order_Lt.mono _ _ _ _
   | exact LeO.none _
   | refine LeO.ite ?_ ?_
   | refine LeO.bind ?_ (fun _ => ?_)
theorem order_Gt.calls (k : Nat) (a0 : Int) (a1 : Int) (a2 : Int) (r : Bool) (w : World) (h : order_Gt.f k a0 a1 a2 = some r) :
  Calls Tryz.prog 65 #[.int .i64 a0, .int .u64 a1, .int .u64 a2] w fun e w' => e = .returned (.bool r) ∧ Below w.heap.size w w' := by
 have HB := A_ (Below.refl w.heap.size w)
 have H : ((order_Lt.f k a0 a2 a1).bind fun t200 => (some t200)) = some r := h
 clear h
 replace H := ob_ H
 obtain ⟨t200, A40, H⟩ := H
 replace H : (some t200) = some r := H
 have A4 := A_ A40;clear A40
 obtain rfl := Option.some.inj H
 go_enter Tryz.func65, Tryz.ntmps65
 go_wp2_with (first | ((with_reducible refine gate_callee (f := 64) rfl ?_); refine goesL_ (some 10) rfl rfl Tryz.func64 (by kernel_rfl) rfl #[.int .i64 a0, .int .u64 a2, .int .u64 a1] rfl mp_ ?_; (with_reducible refine (order_Lt.calls k a0 a2 a1 t200 _ A4.out).mono ?_); rintro e w5 ⟨rfl, hb⟩; refine ⟨_, rfl, ?_⟩; replace HB := A_ (below_step (hb_ HB.out) hb); (try clear hb); (try clear hb2); (try clear hk); (try clear hi)))
 go_ret
 exact ⟨er_, hb_ HB.out⟩
end Go.Proofs.YtnmlmgmljoncoaaGreatDoor.PA
