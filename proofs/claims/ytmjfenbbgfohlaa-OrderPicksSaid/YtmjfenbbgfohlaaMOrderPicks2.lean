/- What the Go functions that the statement OrderPicks reaches compute, and the mathematics on it, in the order in which one leans on the other; for every input. -/
import Derived.Test.YtmjfenbbgfohlaaMOrderPicks0
import Derived.Test.YtmjfenbbgfohlaaMOrderPicks1
import Derived.Laws.BitsAllLaws
namespace Go.Proofs.Ytmjfenbbgfohlaa.PA
open Go.RowKit Go.Proofs.YtmjfenbbgfohlaaW.PrintWords Go.Proofs.YtmjfenbbgfohlaaW.PrintLast Go.Proofs.YtmjfenbbgfohlaaW.PrintMore
attribute [local go_sem] max2_int min2_int max_two min_two max_three min_three max_four min_four   -- for this text's walks alone
set_option linter.unusedVariables false
set_option linter.unusedSimpArgs false

/-! ### trunnionref08_Cmp: function 98 -/
mutual
def trunnionref08_Cmp.j0 : Nat → Bool → Bool → Int → Int → Int → Bool → Int → Int → Int → Option (Int)
 | 0, _, _, _, _, _, _, _, _, _ => none
 | k + 1, x24, x746000, x746001, x746002, x746003, x751000, x751001, x751002, x751003 => if x24 = true then (some 2) else ((trunnionref08_sign.f x746000 x746001 x746002 x746003).bind fun t751 => ((trunnionref08_sign.f x751000 x751001 x751002 x751003).bind fun t752 => (if t751 < t752 then (some (-1)) else ((trunnionref08_sign.f x746000 x746001 x746002 x746003).bind fun t753 => ((trunnionref08_sign.f x751000 x751001 x751002 x751003).bind fun t754 => (if t753 > t754 then (some 1) else ((trunnionref08_sign.f x746000 x746001 x746002 x746003).bind fun t755 => (if t755 = 0 then (some 0) else (if x746001 = 2 then (trunnionref08_Cmp.j1 k true x746000 x746001 x746002 x746003 x751000 x751001 x751002 x751003) else (trunnionref08_Cmp.j1 k (x751001 == 2) x746000 x746001 x746002 x746003 x751000 x751001 x751002 x751003))))))))))
def trunnionref08_Cmp.j1 : Nat → Bool → Bool → Int → Int → Int → Bool → Int → Int → Int → Option (Int)
 | 0, _, _, _, _, _, _, _, _, _ => none
 | k + 1, x45, x746000, x746001, x746002, x746003, x751000, x751001, x751002, x751003 => if x45 = true then (if x746000 = true then (some (wrap64 (-(wrap64 (x746001 - x751001))))) else (some (wrap64 (x746001 - x751001)))) else ((trunnionref01_Of.f k x746003).bind fun t756 => ((trunnionref01_Shl.f k t756 (wrap64 (x746002 - (mn x746002 x751002)))).bind fun t759 => ((trunnionref01_Of.f k x751003).bind fun t762 => ((trunnionref01_Shl.f k t762 (wrap64 (x751002 - (mn x746002 x751002)))).bind fun t765 => ((trunnionref01_Cmp.f k t759 t765).bind fun t768 => (if x746000 = true then (some (wrap64 (-t768))) else (some t768)))))))
end
def trunnionref08_Cmp.f (k : Nat) (a0 : Int) (a1 : Int) (a2 : Int) : Option (Int) := (trunnionref02_Open.f k a0 a1).bind fun bt741 => ((trunnionref02_Open.f k a0 a2).bind fun bt746 => (if bt741.2.1 = 3 then (trunnionref08_Cmp.j0 k true bt741.1 bt741.2.1 bt741.2.2.1 bt741.2.2.2 bt746.1 bt746.2.1 bt746.2.2.1 bt746.2.2.2) else (trunnionref08_Cmp.j0 k (bt746.2.1 == 3) bt741.1 bt741.2.1 bt741.2.2.1 bt741.2.2.2 bt746.1 bt746.2.1 bt746.2.2.1 bt746.2.2.2)))
theorem trunnionref08_Cmp.mono_l : ∀ k, (∀ y0 y1 y2 y3 y4 y5 y6 y7 y8, LeO (trunnionref08_Cmp.j0 k y0 y1 y2 y3 y4 y5 y6 y7 y8) (trunnionref08_Cmp.j0 (k + 1) y0 y1 y2 y3 y4 y5 y6 y7 y8)) ∧ (∀ y0 y1 y2 y3 y4 y5 y6 y7 y8, LeO (trunnionref08_Cmp.j1 k y0 y1 y2 y3 y4 y5 y6 y7 y8) (trunnionref08_Cmp.j1 (k + 1) y0 y1 y2 y3 y4 y5 y6 y7 y8))
 | 0 => ⟨fun _ _ _ _ _ _ _ _ _ r h => by simp [trunnionref08_Cmp.j0] at h, fun _ _ _ _ _ _ _ _ _ r h => by simp [trunnionref08_Cmp.j1] at h⟩
 | k + 1 => by
  obtain ⟨ih0, ih1⟩ := trunnionref08_Cmp.mono_l k
  refine ⟨?_, ?_⟩
  ·intro y0 y1 y2 y3 y4 y5 y6 y7 y8
   unfold trunnionref08_Cmp.j0
   repeat' first
   | (with_reducible exact ih0 _ _ _ _ _ _ _ _ _)
   | (with_reducible exact ih1 _ _ _ _ _ _ _ _ _)
   | (with_reducible exact trunnionref01_Cmp.mono _ _ _)
   | (with_reducible exact trunnionref01_Of.mono _ _)
   | (with_reducible exact trunnionref01_Shl.mono _ _ _)
   | (with_reducible exact trunnionref02_Open.mono _ _ _)
   | (with_reducible exact LeO.refl _)
   | (with_reducible exact LeO.none _)
   | (with_reducible refine LeO.ite ?_ ?_)
   | (with_reducible refine LeO.bind ?_ (fun _ => ?_))
   | exact ih0 _ _ _ _ _ _ _ _ _
   | exact ih1 _ _ _ _ _ _ _ _ _
   | exact trunnionref01_Cmp.mono _ _ _
   | exact trunnionref01_Of.mono _ _
   | exact trunnionref01_Shl.mono _ _ _
   | exact trunnionref02_Open.mono _ _ _
   | exact LeO.none _
   | refine LeO.ite ?_ ?_
   | refine LeO.bind ?_ (fun _ => ?_)
  ·intro y0 y1 y2 y3 y4 y5 y6 y7 y8
   unfold trunnionref08_Cmp.j1
   repeat' first
   | (with_reducible exact ih0 _ _ _ _ _ _ _ _ _)
   | (with_reducible exact ih1 _ _ _ _ _ _ _ _ _)
   | (with_reducible exact trunnionref01_Cmp.mono _ _ _)
   | (with_reducible exact trunnionref01_Of.mono _ _)
   | (with_reducible exact trunnionref01_Shl.mono _ _ _)
   | (with_reducible exact trunnionref02_Open.mono _ _ _)
   | (with_reducible exact LeO.refl _)
   | (with_reducible exact LeO.none _)
   | (with_reducible refine LeO.ite ?_ ?_)
   | (with_reducible refine LeO.bind ?_ (fun _ => ?_))
   | exact ih0 _ _ _ _ _ _ _ _ _
   | exact ih1 _ _ _ _ _ _ _ _ _
   | exact trunnionref01_Cmp.mono _ _ _
   | exact trunnionref01_Of.mono _ _
   | exact trunnionref01_Shl.mono _ _ _
   | exact trunnionref02_Open.mono _ _ _
   | exact LeO.none _
   | refine LeO.ite ?_ ?_
   | refine LeO.bind ?_ (fun _ => ?_)
theorem trunnionref08_Cmp.mono : ∀ a0 a1 a2 k, LeO (trunnionref08_Cmp.f k a0 a1 a2) (trunnionref08_Cmp.f (k + 1) a0 a1 a2) := by
 intro a0 a1 a2 k
 obtain ⟨ih0, ih1⟩ := trunnionref08_Cmp.mono_l k
 unfold trunnionref08_Cmp.f
 repeat' first
   | (with_reducible exact ih0 _ _ _ _ _ _ _ _ _)
   | (with_reducible exact ih1 _ _ _ _ _ _ _ _ _)
   | (with_reducible exact trunnionref01_Cmp.mono _ _ _)
   | (with_reducible exact trunnionref01_Of.mono _ _)
   | (with_reducible exact trunnionref01_Shl.mono _ _ _)
   | (with_reducible exact trunnionref02_Open.mono _ _ _)
   | (with_reducible exact LeO.refl _)
   | (with_reducible exact LeO.none _)
   | (with_reducible refine LeO.ite ?_ ?_)
   | (with_reducible refine LeO.bind ?_ (fun _ => ?_))
   | exact ih0 _ _ _ _ _ _ _ _ _
   | exact ih1 _ _ _ _ _ _ _ _ _
   | exact trunnionref01_Cmp.mono _ _ _
   | exact trunnionref01_Of.mono _ _
   | exact trunnionref01_Shl.mono _ _ _
   | exact trunnionref02_Open.mono _ _ _
   | exact LeO.none _
   | refine LeO.ite ?_ ?_
   | refine LeO.bind ?_ (fun _ => ?_)
def trunnionref08_Cmp.T15 : Bool × List (List Nat × List Nat) := (true, [([], []), ([0], [0]), ([1], [1]), ([], []), ([3], [3]), ([], []), ([4, 5], [4, 5]), ([2, 6, 2], [2, 6]), ([], []), ([8], [8]), ([9, 7], [9]), ([], []), ([11], [11]), ([], []), ([12, 13], [12, 13]), ([10, 14, 10], [10, 14]), ([7, 15, 15], [7, 15]), ([16, 16, 0, 1, 2, 3, 4, 5, 6, 7, 8, 9, 10, 11, 12, 13, 14, 15, 16], [16])])
def trunnionref08_Cmp.B15 : List Nat := [0, 1, 3, 0, 8, 0, 56, 127, 0, 256, 1023, 0, 2048, 0, 14336, 32767, 65535, 131071]
theorem trunnionref08_Cmp.tab15 : rtab .any (opsOf Try.f98 15) = trunnionref08_Cmp.T15 := by kernel_rfl
theorem trunnionref08_Cmp.bits15 : waitsOk trunnionref08_Cmp.T15.2 trunnionref08_Cmp.B15 = true := by kernel_rfl
set_option maxHeartbeats 8000000 in
set_option maxRecDepth 100000 in
theorem trunnionref08_Cmp.calls (k : Nat) (a0 : Int) (a1 : Int) (a2 : Int) (r : Int) (w : World) (h : trunnionref08_Cmp.f k a0 a1 a2 = some r) :
  Calls Try.prog 98 #[.int .i64 a0, .int .u64 a1, .int .u64 a2] w fun e w' => e = .returned (.int .i64 r) ∧ Below w.heap.size w w' := by
 have hu36 := Try.underlying36
 have HB := Aside0.mk (Below.refl w.heap.size w)
 have H : ((trunnionref02_Open.f k a0 a1).bind fun bt741 => ((trunnionref02_Open.f k a0 a2).bind fun bt746 => (if bt741.2.1 = 3 then (trunnionref08_Cmp.j0 k true bt741.1 bt741.2.1 bt741.2.2.1 bt741.2.2.2 bt746.1 bt746.2.1 bt746.2.2.1 bt746.2.2.2) else (trunnionref08_Cmp.j0 k (bt746.2.1 == 3) bt741.1 bt741.2.1 bt741.2.2.1 bt741.2.2.2 bt746.1 bt746.2.1 bt746.2.2.1 bt746.2.2.2)))) = some r := h
 clear h
 replace H := Option.bind_eq_some_iff.mp H
 obtain ⟨⟨t741, t742, t743, t744⟩, A40, H⟩ := H
 replace H : ((trunnionref02_Open.f k a0 a2).bind fun bt746 => (if t742 = 3 then (trunnionref08_Cmp.j0 k true t741 t742 t743 t744 bt746.1 bt746.2.1 bt746.2.2.1 bt746.2.2.2) else (trunnionref08_Cmp.j0 k (bt746.2.1 == 3) t741 t742 t743 t744 bt746.1 bt746.2.1 bt746.2.2.1 bt746.2.2.2))) = some r := H
 have A4 := Aside0.mk A40
 clear A40
 replace H := Option.bind_eq_some_iff.mp H
 obtain ⟨⟨t746, t747, t748, t749⟩, A50, H⟩ := H
 replace H : (if t742 = 3 then (trunnionref08_Cmp.j0 k true t741 t742 t743 t744 t746 t747 t748 t749) else (trunnionref08_Cmp.j0 k (t747 == 3) t741 t742 t743 t744 t746 t747 t748 t749)) = some r := H
 have A5 := Aside0.mk A50
 clear A50
 have HC6 := Aside0.mk H
 clear H
 go_enter Try.func98, Try.ntmps98
 go_upto_region 3 with (first | ((with_reducible refine gate_callee (f := 44) rfl ?_); refine goesL_ (some 13) rfl rfl Try.func44 (by kernel_rfl) rfl #[.int .i64 a0, .int .u64 a1] rfl (by (try simp only [List.map_toArray, List.map_cons, List.map_nil]); first | done | rfl | (simp only [List.length_drop, List.length_take]; rfl)) ?_; (with_reducible refine (trunnionref02_Open.calls k a0 a1 t741 t742 t743 t744 _ A4.out).mono ?_); rintro e w7 ⟨rfl, hb⟩; refine ⟨_, rfl, ?_⟩; have n0_ := Aside0.mk (below_step (by repeat (first | (with_reducible first | exact HB.out | apply below_alloc | apply pw_below_drewN | apply below_drew1) | exact HB.out)) hb); clear HB; have HB := n0_; clear n0_; (try clear hb); (try clear hb2); (try clear hk); (try clear hi)) | ((with_reducible refine gate_dst (N := 7) rfl ?_); refine box_event ?hg (N := 7) ?hd (cs := #[.bool false, .int .i64 0, .int .i64 0, .int .u64 0]) (t := 36) ?hr ?_; (case hd => rfl); (case hg => rfl); (case hr => first | (go_simp; done) | (go_simp; rfl)); intro gb745 hg w8 hbox hb; have n0_ := Aside0.mk (below_step (by repeat (first | (with_reducible first | exact HB.out | apply below_alloc | apply pw_below_drewN | apply below_drew1) | exact HB.out)) hb); have n1_ := Aside0.mk (hbox); have n2_ := Aside0.mk ((by rw [hg]; exact (below_size (by repeat (first | (with_reducible first | exact HB.out | apply below_alloc | apply pw_below_drewN | apply below_drew1) | exact HB.out))) : w.heap.size ≤ gb745)); have n3_ := Aside0.mk ((by rw [hg]; exact (below_size (by repeat (first | (with_reducible first | exact HB.out | apply below_alloc | apply pw_below_drewN | apply below_drew1) | exact HB.out))) : w.heap.size ≤ gb745)); clear HB; have HB := n0_; have BK745 := n1_; have GW745 := n2_; have GE745 := n3_; clear n0_ n1_ n2_ n3_; clear hb hbox hg; have hcz9_0 : w8.cell? ⟨gb745, 0, none⟩ = some (.bool false) := (blk_cell BK745.out 0).trans rfl; have hcz9_1 : w8.cell? ⟨gb745, 1, none⟩ = some (.int .i64 0) := (blk_cell BK745.out 1).trans rfl; have hcz9_2 : w8.cell? ⟨gb745, 2, none⟩ = some (.int .i64 0) := (blk_cell BK745.out 2).trans rfl; have hcz9_3 : w8.cell? ⟨gb745, 3, none⟩ = some (.int .u64 0) := (blk_cell BK745.out 3).trans rfl; have hfz9_0 := blk_frozen BK745.out 0; have hfz9_1 := blk_frozen BK745.out 1; have hfz9_2 := blk_frozen BK745.out 2; have hfz9_3 := blk_frozen BK745.out 3) | ((with_reducible refine gate_callee (f := 44) rfl ?_); refine goesL_ (some 16) rfl rfl Try.func44 (by kernel_rfl) rfl #[.int .i64 a0, .int .u64 a2] rfl (by (try simp only [List.map_toArray, List.map_cons, List.map_nil]); first | done | rfl | (simp only [List.length_drop, List.length_take]; rfl)) ?_; (with_reducible refine (trunnionref02_Open.calls k a0 a2 t746 t747 t748 t749 _ A5.out).mono ?_); rintro e w10 ⟨rfl, hb⟩; refine ⟨_, rfl, ?_⟩; have n0_ := Aside0.mk (blk_below (g := gb745) (o := .cells #[.bool t741, .int .i64 t742, .int .i64 t743, .int .u64 t744] 36 (0, 0)) (by (with_reducible repeat (first | refine blk_drewN ?_ _ | refine blk_drew ?_ | refine blk_alloc ?_ _)); refine blk_put (cs := #[.bool t741, .int .i64 t742, .int .i64 t743, .int .u64 0]) ?_ 3 _ rfl; (with_reducible repeat (first | refine blk_drewN ?_ _ | refine blk_drew ?_ | refine blk_alloc ?_ _)); refine blk_put (cs := #[.bool t741, .int .i64 t742, .int .i64 0, .int .u64 0]) ?_ 2 _ rfl; (with_reducible repeat (first | refine blk_drewN ?_ _ | refine blk_drew ?_ | refine blk_alloc ?_ _)); refine blk_put (cs := #[.bool t741, .int .i64 0, .int .i64 0, .int .u64 0]) ?_ 1 _ rfl; (with_reducible repeat (first | refine blk_drewN ?_ _ | refine blk_drew ?_ | refine blk_alloc ?_ _)); refine blk_put (cs := #[.bool false, .int .i64 0, .int .i64 0, .int .u64 0]) ?_ 0 _ rfl; (with_reducible repeat (first | refine blk_drewN ?_ _ | refine blk_drew ?_ | refine blk_alloc ?_ _)); exact BK745.out) hb); have n1_ := Aside0.mk (below_step (by repeat (first | (with_reducible first | exact HB.out | apply below_alloc | apply pw_below_drewN | apply below_drew1 | refine below_set ?_ GE745.out) | exact HB.out)) hb); clear BK745; clear HB; have BK745 := n0_; have HB := n1_; clear n0_ n1_; (try clear hb); (try clear hb2); (try clear hk); (try clear hi)) | ((with_reducible refine gate_dst (N := 8) rfl ?_); refine box_event ?hg (N := 8) ?hd (cs := #[.bool false, .int .i64 0, .int .i64 0, .int .u64 0]) (t := 36) ?hr ?_; (case hd => rfl); (case hg => rfl); (case hr => first | (go_simp; done) | (go_simp; rfl)); intro gb750 hg w11 hbox hb; have n0_ := Aside0.mk (blk_below (g := gb745) (o := .cells #[.bool t741, .int .i64 t742, .int .i64 t743, .int .u64 t744] 36 (0, 0)) (by (with_reducible repeat (first | refine blk_drewN ?_ _ | refine blk_drew ?_ | refine blk_alloc ?_ _)); exact BK745.out) hb); have n1_ := Aside0.mk (below_step (by repeat (first | (with_reducible first | exact HB.out | apply below_alloc | apply pw_below_drewN | apply below_drew1 | refine below_set ?_ GE745.out) | exact HB.out)) hb); have n2_ := Aside0.mk (hbox); have n3_ := Aside0.mk ((by rw [hg]; exact (below_size (by repeat (first | (with_reducible first | exact HB.out | apply below_alloc | apply pw_below_drewN | apply below_drew1 | refine below_set ?_ GE745.out) | exact HB.out))) : w.heap.size ≤ gb750)); have n4_ := Aside0.mk ((by rw [hg]; exact (below_size (by repeat (first | (with_reducible first | exact HB.out | apply below_alloc | apply pw_below_drewN | apply below_drew1 | refine below_set ?_ GE745.out) | exact HB.out))) : w.heap.size ≤ gb750)); have n5_ := Aside0.mk ((by rw [hg]; exact Nat.ne_of_lt (blk_lt (g := gb745) (o := .cells #[.bool t741, .int .i64 t742, .int .i64 t743, .int .u64 t744] 36 (0, 0)) (by (with_reducible repeat (first | refine blk_drewN ?_ _ | refine blk_drew ?_ | refine blk_alloc ?_ _)); exact BK745.out)) : gb745 ≠ gb750)); have n6_ := Aside0.mk ((by rw [hg]; exact Nat.ne_of_gt (blk_lt (g := gb745) (o := .cells #[.bool t741, .int .i64 t742, .int .i64 t743, .int .u64 t744] 36 (0, 0)) (by (with_reducible repeat (first | refine blk_drewN ?_ _ | refine blk_drew ?_ | refine blk_alloc ?_ _)); exact BK745.out)) : gb750 ≠ gb745)); clear BK745; clear HB; have BK745 := n0_; have HB := n1_; have BK750 := n2_; have GW750 := n3_; have GE750 := n4_; have NB745_750 := n5_; have NB750_745 := n6_; clear n0_ n1_ n2_ n3_ n4_ n5_ n6_; clear hb hbox hg; have hnb12 := NB750_745.out; have hnc12 := NB745_750.out; have hcz13_0 : w11.cell? ⟨gb750, 0, none⟩ = some (.bool false) := (blk_cell BK750.out 0).trans rfl; have hcz13_1 : w11.cell? ⟨gb750, 1, none⟩ = some (.int .i64 0) := (blk_cell BK750.out 1).trans rfl; have hcz13_2 : w11.cell? ⟨gb750, 2, none⟩ = some (.int .i64 0) := (blk_cell BK750.out 2).trans rfl; have hcz13_3 : w11.cell? ⟨gb750, 3, none⟩ = some (.int .u64 0) := (blk_cell BK750.out 3).trans rfl; have hfz13_0 := blk_frozen BK750.out 0; have hfz13_1 := blk_frozen BK750.out 1; have hfz13_2 := blk_frozen BK750.out 2; have hfz13_3 := blk_frozen BK750.out 3))
 (try simp only [Act.put, List.setIfInBounds_toArray, List.set_cons_zero, List.set_cons_succ])
 go_cut [24] (fun v24 wc => ∃ (kq : Nat) (x24_5 : Bool), v24 = .bool x24_5 ∧ Aside0 (trunnionref08_Cmp.j0 kq x24_5 t741 t742 t743 t744 t746 t747 t748 t749 = some r) ∧ Aside0 (kq ≤ k) ∧ Aside0 (wc.heap[gb745]? = some (.cells #[.bool t741, .int .i64 t742, .int .i64 t743, .int .u64 t744] 36 (0, 0))) ∧ Aside0 (wc.heap[gb750]? = some (.cells #[.bool t746, .int .i64 t747, .int .i64 t748, .int .u64 t749] 36 (0, 0))) ∧ Aside0 (Below w.heap.size w wc))
 case first =>
  have H := HC6.out
  clear HC6
  by_cases c14 : t742 = 3
  ·rw [if_pos c14] at H
   have c14b0 : (t742 == 3) = true := beq_iff_eq.mpr c14
   have c14b1 : (t742 != 3) = false := bne_eq_false_iff_eq.mpr c14
   clear c14
   (first | rw [c14b0] | (simp only [i64_w, i32_w]; rw [c14b0]) | skip)
   have H' := Aside0.mk H
   clear H
   have hnb15 := NB745_750.out
   have hnc15 := NB750_745.out
   have hcz16_0 : w11.cell? ⟨gb745, 0, none⟩ = some (.bool t741) := (blk_cell BK745.out 0).trans rfl
   have hcz16_1 : w11.cell? ⟨gb745, 1, none⟩ = some (.int .i64 t742) := (blk_cell BK745.out 1).trans rfl
   have hcz16_2 : w11.cell? ⟨gb745, 2, none⟩ = some (.int .i64 t743) := (blk_cell BK745.out 2).trans rfl
   have hcz16_3 : w11.cell? ⟨gb745, 3, none⟩ = some (.int .u64 t744) := (blk_cell BK745.out 3).trans rfl
   have hfz16_0 := blk_frozen BK745.out 0
   have hfz16_1 := blk_frozen BK745.out 1
   have hfz16_2 := blk_frozen BK745.out 2
   have hfz16_3 := blk_frozen BK745.out 3
   go_wp2
   go_meet
   case rel => exact ⟨_, (true), (by first | rfl | (simp; done) | (simp [*]; done)), H', ⟨by first | omega | exact Nat.le_refl _⟩, ⟨by (with_reducible repeat (first | refine blk_drewN ?_ _ | refine blk_drew ?_ | refine blk_alloc ?_ _)); refine blk_far ?_ NB745_750.out _; (with_reducible repeat (first | refine blk_drewN ?_ _ | refine blk_drew ?_ | refine blk_alloc ?_ _)); refine blk_far ?_ NB745_750.out _; (with_reducible repeat (first | refine blk_drewN ?_ _ | refine blk_drew ?_ | refine blk_alloc ?_ _)); refine blk_far ?_ NB745_750.out _; (with_reducible repeat (first | refine blk_drewN ?_ _ | refine blk_drew ?_ | refine blk_alloc ?_ _)); refine blk_far ?_ NB745_750.out _; (with_reducible repeat (first | refine blk_drewN ?_ _ | refine blk_drew ?_ | refine blk_alloc ?_ _)); exact BK745.out⟩, ⟨by (with_reducible repeat (first | refine blk_drewN ?_ _ | refine blk_drew ?_ | refine blk_alloc ?_ _)); refine blk_put (cs := #[.bool t746, .int .i64 t747, .int .i64 t748, .int .u64 0]) ?_ 3 _ rfl; (with_reducible repeat (first | refine blk_drewN ?_ _ | refine blk_drew ?_ | refine blk_alloc ?_ _)); refine blk_put (cs := #[.bool t746, .int .i64 t747, .int .i64 0, .int .u64 0]) ?_ 2 _ rfl; (with_reducible repeat (first | refine blk_drewN ?_ _ | refine blk_drew ?_ | refine blk_alloc ?_ _)); refine blk_put (cs := #[.bool t746, .int .i64 0, .int .i64 0, .int .u64 0]) ?_ 1 _ rfl; (with_reducible repeat (first | refine blk_drewN ?_ _ | refine blk_drew ?_ | refine blk_alloc ?_ _)); refine blk_put (cs := #[.bool false, .int .i64 0, .int .i64 0, .int .u64 0]) ?_ 0 _ rfl; (with_reducible repeat (first | refine blk_drewN ?_ _ | refine blk_drew ?_ | refine blk_alloc ?_ _)); exact BK750.out⟩, ⟨by repeat (first | (with_reducible first | exact HB.out | apply below_alloc | apply pw_below_drewN | apply below_drew1 | refine below_set ?_ GE745.out | refine below_set ?_ GE750.out) | exact HB.out)⟩⟩
  ·rw [if_neg c14] at H
   have c14b0 : (t742 == 3) = false := beq_eq_false_iff_ne.mpr c14
   have c14b1 : (t742 != 3) = true := bne_iff_ne.mpr c14
   (first | rw [c14b0] | (simp only [i64_w, i32_w]; rw [c14b0]) | skip)
   have H' := Aside0.mk H
   clear H
   have hnb17 := NB745_750.out
   have hnc17 := NB750_745.out
   have hcz18_0 : w11.cell? ⟨gb745, 0, none⟩ = some (.bool t741) := (blk_cell BK745.out 0).trans rfl
   have hcz18_1 : w11.cell? ⟨gb745, 1, none⟩ = some (.int .i64 t742) := (blk_cell BK745.out 1).trans rfl
   have hcz18_2 : w11.cell? ⟨gb745, 2, none⟩ = some (.int .i64 t743) := (blk_cell BK745.out 2).trans rfl
   have hcz18_3 : w11.cell? ⟨gb745, 3, none⟩ = some (.int .u64 t744) := (blk_cell BK745.out 3).trans rfl
   have hfz18_0 := blk_frozen BK745.out 0
   have hfz18_1 := blk_frozen BK745.out 1
   have hfz18_2 := blk_frozen BK745.out 2
   have hfz18_3 := blk_frozen BK745.out 3
   have hcz19_0 : w11.cell? ⟨gb750, 0, none⟩ = some (.bool false) := (blk_cell BK750.out 0).trans rfl
   have hcz19_1 : w11.cell? ⟨gb750, 1, none⟩ = some (.int .i64 0) := (blk_cell BK750.out 1).trans rfl
   have hcz19_2 : w11.cell? ⟨gb750, 2, none⟩ = some (.int .i64 0) := (blk_cell BK750.out 2).trans rfl
   have hcz19_3 : w11.cell? ⟨gb750, 3, none⟩ = some (.int .u64 0) := (blk_cell BK750.out 3).trans rfl
   have hfz19_0 := blk_frozen BK750.out 0
   have hfz19_1 := blk_frozen BK750.out 1
   have hfz19_2 := blk_frozen BK750.out 2
   have hfz19_3 := blk_frozen BK750.out 3
   go_wp2
   go_meet
   case rel => exact ⟨_, ((t747 == 3)), (by first | rfl | (simp; done) | (simp [*]; done)), H', ⟨by first | omega | exact Nat.le_refl _⟩, ⟨by (with_reducible repeat (first | refine blk_drewN ?_ _ | refine blk_drew ?_ | refine blk_alloc ?_ _)); refine blk_far ?_ NB745_750.out _; (with_reducible repeat (first | refine blk_drewN ?_ _ | refine blk_drew ?_ | refine blk_alloc ?_ _)); refine blk_far ?_ NB745_750.out _; (with_reducible repeat (first | refine blk_drewN ?_ _ | refine blk_drew ?_ | refine blk_alloc ?_ _)); refine blk_far ?_ NB745_750.out _; (with_reducible repeat (first | refine blk_drewN ?_ _ | refine blk_drew ?_ | refine blk_alloc ?_ _)); refine blk_far ?_ NB745_750.out _; (with_reducible repeat (first | refine blk_drewN ?_ _ | refine blk_drew ?_ | refine blk_alloc ?_ _)); exact BK745.out⟩, ⟨by (with_reducible repeat (first | refine blk_drewN ?_ _ | refine blk_drew ?_ | refine blk_alloc ?_ _)); refine blk_put (cs := #[.bool t746, .int .i64 t747, .int .i64 t748, .int .u64 0]) ?_ 3 _ rfl; (with_reducible repeat (first | refine blk_drewN ?_ _ | refine blk_drew ?_ | refine blk_alloc ?_ _)); refine blk_put (cs := #[.bool t746, .int .i64 t747, .int .i64 0, .int .u64 0]) ?_ 2 _ rfl; (with_reducible repeat (first | refine blk_drewN ?_ _ | refine blk_drew ?_ | refine blk_alloc ?_ _)); refine blk_put (cs := #[.bool t746, .int .i64 0, .int .i64 0, .int .u64 0]) ?_ 1 _ rfl; (with_reducible repeat (first | refine blk_drewN ?_ _ | refine blk_drew ?_ | refine blk_alloc ?_ _)); refine blk_put (cs := #[.bool false, .int .i64 0, .int .i64 0, .int .u64 0]) ?_ 0 _ rfl; (with_reducible repeat (first | refine blk_drewN ?_ _ | refine blk_drew ?_ | refine blk_alloc ?_ _)); exact BK750.out⟩, ⟨by repeat (first | (with_reducible first | exact HB.out | apply below_alloc | apply pw_below_drewN | apply below_drew1 | refine below_set ?_ GE745.out | refine below_set ?_ GE750.out) | exact HB.out)⟩⟩
 case rest =>
  clear HC6
  try clear c1
  try clear p2
  try clear c4
  try clear c9
  try clear c12
  try clear c14
  try clear c14b0
  try clear c14b1
  try clear c15
  try clear c17
  try clear hcz13_0
  try clear hcz13_1
  try clear hcz13_2
  try clear hcz13_3
  try clear hcz16_0
  try clear hcz16_1
  try clear hcz16_2
  try clear hcz16_3
  try clear hcz18_0
  try clear hcz18_1
  try clear hcz18_2
  try clear hcz18_3
  try clear hcz19_0
  try clear hcz19_1
  try clear hcz19_2
  try clear hcz19_3
  try clear hcz9_0
  try clear hcz9_1
  try clear hcz9_2
  try clear hcz9_3
  try clear hfz13_0
  try clear hfz13_1
  try clear hfz13_2
  try clear hfz13_3
  try clear hfz16_0
  try clear hfz16_1
  try clear hfz16_2
  try clear hfz16_3
  try clear hfz18_0
  try clear hfz18_1
  try clear hfz18_2
  try clear hfz18_3
  try clear hfz19_0
  try clear hfz19_1
  try clear hfz19_2
  try clear hfz19_3
  try clear hfz9_0
  try clear hfz9_1
  try clear hfz9_2
  try clear hfz9_3
  obtain ⟨kq, x24_5, rfl, HA, HJ5, BK745, BK750, HB⟩ := hcut
  cases kq with
  | zero => exact absurd HA.out (by simp [trunnionref08_Cmp.j0])
  | succ kj5 =>
   have H := HA.out
   clear HA
   simp only [trunnionref08_Cmp.j0] at H
   by_cases c20 : x24_5 = true
   ·subst c20
    have H1 : (some 2) = some r := by rw [if_pos rfl] at H; exact H
    clear H
    have H := H1
    clear H1
    obtain rfl := Option.some.inj H
    go_wp2
    go_ret
    exact ⟨by first | rfl | (simp [errW_none, errW_some] <;> rfl) | (simp [*, errW_none, errW_some] <;> rfl), by repeat (first | (with_reducible first | exact HB.out | apply below_alloc | apply pw_below_drewN | apply below_drew1 | refine below_set ?_ GE745.out | refine below_set ?_ GE750.out) | exact HB.out)⟩
   ·replace c20 := Bool.eq_false_iff.mpr c20
    subst c20
    have H1 : ((trunnionref08_sign.f t741 t742 t743 t744).bind fun t751 => ((trunnionref08_sign.f t746 t747 t748 t749).bind fun t752 => (if t751 < t752 then (some (-1)) else ((trunnionref08_sign.f t741 t742 t743 t744).bind fun t753 => ((trunnionref08_sign.f t746 t747 t748 t749).bind fun t754 => (if t753 > t754 then (some 1) else ((trunnionref08_sign.f t741 t742 t743 t744).bind fun t755 => (if t755 = 0 then (some 0) else (if t742 = 2 then (trunnionref08_Cmp.j1 kj5 true t741 t742 t743 t744 t746 t747 t748 t749) else (trunnionref08_Cmp.j1 kj5 (t747 == 2) t741 t742 t743 t744 t746 t747 t748 t749)))))))))) = some r := by rw [if_neg (show ¬ (false = true) by decide)] at H; exact H
    clear H
    have H := H1
    clear H1
    replace H := Option.bind_eq_some_iff.mp H
    obtain ⟨t751, A210, H⟩ := H
    replace H : ((trunnionref08_sign.f t746 t747 t748 t749).bind fun t752 => (if t751 < t752 then (some (-1)) else ((trunnionref08_sign.f t741 t742 t743 t744).bind fun t753 => ((trunnionref08_sign.f t746 t747 t748 t749).bind fun t754 => (if t753 > t754 then (some 1) else ((trunnionref08_sign.f t741 t742 t743 t744).bind fun t755 => (if t755 = 0 then (some 0) else (if t742 = 2 then (trunnionref08_Cmp.j1 kj5 true t741 t742 t743 t744 t746 t747 t748 t749) else (trunnionref08_Cmp.j1 kj5 (t747 == 2) t741 t742 t743 t744 t746 t747 t748 t749))))))))) = some r := H
    have A21 := Aside0.mk A210
    clear A210
    replace H := Option.bind_eq_some_iff.mp H
    obtain ⟨t752, A220, H⟩ := H
    replace H : (if t751 < t752 then (some (-1)) else ((trunnionref08_sign.f t741 t742 t743 t744).bind fun t753 => ((trunnionref08_sign.f t746 t747 t748 t749).bind fun t754 => (if t753 > t754 then (some 1) else ((trunnionref08_sign.f t741 t742 t743 t744).bind fun t755 => (if t755 = 0 then (some 0) else (if t742 = 2 then (trunnionref08_Cmp.j1 kj5 true t741 t742 t743 t744 t746 t747 t748 t749) else (trunnionref08_Cmp.j1 kj5 (t747 == 2) t741 t742 t743 t744 t746 t747 t748 t749)))))))) = some r := H
    have A22 := Aside0.mk A220
    clear A220
    by_cases c23 : t751 < t752
    ·rw [if_pos c23] at H
     have c23b0 : decide (t751 < t752) = true := decide_eq_true c23
     clear c23
     obtain rfl := Option.some.inj H
     try go_wp2
     have n0_ := Aside0.mk (blk_drew BK745.out)
     have n1_ := Aside0.mk (blk_drew BK750.out)
     have n2_ := Aside0.mk (below_drew1 HB.out)
     clear BK745
     clear BK750
     clear HB
     have BK745 := n0_
     have BK750 := n1_
     have HB := n2_
     clear n0_ n1_ n2_
     refine start_ (n := 5) (S := fun w' => w'.cell? ⟨gb745, 0, none⟩ = some (.bool t741) ∧ w'.cell? ⟨gb745, 1, none⟩ = some (.int .i64 t742) ∧ w'.cell? ⟨gb745, 2, none⟩ = some (.int .i64 t743) ∧ w'.cell? ⟨gb745, 3, none⟩ = some (.int .u64 t744) ∧ w'.cell? ⟨gb750, 0, none⟩ = some (.bool t746) ∧ w'.cell? ⟨gb750, 1, none⟩ = some (.int .i64 t747) ∧ w'.cell? ⟨gb750, 2, none⟩ = some (.int .i64 t748) ∧ w'.cell? ⟨gb750, 3, none⟩ = some (.int .u64 t749)) (ds := []) #[false, false, false, false, false] (by kernel_rfl) rfl rfl ⟨(blk_cell BK745.out 0).trans rfl, (blk_cell BK745.out 1).trans rfl, (blk_cell BK745.out 2).trans rfl, (blk_cell BK745.out 3).trans rfl, (blk_cell BK750.out 0).trans rfl, (blk_cell BK750.out 1).trans rfl, (blk_cell BK750.out 2).trans rfl, (blk_cell BK750.out 3).trans rfl⟩ (fun hHeld => ?_)
     generalize wc.drew = w24 at BK745 BK750 HB hHeld ⊢
     refine take_ (i := 0) (N := some 25) (v := ?_) (a' := ?_) #[true, false, false, false, false] rfl rfl (by kernel_rfl) (fun _ _ _ h => h) (Or.inl ⟨by rfl, ?_⟩) hHeld ?_ ?_
     rotate_left
     ·rintro w' ⟨s0, s1, s2, s3, s4, s5, s6, s7⟩
      go_simp
      with_reducible rfl
     rotate_left
     ·simp only [Act.put, List.setIfInBounds_toArray, List.set_cons_zero, List.set_cons_succ, i64_w, i32_w]
      rfl
     refine take_ (i := 2) (N := some 27) (v := ?_) (a' := ?_) #[true, false, true, false, false] rfl rfl (by kernel_rfl) (fun _ _ _ h => h) (Or.inl ⟨by rfl, ?_⟩) hHeld ?_ ?_
     rotate_left
     ·rintro w' ⟨s0, s1, s2, s3, s4, s5, s6, s7⟩
      go_simp
      with_reducible rfl
     rotate_left
     ·simp only [Act.put, List.setIfInBounds_toArray, List.set_cons_zero, List.set_cons_succ, i64_w, i32_w]
      rfl
     refine one_ (i := 1) (N := some 26) #[true, true, true, false, false] rfl rfl (by kernel_rfl) (by decide) (fun K hK => ?_)
     refine goes_ Try.func154 (by kernel_rfl) rfl #[.agg #[.bool t741, .int .i64 t742, .int .i64 t743, .int .u64 t744]] (by rfl) rfl rfl (by (try simp only [List.map_toArray, List.map_cons, List.map_nil]); first | done | rfl | (simp only [List.length_drop, List.length_take]; rfl)) ?_
     with_reducible refine (trunnionref08_sign.calls t741 t742 t743 t744 t751 _ A21.out).mono ?_
     rintro e w25 ⟨rfl, hb⟩
     refine ⟨_, rfl, ?_⟩
     have n0_ := Aside0.mk (blk_below (g := gb745) (o := .cells #[.bool t741, .int .i64 t742, .int .i64 t743, .int .u64 t744] 36 (0, 0)) (by (with_reducible repeat (first | refine blk_drewN ?_ _ | refine blk_drew ?_ | refine blk_alloc ?_ _)); exact BK745.out) hb)
     have n1_ := Aside0.mk (blk_below (g := gb750) (o := .cells #[.bool t746, .int .i64 t747, .int .i64 t748, .int .u64 t749] 36 (0, 0)) (by (with_reducible repeat (first | refine blk_drewN ?_ _ | refine blk_drew ?_ | refine blk_alloc ?_ _)); exact BK750.out) hb)
     have n2_ := Aside0.mk (below_step (by repeat (first | (with_reducible first | exact HB.out | apply below_alloc | apply pw_below_drewN | apply below_drew1 | refine below_set ?_ GE745.out | refine below_set ?_ GE750.out) | exact HB.out)) hb)
     clear BK745
     clear BK750
     clear HB
     have BK745 := n0_
     have BK750 := n1_
     have HB := n2_
     clear n0_ n1_ n2_
     (try clear hb)
     (try clear hb2)
     (try clear hk)
     (try clear hi)
     refine hK.out _ _ ⟨(blk_cell BK745.out 0).trans rfl, (blk_cell BK745.out 1).trans rfl, (blk_cell BK745.out 2).trans rfl, (blk_cell BK745.out 3).trans rfl, (blk_cell BK750.out 0).trans rfl, (blk_cell BK750.out 1).trans rfl, (blk_cell BK750.out 2).trans rfl, (blk_cell BK750.out 3).trans rfl⟩ (fun hHeld => ?_)
     clear hK K
     refine norm_ (a' := ?_) ?_ ?_
     rotate_left
     ·show Act.put _ (some 26) _ = _
      simp only [Act.put, List.setIfInBounds_toArray, List.set_cons_zero, List.set_cons_succ, i64_w, i32_w]
      rfl
     refine one_ (i := 3) (N := some 28) #[true, true, true, true, false] rfl rfl (by kernel_rfl) (by decide) (fun K hK => ?_)
     refine goes_ Try.func154 (by kernel_rfl) rfl #[.agg #[.bool t746, .int .i64 t747, .int .i64 t748, .int .u64 t749]] (by rfl) rfl rfl (by (try simp only [List.map_toArray, List.map_cons, List.map_nil]); first | done | rfl | (simp only [List.length_drop, List.length_take]; rfl)) ?_
     with_reducible refine (trunnionref08_sign.calls t746 t747 t748 t749 t752 _ A22.out).mono ?_
     rintro e w26 ⟨rfl, hb⟩
     refine ⟨_, rfl, ?_⟩
     have n0_ := Aside0.mk (blk_below (g := gb745) (o := .cells #[.bool t741, .int .i64 t742, .int .i64 t743, .int .u64 t744] 36 (0, 0)) (by (with_reducible repeat (first | refine blk_drewN ?_ _ | refine blk_drew ?_ | refine blk_alloc ?_ _)); exact BK745.out) hb)
     have n1_ := Aside0.mk (blk_below (g := gb750) (o := .cells #[.bool t746, .int .i64 t747, .int .i64 t748, .int .u64 t749] 36 (0, 0)) (by (with_reducible repeat (first | refine blk_drewN ?_ _ | refine blk_drew ?_ | refine blk_alloc ?_ _)); exact BK750.out) hb)
     have n2_ := Aside0.mk (below_step (by repeat (first | (with_reducible first | exact HB.out | apply below_alloc | apply pw_below_drewN | apply below_drew1 | refine below_set ?_ GE745.out | refine below_set ?_ GE750.out) | exact HB.out)) hb)
     clear BK745
     clear BK750
     clear HB
     have BK745 := n0_
     have BK750 := n1_
     have HB := n2_
     clear n0_ n1_ n2_
     (try clear hb)
     (try clear hb2)
     (try clear hk)
     (try clear hi)
     refine hK.out _ _ ⟨(blk_cell BK745.out 0).trans rfl, (blk_cell BK745.out 1).trans rfl, (blk_cell BK745.out 2).trans rfl, (blk_cell BK745.out 3).trans rfl, (blk_cell BK750.out 0).trans rfl, (blk_cell BK750.out 1).trans rfl, (blk_cell BK750.out 2).trans rfl, (blk_cell BK750.out 3).trans rfl⟩ (fun hHeld => ?_)
     clear hK K
     refine norm_ (a' := ?_) ?_ ?_
     rotate_left
     ·show Act.put _ (some 28) _ = _
      simp only [Act.put, List.setIfInBounds_toArray, List.set_cons_zero, List.set_cons_succ, i64_w, i32_w]
      rfl
     refine pure_ (i := 4) (N := some 29) (v := ?_) (a' := ?_) #[true, true, true, true, true] rfl rfl (by kernel_rfl) (fun _ _ _ h => h) (Or.inl ⟨by rfl, ?_⟩) ?_ ?_
     rotate_left
     ·intro w'
      go_simp
      with_reducible rfl
     rotate_left
     ·simp only [Act.put, List.setIfInBounds_toArray, List.set_cons_zero, List.set_cons_succ, i64_w, i32_w]
      rfl
     refine done_ (by kernel_rfl) ?_
     try go_wp2
     go_ret
     exact ⟨by first | rfl | (simp [errW_none, errW_some] <;> rfl) | (simp [*, errW_none, errW_some] <;> rfl), by repeat (first | (with_reducible first | exact HB.out | apply below_alloc | apply pw_below_drewN | apply below_drew1 | refine below_set ?_ GE745.out | refine below_set ?_ GE750.out) | exact HB.out)⟩
    ·rw [if_neg c23] at H
     have c23b0 : decide (t751 < t752) = false := decide_eq_false c23
     clear c23
     replace H := Option.bind_eq_some_iff.mp H
     obtain ⟨t753, A270, H⟩ := H
     replace H : ((trunnionref08_sign.f t746 t747 t748 t749).bind fun t754 => (if t753 > t754 then (some 1) else ((trunnionref08_sign.f t741 t742 t743 t744).bind fun t755 => (if t755 = 0 then (some 0) else (if t742 = 2 then (trunnionref08_Cmp.j1 kj5 true t741 t742 t743 t744 t746 t747 t748 t749) else (trunnionref08_Cmp.j1 kj5 (t747 == 2) t741 t742 t743 t744 t746 t747 t748 t749)))))) = some r := H
     have A27 := Aside0.mk A270
     clear A270
     replace H := Option.bind_eq_some_iff.mp H
     obtain ⟨t754, A280, H⟩ := H
     replace H : (if t753 > t754 then (some 1) else ((trunnionref08_sign.f t741 t742 t743 t744).bind fun t755 => (if t755 = 0 then (some 0) else (if t742 = 2 then (trunnionref08_Cmp.j1 kj5 true t741 t742 t743 t744 t746 t747 t748 t749) else (trunnionref08_Cmp.j1 kj5 (t747 == 2) t741 t742 t743 t744 t746 t747 t748 t749))))) = some r := H
     have A28 := Aside0.mk A280
     clear A280
     by_cases c29 : t753 > t754
     ·rw [if_pos c29] at H
      have c29b0 : decide (t754 < t753) = true := decide_eq_true c29
      clear c29
      obtain rfl := Option.some.inj H
      try go_wp2
      have n0_ := Aside0.mk (blk_drew BK745.out)
      have n1_ := Aside0.mk (blk_drew BK750.out)
      have n2_ := Aside0.mk (below_drew1 HB.out)
      clear BK745
      clear BK750
      clear HB
      have BK745 := n0_
      have BK750 := n1_
      have HB := n2_
      clear n0_ n1_ n2_
      refine start_ (n := 5) (S := fun w' => w'.cell? ⟨gb745, 0, none⟩ = some (.bool t741) ∧ w'.cell? ⟨gb745, 1, none⟩ = some (.int .i64 t742) ∧ w'.cell? ⟨gb745, 2, none⟩ = some (.int .i64 t743) ∧ w'.cell? ⟨gb745, 3, none⟩ = some (.int .u64 t744) ∧ w'.cell? ⟨gb750, 0, none⟩ = some (.bool t746) ∧ w'.cell? ⟨gb750, 1, none⟩ = some (.int .i64 t747) ∧ w'.cell? ⟨gb750, 2, none⟩ = some (.int .i64 t748) ∧ w'.cell? ⟨gb750, 3, none⟩ = some (.int .u64 t749)) (ds := []) #[false, false, false, false, false] (by kernel_rfl) rfl rfl ⟨(blk_cell BK745.out 0).trans rfl, (blk_cell BK745.out 1).trans rfl, (blk_cell BK745.out 2).trans rfl, (blk_cell BK745.out 3).trans rfl, (blk_cell BK750.out 0).trans rfl, (blk_cell BK750.out 1).trans rfl, (blk_cell BK750.out 2).trans rfl, (blk_cell BK750.out 3).trans rfl⟩ (fun hHeld => ?_)
      generalize wc.drew = w30 at BK745 BK750 HB hHeld ⊢
      refine take_ (i := 0) (N := some 25) (v := ?_) (a' := ?_) #[true, false, false, false, false] rfl rfl (by kernel_rfl) (fun _ _ _ h => h) (Or.inl ⟨by rfl, ?_⟩) hHeld ?_ ?_
      rotate_left
      ·rintro w' ⟨s0, s1, s2, s3, s4, s5, s6, s7⟩
       go_simp
       with_reducible rfl
      rotate_left
      ·simp only [Act.put, List.setIfInBounds_toArray, List.set_cons_zero, List.set_cons_succ, i64_w, i32_w]
       rfl
      refine take_ (i := 2) (N := some 27) (v := ?_) (a' := ?_) #[true, false, true, false, false] rfl rfl (by kernel_rfl) (fun _ _ _ h => h) (Or.inl ⟨by rfl, ?_⟩) hHeld ?_ ?_
      rotate_left
      ·rintro w' ⟨s0, s1, s2, s3, s4, s5, s6, s7⟩
       go_simp
       with_reducible rfl
      rotate_left
      ·simp only [Act.put, List.setIfInBounds_toArray, List.set_cons_zero, List.set_cons_succ, i64_w, i32_w]
       rfl
      refine one_ (i := 1) (N := some 26) #[true, true, true, false, false] rfl rfl (by kernel_rfl) (by decide) (fun K hK => ?_)
      refine goes_ Try.func154 (by kernel_rfl) rfl #[.agg #[.bool t741, .int .i64 t742, .int .i64 t743, .int .u64 t744]] (by rfl) rfl rfl (by (try simp only [List.map_toArray, List.map_cons, List.map_nil]); first | done | rfl | (simp only [List.length_drop, List.length_take]; rfl)) ?_
      with_reducible refine (trunnionref08_sign.calls t741 t742 t743 t744 t751 _ A21.out).mono ?_
      rintro e w31 ⟨rfl, hb⟩
      refine ⟨_, rfl, ?_⟩
      have n0_ := Aside0.mk (blk_below (g := gb745) (o := .cells #[.bool t741, .int .i64 t742, .int .i64 t743, .int .u64 t744] 36 (0, 0)) (by (with_reducible repeat (first | refine blk_drewN ?_ _ | refine blk_drew ?_ | refine blk_alloc ?_ _)); exact BK745.out) hb)
      have n1_ := Aside0.mk (blk_below (g := gb750) (o := .cells #[.bool t746, .int .i64 t747, .int .i64 t748, .int .u64 t749] 36 (0, 0)) (by (with_reducible repeat (first | refine blk_drewN ?_ _ | refine blk_drew ?_ | refine blk_alloc ?_ _)); exact BK750.out) hb)
      have n2_ := Aside0.mk (below_step (by repeat (first | (with_reducible first | exact HB.out | apply below_alloc | apply pw_below_drewN | apply below_drew1 | refine below_set ?_ GE745.out | refine below_set ?_ GE750.out) | exact HB.out)) hb)
      clear BK745
      clear BK750
      clear HB
      have BK745 := n0_
      have BK750 := n1_
      have HB := n2_
      clear n0_ n1_ n2_
      (try clear hb)
      (try clear hb2)
      (try clear hk)
      (try clear hi)
      refine hK.out _ _ ⟨(blk_cell BK745.out 0).trans rfl, (blk_cell BK745.out 1).trans rfl, (blk_cell BK745.out 2).trans rfl, (blk_cell BK745.out 3).trans rfl, (blk_cell BK750.out 0).trans rfl, (blk_cell BK750.out 1).trans rfl, (blk_cell BK750.out 2).trans rfl, (blk_cell BK750.out 3).trans rfl⟩ (fun hHeld => ?_)
      clear hK K
      refine norm_ (a' := ?_) ?_ ?_
      rotate_left
      ·show Act.put _ (some 26) _ = _
       simp only [Act.put, List.setIfInBounds_toArray, List.set_cons_zero, List.set_cons_succ, i64_w, i32_w]
       rfl
      refine one_ (i := 3) (N := some 28) #[true, true, true, true, false] rfl rfl (by kernel_rfl) (by decide) (fun K hK => ?_)
      refine goes_ Try.func154 (by kernel_rfl) rfl #[.agg #[.bool t746, .int .i64 t747, .int .i64 t748, .int .u64 t749]] (by rfl) rfl rfl (by (try simp only [List.map_toArray, List.map_cons, List.map_nil]); first | done | rfl | (simp only [List.length_drop, List.length_take]; rfl)) ?_
      with_reducible refine (trunnionref08_sign.calls t746 t747 t748 t749 t752 _ A22.out).mono ?_
      rintro e w32 ⟨rfl, hb⟩
      refine ⟨_, rfl, ?_⟩
      have n0_ := Aside0.mk (blk_below (g := gb745) (o := .cells #[.bool t741, .int .i64 t742, .int .i64 t743, .int .u64 t744] 36 (0, 0)) (by (with_reducible repeat (first | refine blk_drewN ?_ _ | refine blk_drew ?_ | refine blk_alloc ?_ _)); exact BK745.out) hb)
      have n1_ := Aside0.mk (blk_below (g := gb750) (o := .cells #[.bool t746, .int .i64 t747, .int .i64 t748, .int .u64 t749] 36 (0, 0)) (by (with_reducible repeat (first | refine blk_drewN ?_ _ | refine blk_drew ?_ | refine blk_alloc ?_ _)); exact BK750.out) hb)
      have n2_ := Aside0.mk (below_step (by repeat (first | (with_reducible first | exact HB.out | apply below_alloc | apply pw_below_drewN | apply below_drew1 | refine below_set ?_ GE745.out | refine below_set ?_ GE750.out) | exact HB.out)) hb)
      clear BK745
      clear BK750
      clear HB
      have BK745 := n0_
      have BK750 := n1_
      have HB := n2_
      clear n0_ n1_ n2_
      (try clear hb)
      (try clear hb2)
      (try clear hk)
      (try clear hi)
      refine hK.out _ _ ⟨(blk_cell BK745.out 0).trans rfl, (blk_cell BK745.out 1).trans rfl, (blk_cell BK745.out 2).trans rfl, (blk_cell BK745.out 3).trans rfl, (blk_cell BK750.out 0).trans rfl, (blk_cell BK750.out 1).trans rfl, (blk_cell BK750.out 2).trans rfl, (blk_cell BK750.out 3).trans rfl⟩ (fun hHeld => ?_)
      clear hK K
      refine norm_ (a' := ?_) ?_ ?_
      rotate_left
      ·show Act.put _ (some 28) _ = _
       simp only [Act.put, List.setIfInBounds_toArray, List.set_cons_zero, List.set_cons_succ, i64_w, i32_w]
       rfl
      refine pure_ (i := 4) (N := some 29) (v := ?_) (a' := ?_) #[true, true, true, true, true] rfl rfl (by kernel_rfl) (fun _ _ _ h => h) (Or.inl ⟨by rfl, ?_⟩) ?_ ?_
      rotate_left
      ·intro w'
       go_simp
       with_reducible rfl
      rotate_left
      ·simp only [Act.put, List.setIfInBounds_toArray, List.set_cons_zero, List.set_cons_succ, i64_w, i32_w]
       rfl
      refine done_ (by kernel_rfl) ?_
      try go_wp2
      have n0_ := Aside0.mk (blk_drew BK745.out)
      have n1_ := Aside0.mk (blk_drew BK750.out)
      have n2_ := Aside0.mk (below_drew1 HB.out)
      clear BK745
      clear BK750
      clear HB
      have BK745 := n0_
      have BK750 := n1_
      have HB := n2_
      clear n0_ n1_ n2_
      refine start_ (n := 5) (S := fun w' => w'.cell? ⟨gb745, 0, none⟩ = some (.bool t741) ∧ w'.cell? ⟨gb745, 1, none⟩ = some (.int .i64 t742) ∧ w'.cell? ⟨gb745, 2, none⟩ = some (.int .i64 t743) ∧ w'.cell? ⟨gb745, 3, none⟩ = some (.int .u64 t744) ∧ w'.cell? ⟨gb750, 0, none⟩ = some (.bool t746) ∧ w'.cell? ⟨gb750, 1, none⟩ = some (.int .i64 t747) ∧ w'.cell? ⟨gb750, 2, none⟩ = some (.int .i64 t748) ∧ w'.cell? ⟨gb750, 3, none⟩ = some (.int .u64 t749)) (ds := []) #[false, false, false, false, false] (by kernel_rfl) rfl rfl ⟨(blk_cell BK745.out 0).trans rfl, (blk_cell BK745.out 1).trans rfl, (blk_cell BK745.out 2).trans rfl, (blk_cell BK745.out 3).trans rfl, (blk_cell BK750.out 0).trans rfl, (blk_cell BK750.out 1).trans rfl, (blk_cell BK750.out 2).trans rfl, (blk_cell BK750.out 3).trans rfl⟩ (fun hHeld => ?_)
      generalize w32.drew = w33 at BK745 BK750 HB hHeld ⊢
      refine take_ (i := 0) (N := some 30) (v := ?_) (a' := ?_) #[true, false, false, false, false] rfl rfl (by kernel_rfl) (fun _ _ _ h => h) (Or.inl ⟨by rfl, ?_⟩) hHeld ?_ ?_
      rotate_left
      ·rintro w' ⟨s0, s1, s2, s3, s4, s5, s6, s7⟩
       go_simp
       with_reducible rfl
      rotate_left
      ·simp only [Act.put, List.setIfInBounds_toArray, List.set_cons_zero, List.set_cons_succ, i64_w, i32_w]
       rfl
      refine take_ (i := 2) (N := some 32) (v := ?_) (a' := ?_) #[true, false, true, false, false] rfl rfl (by kernel_rfl) (fun _ _ _ h => h) (Or.inl ⟨by rfl, ?_⟩) hHeld ?_ ?_
      rotate_left
      ·rintro w' ⟨s0, s1, s2, s3, s4, s5, s6, s7⟩
       go_simp
       with_reducible rfl
      rotate_left
      ·simp only [Act.put, List.setIfInBounds_toArray, List.set_cons_zero, List.set_cons_succ, i64_w, i32_w]
       rfl
      refine one_ (i := 1) (N := some 31) #[true, true, true, false, false] rfl rfl (by kernel_rfl) (by decide) (fun K hK => ?_)
      refine goes_ Try.func154 (by kernel_rfl) rfl #[.agg #[.bool t741, .int .i64 t742, .int .i64 t743, .int .u64 t744]] (by rfl) rfl rfl (by (try simp only [List.map_toArray, List.map_cons, List.map_nil]); first | done | rfl | (simp only [List.length_drop, List.length_take]; rfl)) ?_
      with_reducible refine (trunnionref08_sign.calls t741 t742 t743 t744 t753 _ A27.out).mono ?_
      rintro e w34 ⟨rfl, hb⟩
      refine ⟨_, rfl, ?_⟩
      have n0_ := Aside0.mk (blk_below (g := gb745) (o := .cells #[.bool t741, .int .i64 t742, .int .i64 t743, .int .u64 t744] 36 (0, 0)) (by (with_reducible repeat (first | refine blk_drewN ?_ _ | refine blk_drew ?_ | refine blk_alloc ?_ _)); exact BK745.out) hb)
      have n1_ := Aside0.mk (blk_below (g := gb750) (o := .cells #[.bool t746, .int .i64 t747, .int .i64 t748, .int .u64 t749] 36 (0, 0)) (by (with_reducible repeat (first | refine blk_drewN ?_ _ | refine blk_drew ?_ | refine blk_alloc ?_ _)); exact BK750.out) hb)
      have n2_ := Aside0.mk (below_step (by repeat (first | (with_reducible first | exact HB.out | apply below_alloc | apply pw_below_drewN | apply below_drew1 | refine below_set ?_ GE745.out | refine below_set ?_ GE750.out) | exact HB.out)) hb)
      clear BK745
      clear BK750
      clear HB
      have BK745 := n0_
      have BK750 := n1_
      have HB := n2_
      clear n0_ n1_ n2_
      (try clear hb)
      (try clear hb2)
      (try clear hk)
      (try clear hi)
      refine hK.out _ _ ⟨(blk_cell BK745.out 0).trans rfl, (blk_cell BK745.out 1).trans rfl, (blk_cell BK745.out 2).trans rfl, (blk_cell BK745.out 3).trans rfl, (blk_cell BK750.out 0).trans rfl, (blk_cell BK750.out 1).trans rfl, (blk_cell BK750.out 2).trans rfl, (blk_cell BK750.out 3).trans rfl⟩ (fun hHeld => ?_)
      clear hK K
      refine norm_ (a' := ?_) ?_ ?_
      rotate_left
      ·show Act.put _ (some 31) _ = _
       simp only [Act.put, List.setIfInBounds_toArray, List.set_cons_zero, List.set_cons_succ, i64_w, i32_w]
       rfl
      refine one_ (i := 3) (N := some 33) #[true, true, true, true, false] rfl rfl (by kernel_rfl) (by decide) (fun K hK => ?_)
      refine goes_ Try.func154 (by kernel_rfl) rfl #[.agg #[.bool t746, .int .i64 t747, .int .i64 t748, .int .u64 t749]] (by rfl) rfl rfl (by (try simp only [List.map_toArray, List.map_cons, List.map_nil]); first | done | rfl | (simp only [List.length_drop, List.length_take]; rfl)) ?_
      with_reducible refine (trunnionref08_sign.calls t746 t747 t748 t749 t754 _ A28.out).mono ?_
      rintro e w35 ⟨rfl, hb⟩
      refine ⟨_, rfl, ?_⟩
      have n0_ := Aside0.mk (blk_below (g := gb745) (o := .cells #[.bool t741, .int .i64 t742, .int .i64 t743, .int .u64 t744] 36 (0, 0)) (by (with_reducible repeat (first | refine blk_drewN ?_ _ | refine blk_drew ?_ | refine blk_alloc ?_ _)); exact BK745.out) hb)
      have n1_ := Aside0.mk (blk_below (g := gb750) (o := .cells #[.bool t746, .int .i64 t747, .int .i64 t748, .int .u64 t749] 36 (0, 0)) (by (with_reducible repeat (first | refine blk_drewN ?_ _ | refine blk_drew ?_ | refine blk_alloc ?_ _)); exact BK750.out) hb)
      have n2_ := Aside0.mk (below_step (by repeat (first | (with_reducible first | exact HB.out | apply below_alloc | apply pw_below_drewN | apply below_drew1 | refine below_set ?_ GE745.out | refine below_set ?_ GE750.out) | exact HB.out)) hb)
      clear BK745
      clear BK750
      clear HB
      have BK745 := n0_
      have BK750 := n1_
      have HB := n2_
      clear n0_ n1_ n2_
      (try clear hb)
      (try clear hb2)
      (try clear hk)
      (try clear hi)
      refine hK.out _ _ ⟨(blk_cell BK745.out 0).trans rfl, (blk_cell BK745.out 1).trans rfl, (blk_cell BK745.out 2).trans rfl, (blk_cell BK745.out 3).trans rfl, (blk_cell BK750.out 0).trans rfl, (blk_cell BK750.out 1).trans rfl, (blk_cell BK750.out 2).trans rfl, (blk_cell BK750.out 3).trans rfl⟩ (fun hHeld => ?_)
      clear hK K
      refine norm_ (a' := ?_) ?_ ?_
      rotate_left
      ·show Act.put _ (some 33) _ = _
       simp only [Act.put, List.setIfInBounds_toArray, List.set_cons_zero, List.set_cons_succ, i64_w, i32_w]
       rfl
      refine pure_ (i := 4) (N := some 34) (v := ?_) (a' := ?_) #[true, true, true, true, true] rfl rfl (by kernel_rfl) (fun _ _ _ h => h) (Or.inl ⟨by rfl, ?_⟩) ?_ ?_
      rotate_left
      ·intro w'
       go_simp
       with_reducible rfl
      rotate_left
      ·simp only [Act.put, List.setIfInBounds_toArray, List.set_cons_zero, List.set_cons_succ, i64_w, i32_w]
       rfl
      refine done_ (by kernel_rfl) ?_
      try go_wp2
      go_ret
      exact ⟨by first | rfl | (simp [errW_none, errW_some] <;> rfl) | (simp [*, errW_none, errW_some] <;> rfl), by repeat (first | (with_reducible first | exact HB.out | apply below_alloc | apply pw_below_drewN | apply below_drew1 | refine below_set ?_ GE745.out | refine below_set ?_ GE750.out) | exact HB.out)⟩
     ·rw [if_neg c29] at H
      have c29b0 : decide (t754 < t753) = false := decide_eq_false c29
      clear c29
      replace H := Option.bind_eq_some_iff.mp H
      obtain ⟨t755, A360, H⟩ := H
      replace H : (if t755 = 0 then (some 0) else (if t742 = 2 then (trunnionref08_Cmp.j1 kj5 true t741 t742 t743 t744 t746 t747 t748 t749) else (trunnionref08_Cmp.j1 kj5 (t747 == 2) t741 t742 t743 t744 t746 t747 t748 t749))) = some r := H
      have A36 := Aside0.mk A360
      clear A360
      by_cases c37 : t755 = 0
      ·rw [if_pos c37] at H
       have c37b0 : (t755 == 0) = true := beq_iff_eq.mpr c37
       have c37b1 : (t755 != 0) = false := bne_eq_false_iff_eq.mpr c37
       clear c37
       obtain rfl := Option.some.inj H
       try go_wp2
       have n0_ := Aside0.mk (blk_drew BK745.out)
       have n1_ := Aside0.mk (blk_drew BK750.out)
       have n2_ := Aside0.mk (below_drew1 HB.out)
       clear BK745
       clear BK750
       clear HB
       have BK745 := n0_
       have BK750 := n1_
       have HB := n2_
       clear n0_ n1_ n2_
       refine start_ (n := 5) (S := fun w' => w'.cell? ⟨gb745, 0, none⟩ = some (.bool t741) ∧ w'.cell? ⟨gb745, 1, none⟩ = some (.int .i64 t742) ∧ w'.cell? ⟨gb745, 2, none⟩ = some (.int .i64 t743) ∧ w'.cell? ⟨gb745, 3, none⟩ = some (.int .u64 t744) ∧ w'.cell? ⟨gb750, 0, none⟩ = some (.bool t746) ∧ w'.cell? ⟨gb750, 1, none⟩ = some (.int .i64 t747) ∧ w'.cell? ⟨gb750, 2, none⟩ = some (.int .i64 t748) ∧ w'.cell? ⟨gb750, 3, none⟩ = some (.int .u64 t749)) (ds := []) #[false, false, false, false, false] (by kernel_rfl) rfl rfl ⟨(blk_cell BK745.out 0).trans rfl, (blk_cell BK745.out 1).trans rfl, (blk_cell BK745.out 2).trans rfl, (blk_cell BK745.out 3).trans rfl, (blk_cell BK750.out 0).trans rfl, (blk_cell BK750.out 1).trans rfl, (blk_cell BK750.out 2).trans rfl, (blk_cell BK750.out 3).trans rfl⟩ (fun hHeld => ?_)
       generalize wc.drew = w38 at BK745 BK750 HB hHeld ⊢
       refine take_ (i := 0) (N := some 25) (v := ?_) (a' := ?_) #[true, false, false, false, false] rfl rfl (by kernel_rfl) (fun _ _ _ h => h) (Or.inl ⟨by rfl, ?_⟩) hHeld ?_ ?_
       rotate_left
       ·rintro w' ⟨s0, s1, s2, s3, s4, s5, s6, s7⟩
        go_simp
        with_reducible rfl
       rotate_left
       ·simp only [Act.put, List.setIfInBounds_toArray, List.set_cons_zero, List.set_cons_succ, i64_w, i32_w]
        rfl
       refine take_ (i := 2) (N := some 27) (v := ?_) (a' := ?_) #[true, false, true, false, false] rfl rfl (by kernel_rfl) (fun _ _ _ h => h) (Or.inl ⟨by rfl, ?_⟩) hHeld ?_ ?_
       rotate_left
       ·rintro w' ⟨s0, s1, s2, s3, s4, s5, s6, s7⟩
        go_simp
        with_reducible rfl
       rotate_left
       ·simp only [Act.put, List.setIfInBounds_toArray, List.set_cons_zero, List.set_cons_succ, i64_w, i32_w]
        rfl
       refine one_ (i := 1) (N := some 26) #[true, true, true, false, false] rfl rfl (by kernel_rfl) (by decide) (fun K hK => ?_)
       refine goes_ Try.func154 (by kernel_rfl) rfl #[.agg #[.bool t741, .int .i64 t742, .int .i64 t743, .int .u64 t744]] (by rfl) rfl rfl (by (try simp only [List.map_toArray, List.map_cons, List.map_nil]); first | done | rfl | (simp only [List.length_drop, List.length_take]; rfl)) ?_
       with_reducible refine (trunnionref08_sign.calls t741 t742 t743 t744 t751 _ A21.out).mono ?_
       rintro e w39 ⟨rfl, hb⟩
       refine ⟨_, rfl, ?_⟩
       have n0_ := Aside0.mk (blk_below (g := gb745) (o := .cells #[.bool t741, .int .i64 t742, .int .i64 t743, .int .u64 t744] 36 (0, 0)) (by (with_reducible repeat (first | refine blk_drewN ?_ _ | refine blk_drew ?_ | refine blk_alloc ?_ _)); exact BK745.out) hb)
       have n1_ := Aside0.mk (blk_below (g := gb750) (o := .cells #[.bool t746, .int .i64 t747, .int .i64 t748, .int .u64 t749] 36 (0, 0)) (by (with_reducible repeat (first | refine blk_drewN ?_ _ | refine blk_drew ?_ | refine blk_alloc ?_ _)); exact BK750.out) hb)
       have n2_ := Aside0.mk (below_step (by repeat (first | (with_reducible first | exact HB.out | apply below_alloc | apply pw_below_drewN | apply below_drew1 | refine below_set ?_ GE745.out | refine below_set ?_ GE750.out) | exact HB.out)) hb)
       clear BK745
       clear BK750
       clear HB
       have BK745 := n0_
       have BK750 := n1_
       have HB := n2_
       clear n0_ n1_ n2_
       (try clear hb)
       (try clear hb2)
       (try clear hk)
       (try clear hi)
       refine hK.out _ _ ⟨(blk_cell BK745.out 0).trans rfl, (blk_cell BK745.out 1).trans rfl, (blk_cell BK745.out 2).trans rfl, (blk_cell BK745.out 3).trans rfl, (blk_cell BK750.out 0).trans rfl, (blk_cell BK750.out 1).trans rfl, (blk_cell BK750.out 2).trans rfl, (blk_cell BK750.out 3).trans rfl⟩ (fun hHeld => ?_)
       clear hK K
       refine norm_ (a' := ?_) ?_ ?_
       rotate_left
       ·show Act.put _ (some 26) _ = _
        simp only [Act.put, List.setIfInBounds_toArray, List.set_cons_zero, List.set_cons_succ, i64_w, i32_w]
        rfl
       refine one_ (i := 3) (N := some 28) #[true, true, true, true, false] rfl rfl (by kernel_rfl) (by decide) (fun K hK => ?_)
       refine goes_ Try.func154 (by kernel_rfl) rfl #[.agg #[.bool t746, .int .i64 t747, .int .i64 t748, .int .u64 t749]] (by rfl) rfl rfl (by (try simp only [List.map_toArray, List.map_cons, List.map_nil]); first | done | rfl | (simp only [List.length_drop, List.length_take]; rfl)) ?_
       with_reducible refine (trunnionref08_sign.calls t746 t747 t748 t749 t752 _ A22.out).mono ?_
       rintro e w40 ⟨rfl, hb⟩
       refine ⟨_, rfl, ?_⟩
       have n0_ := Aside0.mk (blk_below (g := gb745) (o := .cells #[.bool t741, .int .i64 t742, .int .i64 t743, .int .u64 t744] 36 (0, 0)) (by (with_reducible repeat (first | refine blk_drewN ?_ _ | refine blk_drew ?_ | refine blk_alloc ?_ _)); exact BK745.out) hb)
       have n1_ := Aside0.mk (blk_below (g := gb750) (o := .cells #[.bool t746, .int .i64 t747, .int .i64 t748, .int .u64 t749] 36 (0, 0)) (by (with_reducible repeat (first | refine blk_drewN ?_ _ | refine blk_drew ?_ | refine blk_alloc ?_ _)); exact BK750.out) hb)
       have n2_ := Aside0.mk (below_step (by repeat (first | (with_reducible first | exact HB.out | apply below_alloc | apply pw_below_drewN | apply below_drew1 | refine below_set ?_ GE745.out | refine below_set ?_ GE750.out) | exact HB.out)) hb)
       clear BK745
       clear BK750
       clear HB
       have BK745 := n0_
       have BK750 := n1_
       have HB := n2_
       clear n0_ n1_ n2_
       (try clear hb)
       (try clear hb2)
       (try clear hk)
       (try clear hi)
       refine hK.out _ _ ⟨(blk_cell BK745.out 0).trans rfl, (blk_cell BK745.out 1).trans rfl, (blk_cell BK745.out 2).trans rfl, (blk_cell BK745.out 3).trans rfl, (blk_cell BK750.out 0).trans rfl, (blk_cell BK750.out 1).trans rfl, (blk_cell BK750.out 2).trans rfl, (blk_cell BK750.out 3).trans rfl⟩ (fun hHeld => ?_)
       clear hK K
       refine norm_ (a' := ?_) ?_ ?_
       rotate_left
       ·show Act.put _ (some 28) _ = _
        simp only [Act.put, List.setIfInBounds_toArray, List.set_cons_zero, List.set_cons_succ, i64_w, i32_w]
        rfl
       refine pure_ (i := 4) (N := some 29) (v := ?_) (a' := ?_) #[true, true, true, true, true] rfl rfl (by kernel_rfl) (fun _ _ _ h => h) (Or.inl ⟨by rfl, ?_⟩) ?_ ?_
       rotate_left
       ·intro w'
        go_simp
        with_reducible rfl
       rotate_left
       ·simp only [Act.put, List.setIfInBounds_toArray, List.set_cons_zero, List.set_cons_succ, i64_w, i32_w]
        rfl
       refine done_ (by kernel_rfl) ?_
       try go_wp2
       have n0_ := Aside0.mk (blk_drew BK745.out)
       have n1_ := Aside0.mk (blk_drew BK750.out)
       have n2_ := Aside0.mk (below_drew1 HB.out)
       clear BK745
       clear BK750
       clear HB
       have BK745 := n0_
       have BK750 := n1_
       have HB := n2_
       clear n0_ n1_ n2_
       refine start_ (n := 5) (S := fun w' => w'.cell? ⟨gb745, 0, none⟩ = some (.bool t741) ∧ w'.cell? ⟨gb745, 1, none⟩ = some (.int .i64 t742) ∧ w'.cell? ⟨gb745, 2, none⟩ = some (.int .i64 t743) ∧ w'.cell? ⟨gb745, 3, none⟩ = some (.int .u64 t744) ∧ w'.cell? ⟨gb750, 0, none⟩ = some (.bool t746) ∧ w'.cell? ⟨gb750, 1, none⟩ = some (.int .i64 t747) ∧ w'.cell? ⟨gb750, 2, none⟩ = some (.int .i64 t748) ∧ w'.cell? ⟨gb750, 3, none⟩ = some (.int .u64 t749)) (ds := []) #[false, false, false, false, false] (by kernel_rfl) rfl rfl ⟨(blk_cell BK745.out 0).trans rfl, (blk_cell BK745.out 1).trans rfl, (blk_cell BK745.out 2).trans rfl, (blk_cell BK745.out 3).trans rfl, (blk_cell BK750.out 0).trans rfl, (blk_cell BK750.out 1).trans rfl, (blk_cell BK750.out 2).trans rfl, (blk_cell BK750.out 3).trans rfl⟩ (fun hHeld => ?_)
       generalize w40.drew = w41 at BK745 BK750 HB hHeld ⊢
       refine take_ (i := 0) (N := some 30) (v := ?_) (a' := ?_) #[true, false, false, false, false] rfl rfl (by kernel_rfl) (fun _ _ _ h => h) (Or.inl ⟨by rfl, ?_⟩) hHeld ?_ ?_
       rotate_left
       ·rintro w' ⟨s0, s1, s2, s3, s4, s5, s6, s7⟩
        go_simp
        with_reducible rfl
       rotate_left
       ·simp only [Act.put, List.setIfInBounds_toArray, List.set_cons_zero, List.set_cons_succ, i64_w, i32_w]
        rfl
       refine take_ (i := 2) (N := some 32) (v := ?_) (a' := ?_) #[true, false, true, false, false] rfl rfl (by kernel_rfl) (fun _ _ _ h => h) (Or.inl ⟨by rfl, ?_⟩) hHeld ?_ ?_
       rotate_left
       ·rintro w' ⟨s0, s1, s2, s3, s4, s5, s6, s7⟩
        go_simp
        with_reducible rfl
       rotate_left
       ·simp only [Act.put, List.setIfInBounds_toArray, List.set_cons_zero, List.set_cons_succ, i64_w, i32_w]
        rfl
       refine one_ (i := 1) (N := some 31) #[true, true, true, false, false] rfl rfl (by kernel_rfl) (by decide) (fun K hK => ?_)
       refine goes_ Try.func154 (by kernel_rfl) rfl #[.agg #[.bool t741, .int .i64 t742, .int .i64 t743, .int .u64 t744]] (by rfl) rfl rfl (by (try simp only [List.map_toArray, List.map_cons, List.map_nil]); first | done | rfl | (simp only [List.length_drop, List.length_take]; rfl)) ?_
       with_reducible refine (trunnionref08_sign.calls t741 t742 t743 t744 t753 _ A27.out).mono ?_
       rintro e w42 ⟨rfl, hb⟩
       refine ⟨_, rfl, ?_⟩
       have n0_ := Aside0.mk (blk_below (g := gb745) (o := .cells #[.bool t741, .int .i64 t742, .int .i64 t743, .int .u64 t744] 36 (0, 0)) (by (with_reducible repeat (first | refine blk_drewN ?_ _ | refine blk_drew ?_ | refine blk_alloc ?_ _)); exact BK745.out) hb)
       have n1_ := Aside0.mk (blk_below (g := gb750) (o := .cells #[.bool t746, .int .i64 t747, .int .i64 t748, .int .u64 t749] 36 (0, 0)) (by (with_reducible repeat (first | refine blk_drewN ?_ _ | refine blk_drew ?_ | refine blk_alloc ?_ _)); exact BK750.out) hb)
       have n2_ := Aside0.mk (below_step (by repeat (first | (with_reducible first | exact HB.out | apply below_alloc | apply pw_below_drewN | apply below_drew1 | refine below_set ?_ GE745.out | refine below_set ?_ GE750.out) | exact HB.out)) hb)
       clear BK745
       clear BK750
       clear HB
       have BK745 := n0_
       have BK750 := n1_
       have HB := n2_
       clear n0_ n1_ n2_
       (try clear hb)
       (try clear hb2)
       (try clear hk)
       (try clear hi)
       refine hK.out _ _ ⟨(blk_cell BK745.out 0).trans rfl, (blk_cell BK745.out 1).trans rfl, (blk_cell BK745.out 2).trans rfl, (blk_cell BK745.out 3).trans rfl, (blk_cell BK750.out 0).trans rfl, (blk_cell BK750.out 1).trans rfl, (blk_cell BK750.out 2).trans rfl, (blk_cell BK750.out 3).trans rfl⟩ (fun hHeld => ?_)
       clear hK K
       refine norm_ (a' := ?_) ?_ ?_
       rotate_left
       ·show Act.put _ (some 31) _ = _
        simp only [Act.put, List.setIfInBounds_toArray, List.set_cons_zero, List.set_cons_succ, i64_w, i32_w]
        rfl
       refine one_ (i := 3) (N := some 33) #[true, true, true, true, false] rfl rfl (by kernel_rfl) (by decide) (fun K hK => ?_)
       refine goes_ Try.func154 (by kernel_rfl) rfl #[.agg #[.bool t746, .int .i64 t747, .int .i64 t748, .int .u64 t749]] (by rfl) rfl rfl (by (try simp only [List.map_toArray, List.map_cons, List.map_nil]); first | done | rfl | (simp only [List.length_drop, List.length_take]; rfl)) ?_
       with_reducible refine (trunnionref08_sign.calls t746 t747 t748 t749 t754 _ A28.out).mono ?_
       rintro e w43 ⟨rfl, hb⟩
       refine ⟨_, rfl, ?_⟩
       have n0_ := Aside0.mk (blk_below (g := gb745) (o := .cells #[.bool t741, .int .i64 t742, .int .i64 t743, .int .u64 t744] 36 (0, 0)) (by (with_reducible repeat (first | refine blk_drewN ?_ _ | refine blk_drew ?_ | refine blk_alloc ?_ _)); exact BK745.out) hb)
       have n1_ := Aside0.mk (blk_below (g := gb750) (o := .cells #[.bool t746, .int .i64 t747, .int .i64 t748, .int .u64 t749] 36 (0, 0)) (by (with_reducible repeat (first | refine blk_drewN ?_ _ | refine blk_drew ?_ | refine blk_alloc ?_ _)); exact BK750.out) hb)
       have n2_ := Aside0.mk (below_step (by repeat (first | (with_reducible first | exact HB.out | apply below_alloc | apply pw_below_drewN | apply below_drew1 | refine below_set ?_ GE745.out | refine below_set ?_ GE750.out) | exact HB.out)) hb)
       clear BK745
       clear BK750
       clear HB
       have BK745 := n0_
       have BK750 := n1_
       have HB := n2_
       clear n0_ n1_ n2_
       (try clear hb)
       (try clear hb2)
       (try clear hk)
       (try clear hi)
       refine hK.out _ _ ⟨(blk_cell BK745.out 0).trans rfl, (blk_cell BK745.out 1).trans rfl, (blk_cell BK745.out 2).trans rfl, (blk_cell BK745.out 3).trans rfl, (blk_cell BK750.out 0).trans rfl, (blk_cell BK750.out 1).trans rfl, (blk_cell BK750.out 2).trans rfl, (blk_cell BK750.out 3).trans rfl⟩ (fun hHeld => ?_)
       clear hK K
       refine norm_ (a' := ?_) ?_ ?_
       rotate_left
       ·show Act.put _ (some 33) _ = _
        simp only [Act.put, List.setIfInBounds_toArray, List.set_cons_zero, List.set_cons_succ, i64_w, i32_w]
        rfl
       refine pure_ (i := 4) (N := some 34) (v := ?_) (a' := ?_) #[true, true, true, true, true] rfl rfl (by kernel_rfl) (fun _ _ _ h => h) (Or.inl ⟨by rfl, ?_⟩) ?_ ?_
       rotate_left
       ·intro w'
        go_simp
        with_reducible rfl
       rotate_left
       ·simp only [Act.put, List.setIfInBounds_toArray, List.set_cons_zero, List.set_cons_succ, i64_w, i32_w]
        rfl
       refine done_ (by kernel_rfl) ?_
       have hnb44 := NB745_750.out
       have hnc44 := NB750_745.out
       have hcz45_0 : w43.cell? ⟨gb745, 0, none⟩ = some (.bool t741) := (blk_cell BK745.out 0).trans rfl
       have hcz45_1 : w43.cell? ⟨gb745, 1, none⟩ = some (.int .i64 t742) := (blk_cell BK745.out 1).trans rfl
       have hcz45_2 : w43.cell? ⟨gb745, 2, none⟩ = some (.int .i64 t743) := (blk_cell BK745.out 2).trans rfl
       have hcz45_3 : w43.cell? ⟨gb745, 3, none⟩ = some (.int .u64 t744) := (blk_cell BK745.out 3).trans rfl
       have hfz45_0 := blk_frozen BK745.out 0
       have hfz45_1 := blk_frozen BK745.out 1
       have hfz45_2 := blk_frozen BK745.out 2
       have hfz45_3 := blk_frozen BK745.out 3
       try go_wp2_with (first | ((with_reducible refine gate_callee (f := 154) rfl ?_); refine goesL_ (some 36) rfl rfl Try.func154 (by kernel_rfl) rfl #[.agg #[.bool t741, .int .i64 t742, .int .i64 t743, .int .u64 t744]] rfl (by (try simp only [List.map_toArray, List.map_cons, List.map_nil]); first | done | rfl | (simp only [List.length_drop, List.length_take]; rfl)) ?_; (with_reducible refine (trunnionref08_sign.calls t741 t742 t743 t744 t755 _ A36.out).mono ?_); rintro e w46 ⟨rfl, hb⟩; refine ⟨_, rfl, ?_⟩; have n0_ := Aside0.mk (blk_below (g := gb745) (o := .cells #[.bool t741, .int .i64 t742, .int .i64 t743, .int .u64 t744] 36 (0, 0)) (by (with_reducible repeat (first | refine blk_drewN ?_ _ | refine blk_drew ?_ | refine blk_alloc ?_ _)); exact BK745.out) hb); have n1_ := Aside0.mk (blk_below (g := gb750) (o := .cells #[.bool t746, .int .i64 t747, .int .i64 t748, .int .u64 t749] 36 (0, 0)) (by (with_reducible repeat (first | refine blk_drewN ?_ _ | refine blk_drew ?_ | refine blk_alloc ?_ _)); exact BK750.out) hb); have n2_ := Aside0.mk (below_step (by repeat (first | (with_reducible first | exact HB.out | apply below_alloc | apply pw_below_drewN | apply below_drew1 | refine below_set ?_ GE745.out | refine below_set ?_ GE750.out) | exact HB.out)) hb); clear BK745; clear BK750; clear HB; have BK745 := n0_; have BK750 := n1_; have HB := n2_; clear n0_ n1_ n2_; (try clear hb); (try clear hb2); (try clear hk); (try clear hi)))
       go_ret
       exact ⟨by first | rfl | (simp [errW_none, errW_some] <;> rfl) | (simp [*, errW_none, errW_some] <;> rfl), by repeat (first | (with_reducible first | exact HB.out | apply below_alloc | apply pw_below_drewN | apply below_drew1 | refine below_set ?_ GE745.out | refine below_set ?_ GE750.out) | exact HB.out)⟩
      ·rw [if_neg c37] at H
       have c37b0 : (t755 == 0) = false := beq_eq_false_iff_ne.mpr c37
       have c37b1 : (t755 != 0) = true := bne_iff_ne.mpr c37
       have HC47 := Aside0.mk H
       clear H
       try go_wp2
       have n0_ := Aside0.mk (blk_drew BK745.out)
       have n1_ := Aside0.mk (blk_drew BK750.out)
       have n2_ := Aside0.mk (below_drew1 HB.out)
       clear BK745
       clear BK750
       clear HB
       have BK745 := n0_
       have BK750 := n1_
       have HB := n2_
       clear n0_ n1_ n2_
       refine start_ (n := 5) (S := fun w' => w'.cell? ⟨gb745, 0, none⟩ = some (.bool t741) ∧ w'.cell? ⟨gb745, 1, none⟩ = some (.int .i64 t742) ∧ w'.cell? ⟨gb745, 2, none⟩ = some (.int .i64 t743) ∧ w'.cell? ⟨gb745, 3, none⟩ = some (.int .u64 t744) ∧ w'.cell? ⟨gb750, 0, none⟩ = some (.bool t746) ∧ w'.cell? ⟨gb750, 1, none⟩ = some (.int .i64 t747) ∧ w'.cell? ⟨gb750, 2, none⟩ = some (.int .i64 t748) ∧ w'.cell? ⟨gb750, 3, none⟩ = some (.int .u64 t749)) (ds := []) #[false, false, false, false, false] (by kernel_rfl) rfl rfl ⟨(blk_cell BK745.out 0).trans rfl, (blk_cell BK745.out 1).trans rfl, (blk_cell BK745.out 2).trans rfl, (blk_cell BK745.out 3).trans rfl, (blk_cell BK750.out 0).trans rfl, (blk_cell BK750.out 1).trans rfl, (blk_cell BK750.out 2).trans rfl, (blk_cell BK750.out 3).trans rfl⟩ (fun hHeld => ?_)
       generalize wc.drew = w48 at BK745 BK750 HB hHeld ⊢
       refine take_ (i := 0) (N := some 25) (v := ?_) (a' := ?_) #[true, false, false, false, false] rfl rfl (by kernel_rfl) (fun _ _ _ h => h) (Or.inl ⟨by rfl, ?_⟩) hHeld ?_ ?_
       rotate_left
       ·rintro w' ⟨s0, s1, s2, s3, s4, s5, s6, s7⟩
        go_simp
        with_reducible rfl
       rotate_left
       ·simp only [Act.put, List.setIfInBounds_toArray, List.set_cons_zero, List.set_cons_succ, i64_w, i32_w]
        rfl
       refine take_ (i := 2) (N := some 27) (v := ?_) (a' := ?_) #[true, false, true, false, false] rfl rfl (by kernel_rfl) (fun _ _ _ h => h) (Or.inl ⟨by rfl, ?_⟩) hHeld ?_ ?_
       rotate_left
       ·rintro w' ⟨s0, s1, s2, s3, s4, s5, s6, s7⟩
        go_simp
        with_reducible rfl
       rotate_left
       ·simp only [Act.put, List.setIfInBounds_toArray, List.set_cons_zero, List.set_cons_succ, i64_w, i32_w]
        rfl
       refine one_ (i := 1) (N := some 26) #[true, true, true, false, false] rfl rfl (by kernel_rfl) (by decide) (fun K hK => ?_)
       refine goes_ Try.func154 (by kernel_rfl) rfl #[.agg #[.bool t741, .int .i64 t742, .int .i64 t743, .int .u64 t744]] (by rfl) rfl rfl (by (try simp only [List.map_toArray, List.map_cons, List.map_nil]); first | done | rfl | (simp only [List.length_drop, List.length_take]; rfl)) ?_
       with_reducible refine (trunnionref08_sign.calls t741 t742 t743 t744 t751 _ A21.out).mono ?_
       rintro e w49 ⟨rfl, hb⟩
       refine ⟨_, rfl, ?_⟩
       have n0_ := Aside0.mk (blk_below (g := gb745) (o := .cells #[.bool t741, .int .i64 t742, .int .i64 t743, .int .u64 t744] 36 (0, 0)) (by (with_reducible repeat (first | refine blk_drewN ?_ _ | refine blk_drew ?_ | refine blk_alloc ?_ _)); exact BK745.out) hb)
       have n1_ := Aside0.mk (blk_below (g := gb750) (o := .cells #[.bool t746, .int .i64 t747, .int .i64 t748, .int .u64 t749] 36 (0, 0)) (by (with_reducible repeat (first | refine blk_drewN ?_ _ | refine blk_drew ?_ | refine blk_alloc ?_ _)); exact BK750.out) hb)
       have n2_ := Aside0.mk (below_step (by repeat (first | (with_reducible first | exact HB.out | apply below_alloc | apply pw_below_drewN | apply below_drew1 | refine below_set ?_ GE745.out | refine below_set ?_ GE750.out) | exact HB.out)) hb)
       clear BK745
       clear BK750
       clear HB
       have BK745 := n0_
       have BK750 := n1_
       have HB := n2_
       clear n0_ n1_ n2_
       (try clear hb)
       (try clear hb2)
       (try clear hk)
       (try clear hi)
       refine hK.out _ _ ⟨(blk_cell BK745.out 0).trans rfl, (blk_cell BK745.out 1).trans rfl, (blk_cell BK745.out 2).trans rfl, (blk_cell BK745.out 3).trans rfl, (blk_cell BK750.out 0).trans rfl, (blk_cell BK750.out 1).trans rfl, (blk_cell BK750.out 2).trans rfl, (blk_cell BK750.out 3).trans rfl⟩ (fun hHeld => ?_)
       clear hK K
       refine norm_ (a' := ?_) ?_ ?_
       rotate_left
       ·show Act.put _ (some 26) _ = _
        simp only [Act.put, List.setIfInBounds_toArray, List.set_cons_zero, List.set_cons_succ, i64_w, i32_w]
        rfl
       refine one_ (i := 3) (N := some 28) #[true, true, true, true, false] rfl rfl (by kernel_rfl) (by decide) (fun K hK => ?_)
       refine goes_ Try.func154 (by kernel_rfl) rfl #[.agg #[.bool t746, .int .i64 t747, .int .i64 t748, .int .u64 t749]] (by rfl) rfl rfl (by (try simp only [List.map_toArray, List.map_cons, List.map_nil]); first | done | rfl | (simp only [List.length_drop, List.length_take]; rfl)) ?_
       with_reducible refine (trunnionref08_sign.calls t746 t747 t748 t749 t752 _ A22.out).mono ?_
       rintro e w50 ⟨rfl, hb⟩
       refine ⟨_, rfl, ?_⟩
       have n0_ := Aside0.mk (blk_below (g := gb745) (o := .cells #[.bool t741, .int .i64 t742, .int .i64 t743, .int .u64 t744] 36 (0, 0)) (by (with_reducible repeat (first | refine blk_drewN ?_ _ | refine blk_drew ?_ | refine blk_alloc ?_ _)); exact BK745.out) hb)
       have n1_ := Aside0.mk (blk_below (g := gb750) (o := .cells #[.bool t746, .int .i64 t747, .int .i64 t748, .int .u64 t749] 36 (0, 0)) (by (with_reducible repeat (first | refine blk_drewN ?_ _ | refine blk_drew ?_ | refine blk_alloc ?_ _)); exact BK750.out) hb)
       have n2_ := Aside0.mk (below_step (by repeat (first | (with_reducible first | exact HB.out | apply below_alloc | apply pw_below_drewN | apply below_drew1 | refine below_set ?_ GE745.out | refine below_set ?_ GE750.out) | exact HB.out)) hb)
       clear BK745
       clear BK750
       clear HB
       have BK745 := n0_
       have BK750 := n1_
       have HB := n2_
       clear n0_ n1_ n2_
       (try clear hb)
       (try clear hb2)
       (try clear hk)
       (try clear hi)
       refine hK.out _ _ ⟨(blk_cell BK745.out 0).trans rfl, (blk_cell BK745.out 1).trans rfl, (blk_cell BK745.out 2).trans rfl, (blk_cell BK745.out 3).trans rfl, (blk_cell BK750.out 0).trans rfl, (blk_cell BK750.out 1).trans rfl, (blk_cell BK750.out 2).trans rfl, (blk_cell BK750.out 3).trans rfl⟩ (fun hHeld => ?_)
       clear hK K
       refine norm_ (a' := ?_) ?_ ?_
       rotate_left
       ·show Act.put _ (some 28) _ = _
        simp only [Act.put, List.setIfInBounds_toArray, List.set_cons_zero, List.set_cons_succ, i64_w, i32_w]
        rfl
       refine pure_ (i := 4) (N := some 29) (v := ?_) (a' := ?_) #[true, true, true, true, true] rfl rfl (by kernel_rfl) (fun _ _ _ h => h) (Or.inl ⟨by rfl, ?_⟩) ?_ ?_
       rotate_left
       ·intro w'
        go_simp
        with_reducible rfl
       rotate_left
       ·simp only [Act.put, List.setIfInBounds_toArray, List.set_cons_zero, List.set_cons_succ, i64_w, i32_w]
        rfl
       refine done_ (by kernel_rfl) ?_
       try go_wp2
       have n0_ := Aside0.mk (blk_drew BK745.out)
       have n1_ := Aside0.mk (blk_drew BK750.out)
       have n2_ := Aside0.mk (below_drew1 HB.out)
       clear BK745
       clear BK750
       clear HB
       have BK745 := n0_
       have BK750 := n1_
       have HB := n2_
       clear n0_ n1_ n2_
       refine start_ (n := 5) (S := fun w' => w'.cell? ⟨gb745, 0, none⟩ = some (.bool t741) ∧ w'.cell? ⟨gb745, 1, none⟩ = some (.int .i64 t742) ∧ w'.cell? ⟨gb745, 2, none⟩ = some (.int .i64 t743) ∧ w'.cell? ⟨gb745, 3, none⟩ = some (.int .u64 t744) ∧ w'.cell? ⟨gb750, 0, none⟩ = some (.bool t746) ∧ w'.cell? ⟨gb750, 1, none⟩ = some (.int .i64 t747) ∧ w'.cell? ⟨gb750, 2, none⟩ = some (.int .i64 t748) ∧ w'.cell? ⟨gb750, 3, none⟩ = some (.int .u64 t749)) (ds := []) #[false, false, false, false, false] (by kernel_rfl) rfl rfl ⟨(blk_cell BK745.out 0).trans rfl, (blk_cell BK745.out 1).trans rfl, (blk_cell BK745.out 2).trans rfl, (blk_cell BK745.out 3).trans rfl, (blk_cell BK750.out 0).trans rfl, (blk_cell BK750.out 1).trans rfl, (blk_cell BK750.out 2).trans rfl, (blk_cell BK750.out 3).trans rfl⟩ (fun hHeld => ?_)
       generalize w50.drew = w51 at BK745 BK750 HB hHeld ⊢
       refine take_ (i := 0) (N := some 30) (v := ?_) (a' := ?_) #[true, false, false, false, false] rfl rfl (by kernel_rfl) (fun _ _ _ h => h) (Or.inl ⟨by rfl, ?_⟩) hHeld ?_ ?_
       rotate_left
       ·rintro w' ⟨s0, s1, s2, s3, s4, s5, s6, s7⟩
        go_simp
        with_reducible rfl
       rotate_left
       ·simp only [Act.put, List.setIfInBounds_toArray, List.set_cons_zero, List.set_cons_succ, i64_w, i32_w]
        rfl
       refine take_ (i := 2) (N := some 32) (v := ?_) (a' := ?_) #[true, false, true, false, false] rfl rfl (by kernel_rfl) (fun _ _ _ h => h) (Or.inl ⟨by rfl, ?_⟩) hHeld ?_ ?_
       rotate_left
       ·rintro w' ⟨s0, s1, s2, s3, s4, s5, s6, s7⟩
        go_simp
        with_reducible rfl
       rotate_left
       ·simp only [Act.put, List.setIfInBounds_toArray, List.set_cons_zero, List.set_cons_succ, i64_w, i32_w]
        rfl
       refine one_ (i := 1) (N := some 31) #[true, true, true, false, false] rfl rfl (by kernel_rfl) (by decide) (fun K hK => ?_)
       refine goes_ Try.func154 (by kernel_rfl) rfl #[.agg #[.bool t741, .int .i64 t742, .int .i64 t743, .int .u64 t744]] (by rfl) rfl rfl (by (try simp only [List.map_toArray, List.map_cons, List.map_nil]); first | done | rfl | (simp only [List.length_drop, List.length_take]; rfl)) ?_
       with_reducible refine (trunnionref08_sign.calls t741 t742 t743 t744 t753 _ A27.out).mono ?_
       rintro e w52 ⟨rfl, hb⟩
       refine ⟨_, rfl, ?_⟩
       have n0_ := Aside0.mk (blk_below (g := gb745) (o := .cells #[.bool t741, .int .i64 t742, .int .i64 t743, .int .u64 t744] 36 (0, 0)) (by (with_reducible repeat (first | refine blk_drewN ?_ _ | refine blk_drew ?_ | refine blk_alloc ?_ _)); exact BK745.out) hb)
       have n1_ := Aside0.mk (blk_below (g := gb750) (o := .cells #[.bool t746, .int .i64 t747, .int .i64 t748, .int .u64 t749] 36 (0, 0)) (by (with_reducible repeat (first | refine blk_drewN ?_ _ | refine blk_drew ?_ | refine blk_alloc ?_ _)); exact BK750.out) hb)
       have n2_ := Aside0.mk (below_step (by repeat (first | (with_reducible first | exact HB.out | apply below_alloc | apply pw_below_drewN | apply below_drew1 | refine below_set ?_ GE745.out | refine below_set ?_ GE750.out) | exact HB.out)) hb)
       clear BK745
       clear BK750
       clear HB
       have BK745 := n0_
       have BK750 := n1_
       have HB := n2_
       clear n0_ n1_ n2_
       (try clear hb)
       (try clear hb2)
       (try clear hk)
       (try clear hi)
       refine hK.out _ _ ⟨(blk_cell BK745.out 0).trans rfl, (blk_cell BK745.out 1).trans rfl, (blk_cell BK745.out 2).trans rfl, (blk_cell BK745.out 3).trans rfl, (blk_cell BK750.out 0).trans rfl, (blk_cell BK750.out 1).trans rfl, (blk_cell BK750.out 2).trans rfl, (blk_cell BK750.out 3).trans rfl⟩ (fun hHeld => ?_)
       clear hK K
       refine norm_ (a' := ?_) ?_ ?_
       rotate_left
       ·show Act.put _ (some 31) _ = _
        simp only [Act.put, List.setIfInBounds_toArray, List.set_cons_zero, List.set_cons_succ, i64_w, i32_w]
        rfl
       refine one_ (i := 3) (N := some 33) #[true, true, true, true, false] rfl rfl (by kernel_rfl) (by decide) (fun K hK => ?_)
       refine goes_ Try.func154 (by kernel_rfl) rfl #[.agg #[.bool t746, .int .i64 t747, .int .i64 t748, .int .u64 t749]] (by rfl) rfl rfl (by (try simp only [List.map_toArray, List.map_cons, List.map_nil]); first | done | rfl | (simp only [List.length_drop, List.length_take]; rfl)) ?_
       with_reducible refine (trunnionref08_sign.calls t746 t747 t748 t749 t754 _ A28.out).mono ?_
       rintro e w53 ⟨rfl, hb⟩
       refine ⟨_, rfl, ?_⟩
       have n0_ := Aside0.mk (blk_below (g := gb745) (o := .cells #[.bool t741, .int .i64 t742, .int .i64 t743, .int .u64 t744] 36 (0, 0)) (by (with_reducible repeat (first | refine blk_drewN ?_ _ | refine blk_drew ?_ | refine blk_alloc ?_ _)); exact BK745.out) hb)
       have n1_ := Aside0.mk (blk_below (g := gb750) (o := .cells #[.bool t746, .int .i64 t747, .int .i64 t748, .int .u64 t749] 36 (0, 0)) (by (with_reducible repeat (first | refine blk_drewN ?_ _ | refine blk_drew ?_ | refine blk_alloc ?_ _)); exact BK750.out) hb)
       have n2_ := Aside0.mk (below_step (by repeat (first | (with_reducible first | exact HB.out | apply below_alloc | apply pw_below_drewN | apply below_drew1 | refine below_set ?_ GE745.out | refine below_set ?_ GE750.out) | exact HB.out)) hb)
       clear BK745
       clear BK750
       clear HB
       have BK745 := n0_
       have BK750 := n1_
       have HB := n2_
       clear n0_ n1_ n2_
       (try clear hb)
       (try clear hb2)
       (try clear hk)
       (try clear hi)
       refine hK.out _ _ ⟨(blk_cell BK745.out 0).trans rfl, (blk_cell BK745.out 1).trans rfl, (blk_cell BK745.out 2).trans rfl, (blk_cell BK745.out 3).trans rfl, (blk_cell BK750.out 0).trans rfl, (blk_cell BK750.out 1).trans rfl, (blk_cell BK750.out 2).trans rfl, (blk_cell BK750.out 3).trans rfl⟩ (fun hHeld => ?_)
       clear hK K
       refine norm_ (a' := ?_) ?_ ?_
       rotate_left
       ·show Act.put _ (some 33) _ = _
        simp only [Act.put, List.setIfInBounds_toArray, List.set_cons_zero, List.set_cons_succ, i64_w, i32_w]
        rfl
       refine pure_ (i := 4) (N := some 34) (v := ?_) (a' := ?_) #[true, true, true, true, true] rfl rfl (by kernel_rfl) (fun _ _ _ h => h) (Or.inl ⟨by rfl, ?_⟩) ?_ ?_
       rotate_left
       ·intro w'
        go_simp
        with_reducible rfl
       rotate_left
       ·simp only [Act.put, List.setIfInBounds_toArray, List.set_cons_zero, List.set_cons_succ, i64_w, i32_w]
        rfl
       refine done_ (by kernel_rfl) ?_
       have hnb54 := NB745_750.out
       have hnc54 := NB750_745.out
       have hcz55_0 : w53.cell? ⟨gb745, 0, none⟩ = some (.bool t741) := (blk_cell BK745.out 0).trans rfl
       have hcz55_1 : w53.cell? ⟨gb745, 1, none⟩ = some (.int .i64 t742) := (blk_cell BK745.out 1).trans rfl
       have hcz55_2 : w53.cell? ⟨gb745, 2, none⟩ = some (.int .i64 t743) := (blk_cell BK745.out 2).trans rfl
       have hcz55_3 : w53.cell? ⟨gb745, 3, none⟩ = some (.int .u64 t744) := (blk_cell BK745.out 3).trans rfl
       have hfz55_0 := blk_frozen BK745.out 0
       have hfz55_1 := blk_frozen BK745.out 1
       have hfz55_2 := blk_frozen BK745.out 2
       have hfz55_3 := blk_frozen BK745.out 3
       go_upto_region 12 with (first | ((with_reducible refine gate_callee (f := 154) rfl ?_); refine goesL_ (some 36) rfl rfl Try.func154 (by kernel_rfl) rfl #[.agg #[.bool t741, .int .i64 t742, .int .i64 t743, .int .u64 t744]] rfl (by (try simp only [List.map_toArray, List.map_cons, List.map_nil]); first | done | rfl | (simp only [List.length_drop, List.length_take]; rfl)) ?_; (with_reducible refine (trunnionref08_sign.calls t741 t742 t743 t744 t755 _ A36.out).mono ?_); rintro e w56 ⟨rfl, hb⟩; refine ⟨_, rfl, ?_⟩; have n0_ := Aside0.mk (blk_below (g := gb745) (o := .cells #[.bool t741, .int .i64 t742, .int .i64 t743, .int .u64 t744] 36 (0, 0)) (by (with_reducible repeat (first | refine blk_drewN ?_ _ | refine blk_drew ?_ | refine blk_alloc ?_ _)); exact BK745.out) hb); have n1_ := Aside0.mk (blk_below (g := gb750) (o := .cells #[.bool t746, .int .i64 t747, .int .i64 t748, .int .u64 t749] 36 (0, 0)) (by (with_reducible repeat (first | refine blk_drewN ?_ _ | refine blk_drew ?_ | refine blk_alloc ?_ _)); exact BK750.out) hb); have n2_ := Aside0.mk (below_step (by repeat (first | (with_reducible first | exact HB.out | apply below_alloc | apply pw_below_drewN | apply below_drew1 | refine below_set ?_ GE745.out | refine below_set ?_ GE750.out) | exact HB.out)) hb); clear BK745; clear BK750; clear HB; have BK745 := n0_; have BK750 := n1_; have HB := n2_; clear n0_ n1_ n2_; (try clear hb); (try clear hb2); (try clear hk); (try clear hi)))
       (try simp only [Act.put, List.setIfInBounds_toArray, List.set_cons_zero, List.set_cons_succ])
       go_cut [45] (fun v45 wc => ∃ (kq : Nat) (x45_46 : Bool), v45 = .bool x45_46 ∧ Aside0 (trunnionref08_Cmp.j1 kq x45_46 t741 t742 t743 t744 t746 t747 t748 t749 = some r) ∧ Aside0 (kq ≤ kj5) ∧ Aside0 (wc.heap[gb745]? = some (.cells #[.bool t741, .int .i64 t742, .int .i64 t743, .int .u64 t744] 36 (0, 0))) ∧ Aside0 (wc.heap[gb750]? = some (.cells #[.bool t746, .int .i64 t747, .int .i64 t748, .int .u64 t749] 36 (0, 0))) ∧ Aside0 (Below w.heap.size w wc))
       case first =>
        have H := HC47.out
        clear HC47
        by_cases c57 : t742 = 2
        ·rw [if_pos c57] at H
         have c57b0 : (t742 == 2) = true := beq_iff_eq.mpr c57
         have c57b1 : (t742 != 2) = false := bne_eq_false_iff_eq.mpr c57
         clear c57
         (first | rw [c57b0] | (simp only [i64_w, i32_w]; rw [c57b0]) | skip)
         have H' := Aside0.mk H
         clear H
         have hnb58 := NB745_750.out
         have hnc58 := NB750_745.out
         have hcz59_0 : w56.cell? ⟨gb745, 0, none⟩ = some (.bool t741) := (blk_cell BK745.out 0).trans rfl
         have hcz59_1 : w56.cell? ⟨gb745, 1, none⟩ = some (.int .i64 t742) := (blk_cell BK745.out 1).trans rfl
         have hcz59_2 : w56.cell? ⟨gb745, 2, none⟩ = some (.int .i64 t743) := (blk_cell BK745.out 2).trans rfl
         have hcz59_3 : w56.cell? ⟨gb745, 3, none⟩ = some (.int .u64 t744) := (blk_cell BK745.out 3).trans rfl
         have hfz59_0 := blk_frozen BK745.out 0
         have hfz59_1 := blk_frozen BK745.out 1
         have hfz59_2 := blk_frozen BK745.out 2
         have hfz59_3 := blk_frozen BK745.out 3
         go_wp2
         go_meet
         case rel => exact ⟨_, (true), (by first | rfl | (simp; done) | (simp [*]; done)), H', ⟨by have := HJ5.out; first | omega | exact Nat.le_refl _⟩, ⟨by (with_reducible repeat (first | refine blk_drewN ?_ _ | refine blk_drew ?_ | refine blk_alloc ?_ _)); exact BK745.out⟩, ⟨by (with_reducible repeat (first | refine blk_drewN ?_ _ | refine blk_drew ?_ | refine blk_alloc ?_ _)); exact BK750.out⟩, ⟨by repeat (first | (with_reducible first | exact HB.out | apply below_alloc | apply pw_below_drewN | apply below_drew1 | refine below_set ?_ GE745.out | refine below_set ?_ GE750.out) | exact HB.out)⟩⟩
        ·rw [if_neg c57] at H
         have c57b0 : (t742 == 2) = false := beq_eq_false_iff_ne.mpr c57
         have c57b1 : (t742 != 2) = true := bne_iff_ne.mpr c57
         (first | rw [c57b0] | (simp only [i64_w, i32_w]; rw [c57b0]) | skip)
         have H' := Aside0.mk H
         clear H
         have hnb60 := NB745_750.out
         have hnc60 := NB750_745.out
         have hcz61_0 : w56.cell? ⟨gb745, 0, none⟩ = some (.bool t741) := (blk_cell BK745.out 0).trans rfl
         have hcz61_1 : w56.cell? ⟨gb745, 1, none⟩ = some (.int .i64 t742) := (blk_cell BK745.out 1).trans rfl
         have hcz61_2 : w56.cell? ⟨gb745, 2, none⟩ = some (.int .i64 t743) := (blk_cell BK745.out 2).trans rfl
         have hcz61_3 : w56.cell? ⟨gb745, 3, none⟩ = some (.int .u64 t744) := (blk_cell BK745.out 3).trans rfl
         have hfz61_0 := blk_frozen BK745.out 0
         have hfz61_1 := blk_frozen BK745.out 1
         have hfz61_2 := blk_frozen BK745.out 2
         have hfz61_3 := blk_frozen BK745.out 3
         have hcz62_0 : w56.cell? ⟨gb750, 0, none⟩ = some (.bool t746) := (blk_cell BK750.out 0).trans rfl
         have hcz62_1 : w56.cell? ⟨gb750, 1, none⟩ = some (.int .i64 t747) := (blk_cell BK750.out 1).trans rfl
         have hcz62_2 : w56.cell? ⟨gb750, 2, none⟩ = some (.int .i64 t748) := (blk_cell BK750.out 2).trans rfl
         have hcz62_3 : w56.cell? ⟨gb750, 3, none⟩ = some (.int .u64 t749) := (blk_cell BK750.out 3).trans rfl
         have hfz62_0 := blk_frozen BK750.out 0
         have hfz62_1 := blk_frozen BK750.out 1
         have hfz62_2 := blk_frozen BK750.out 2
         have hfz62_3 := blk_frozen BK750.out 3
         go_wp2
         go_meet
         case rel => exact ⟨_, ((t747 == 2)), (by first | rfl | (simp; done) | (simp [*]; done)), H', ⟨by have := HJ5.out; first | omega | exact Nat.le_refl _⟩, ⟨by (with_reducible repeat (first | refine blk_drewN ?_ _ | refine blk_drew ?_ | refine blk_alloc ?_ _)); exact BK745.out⟩, ⟨by (with_reducible repeat (first | refine blk_drewN ?_ _ | refine blk_drew ?_ | refine blk_alloc ?_ _)); exact BK750.out⟩, ⟨by repeat (first | (with_reducible first | exact HB.out | apply below_alloc | apply pw_below_drewN | apply below_drew1 | refine below_set ?_ GE745.out | refine below_set ?_ GE750.out) | exact HB.out)⟩⟩
       case rest =>
        clear HC47
        try clear c1
        try clear c2
        try clear p2
        try clear c3
        try clear c4
        try clear c5
        try clear c6
        try clear c15
        try clear c29
        try clear c29b0
        try clear c37
        try clear c37b0
        try clear c37b1
        try clear c44
        try clear c54
        try clear c57
        try clear c57b0
        try clear c57b1
        try clear c58
        try clear c60
        try clear hcz45_0
        try clear hcz45_1
        try clear hcz45_2
        try clear hcz45_3
        try clear hcz55_0
        try clear hcz55_1
        try clear hcz55_2
        try clear hcz55_3
        try clear hcz59_0
        try clear hcz59_1
        try clear hcz59_2
        try clear hcz59_3
        try clear hcz61_0
        try clear hcz61_1
        try clear hcz61_2
        try clear hcz61_3
        try clear hcz62_0
        try clear hcz62_1
        try clear hcz62_2
        try clear hcz62_3
        try clear hfz45_0
        try clear hfz45_1
        try clear hfz45_2
        try clear hfz45_3
        try clear hfz55_0
        try clear hfz55_1
        try clear hfz55_2
        try clear hfz55_3
        try clear hfz59_0
        try clear hfz59_1
        try clear hfz59_2
        try clear hfz59_3
        try clear hfz61_0
        try clear hfz61_1
        try clear hfz61_2
        try clear hfz61_3
        try clear hfz62_0
        try clear hfz62_1
        try clear hfz62_2
        try clear hfz62_3
        obtain ⟨kq, x45_46, rfl, HA, HJ46, BK745, BK750, HB⟩ := hcut
        cases kq with
        | zero => exact absurd HA.out (by simp [trunnionref08_Cmp.j1])
        | succ kj46 =>
         have H := HA.out
         clear HA
         simp only [trunnionref08_Cmp.j1] at H
         by_cases c63 : x45_46 = true
         ·subst c63
          have H1 : (if t741 = true then (some (wrap64 (-(wrap64 (t742 - t747))))) else (some (wrap64 (t742 - t747)))) = some r := by rw [if_pos rfl] at H; exact H
          clear H
          have H := H1
          clear H1
          by_cases c64 : t741 = true
          ·subst c64
           have H1 : (some (wrap64 (-(wrap64 (t742 - t747))))) = some r := by rw [if_pos rfl] at H; exact H
           clear H
           have H := H1
           clear H1
           obtain rfl := Option.some.inj H
           have hnb65 := NB745_750.out
           have hnc65 := NB750_745.out
           have hcz66_0 : wc.cell? ⟨gb745, 0, none⟩ = some (.bool true) := (blk_cell BK745.out 0).trans rfl
           have hcz66_1 : wc.cell? ⟨gb745, 1, none⟩ = some (.int .i64 t742) := (blk_cell BK745.out 1).trans rfl
           have hcz66_2 : wc.cell? ⟨gb745, 2, none⟩ = some (.int .i64 t743) := (blk_cell BK745.out 2).trans rfl
           have hcz66_3 : wc.cell? ⟨gb745, 3, none⟩ = some (.int .u64 t744) := (blk_cell BK745.out 3).trans rfl
           have hfz66_0 := blk_frozen BK745.out 0
           have hfz66_1 := blk_frozen BK745.out 1
           have hfz66_2 := blk_frozen BK745.out 2
           have hfz66_3 := blk_frozen BK745.out 3
           have hcz67_0 : wc.cell? ⟨gb750, 0, none⟩ = some (.bool t746) := (blk_cell BK750.out 0).trans rfl
           have hcz67_1 : wc.cell? ⟨gb750, 1, none⟩ = some (.int .i64 t747) := (blk_cell BK750.out 1).trans rfl
           have hcz67_2 : wc.cell? ⟨gb750, 2, none⟩ = some (.int .i64 t748) := (blk_cell BK750.out 2).trans rfl
           have hcz67_3 : wc.cell? ⟨gb750, 3, none⟩ = some (.int .u64 t749) := (blk_cell BK750.out 3).trans rfl
           have hfz67_0 := blk_frozen BK750.out 0
           have hfz67_1 := blk_frozen BK750.out 1
           have hfz67_2 := blk_frozen BK750.out 2
           have hfz67_3 := blk_frozen BK750.out 3
           go_wp2
           go_ret
           exact ⟨by first | rfl | (simp [errW_none, errW_some] <;> rfl) | (simp [*, errW_none, errW_some] <;> rfl), by repeat (first | (with_reducible first | exact HB.out | apply below_alloc | apply pw_below_drewN | apply below_drew1 | refine below_set ?_ GE745.out | refine below_set ?_ GE750.out) | exact HB.out)⟩
          ·replace c64 := Bool.eq_false_iff.mpr c64
           subst c64
           have H1 : (some (wrap64 (t742 - t747))) = some r := by rw [if_neg (show ¬ (false = true) by decide)] at H; exact H
           clear H
           have H := H1
           clear H1
           obtain rfl := Option.some.inj H
           have hnb68 := NB745_750.out
           have hnc68 := NB750_745.out
           have hcz69_0 : wc.cell? ⟨gb745, 0, none⟩ = some (.bool false) := (blk_cell BK745.out 0).trans rfl
           have hcz69_1 : wc.cell? ⟨gb745, 1, none⟩ = some (.int .i64 t742) := (blk_cell BK745.out 1).trans rfl
           have hcz69_2 : wc.cell? ⟨gb745, 2, none⟩ = some (.int .i64 t743) := (blk_cell BK745.out 2).trans rfl
           have hcz69_3 : wc.cell? ⟨gb745, 3, none⟩ = some (.int .u64 t744) := (blk_cell BK745.out 3).trans rfl
           have hfz69_0 := blk_frozen BK745.out 0
           have hfz69_1 := blk_frozen BK745.out 1
           have hfz69_2 := blk_frozen BK745.out 2
           have hfz69_3 := blk_frozen BK745.out 3
           have hcz70_0 : wc.cell? ⟨gb750, 0, none⟩ = some (.bool t746) := (blk_cell BK750.out 0).trans rfl
           have hcz70_1 : wc.cell? ⟨gb750, 1, none⟩ = some (.int .i64 t747) := (blk_cell BK750.out 1).trans rfl
           have hcz70_2 : wc.cell? ⟨gb750, 2, none⟩ = some (.int .i64 t748) := (blk_cell BK750.out 2).trans rfl
           have hcz70_3 : wc.cell? ⟨gb750, 3, none⟩ = some (.int .u64 t749) := (blk_cell BK750.out 3).trans rfl
           have hfz70_0 := blk_frozen BK750.out 0
           have hfz70_1 := blk_frozen BK750.out 1
           have hfz70_2 := blk_frozen BK750.out 2
           have hfz70_3 := blk_frozen BK750.out 3
           go_wp2
           go_ret
           exact ⟨by first | rfl | (simp [errW_none, errW_some] <;> rfl) | (simp [*, errW_none, errW_some] <;> rfl), by repeat (first | (with_reducible first | exact HB.out | apply below_alloc | apply pw_below_drewN | apply below_drew1 | refine below_set ?_ GE745.out | refine below_set ?_ GE750.out) | exact HB.out)⟩
         ·replace c63 := Bool.eq_false_iff.mpr c63
          subst c63
          have H1 : ((trunnionref01_Of.f kj46 t744).bind fun t756 => ((trunnionref01_Shl.f kj46 t756 (wrap64 (t743 - (mn t743 t748)))).bind fun t759 => ((trunnionref01_Of.f kj46 t749).bind fun t762 => ((trunnionref01_Shl.f kj46 t762 (wrap64 (t748 - (mn t743 t748)))).bind fun t765 => ((trunnionref01_Cmp.f kj46 t759 t765).bind fun t768 => (if t741 = true then (some (wrap64 (-t768))) else (some t768))))))) = some r := by rw [if_neg (show ¬ (false = true) by decide)] at H; exact H
          clear H
          have H := H1
          clear H1
          obtain ⟨ji71, hji71⟩ : ∃ j_ : Int, (mn t743 t748) = j_ := ⟨_, rfl⟩
          replace H : ((trunnionref01_Of.f kj46 t744).bind fun t756 => ((trunnionref01_Shl.f kj46 t756 (wrap64 (t743 - (ji71)))).bind fun t759 => ((trunnionref01_Of.f kj46 t749).bind fun t762 => ((trunnionref01_Shl.f kj46 t762 (wrap64 (t748 - (ji71)))).bind fun t765 => ((trunnionref01_Cmp.f kj46 t759 t765).bind fun t768 => (if t741 = true then (some (wrap64 (-t768))) else (some t768))))))) = some r := by first | (rw [hji71] at H; exact H) | (simp only [hji71] at H ⊢; exact H)
          have hji71_ : (if t748 < t743 then t748 else t743) = ji71 := hji71
          replace H := Option.bind_eq_some_iff.mp H
          obtain ⟨t756, A720, H⟩ := H
          replace H : ((trunnionref01_Shl.f kj46 t756 (wrap64 (t743 - (ji71)))).bind fun t759 => ((trunnionref01_Of.f kj46 t749).bind fun t762 => ((trunnionref01_Shl.f kj46 t762 (wrap64 (t748 - (ji71)))).bind fun t765 => ((trunnionref01_Cmp.f kj46 t759 t765).bind fun t768 => (if t741 = true then (some (wrap64 (-t768))) else (some t768)))))) = some r := H
          have A72 := Aside0.mk A720
          clear A720
          replace H := Option.bind_eq_some_iff.mp H
          obtain ⟨t759, A730, H⟩ := H
          replace H : ((trunnionref01_Of.f kj46 t749).bind fun t762 => ((trunnionref01_Shl.f kj46 t762 (wrap64 (t748 - (ji71)))).bind fun t765 => ((trunnionref01_Cmp.f kj46 t759 t765).bind fun t768 => (if t741 = true then (some (wrap64 (-t768))) else (some t768))))) = some r := H
          have A73 := Aside0.mk A730
          clear A730
          replace H := Option.bind_eq_some_iff.mp H
          obtain ⟨t762, A740, H⟩ := H
          replace H : ((trunnionref01_Shl.f kj46 t762 (wrap64 (t748 - (ji71)))).bind fun t765 => ((trunnionref01_Cmp.f kj46 t759 t765).bind fun t768 => (if t741 = true then (some (wrap64 (-t768))) else (some t768)))) = some r := H
          have A74 := Aside0.mk A740
          clear A740
          replace H := Option.bind_eq_some_iff.mp H
          obtain ⟨t765, A750, H⟩ := H
          replace H : ((trunnionref01_Cmp.f kj46 t759 t765).bind fun t768 => (if t741 = true then (some (wrap64 (-t768))) else (some t768))) = some r := H
          have A75 := Aside0.mk A750
          clear A750
          replace H := Option.bind_eq_some_iff.mp H
          obtain ⟨t768, A760, H⟩ := H
          replace H : (if t741 = true then (some (wrap64 (-t768))) else (some t768)) = some r := H
          have A76 := Aside0.mk A760
          clear A760
          by_cases c77 : t741 = true
          ·subst c77
           have H1 : (some (wrap64 (-t768))) = some r := by rw [if_pos rfl] at H; exact H
           clear H
           have H := H1
           clear H1
           obtain rfl := Option.some.inj H
           have hnb78 := NB745_750.out
           have hnc78 := NB750_745.out
           have hcz79_0 : wc.cell? ⟨gb745, 0, none⟩ = some (.bool true) := (blk_cell BK745.out 0).trans rfl
           have hcz79_1 : wc.cell? ⟨gb745, 1, none⟩ = some (.int .i64 t742) := (blk_cell BK745.out 1).trans rfl
           have hcz79_2 : wc.cell? ⟨gb745, 2, none⟩ = some (.int .i64 t743) := (blk_cell BK745.out 2).trans rfl
           have hcz79_3 : wc.cell? ⟨gb745, 3, none⟩ = some (.int .u64 t744) := (blk_cell BK745.out 3).trans rfl
           have hfz79_0 := blk_frozen BK745.out 0
           have hfz79_1 := blk_frozen BK745.out 1
           have hfz79_2 := blk_frozen BK745.out 2
           have hfz79_3 := blk_frozen BK745.out 3
           have hcz80_0 : wc.cell? ⟨gb750, 0, none⟩ = some (.bool t746) := (blk_cell BK750.out 0).trans rfl
           have hcz80_1 : wc.cell? ⟨gb750, 1, none⟩ = some (.int .i64 t747) := (blk_cell BK750.out 1).trans rfl
           have hcz80_2 : wc.cell? ⟨gb750, 2, none⟩ = some (.int .i64 t748) := (blk_cell BK750.out 2).trans rfl
           have hcz80_3 : wc.cell? ⟨gb750, 3, none⟩ = some (.int .u64 t749) := (blk_cell BK750.out 3).trans rfl
           have hfz80_0 := blk_frozen BK750.out 0
           have hfz80_1 := blk_frozen BK750.out 1
           have hfz80_2 := blk_frozen BK750.out 2
           have hfz80_3 := blk_frozen BK750.out 3
           try go_wp2
           have n0_ := Aside0.mk (blk_drew BK745.out)
           have n1_ := Aside0.mk (blk_drew BK750.out)
           have n2_ := Aside0.mk (below_drew1 HB.out)
           clear BK745
           clear BK750
           clear HB
           have BK745 := n0_
           have BK750 := n1_
           have HB := n2_
           clear n0_ n1_ n2_
           refine start_ (n := 18) (S := fun w' => w'.cell? ⟨gb745, 0, none⟩ = some (.bool true) ∧ w'.cell? ⟨gb745, 1, none⟩ = some (.int .i64 t742) ∧ w'.cell? ⟨gb745, 2, none⟩ = some (.int .i64 t743) ∧ w'.cell? ⟨gb745, 3, none⟩ = some (.int .u64 t744) ∧ w'.cell? ⟨gb750, 0, none⟩ = some (.bool t746) ∧ w'.cell? ⟨gb750, 1, none⟩ = some (.int .i64 t747) ∧ w'.cell? ⟨gb750, 2, none⟩ = some (.int .i64 t748) ∧ w'.cell? ⟨gb750, 3, none⟩ = some (.int .u64 t749)) (ds := []) #[false, false, false, false, false, false, false, false, false, false, false, false, false, false, false, false, false, false] (by kernel_rfl) rfl rfl ⟨(blk_cell BK745.out 0).trans rfl, (blk_cell BK745.out 1).trans rfl, (blk_cell BK745.out 2).trans rfl, (blk_cell BK745.out 3).trans rfl, (blk_cell BK750.out 0).trans rfl, (blk_cell BK750.out 1).trans rfl, (blk_cell BK750.out 2).trans rfl, (blk_cell BK750.out 3).trans rfl⟩ (fun hHeld => ?_); refine with_tabW trunnionref08_Cmp.tab15 trunnionref08_Cmp.bits15 (fun HT_ HW_ => ?_)
           generalize wc.drew = w81 at BK745 BK750 HB hHeld ⊢
           refine pure_ (i := 0) (N := some 56) (v := ?_) (a' := ?_) #[true, false, false, false, false, false, false, false, false, false, false, false, false, false, false, false, false, false] rfl rfl (any_of HT_.out (by kernel_rfl)) (fun _ _ _ h => h) (Or.inl ⟨by rfl, ?_⟩) ?_ ?_
           rotate_left
           ·intro w'
            go_simp
            with_reducible rfl
           rotate_left
           ·simp only [Act.put, List.setIfInBounds_toArray, List.set_cons_zero, List.set_cons_succ, i64_w, i32_w]
            rfl
           refine pure_ (i := 3) (N := some 59) (v := ?_) (a' := ?_) #[true, false, false, true, false, false, false, false, false, false, false, false, false, false, false, false, false, false] rfl rfl (any_of HT_.out (by kernel_rfl)) (fun _ _ _ h => h) (Or.inl ⟨by rfl, ?_⟩) ?_ ?_
           rotate_left
           ·intro w'
            go_simp
            with_reducible rfl
           rotate_left
           ·simp only [Act.put, List.setIfInBounds_toArray, List.set_cons_zero, List.set_cons_succ, i64_w, i32_w]
            rfl
           refine pure_ (i := 5) (N := some 61) (v := ?_) (a' := ?_) #[true, false, false, true, false, true, false, false, false, false, false, false, false, false, false, false, false, false] rfl rfl (any_of HT_.out (by kernel_rfl)) (fun _ _ _ h => h) (Or.inl ⟨by rfl, ?_⟩) ?_ ?_
           rotate_left
           ·intro w'
            go_simp
            with_reducible rfl
           rotate_left
           ·simp only [Act.put, List.setIfInBounds_toArray, List.set_cons_zero, List.set_cons_succ, i64_w, i32_w]
            rfl
           refine pure_ (i := 8) (N := some 64) (v := ?_) (a' := ?_) #[true, false, false, true, false, true, false, false, true, false, false, false, false, false, false, false, false, false] rfl rfl (any_of HT_.out (by kernel_rfl)) (fun _ _ _ h => h) (Or.inl ⟨by rfl, ?_⟩) ?_ ?_
           rotate_left
           ·intro w'
            go_simp
            with_reducible rfl
           rotate_left
           ·simp only [Act.put, List.setIfInBounds_toArray, List.set_cons_zero, List.set_cons_succ, i64_w, i32_w]
            rfl
           refine pure_ (i := 11) (N := some 67) (v := ?_) (a' := ?_) #[true, false, false, true, false, true, false, false, true, false, false, true, false, false, false, false, false, false] rfl rfl (any_of HT_.out (by kernel_rfl)) (fun _ _ _ h => h) (Or.inl ⟨by rfl, ?_⟩) ?_ ?_
           rotate_left
           ·intro w'
            go_simp
            with_reducible rfl
           rotate_left
           ·simp only [Act.put, List.setIfInBounds_toArray, List.set_cons_zero, List.set_cons_succ, i64_w, i32_w]
            rfl
           refine pure_ (i := 13) (N := some 69) (v := ?_) (a' := ?_) #[true, false, false, true, false, true, false, false, true, false, false, true, false, true, false, false, false, false] rfl rfl (any_of HT_.out (by kernel_rfl)) (fun _ _ _ h => h) (Or.inl ⟨by rfl, ?_⟩) ?_ ?_
           rotate_left
           ·intro w'
            go_simp
            with_reducible rfl
           rotate_left
           ·simp only [Act.put, List.setIfInBounds_toArray, List.set_cons_zero, List.set_cons_succ, i64_w, i32_w]
            rfl
           refine take_ (i := 1) (N := some 57) (v := ?_) (a' := ?_) #[true, true, false, true, false, true, false, false, true, false, false, true, false, true, false, false, false, false] rfl rfl (take_ofW HT_.out HW_.out (by kernel_rfl)) (fun _ _ _ h => h) (Or.inl ⟨by rfl, ?_⟩) hHeld ?_ ?_
           rotate_left
           ·rintro w' ⟨s0, s1, s2, s3, s4, s5, s6, s7⟩
            go_simp
            with_reducible rfl
           rotate_left
           ·simp only [Act.put, List.setIfInBounds_toArray, List.set_cons_zero, List.set_cons_succ, i64_w, i32_w]
            rfl
           refine take_ (i := 4) (N := some 60) (v := ?_) (a' := ?_) #[true, true, false, true, true, true, false, false, true, false, false, true, false, true, false, false, false, false] rfl rfl (take_ofW HT_.out HW_.out (by kernel_rfl)) (fun _ _ _ h => h) (Or.inl ⟨by rfl, ?_⟩) hHeld ?_ ?_
           rotate_left
           ·rintro w' ⟨s0, s1, s2, s3, s4, s5, s6, s7⟩
            go_simp
            with_reducible rfl
           rotate_left
           ·simp only [Act.put, List.setIfInBounds_toArray, List.set_cons_zero, List.set_cons_succ, i64_w, i32_w]
            rfl
           refine pure_ (i := 6) (N := some 62) (v := ?_) (a' := ?_) #[true, true, false, true, true, true, true, false, true, false, false, true, false, true, false, false, false, false] rfl rfl (any_of HT_.out (by kernel_rfl)) (fun _ _ _ h => h) (Or.inl ⟨by rfl, ?_⟩) ?_ ?_
           rotate_left
           ·intro w'
            go_simp
            with_reducible rfl
           rotate_left
           ·simp only [Act.put, List.setIfInBounds_toArray, List.set_cons_zero, List.set_cons_succ, i64_w, i32_w]
            rfl
           refine take_ (i := 9) (N := some 65) (v := ?_) (a' := ?_) #[true, true, false, true, true, true, true, false, true, true, false, true, false, true, false, false, false, false] rfl rfl (take_ofW HT_.out HW_.out (by kernel_rfl)) (fun _ _ _ h => h) (Or.inl ⟨by rfl, ?_⟩) hHeld ?_ ?_
           rotate_left
           ·rintro w' ⟨s0, s1, s2, s3, s4, s5, s6, s7⟩
            go_simp
            with_reducible rfl
           rotate_left
           ·simp only [Act.put, List.setIfInBounds_toArray, List.set_cons_zero, List.set_cons_succ, i64_w, i32_w]
            rfl
           refine take_ (i := 12) (N := some 68) (v := ?_) (a' := ?_) #[true, true, false, true, true, true, true, false, true, true, false, true, true, true, false, false, false, false] rfl rfl (take_ofW HT_.out HW_.out (by kernel_rfl)) (fun _ _ _ h => h) (Or.inl ⟨by rfl, ?_⟩) hHeld ?_ ?_
           rotate_left
           ·rintro w' ⟨s0, s1, s2, s3, s4, s5, s6, s7⟩
            go_simp
            with_reducible rfl
           rotate_left
           ·simp only [Act.put, List.setIfInBounds_toArray, List.set_cons_zero, List.set_cons_succ, i64_w, i32_w]
            rfl
           refine pure_ (i := 14) (N := some 70) (v := ?_) (a' := ?_) #[true, true, false, true, true, true, true, false, true, true, false, true, true, true, true, false, false, false] rfl rfl (any_of HT_.out (by kernel_rfl)) (fun _ _ _ h => h) (Or.inl ⟨by rfl, ?_⟩) ?_ ?_
           rotate_left
           ·intro w'
            go_simp
            with_reducible rfl
           rotate_left
           ·simp only [Act.put, List.setIfInBounds_toArray, List.set_cons_zero, List.set_cons_succ, i64_w, i32_w]
            rfl
           refine one_ (i := 2) (N := some 58) #[true, true, true, true, true, true, true, false, true, true, false, true, true, true, true, false, false, false] rfl rfl (one_of HT_.out (by kernel_rfl)) (by decide) (fun K hK => ?_)
           refine goes_ Try.func88 (by kernel_rfl) rfl #[.int .u64 t744] (by rfl) rfl rfl (by (try simp only [List.map_toArray, List.map_cons, List.map_nil]); first | done | rfl | (simp only [List.length_drop, List.length_take]; rfl)) ?_
           with_reducible refine (trunnionref01_Of.calls kj46 t744 t756 _ A72.out).mono ?_
           rintro e w82 ⟨v757, rfl, ho0, hb⟩
           refine ⟨_, rfl, ?_⟩
           have n0_ := Aside0.mk (Kd.R_lower ho0 (below_size (by repeat (first | (with_reducible first | exact HB.out | apply below_alloc | apply pw_below_drewN | apply below_drew1 | refine below_set ?_ GE745.out | refine below_set ?_ GE750.out) | exact HB.out))))
           have n1_ := Aside0.mk (blk_below (g := gb745) (o := .cells #[.bool true, .int .i64 t742, .int .i64 t743, .int .u64 t744] 36 (0, 0)) (by (with_reducible repeat (first | refine blk_drewN ?_ _ | refine blk_drew ?_ | refine blk_alloc ?_ _)); exact BK745.out) hb)
           have n2_ := Aside0.mk (blk_below (g := gb750) (o := .cells #[.bool t746, .int .i64 t747, .int .i64 t748, .int .u64 t749] 36 (0, 0)) (by (with_reducible repeat (first | refine blk_drewN ?_ _ | refine blk_drew ?_ | refine blk_alloc ?_ _)); exact BK750.out) hb)
           have n3_ := Aside0.mk (below_step (by repeat (first | (with_reducible first | exact HB.out | apply below_alloc | apply pw_below_drewN | apply below_drew1 | refine below_set ?_ GE745.out | refine below_set ?_ GE750.out) | exact HB.out)) hb)
           clear BK745
           clear BK750
           clear HB
           have HO758 := n0_
           have BK745 := n1_
           have BK750 := n2_
           have HB := n3_
           clear n0_ n1_ n2_ n3_
           (try clear hb)
           (try clear hb2)
           (try clear hk)
           (try clear hi)
           (try clear ho0)
           obtain ⟨Ao83, co83, eo83⟩ := Kd.R_slice HO758.out
           (first | subst eo83 | (injection eo83 with f1_ f2_ f3_; have f4_ := f1_.symm; have f5_ := f3_.symm; clear f1_ f2_ f3_; subst f4_; subst f5_))
           refine hK.out _ _ ⟨(blk_cell BK745.out 0).trans rfl, (blk_cell BK745.out 1).trans rfl, (blk_cell BK745.out 2).trans rfl, (blk_cell BK745.out 3).trans rfl, (blk_cell BK750.out 0).trans rfl, (blk_cell BK750.out 1).trans rfl, (blk_cell BK750.out 2).trans rfl, (blk_cell BK750.out 3).trans rfl⟩ (fun hHeld => ?_)
           clear hK K
           refine norm_ (a' := ?_) ?_ ?_
           rotate_left
           ·show Act.put _ (some 58) _ = _
            simp only [Act.put, List.setIfInBounds_toArray, List.set_cons_zero, List.set_cons_succ, i64_w, i32_w]
            rfl
           refine one_ (i := 7) (N := some 63) #[true, true, true, true, true, true, true, true, true, true, false, true, true, true, true, false, false, false] rfl rfl (one_of HT_.out (by kernel_rfl)) (by decide) (fun K hK => ?_)
           refine goes_ Try.func82 (by kernel_rfl) rfl #[.agg #[.slice Ao83 t756.length co83], .int .i64 (wrap64 (t743 - (ji71)))] (by rfl) rfl rfl (by (try simp only [List.map_toArray, List.map_cons, List.map_nil]); first | done | (simp only [hji71]; rfl) | rfl | (simp only [List.length_drop, List.length_take]; rfl)) ?_
           with_reducible refine (trunnionref01_Shl.calls kj46 _ _ t756 (wrap64 (t743 - (ji71))) t759 _ ?side1 ?side2 A73.out).mono ?_
           (case side1 => repeat (first | exact (Kd.R_reads' HO758.out).2.2 | (with_reducible refine Kd.C_alloc ?_ _) | (with_reducible refine Kd.C_drewN ?_ _) | (with_reducible refine Kd.C_drew ?_)))
           (case side2 => exact (Kd.R_reads' HO758.out).2.1)
           rintro e w84 ⟨v760, rfl, ho0, hb⟩
           refine ⟨_, rfl, ?_⟩
           have n0_ := Aside0.mk (Kd.R_elder' (by (with_reducible repeat (first | apply Kd.R_alloc | apply Kd.R_drewN | apply Kd.R_drew)); exact HO758.out) (Kd.R_base ho0) hb)
           have n1_ := Aside0.mk (Kd.R_lower (Kd.R_new' ho0 (Kd.R_lt (by (with_reducible repeat (first | apply Kd.R_alloc | apply Kd.R_drewN | apply Kd.R_drew)); exact HO758.out))) (below_size (by repeat (first | (with_reducible first | exact HB.out | apply below_alloc | apply pw_below_drewN | apply below_drew1 | refine below_set ?_ GE745.out | refine below_set ?_ GE750.out) | exact HB.out))))
           have n2_ := Aside0.mk (blk_below (g := gb745) (o := .cells #[.bool true, .int .i64 t742, .int .i64 t743, .int .u64 t744] 36 (0, 0)) (by (with_reducible repeat (first | refine blk_drewN ?_ _ | refine blk_drew ?_ | refine blk_alloc ?_ _)); exact BK745.out) hb)
           have n3_ := Aside0.mk (blk_below (g := gb750) (o := .cells #[.bool t746, .int .i64 t747, .int .i64 t748, .int .u64 t749] 36 (0, 0)) (by (with_reducible repeat (first | refine blk_drewN ?_ _ | refine blk_drew ?_ | refine blk_alloc ?_ _)); exact BK750.out) hb)
           have n4_ := Aside0.mk (below_step (by repeat (first | (with_reducible first | exact HB.out | apply below_alloc | apply pw_below_drewN | apply below_drew1 | refine below_set ?_ GE745.out | refine below_set ?_ GE750.out) | exact HB.out)) hb)
           clear HO758
           clear BK745
           clear BK750
           clear HB
           have HO758 := n0_
           have HO761 := n1_
           have BK745 := n2_
           have BK750 := n3_
           have HB := n4_
           clear n0_ n1_ n2_ n3_ n4_
           (try clear hb)
           (try clear hb2)
           (try clear hk)
           (try clear hi)
           (try clear ho0)
           refine hK.out _ _ ⟨(blk_cell BK745.out 0).trans rfl, (blk_cell BK745.out 1).trans rfl, (blk_cell BK745.out 2).trans rfl, (blk_cell BK745.out 3).trans rfl, (blk_cell BK750.out 0).trans rfl, (blk_cell BK750.out 1).trans rfl, (blk_cell BK750.out 2).trans rfl, (blk_cell BK750.out 3).trans rfl⟩ (fun hHeld => ?_)
           clear hK K
           refine norm_ (a' := ?_) ?_ ?_
           rotate_left
           ·show Act.put _ (some 63) _ = _
            simp only [Act.put, List.setIfInBounds_toArray, List.set_cons_zero, List.set_cons_succ, i64_w, i32_w]
            rfl
           refine one_ (i := 10) (N := some 66) #[true, true, true, true, true, true, true, true, true, true, true, true, true, true, true, false, false, false] rfl rfl (one_of HT_.out (by kernel_rfl)) (by decide) (fun K hK => ?_)
           refine goes_ Try.func88 (by kernel_rfl) rfl #[.int .u64 t749] (by rfl) rfl rfl (by (try simp only [List.map_toArray, List.map_cons, List.map_nil]); first | done | rfl | (simp only [List.length_drop, List.length_take]; rfl)) ?_
           with_reducible refine (trunnionref01_Of.calls kj46 t749 t762 _ A74.out).mono ?_
           rintro e w85 ⟨v763, rfl, ho0, hb⟩
           refine ⟨_, rfl, ?_⟩
           have n0_ := Aside0.mk (Kd.R_elder' (by (with_reducible repeat (first | apply Kd.R_alloc | apply Kd.R_drewN | apply Kd.R_drew)); exact HO758.out) (Kd.R_base ho0) hb)
           have n1_ := Aside0.mk (Kd.R_elder' (by (with_reducible repeat (first | apply Kd.R_alloc | apply Kd.R_drewN | apply Kd.R_drew)); exact HO761.out) (Kd.R_base ho0) hb)
           have n2_ := Aside0.mk (Kd.R_lower (Kd.R_new' (Kd.R_new' ho0 (Kd.R_lt (by (with_reducible repeat (first | apply Kd.R_alloc | apply Kd.R_drewN | apply Kd.R_drew)); exact HO758.out))) (Kd.R_lt (by (with_reducible repeat (first | apply Kd.R_alloc | apply Kd.R_drewN | apply Kd.R_drew)); exact HO761.out))) (below_size (by repeat (first | (with_reducible first | exact HB.out | apply below_alloc | apply pw_below_drewN | apply below_drew1 | refine below_set ?_ GE745.out | refine below_set ?_ GE750.out) | exact HB.out))))
           have n3_ := Aside0.mk (blk_below (g := gb745) (o := .cells #[.bool true, .int .i64 t742, .int .i64 t743, .int .u64 t744] 36 (0, 0)) (by (with_reducible repeat (first | refine blk_drewN ?_ _ | refine blk_drew ?_ | refine blk_alloc ?_ _)); exact BK745.out) hb)
           have n4_ := Aside0.mk (blk_below (g := gb750) (o := .cells #[.bool t746, .int .i64 t747, .int .i64 t748, .int .u64 t749] 36 (0, 0)) (by (with_reducible repeat (first | refine blk_drewN ?_ _ | refine blk_drew ?_ | refine blk_alloc ?_ _)); exact BK750.out) hb)
           have n5_ := Aside0.mk (below_step (by repeat (first | (with_reducible first | exact HB.out | apply below_alloc | apply pw_below_drewN | apply below_drew1 | refine below_set ?_ GE745.out | refine below_set ?_ GE750.out) | exact HB.out)) hb)
           clear HO758
           clear HO761
           clear BK745
           clear BK750
           clear HB
           have HO758 := n0_
           have HO761 := n1_
           have HO764 := n2_
           have BK745 := n3_
           have BK750 := n4_
           have HB := n5_
           clear n0_ n1_ n2_ n3_ n4_ n5_
           (try clear hb)
           (try clear hb2)
           (try clear hk)
           (try clear hi)
           (try clear ho0)
           obtain ⟨Ao86, co86, eo86⟩ := Kd.R_slice HO764.out
           (first | subst eo86 | (injection eo86 with f1_ f2_ f3_; have f4_ := f1_.symm; have f5_ := f3_.symm; clear f1_ f2_ f3_; subst f4_; subst f5_))
           refine hK.out _ _ ⟨(blk_cell BK745.out 0).trans rfl, (blk_cell BK745.out 1).trans rfl, (blk_cell BK745.out 2).trans rfl, (blk_cell BK745.out 3).trans rfl, (blk_cell BK750.out 0).trans rfl, (blk_cell BK750.out 1).trans rfl, (blk_cell BK750.out 2).trans rfl, (blk_cell BK750.out 3).trans rfl⟩ (fun hHeld => ?_)
           clear hK K
           refine norm_ (a' := ?_) ?_ ?_
           rotate_left
           ·show Act.put _ (some 66) _ = _
            simp only [Act.put, List.setIfInBounds_toArray, List.set_cons_zero, List.set_cons_succ, i64_w, i32_w]
            rfl
           refine one_ (i := 15) (N := some 71) #[true, true, true, true, true, true, true, true, true, true, true, true, true, true, true, true, false, false] rfl rfl (one_of HT_.out (by kernel_rfl)) (by decide) (fun K hK => ?_)
           refine goes_ Try.func82 (by kernel_rfl) rfl #[.agg #[.slice Ao86 t762.length co86], .int .i64 (wrap64 (t748 - (ji71)))] (by rfl) rfl rfl (by (try simp only [List.map_toArray, List.map_cons, List.map_nil]); first | done | (simp only [hji71]; rfl) | rfl | (simp only [List.length_drop, List.length_take]; rfl)) ?_
           with_reducible refine (trunnionref01_Shl.calls kj46 _ _ t762 (wrap64 (t748 - (ji71))) t765 _ ?side1 ?side2 A75.out).mono ?_
           (case side1 => repeat (first | exact (Kd.R_reads' HO764.out).2.2 | (with_reducible refine Kd.C_alloc ?_ _) | (with_reducible refine Kd.C_drewN ?_ _) | (with_reducible refine Kd.C_drew ?_)))
           (case side2 => exact (Kd.R_reads' HO764.out).2.1)
           rintro e w87 ⟨v766, rfl, ho0, hb⟩
           refine ⟨_, rfl, ?_⟩
           have n0_ := Aside0.mk (Kd.R_elder' (by (with_reducible repeat (first | apply Kd.R_alloc | apply Kd.R_drewN | apply Kd.R_drew)); exact HO758.out) (Kd.R_base ho0) hb)
           have n1_ := Aside0.mk (Kd.R_elder' (by (with_reducible repeat (first | apply Kd.R_alloc | apply Kd.R_drewN | apply Kd.R_drew)); exact HO761.out) (Kd.R_base ho0) hb)
           have n2_ := Aside0.mk (Kd.R_elder' (by (with_reducible repeat (first | apply Kd.R_alloc | apply Kd.R_drewN | apply Kd.R_drew)); exact HO764.out) (Kd.R_base ho0) hb)
           have n3_ := Aside0.mk (Kd.R_lower (Kd.R_new' (Kd.R_new' (Kd.R_new' ho0 (Kd.R_lt (by (with_reducible repeat (first | apply Kd.R_alloc | apply Kd.R_drewN | apply Kd.R_drew)); exact HO758.out))) (Kd.R_lt (by (with_reducible repeat (first | apply Kd.R_alloc | apply Kd.R_drewN | apply Kd.R_drew)); exact HO761.out))) (Kd.R_lt (by (with_reducible repeat (first | apply Kd.R_alloc | apply Kd.R_drewN | apply Kd.R_drew)); exact HO764.out))) (below_size (by repeat (first | (with_reducible first | exact HB.out | apply below_alloc | apply pw_below_drewN | apply below_drew1 | refine below_set ?_ GE745.out | refine below_set ?_ GE750.out) | exact HB.out))))
           have n4_ := Aside0.mk (blk_below (g := gb745) (o := .cells #[.bool true, .int .i64 t742, .int .i64 t743, .int .u64 t744] 36 (0, 0)) (by (with_reducible repeat (first | refine blk_drewN ?_ _ | refine blk_drew ?_ | refine blk_alloc ?_ _)); exact BK745.out) hb)
           have n5_ := Aside0.mk (blk_below (g := gb750) (o := .cells #[.bool t746, .int .i64 t747, .int .i64 t748, .int .u64 t749] 36 (0, 0)) (by (with_reducible repeat (first | refine blk_drewN ?_ _ | refine blk_drew ?_ | refine blk_alloc ?_ _)); exact BK750.out) hb)
           have n6_ := Aside0.mk (below_step (by repeat (first | (with_reducible first | exact HB.out | apply below_alloc | apply pw_below_drewN | apply below_drew1 | refine below_set ?_ GE745.out | refine below_set ?_ GE750.out) | exact HB.out)) hb)
           clear HO758
           clear HO761
           clear HO764
           clear BK745
           clear BK750
           clear HB
           have HO758 := n0_
           have HO761 := n1_
           have HO764 := n2_
           have HO767 := n3_
           have BK745 := n4_
           have BK750 := n5_
           have HB := n6_
           clear n0_ n1_ n2_ n3_ n4_ n5_ n6_
           (try clear hb)
           (try clear hb2)
           (try clear hk)
           (try clear hi)
           (try clear ho0)
           obtain ⟨Ao88, co88, eo88⟩ := Kd.R_slice HO761.out
           (first | subst eo88 | (injection eo88 with f1_ f2_ f3_; have f4_ := f1_.symm; have f5_ := f3_.symm; clear f1_ f2_ f3_; subst f4_; subst f5_))
           obtain ⟨Ao89, co89, eo89⟩ := Kd.R_slice HO767.out
           (first | subst eo89 | (injection eo89 with f1_ f2_ f3_; have f4_ := f1_.symm; have f5_ := f3_.symm; clear f1_ f2_ f3_; subst f4_; subst f5_))
           refine hK.out _ _ ⟨(blk_cell BK745.out 0).trans rfl, (blk_cell BK745.out 1).trans rfl, (blk_cell BK745.out 2).trans rfl, (blk_cell BK745.out 3).trans rfl, (blk_cell BK750.out 0).trans rfl, (blk_cell BK750.out 1).trans rfl, (blk_cell BK750.out 2).trans rfl, (blk_cell BK750.out 3).trans rfl⟩ (fun hHeld => ?_)
           clear hK K
           refine norm_ (a' := ?_) ?_ ?_
           rotate_left
           ·show Act.put _ (some 71) _ = _
            simp only [Act.put, List.setIfInBounds_toArray, List.set_cons_zero, List.set_cons_succ, i64_w, i32_w]
            rfl
           refine one_ (i := 16) (N := some 72) #[true, true, true, true, true, true, true, true, true, true, true, true, true, true, true, true, true, false] rfl rfl (one_of HT_.out (by kernel_rfl)) (by decide) (fun K hK => ?_)
           refine goes_ Try.func57 (by kernel_rfl) rfl #[.agg #[.slice Ao88 t759.length co88], .agg #[.slice Ao89 t765.length co89]] (by rfl) rfl rfl (by (try simp only [List.map_toArray, List.map_cons, List.map_nil]); first | done | rfl | (simp only [List.length_drop, List.length_take]; rfl)) ?_
           with_reducible refine (trunnionref01_Cmp.calls kj46 _ _ t759 _ _ t765 t768 _ ?side1 ?side2 ?side3 ?side4 A76.out).mono ?_
           (case side1 => repeat (first | exact (Kd.R_reads' HO761.out).2.2 | (with_reducible refine Kd.C_alloc ?_ _) | (with_reducible refine Kd.C_drewN ?_ _) | (with_reducible refine Kd.C_drew ?_)))
           (case side2 => exact (Kd.R_reads' HO761.out).2.1)
           (case side3 => repeat (first | exact (Kd.R_reads' HO767.out).2.2 | (with_reducible refine Kd.C_alloc ?_ _) | (with_reducible refine Kd.C_drewN ?_ _) | (with_reducible refine Kd.C_drew ?_)))
           (case side4 => exact (Kd.R_reads' HO767.out).2.1)
           rintro e w90 ⟨rfl, hb⟩
           refine ⟨_, rfl, ?_⟩
           have n0_ := Aside0.mk (Kd.R_below (by (with_reducible repeat (first | apply Kd.R_alloc | apply Kd.R_drewN | apply Kd.R_drew)); exact HO758.out) hb)
           have n1_ := Aside0.mk (Kd.R_below (by (with_reducible repeat (first | apply Kd.R_alloc | apply Kd.R_drewN | apply Kd.R_drew)); exact HO761.out) hb)
           have n2_ := Aside0.mk (Kd.R_below (by (with_reducible repeat (first | apply Kd.R_alloc | apply Kd.R_drewN | apply Kd.R_drew)); exact HO764.out) hb)
           have n3_ := Aside0.mk (Kd.R_below (by (with_reducible repeat (first | apply Kd.R_alloc | apply Kd.R_drewN | apply Kd.R_drew)); exact HO767.out) hb)
           have n4_ := Aside0.mk (blk_below (g := gb745) (o := .cells #[.bool true, .int .i64 t742, .int .i64 t743, .int .u64 t744] 36 (0, 0)) (by (with_reducible repeat (first | refine blk_drewN ?_ _ | refine blk_drew ?_ | refine blk_alloc ?_ _)); exact BK745.out) hb)
           have n5_ := Aside0.mk (blk_below (g := gb750) (o := .cells #[.bool t746, .int .i64 t747, .int .i64 t748, .int .u64 t749] 36 (0, 0)) (by (with_reducible repeat (first | refine blk_drewN ?_ _ | refine blk_drew ?_ | refine blk_alloc ?_ _)); exact BK750.out) hb)
           have n6_ := Aside0.mk (below_step (by repeat (first | (with_reducible first | exact HB.out | apply below_alloc | apply pw_below_drewN | apply below_drew1 | refine below_set ?_ GE745.out | refine below_set ?_ GE750.out) | exact HB.out)) hb)
           clear HO758
           clear HO761
           clear HO764
           clear HO767
           clear BK745
           clear BK750
           clear HB
           have HO758 := n0_
           have HO761 := n1_
           have HO764 := n2_
           have HO767 := n3_
           have BK745 := n4_
           have BK750 := n5_
           have HB := n6_
           clear n0_ n1_ n2_ n3_ n4_ n5_ n6_
           (try clear hb)
           (try clear hb2)
           (try clear hk)
           (try clear hi)
           refine hK.out _ _ ⟨(blk_cell BK745.out 0).trans rfl, (blk_cell BK745.out 1).trans rfl, (blk_cell BK745.out 2).trans rfl, (blk_cell BK745.out 3).trans rfl, (blk_cell BK750.out 0).trans rfl, (blk_cell BK750.out 1).trans rfl, (blk_cell BK750.out 2).trans rfl, (blk_cell BK750.out 3).trans rfl⟩ (fun hHeld => ?_)
           clear hK K
           refine norm_ (a' := ?_) ?_ ?_
           rotate_left
           ·show Act.put _ (some 72) _ = _
            simp only [Act.put, List.setIfInBounds_toArray, List.set_cons_zero, List.set_cons_succ, i64_w, i32_w]
            rfl
           refine pure_ (i := 17) (N := some 9) (v := ?_) (a' := ?_) #[true, true, true, true, true, true, true, true, true, true, true, true, true, true, true, true, true, true] rfl rfl (any_of HT_.out (by kernel_rfl)) (fun _ _ _ h => h) (Or.inl ⟨by rfl, ?_⟩) ?_ ?_
           rotate_left
           ·intro w'
            go_simp
            with_reducible rfl
           rotate_left
           ·simp only [Act.put, List.setIfInBounds_toArray, List.set_cons_zero, List.set_cons_succ, i64_w, i32_w]
            rfl
           refine done_ (done_of HT_.out (by kernel_rfl)) ?_
           have hcz91_0 : w90.cell? ⟨gb745, 0, none⟩ = some (.bool true) := (blk_cell BK745.out 0).trans rfl
           have hcz91_1 : w90.cell? ⟨gb745, 1, none⟩ = some (.int .i64 t742) := (blk_cell BK745.out 1).trans rfl
           have hcz91_2 : w90.cell? ⟨gb745, 2, none⟩ = some (.int .i64 t743) := (blk_cell BK745.out 2).trans rfl
           have hcz91_3 : w90.cell? ⟨gb745, 3, none⟩ = some (.int .u64 t744) := (blk_cell BK745.out 3).trans rfl
           have hfz91_0 := blk_frozen BK745.out 0
           have hfz91_1 := blk_frozen BK745.out 1
           have hfz91_2 := blk_frozen BK745.out 2
           have hfz91_3 := blk_frozen BK745.out 3
           try go_wp2
           go_ret
           exact ⟨by first | rfl | (simp [errW_none, errW_some] <;> rfl) | (simp only [← hji71]; first | rfl | (simp [errW_none, errW_some] <;> rfl)) | (simp [*, errW_none, errW_some] <;> rfl), by repeat (first | (with_reducible first | exact HB.out | apply below_alloc | apply pw_below_drewN | apply below_drew1 | refine below_set ?_ GE745.out | refine below_set ?_ GE750.out) | exact HB.out)⟩
          ·replace c77 := Bool.eq_false_iff.mpr c77
           subst c77
           have H1 : (some t768) = some r := by rw [if_neg (show ¬ (false = true) by decide)] at H; exact H
           clear H
           have H := H1
           clear H1
           obtain rfl := Option.some.inj H
           have hnb92 := NB745_750.out
           have hnc92 := NB750_745.out
           have hcz93_0 : wc.cell? ⟨gb745, 0, none⟩ = some (.bool false) := (blk_cell BK745.out 0).trans rfl
           have hcz93_1 : wc.cell? ⟨gb745, 1, none⟩ = some (.int .i64 t742) := (blk_cell BK745.out 1).trans rfl
           have hcz93_2 : wc.cell? ⟨gb745, 2, none⟩ = some (.int .i64 t743) := (blk_cell BK745.out 2).trans rfl
           have hcz93_3 : wc.cell? ⟨gb745, 3, none⟩ = some (.int .u64 t744) := (blk_cell BK745.out 3).trans rfl
           have hfz93_0 := blk_frozen BK745.out 0
           have hfz93_1 := blk_frozen BK745.out 1
           have hfz93_2 := blk_frozen BK745.out 2
           have hfz93_3 := blk_frozen BK745.out 3
           have hcz94_0 : wc.cell? ⟨gb750, 0, none⟩ = some (.bool t746) := (blk_cell BK750.out 0).trans rfl
           have hcz94_1 : wc.cell? ⟨gb750, 1, none⟩ = some (.int .i64 t747) := (blk_cell BK750.out 1).trans rfl
           have hcz94_2 : wc.cell? ⟨gb750, 2, none⟩ = some (.int .i64 t748) := (blk_cell BK750.out 2).trans rfl
           have hcz94_3 : wc.cell? ⟨gb750, 3, none⟩ = some (.int .u64 t749) := (blk_cell BK750.out 3).trans rfl
           have hfz94_0 := blk_frozen BK750.out 0
           have hfz94_1 := blk_frozen BK750.out 1
           have hfz94_2 := blk_frozen BK750.out 2
           have hfz94_3 := blk_frozen BK750.out 3
           try go_wp2
           have n0_ := Aside0.mk (blk_drew BK745.out)
           have n1_ := Aside0.mk (blk_drew BK750.out)
           have n2_ := Aside0.mk (below_drew1 HB.out)
           clear BK745
           clear BK750
           clear HB
           have BK745 := n0_
           have BK750 := n1_
           have HB := n2_
           clear n0_ n1_ n2_
           refine start_ (n := 18) (S := fun w' => w'.cell? ⟨gb745, 0, none⟩ = some (.bool false) ∧ w'.cell? ⟨gb745, 1, none⟩ = some (.int .i64 t742) ∧ w'.cell? ⟨gb745, 2, none⟩ = some (.int .i64 t743) ∧ w'.cell? ⟨gb745, 3, none⟩ = some (.int .u64 t744) ∧ w'.cell? ⟨gb750, 0, none⟩ = some (.bool t746) ∧ w'.cell? ⟨gb750, 1, none⟩ = some (.int .i64 t747) ∧ w'.cell? ⟨gb750, 2, none⟩ = some (.int .i64 t748) ∧ w'.cell? ⟨gb750, 3, none⟩ = some (.int .u64 t749)) (ds := []) #[false, false, false, false, false, false, false, false, false, false, false, false, false, false, false, false, false, false] (by kernel_rfl) rfl rfl ⟨(blk_cell BK745.out 0).trans rfl, (blk_cell BK745.out 1).trans rfl, (blk_cell BK745.out 2).trans rfl, (blk_cell BK745.out 3).trans rfl, (blk_cell BK750.out 0).trans rfl, (blk_cell BK750.out 1).trans rfl, (blk_cell BK750.out 2).trans rfl, (blk_cell BK750.out 3).trans rfl⟩ (fun hHeld => ?_); refine with_tabW trunnionref08_Cmp.tab15 trunnionref08_Cmp.bits15 (fun HT_ HW_ => ?_)
           generalize wc.drew = w95 at BK745 BK750 HB hHeld ⊢
           refine pure_ (i := 0) (N := some 56) (v := ?_) (a' := ?_) #[true, false, false, false, false, false, false, false, false, false, false, false, false, false, false, false, false, false] rfl rfl (any_of HT_.out (by kernel_rfl)) (fun _ _ _ h => h) (Or.inl ⟨by rfl, ?_⟩) ?_ ?_
           rotate_left
           ·intro w'
            go_simp
            with_reducible rfl
           rotate_left
           ·simp only [Act.put, List.setIfInBounds_toArray, List.set_cons_zero, List.set_cons_succ, i64_w, i32_w]
            rfl
           refine pure_ (i := 3) (N := some 59) (v := ?_) (a' := ?_) #[true, false, false, true, false, false, false, false, false, false, false, false, false, false, false, false, false, false] rfl rfl (any_of HT_.out (by kernel_rfl)) (fun _ _ _ h => h) (Or.inl ⟨by rfl, ?_⟩) ?_ ?_
           rotate_left
           ·intro w'
            go_simp
            with_reducible rfl
           rotate_left
           ·simp only [Act.put, List.setIfInBounds_toArray, List.set_cons_zero, List.set_cons_succ, i64_w, i32_w]
            rfl
           refine pure_ (i := 5) (N := some 61) (v := ?_) (a' := ?_) #[true, false, false, true, false, true, false, false, false, false, false, false, false, false, false, false, false, false] rfl rfl (any_of HT_.out (by kernel_rfl)) (fun _ _ _ h => h) (Or.inl ⟨by rfl, ?_⟩) ?_ ?_
           rotate_left
           ·intro w'
            go_simp
            with_reducible rfl
           rotate_left
           ·simp only [Act.put, List.setIfInBounds_toArray, List.set_cons_zero, List.set_cons_succ, i64_w, i32_w]
            rfl
           refine pure_ (i := 8) (N := some 64) (v := ?_) (a' := ?_) #[true, false, false, true, false, true, false, false, true, false, false, false, false, false, false, false, false, false] rfl rfl (any_of HT_.out (by kernel_rfl)) (fun _ _ _ h => h) (Or.inl ⟨by rfl, ?_⟩) ?_ ?_
           rotate_left
           ·intro w'
            go_simp
            with_reducible rfl
           rotate_left
           ·simp only [Act.put, List.setIfInBounds_toArray, List.set_cons_zero, List.set_cons_succ, i64_w, i32_w]
            rfl
           refine pure_ (i := 11) (N := some 67) (v := ?_) (a' := ?_) #[true, false, false, true, false, true, false, false, true, false, false, true, false, false, false, false, false, false] rfl rfl (any_of HT_.out (by kernel_rfl)) (fun _ _ _ h => h) (Or.inl ⟨by rfl, ?_⟩) ?_ ?_
           rotate_left
           ·intro w'
            go_simp
            with_reducible rfl
           rotate_left
           ·simp only [Act.put, List.setIfInBounds_toArray, List.set_cons_zero, List.set_cons_succ, i64_w, i32_w]
            rfl
           refine pure_ (i := 13) (N := some 69) (v := ?_) (a' := ?_) #[true, false, false, true, false, true, false, false, true, false, false, true, false, true, false, false, false, false] rfl rfl (any_of HT_.out (by kernel_rfl)) (fun _ _ _ h => h) (Or.inl ⟨by rfl, ?_⟩) ?_ ?_
           rotate_left
           ·intro w'
            go_simp
            with_reducible rfl
           rotate_left
           ·simp only [Act.put, List.setIfInBounds_toArray, List.set_cons_zero, List.set_cons_succ, i64_w, i32_w]
            rfl
           refine take_ (i := 1) (N := some 57) (v := ?_) (a' := ?_) #[true, true, false, true, false, true, false, false, true, false, false, true, false, true, false, false, false, false] rfl rfl (take_ofW HT_.out HW_.out (by kernel_rfl)) (fun _ _ _ h => h) (Or.inl ⟨by rfl, ?_⟩) hHeld ?_ ?_
           rotate_left
           ·rintro w' ⟨s0, s1, s2, s3, s4, s5, s6, s7⟩
            go_simp
            with_reducible rfl
           rotate_left
           ·simp only [Act.put, List.setIfInBounds_toArray, List.set_cons_zero, List.set_cons_succ, i64_w, i32_w]
            rfl
           refine take_ (i := 4) (N := some 60) (v := ?_) (a' := ?_) #[true, true, false, true, true, true, false, false, true, false, false, true, false, true, false, false, false, false] rfl rfl (take_ofW HT_.out HW_.out (by kernel_rfl)) (fun _ _ _ h => h) (Or.inl ⟨by rfl, ?_⟩) hHeld ?_ ?_
           rotate_left
           ·rintro w' ⟨s0, s1, s2, s3, s4, s5, s6, s7⟩
            go_simp
            with_reducible rfl
           rotate_left
           ·simp only [Act.put, List.setIfInBounds_toArray, List.set_cons_zero, List.set_cons_succ, i64_w, i32_w]
            rfl
           refine pure_ (i := 6) (N := some 62) (v := ?_) (a' := ?_) #[true, true, false, true, true, true, true, false, true, false, false, true, false, true, false, false, false, false] rfl rfl (any_of HT_.out (by kernel_rfl)) (fun _ _ _ h => h) (Or.inl ⟨by rfl, ?_⟩) ?_ ?_
           rotate_left
           ·intro w'
            go_simp
            with_reducible rfl
           rotate_left
           ·simp only [Act.put, List.setIfInBounds_toArray, List.set_cons_zero, List.set_cons_succ, i64_w, i32_w]
            rfl
           refine take_ (i := 9) (N := some 65) (v := ?_) (a' := ?_) #[true, true, false, true, true, true, true, false, true, true, false, true, false, true, false, false, false, false] rfl rfl (take_ofW HT_.out HW_.out (by kernel_rfl)) (fun _ _ _ h => h) (Or.inl ⟨by rfl, ?_⟩) hHeld ?_ ?_
           rotate_left
           ·rintro w' ⟨s0, s1, s2, s3, s4, s5, s6, s7⟩
            go_simp
            with_reducible rfl
           rotate_left
           ·simp only [Act.put, List.setIfInBounds_toArray, List.set_cons_zero, List.set_cons_succ, i64_w, i32_w]
            rfl
           refine take_ (i := 12) (N := some 68) (v := ?_) (a' := ?_) #[true, true, false, true, true, true, true, false, true, true, false, true, true, true, false, false, false, false] rfl rfl (take_ofW HT_.out HW_.out (by kernel_rfl)) (fun _ _ _ h => h) (Or.inl ⟨by rfl, ?_⟩) hHeld ?_ ?_
           rotate_left
           ·rintro w' ⟨s0, s1, s2, s3, s4, s5, s6, s7⟩
            go_simp
            with_reducible rfl
           rotate_left
           ·simp only [Act.put, List.setIfInBounds_toArray, List.set_cons_zero, List.set_cons_succ, i64_w, i32_w]
            rfl
           refine pure_ (i := 14) (N := some 70) (v := ?_) (a' := ?_) #[true, true, false, true, true, true, true, false, true, true, false, true, true, true, true, false, false, false] rfl rfl (any_of HT_.out (by kernel_rfl)) (fun _ _ _ h => h) (Or.inl ⟨by rfl, ?_⟩) ?_ ?_
           rotate_left
           ·intro w'
            go_simp
            with_reducible rfl
           rotate_left
           ·simp only [Act.put, List.setIfInBounds_toArray, List.set_cons_zero, List.set_cons_succ, i64_w, i32_w]
            rfl
           refine one_ (i := 2) (N := some 58) #[true, true, true, true, true, true, true, false, true, true, false, true, true, true, true, false, false, false] rfl rfl (one_of HT_.out (by kernel_rfl)) (by decide) (fun K hK => ?_)
           refine goes_ Try.func88 (by kernel_rfl) rfl #[.int .u64 t744] (by rfl) rfl rfl (by (try simp only [List.map_toArray, List.map_cons, List.map_nil]); first | done | rfl | (simp only [List.length_drop, List.length_take]; rfl)) ?_
           with_reducible refine (trunnionref01_Of.calls kj46 t744 t756 _ A72.out).mono ?_
           rintro e w96 ⟨v757, rfl, ho0, hb⟩
           refine ⟨_, rfl, ?_⟩
           have n0_ := Aside0.mk (Kd.R_lower ho0 (below_size (by repeat (first | (with_reducible first | exact HB.out | apply below_alloc | apply pw_below_drewN | apply below_drew1 | refine below_set ?_ GE745.out | refine below_set ?_ GE750.out) | exact HB.out))))
           have n1_ := Aside0.mk (blk_below (g := gb745) (o := .cells #[.bool false, .int .i64 t742, .int .i64 t743, .int .u64 t744] 36 (0, 0)) (by (with_reducible repeat (first | refine blk_drewN ?_ _ | refine blk_drew ?_ | refine blk_alloc ?_ _)); exact BK745.out) hb)
           have n2_ := Aside0.mk (blk_below (g := gb750) (o := .cells #[.bool t746, .int .i64 t747, .int .i64 t748, .int .u64 t749] 36 (0, 0)) (by (with_reducible repeat (first | refine blk_drewN ?_ _ | refine blk_drew ?_ | refine blk_alloc ?_ _)); exact BK750.out) hb)
           have n3_ := Aside0.mk (below_step (by repeat (first | (with_reducible first | exact HB.out | apply below_alloc | apply pw_below_drewN | apply below_drew1 | refine below_set ?_ GE745.out | refine below_set ?_ GE750.out) | exact HB.out)) hb)
           clear BK745
           clear BK750
           clear HB
           have HO758 := n0_
           have BK745 := n1_
           have BK750 := n2_
           have HB := n3_
           clear n0_ n1_ n2_ n3_
           (try clear hb)
           (try clear hb2)
           (try clear hk)
           (try clear hi)
           (try clear ho0)
           obtain ⟨Ao97, co97, eo97⟩ := Kd.R_slice HO758.out
           (first | subst eo97 | (injection eo97 with f1_ f2_ f3_; have f4_ := f1_.symm; have f5_ := f3_.symm; clear f1_ f2_ f3_; subst f4_; subst f5_))
           refine hK.out _ _ ⟨(blk_cell BK745.out 0).trans rfl, (blk_cell BK745.out 1).trans rfl, (blk_cell BK745.out 2).trans rfl, (blk_cell BK745.out 3).trans rfl, (blk_cell BK750.out 0).trans rfl, (blk_cell BK750.out 1).trans rfl, (blk_cell BK750.out 2).trans rfl, (blk_cell BK750.out 3).trans rfl⟩ (fun hHeld => ?_)
           clear hK K
           refine norm_ (a' := ?_) ?_ ?_
           rotate_left
           ·show Act.put _ (some 58) _ = _
            simp only [Act.put, List.setIfInBounds_toArray, List.set_cons_zero, List.set_cons_succ, i64_w, i32_w]
            rfl
           refine one_ (i := 7) (N := some 63) #[true, true, true, true, true, true, true, true, true, true, false, true, true, true, true, false, false, false] rfl rfl (one_of HT_.out (by kernel_rfl)) (by decide) (fun K hK => ?_)
           refine goes_ Try.func82 (by kernel_rfl) rfl #[.agg #[.slice Ao97 t756.length co97], .int .i64 (wrap64 (t743 - (ji71)))] (by rfl) rfl rfl (by (try simp only [List.map_toArray, List.map_cons, List.map_nil]); first | done | (simp only [hji71]; rfl) | rfl | (simp only [List.length_drop, List.length_take]; rfl)) ?_
           with_reducible refine (trunnionref01_Shl.calls kj46 _ _ t756 (wrap64 (t743 - (ji71))) t759 _ ?side1 ?side2 A73.out).mono ?_
           (case side1 => repeat (first | exact (Kd.R_reads' HO758.out).2.2 | (with_reducible refine Kd.C_alloc ?_ _) | (with_reducible refine Kd.C_drewN ?_ _) | (with_reducible refine Kd.C_drew ?_)))
           (case side2 => exact (Kd.R_reads' HO758.out).2.1)
           rintro e w98 ⟨v760, rfl, ho0, hb⟩
           refine ⟨_, rfl, ?_⟩
           have n0_ := Aside0.mk (Kd.R_elder' (by (with_reducible repeat (first | apply Kd.R_alloc | apply Kd.R_drewN | apply Kd.R_drew)); exact HO758.out) (Kd.R_base ho0) hb)
           have n1_ := Aside0.mk (Kd.R_lower (Kd.R_new' ho0 (Kd.R_lt (by (with_reducible repeat (first | apply Kd.R_alloc | apply Kd.R_drewN | apply Kd.R_drew)); exact HO758.out))) (below_size (by repeat (first | (with_reducible first | exact HB.out | apply below_alloc | apply pw_below_drewN | apply below_drew1 | refine below_set ?_ GE745.out | refine below_set ?_ GE750.out) | exact HB.out))))
           have n2_ := Aside0.mk (blk_below (g := gb745) (o := .cells #[.bool false, .int .i64 t742, .int .i64 t743, .int .u64 t744] 36 (0, 0)) (by (with_reducible repeat (first | refine blk_drewN ?_ _ | refine blk_drew ?_ | refine blk_alloc ?_ _)); exact BK745.out) hb)
           have n3_ := Aside0.mk (blk_below (g := gb750) (o := .cells #[.bool t746, .int .i64 t747, .int .i64 t748, .int .u64 t749] 36 (0, 0)) (by (with_reducible repeat (first | refine blk_drewN ?_ _ | refine blk_drew ?_ | refine blk_alloc ?_ _)); exact BK750.out) hb)
           have n4_ := Aside0.mk (below_step (by repeat (first | (with_reducible first | exact HB.out | apply below_alloc | apply pw_below_drewN | apply below_drew1 | refine below_set ?_ GE745.out | refine below_set ?_ GE750.out) | exact HB.out)) hb)
           clear HO758
           clear BK745
           clear BK750
           clear HB
           have HO758 := n0_
           have HO761 := n1_
           have BK745 := n2_
           have BK750 := n3_
           have HB := n4_
           clear n0_ n1_ n2_ n3_ n4_
           (try clear hb)
           (try clear hb2)
           (try clear hk)
           (try clear hi)
           (try clear ho0)
           refine hK.out _ _ ⟨(blk_cell BK745.out 0).trans rfl, (blk_cell BK745.out 1).trans rfl, (blk_cell BK745.out 2).trans rfl, (blk_cell BK745.out 3).trans rfl, (blk_cell BK750.out 0).trans rfl, (blk_cell BK750.out 1).trans rfl, (blk_cell BK750.out 2).trans rfl, (blk_cell BK750.out 3).trans rfl⟩ (fun hHeld => ?_)
           clear hK K
           refine norm_ (a' := ?_) ?_ ?_
           rotate_left
           ·show Act.put _ (some 63) _ = _
            simp only [Act.put, List.setIfInBounds_toArray, List.set_cons_zero, List.set_cons_succ, i64_w, i32_w]
            rfl
           refine one_ (i := 10) (N := some 66) #[true, true, true, true, true, true, true, true, true, true, true, true, true, true, true, false, false, false] rfl rfl (one_of HT_.out (by kernel_rfl)) (by decide) (fun K hK => ?_)
           refine goes_ Try.func88 (by kernel_rfl) rfl #[.int .u64 t749] (by rfl) rfl rfl (by (try simp only [List.map_toArray, List.map_cons, List.map_nil]); first | done | rfl | (simp only [List.length_drop, List.length_take]; rfl)) ?_
           with_reducible refine (trunnionref01_Of.calls kj46 t749 t762 _ A74.out).mono ?_
           rintro e w99 ⟨v763, rfl, ho0, hb⟩
           refine ⟨_, rfl, ?_⟩
           have n0_ := Aside0.mk (Kd.R_elder' (by (with_reducible repeat (first | apply Kd.R_alloc | apply Kd.R_drewN | apply Kd.R_drew)); exact HO758.out) (Kd.R_base ho0) hb)
           have n1_ := Aside0.mk (Kd.R_elder' (by (with_reducible repeat (first | apply Kd.R_alloc | apply Kd.R_drewN | apply Kd.R_drew)); exact HO761.out) (Kd.R_base ho0) hb)
           have n2_ := Aside0.mk (Kd.R_lower (Kd.R_new' (Kd.R_new' ho0 (Kd.R_lt (by (with_reducible repeat (first | apply Kd.R_alloc | apply Kd.R_drewN | apply Kd.R_drew)); exact HO758.out))) (Kd.R_lt (by (with_reducible repeat (first | apply Kd.R_alloc | apply Kd.R_drewN | apply Kd.R_drew)); exact HO761.out))) (below_size (by repeat (first | (with_reducible first | exact HB.out | apply below_alloc | apply pw_below_drewN | apply below_drew1 | refine below_set ?_ GE745.out | refine below_set ?_ GE750.out) | exact HB.out))))
           have n3_ := Aside0.mk (blk_below (g := gb745) (o := .cells #[.bool false, .int .i64 t742, .int .i64 t743, .int .u64 t744] 36 (0, 0)) (by (with_reducible repeat (first | refine blk_drewN ?_ _ | refine blk_drew ?_ | refine blk_alloc ?_ _)); exact BK745.out) hb)
           have n4_ := Aside0.mk (blk_below (g := gb750) (o := .cells #[.bool t746, .int .i64 t747, .int .i64 t748, .int .u64 t749] 36 (0, 0)) (by (with_reducible repeat (first | refine blk_drewN ?_ _ | refine blk_drew ?_ | refine blk_alloc ?_ _)); exact BK750.out) hb)
           have n5_ := Aside0.mk (below_step (by repeat (first | (with_reducible first | exact HB.out | apply below_alloc | apply pw_below_drewN | apply below_drew1 | refine below_set ?_ GE745.out | refine below_set ?_ GE750.out) | exact HB.out)) hb)
           clear HO758
           clear HO761
           clear BK745
           clear BK750
           clear HB
           have HO758 := n0_
           have HO761 := n1_
           have HO764 := n2_
           have BK745 := n3_
           have BK750 := n4_
           have HB := n5_
           clear n0_ n1_ n2_ n3_ n4_ n5_
           (try clear hb)
           (try clear hb2)
           (try clear hk)
           (try clear hi)
           (try clear ho0)
           obtain ⟨Ao100, co100, eo100⟩ := Kd.R_slice HO764.out
           (first | subst eo100 | (injection eo100 with f1_ f2_ f3_; have f4_ := f1_.symm; have f5_ := f3_.symm; clear f1_ f2_ f3_; subst f4_; subst f5_))
           refine hK.out _ _ ⟨(blk_cell BK745.out 0).trans rfl, (blk_cell BK745.out 1).trans rfl, (blk_cell BK745.out 2).trans rfl, (blk_cell BK745.out 3).trans rfl, (blk_cell BK750.out 0).trans rfl, (blk_cell BK750.out 1).trans rfl, (blk_cell BK750.out 2).trans rfl, (blk_cell BK750.out 3).trans rfl⟩ (fun hHeld => ?_)
           clear hK K
           refine norm_ (a' := ?_) ?_ ?_
           rotate_left
           ·show Act.put _ (some 66) _ = _
            simp only [Act.put, List.setIfInBounds_toArray, List.set_cons_zero, List.set_cons_succ, i64_w, i32_w]
            rfl
           refine one_ (i := 15) (N := some 71) #[true, true, true, true, true, true, true, true, true, true, true, true, true, true, true, true, false, false] rfl rfl (one_of HT_.out (by kernel_rfl)) (by decide) (fun K hK => ?_)
           refine goes_ Try.func82 (by kernel_rfl) rfl #[.agg #[.slice Ao100 t762.length co100], .int .i64 (wrap64 (t748 - (ji71)))] (by rfl) rfl rfl (by (try simp only [List.map_toArray, List.map_cons, List.map_nil]); first | done | (simp only [hji71]; rfl) | rfl | (simp only [List.length_drop, List.length_take]; rfl)) ?_
           with_reducible refine (trunnionref01_Shl.calls kj46 _ _ t762 (wrap64 (t748 - (ji71))) t765 _ ?side1 ?side2 A75.out).mono ?_
           (case side1 => repeat (first | exact (Kd.R_reads' HO764.out).2.2 | (with_reducible refine Kd.C_alloc ?_ _) | (with_reducible refine Kd.C_drewN ?_ _) | (with_reducible refine Kd.C_drew ?_)))
           (case side2 => exact (Kd.R_reads' HO764.out).2.1)
           rintro e w101 ⟨v766, rfl, ho0, hb⟩
           refine ⟨_, rfl, ?_⟩
           have n0_ := Aside0.mk (Kd.R_elder' (by (with_reducible repeat (first | apply Kd.R_alloc | apply Kd.R_drewN | apply Kd.R_drew)); exact HO758.out) (Kd.R_base ho0) hb)
           have n1_ := Aside0.mk (Kd.R_elder' (by (with_reducible repeat (first | apply Kd.R_alloc | apply Kd.R_drewN | apply Kd.R_drew)); exact HO761.out) (Kd.R_base ho0) hb)
           have n2_ := Aside0.mk (Kd.R_elder' (by (with_reducible repeat (first | apply Kd.R_alloc | apply Kd.R_drewN | apply Kd.R_drew)); exact HO764.out) (Kd.R_base ho0) hb)
           have n3_ := Aside0.mk (Kd.R_lower (Kd.R_new' (Kd.R_new' (Kd.R_new' ho0 (Kd.R_lt (by (with_reducible repeat (first | apply Kd.R_alloc | apply Kd.R_drewN | apply Kd.R_drew)); exact HO758.out))) (Kd.R_lt (by (with_reducible repeat (first | apply Kd.R_alloc | apply Kd.R_drewN | apply Kd.R_drew)); exact HO761.out))) (Kd.R_lt (by (with_reducible repeat (first | apply Kd.R_alloc | apply Kd.R_drewN | apply Kd.R_drew)); exact HO764.out))) (below_size (by repeat (first | (with_reducible first | exact HB.out | apply below_alloc | apply pw_below_drewN | apply below_drew1 | refine below_set ?_ GE745.out | refine below_set ?_ GE750.out) | exact HB.out))))
           have n4_ := Aside0.mk (blk_below (g := gb745) (o := .cells #[.bool false, .int .i64 t742, .int .i64 t743, .int .u64 t744] 36 (0, 0)) (by (with_reducible repeat (first | refine blk_drewN ?_ _ | refine blk_drew ?_ | refine blk_alloc ?_ _)); exact BK745.out) hb)
           have n5_ := Aside0.mk (blk_below (g := gb750) (o := .cells #[.bool t746, .int .i64 t747, .int .i64 t748, .int .u64 t749] 36 (0, 0)) (by (with_reducible repeat (first | refine blk_drewN ?_ _ | refine blk_drew ?_ | refine blk_alloc ?_ _)); exact BK750.out) hb)
           have n6_ := Aside0.mk (below_step (by repeat (first | (with_reducible first | exact HB.out | apply below_alloc | apply pw_below_drewN | apply below_drew1 | refine below_set ?_ GE745.out | refine below_set ?_ GE750.out) | exact HB.out)) hb)
           clear HO758
           clear HO761
           clear HO764
           clear BK745
           clear BK750
           clear HB
           have HO758 := n0_
           have HO761 := n1_
           have HO764 := n2_
           have HO767 := n3_
           have BK745 := n4_
           have BK750 := n5_
           have HB := n6_
           clear n0_ n1_ n2_ n3_ n4_ n5_ n6_
           (try clear hb)
           (try clear hb2)
           (try clear hk)
           (try clear hi)
           (try clear ho0)
           obtain ⟨Ao102, co102, eo102⟩ := Kd.R_slice HO761.out
           (first | subst eo102 | (injection eo102 with f1_ f2_ f3_; have f4_ := f1_.symm; have f5_ := f3_.symm; clear f1_ f2_ f3_; subst f4_; subst f5_))
           obtain ⟨Ao103, co103, eo103⟩ := Kd.R_slice HO767.out
           (first | subst eo103 | (injection eo103 with f1_ f2_ f3_; have f4_ := f1_.symm; have f5_ := f3_.symm; clear f1_ f2_ f3_; subst f4_; subst f5_))
           refine hK.out _ _ ⟨(blk_cell BK745.out 0).trans rfl, (blk_cell BK745.out 1).trans rfl, (blk_cell BK745.out 2).trans rfl, (blk_cell BK745.out 3).trans rfl, (blk_cell BK750.out 0).trans rfl, (blk_cell BK750.out 1).trans rfl, (blk_cell BK750.out 2).trans rfl, (blk_cell BK750.out 3).trans rfl⟩ (fun hHeld => ?_)
           clear hK K
           refine norm_ (a' := ?_) ?_ ?_
           rotate_left
           ·show Act.put _ (some 71) _ = _
            simp only [Act.put, List.setIfInBounds_toArray, List.set_cons_zero, List.set_cons_succ, i64_w, i32_w]
            rfl
           refine one_ (i := 16) (N := some 72) #[true, true, true, true, true, true, true, true, true, true, true, true, true, true, true, true, true, false] rfl rfl (one_of HT_.out (by kernel_rfl)) (by decide) (fun K hK => ?_)
           refine goes_ Try.func57 (by kernel_rfl) rfl #[.agg #[.slice Ao102 t759.length co102], .agg #[.slice Ao103 t765.length co103]] (by rfl) rfl rfl (by (try simp only [List.map_toArray, List.map_cons, List.map_nil]); first | done | rfl | (simp only [List.length_drop, List.length_take]; rfl)) ?_
           with_reducible refine (trunnionref01_Cmp.calls kj46 _ _ t759 _ _ t765 t768 _ ?side1 ?side2 ?side3 ?side4 A76.out).mono ?_
           (case side1 => repeat (first | exact (Kd.R_reads' HO761.out).2.2 | (with_reducible refine Kd.C_alloc ?_ _) | (with_reducible refine Kd.C_drewN ?_ _) | (with_reducible refine Kd.C_drew ?_)))
           (case side2 => exact (Kd.R_reads' HO761.out).2.1)
           (case side3 => repeat (first | exact (Kd.R_reads' HO767.out).2.2 | (with_reducible refine Kd.C_alloc ?_ _) | (with_reducible refine Kd.C_drewN ?_ _) | (with_reducible refine Kd.C_drew ?_)))
           (case side4 => exact (Kd.R_reads' HO767.out).2.1)
           rintro e w104 ⟨rfl, hb⟩
           refine ⟨_, rfl, ?_⟩
           have n0_ := Aside0.mk (Kd.R_below (by (with_reducible repeat (first | apply Kd.R_alloc | apply Kd.R_drewN | apply Kd.R_drew)); exact HO758.out) hb)
           have n1_ := Aside0.mk (Kd.R_below (by (with_reducible repeat (first | apply Kd.R_alloc | apply Kd.R_drewN | apply Kd.R_drew)); exact HO761.out) hb)
           have n2_ := Aside0.mk (Kd.R_below (by (with_reducible repeat (first | apply Kd.R_alloc | apply Kd.R_drewN | apply Kd.R_drew)); exact HO764.out) hb)
           have n3_ := Aside0.mk (Kd.R_below (by (with_reducible repeat (first | apply Kd.R_alloc | apply Kd.R_drewN | apply Kd.R_drew)); exact HO767.out) hb)
           have n4_ := Aside0.mk (blk_below (g := gb745) (o := .cells #[.bool false, .int .i64 t742, .int .i64 t743, .int .u64 t744] 36 (0, 0)) (by (with_reducible repeat (first | refine blk_drewN ?_ _ | refine blk_drew ?_ | refine blk_alloc ?_ _)); exact BK745.out) hb)
           have n5_ := Aside0.mk (blk_below (g := gb750) (o := .cells #[.bool t746, .int .i64 t747, .int .i64 t748, .int .u64 t749] 36 (0, 0)) (by (with_reducible repeat (first | refine blk_drewN ?_ _ | refine blk_drew ?_ | refine blk_alloc ?_ _)); exact BK750.out) hb)
           have n6_ := Aside0.mk (below_step (by repeat (first | (with_reducible first | exact HB.out | apply below_alloc | apply pw_below_drewN | apply below_drew1 | refine below_set ?_ GE745.out | refine below_set ?_ GE750.out) | exact HB.out)) hb)
           clear HO758
           clear HO761
           clear HO764
           clear HO767
           clear BK745
           clear BK750
           clear HB
           have HO758 := n0_
           have HO761 := n1_
           have HO764 := n2_
           have HO767 := n3_
           have BK745 := n4_
           have BK750 := n5_
           have HB := n6_
           clear n0_ n1_ n2_ n3_ n4_ n5_ n6_
           (try clear hb)
           (try clear hb2)
           (try clear hk)
           (try clear hi)
           refine hK.out _ _ ⟨(blk_cell BK745.out 0).trans rfl, (blk_cell BK745.out 1).trans rfl, (blk_cell BK745.out 2).trans rfl, (blk_cell BK745.out 3).trans rfl, (blk_cell BK750.out 0).trans rfl, (blk_cell BK750.out 1).trans rfl, (blk_cell BK750.out 2).trans rfl, (blk_cell BK750.out 3).trans rfl⟩ (fun hHeld => ?_)
           clear hK K
           refine norm_ (a' := ?_) ?_ ?_
           rotate_left
           ·show Act.put _ (some 72) _ = _
            simp only [Act.put, List.setIfInBounds_toArray, List.set_cons_zero, List.set_cons_succ, i64_w, i32_w]
            rfl
           refine pure_ (i := 17) (N := some 9) (v := ?_) (a' := ?_) #[true, true, true, true, true, true, true, true, true, true, true, true, true, true, true, true, true, true] rfl rfl (any_of HT_.out (by kernel_rfl)) (fun _ _ _ h => h) (Or.inl ⟨by rfl, ?_⟩) ?_ ?_
           rotate_left
           ·intro w'
            go_simp
            with_reducible rfl
           rotate_left
           ·simp only [Act.put, List.setIfInBounds_toArray, List.set_cons_zero, List.set_cons_succ, i64_w, i32_w]
            rfl
           refine done_ (done_of HT_.out (by kernel_rfl)) ?_
           have hcz105_0 : w104.cell? ⟨gb745, 0, none⟩ = some (.bool false) := (blk_cell BK745.out 0).trans rfl
           have hcz105_1 : w104.cell? ⟨gb745, 1, none⟩ = some (.int .i64 t742) := (blk_cell BK745.out 1).trans rfl
           have hcz105_2 : w104.cell? ⟨gb745, 2, none⟩ = some (.int .i64 t743) := (blk_cell BK745.out 2).trans rfl
           have hcz105_3 : w104.cell? ⟨gb745, 3, none⟩ = some (.int .u64 t744) := (blk_cell BK745.out 3).trans rfl
           have hfz105_0 := blk_frozen BK745.out 0
           have hfz105_1 := blk_frozen BK745.out 1
           have hfz105_2 := blk_frozen BK745.out 2
           have hfz105_3 := blk_frozen BK745.out 3
           try go_wp2
           go_ret
           exact ⟨by first | rfl | (simp [errW_none, errW_some] <;> rfl) | (simp only [← hji71]; first | rfl | (simp [errW_none, errW_some] <;> rfl)) | (simp [*, errW_none, errW_some] <;> rfl), by repeat (first | (with_reducible first | exact HB.out | apply below_alloc | apply pw_below_drewN | apply below_drew1 | refine below_set ?_ GE745.out | refine below_set ?_ GE750.out) | exact HB.out)⟩

end Go.Proofs.Ytmjfenbbgfohlaa.PA

namespace Go.Proofs.Ytmjfenbbgfohlaa.PA
open Go.RowKit Go.Proofs.YtmjfenbbgfohlaaW.PrintWords Go.Proofs.YtmjfenbbgfohlaaW.PrintLast Go.Proofs.YtmjfenbbgfohlaaW.PrintMore
attribute [local go_sem] max2_int min2_int max_two min_two max_three min_three max_four min_four   -- for this text's walks alone
set_option linter.unusedVariables false
set_option linter.unusedSimpArgs false

/-! ### trunnionref02_Make: function 69 -/
def trunnionref02_Make.f (k : Nat) (a0 : Int) (a1 : Bool) (a2 : Int) (a3 : Int) : Option (Int) := (trunnionref02_F.f a0).bind fun t512 => ((trunnionref02_Two.f k t512).bind fun t513 => (if a1 = true then ((trunnionref02_Two.f k (wrap64 (a0 - 1))).bind fun t514 => (some (IntKind.u64.wrap ((IntKind.u64.wrap ((IntKind.u64.wrap ((IntKind.u64.wrap (a2)) * t513)) + a3)) + t514)))) else (some (IntKind.u64.wrap ((IntKind.u64.wrap ((IntKind.u64.wrap (a2)) * t513)) + a3)))))
theorem trunnionref02_Make.mono : ∀ a0 a1 a2 a3 k, LeO (trunnionref02_Make.f k a0 a1 a2 a3) (trunnionref02_Make.f (k + 1) a0 a1 a2 a3) := by
 intro a0 a1 a2 a3 k
 unfold trunnionref02_Make.f
 repeat' first
   | (with_reducible exact trunnionref02_Two.mono _ _)
   | (with_reducible exact LeO.refl _)
   | (with_reducible exact LeO.none _)
   | (with_reducible refine LeO.ite ?_ ?_)
   | (with_reducible refine LeO.bind ?_ (fun _ => ?_))
   | exact trunnionref02_Two.mono _ _
   | exact LeO.none _
   | refine LeO.ite ?_ ?_
   | refine LeO.bind ?_ (fun _ => ?_)
set_option maxHeartbeats 8000000 in
set_option maxRecDepth 100000 in
theorem trunnionref02_Make.calls (k : Nat) (a0 : Int) (a1 : Bool) (a2 : Int) (a3 : Int) (r : Int) (w : World) (h : trunnionref02_Make.f k a0 a1 a2 a3 = some r) :
  Calls Try.prog 69 #[.int .i64 a0, .bool a1, .int .i64 a2, .int .u64 a3] w fun e w' => e = .returned (.int .u64 r) ∧ Drawn0 w w' := by
 have H : ((trunnionref02_F.f a0).bind fun t512 => ((trunnionref02_Two.f k t512).bind fun t513 => (if a1 = true then ((trunnionref02_Two.f k (wrap64 (a0 - 1))).bind fun t514 => (some (IntKind.u64.wrap ((IntKind.u64.wrap ((IntKind.u64.wrap ((IntKind.u64.wrap (a2)) * t513)) + a3)) + t514)))) else (some (IntKind.u64.wrap ((IntKind.u64.wrap ((IntKind.u64.wrap (a2)) * t513)) + a3)))))) = some r := h
 clear h
 replace H := Option.bind_eq_some_iff.mp H
 obtain ⟨t512, A50, H⟩ := H
 replace H : ((trunnionref02_Two.f k t512).bind fun t513 => (if a1 = true then ((trunnionref02_Two.f k (wrap64 (a0 - 1))).bind fun t514 => (some (IntKind.u64.wrap ((IntKind.u64.wrap ((IntKind.u64.wrap ((IntKind.u64.wrap (a2)) * t513)) + a3)) + t514)))) else (some (IntKind.u64.wrap ((IntKind.u64.wrap ((IntKind.u64.wrap (a2)) * t513)) + a3))))) = some r := H
 have A5 := Aside0.mk A50
 clear A50
 replace H := Option.bind_eq_some_iff.mp H
 obtain ⟨t513, A60, H⟩ := H
 replace H : (if a1 = true then ((trunnionref02_Two.f k (wrap64 (a0 - 1))).bind fun t514 => (some (IntKind.u64.wrap ((IntKind.u64.wrap ((IntKind.u64.wrap ((IntKind.u64.wrap (a2)) * t513)) + a3)) + t514)))) else (some (IntKind.u64.wrap ((IntKind.u64.wrap ((IntKind.u64.wrap (a2)) * t513)) + a3)))) = some r := H
 have A6 := Aside0.mk A60
 clear A60
 by_cases c7 : a1 = true
 ·subst c7
  have H1 : ((trunnionref02_Two.f k (wrap64 (a0 - 1))).bind fun t514 => (some (IntKind.u64.wrap ((IntKind.u64.wrap ((IntKind.u64.wrap ((IntKind.u64.wrap (a2)) * t513)) + a3)) + t514)))) = some r := by rw [if_pos rfl] at H; exact H
  clear H
  have H := H1
  clear H1
  replace H := Option.bind_eq_some_iff.mp H
  obtain ⟨t514, A80, H⟩ := H
  replace H : (some (IntKind.u64.wrap ((IntKind.u64.wrap ((IntKind.u64.wrap ((IntKind.u64.wrap (a2)) * t513)) + a3)) + t514))) = some r := H
  have A8 := Aside0.mk A80
  clear A80
  obtain rfl := Option.some.inj H
  go_enter Try.func69, Try.ntmps69
  go_wp2_with (first | ((with_reducible refine gate_callee (f := 66) rfl ?_); refine goesL_ (some 13) rfl rfl Try.func66 (by kernel_rfl) rfl #[.int .i64 a0] rfl (by (try simp only [List.map_toArray, List.map_cons, List.map_nil]); first | done | rfl | (simp only [List.length_drop, List.length_take]; rfl)) ?_; (with_reducible refine (trunnionref02_F.calls a0 t512 _ A5.out).mono ?_); rintro e w' ⟨rfl, ⟨nd, rfl⟩⟩; refine ⟨_, rfl, ?_⟩) | ((with_reducible refine gate_callee (f := 70) rfl ?_); refine goesL_ (some 14) rfl rfl Try.func70 (by kernel_rfl) rfl #[.int .i64 t512] rfl (by (try simp only [List.map_toArray, List.map_cons, List.map_nil]); first | done | rfl | (simp only [List.length_drop, List.length_take]; rfl)) ?_; (with_reducible refine (trunnionref02_Two.calls k t512 t513 _ A6.out).mono ?_); rintro e w' ⟨rfl, ⟨nd, rfl⟩⟩; refine ⟨_, rfl, ?_⟩) | ((with_reducible refine gate_callee (f := 70) rfl ?_); refine goesL_ (some 22) rfl rfl Try.func70 (by kernel_rfl) rfl #[.int .i64 (wrap64 (a0 - 1))] rfl (by (try simp only [List.map_toArray, List.map_cons, List.map_nil]); first | done | rfl | (simp only [List.length_drop, List.length_take]; rfl)) ?_; (with_reducible refine (trunnionref02_Two.calls k (wrap64 (a0 - 1)) t514 _ A8.out).mono ?_); rintro e w' ⟨rfl, ⟨nd, rfl⟩⟩; refine ⟨_, rfl, ?_⟩))
  go_ret
  exact ⟨by first | rfl | (simp; done) | (simp [*]; done), by repeat (first | exact Drawn0.refl _ | apply Drawn0.step)⟩
 ·replace c7 := Bool.eq_false_iff.mpr c7
  subst c7
  have H1 : (some (IntKind.u64.wrap ((IntKind.u64.wrap ((IntKind.u64.wrap (a2)) * t513)) + a3))) = some r := by rw [if_neg (show ¬ (false = true) by decide)] at H; exact H
  clear H
  have H := H1
  clear H1
  obtain rfl := Option.some.inj H
  go_enter Try.func69, Try.ntmps69
  go_wp2_with (first | ((with_reducible refine gate_callee (f := 66) rfl ?_); refine goesL_ (some 13) rfl rfl Try.func66 (by kernel_rfl) rfl #[.int .i64 a0] rfl (by (try simp only [List.map_toArray, List.map_cons, List.map_nil]); first | done | rfl | (simp only [List.length_drop, List.length_take]; rfl)) ?_; (with_reducible refine (trunnionref02_F.calls a0 t512 _ A5.out).mono ?_); rintro e w' ⟨rfl, ⟨nd, rfl⟩⟩; refine ⟨_, rfl, ?_⟩) | ((with_reducible refine gate_callee (f := 70) rfl ?_); refine goesL_ (some 14) rfl rfl Try.func70 (by kernel_rfl) rfl #[.int .i64 t512] rfl (by (try simp only [List.map_toArray, List.map_cons, List.map_nil]); first | done | rfl | (simp only [List.length_drop, List.length_take]; rfl)) ?_; (with_reducible refine (trunnionref02_Two.calls k t512 t513 _ A6.out).mono ?_); rintro e w' ⟨rfl, ⟨nd, rfl⟩⟩; refine ⟨_, rfl, ?_⟩))
  go_ret
  exact ⟨by first | rfl | (simp; done) | (simp [*]; done), by repeat (first | exact Drawn0.refl _ | apply Drawn0.step)⟩

end Go.Proofs.Ytmjfenbbgfohlaa.PA

namespace Go.Proofs.Ytmjfenbbgfohlaa.PA
open Go.RowKit Go.Proofs.YtmjfenbbgfohlaaW.PrintWords Go.Proofs.YtmjfenbbgfohlaaW.PrintLast Go.Proofs.YtmjfenbbgfohlaaW.PrintMore
attribute [local go_sem] max2_int min2_int max_two min_two max_three min_three max_four min_four   -- for this text's walks alone
set_option linter.unusedVariables false
set_option linter.unusedSimpArgs false

/-! ### trunnionref02_Nan: function 67 -/
def trunnionref02_Nan.f (k : Nat) (a0 : Int) : Option (Int) := (trunnionref02_Top.f k a0).bind fun t515 => ((trunnionref02_F.f a0).bind fun t516 => ((trunnionref02_Two.f k (wrap64 (t516 - 1))).bind fun t517 => ((trunnionref02_Make.f k a0 false t515 t517).bind fun t518 => (some t518))))
theorem trunnionref02_Nan.mono : ∀ a0 k, LeO (trunnionref02_Nan.f k a0) (trunnionref02_Nan.f (k + 1) a0) := by
 intro a0 k
 unfold trunnionref02_Nan.f
 repeat' first
   | (with_reducible exact trunnionref02_Make.mono _ _ _ _ _)
   | (with_reducible exact trunnionref02_Top.mono _ _)
   | (with_reducible exact trunnionref02_Two.mono _ _)
   | (with_reducible exact LeO.refl _)
   | (with_reducible exact LeO.none _)
   | (with_reducible refine LeO.ite ?_ ?_)
   | (with_reducible refine LeO.bind ?_ (fun _ => ?_))
   | exact trunnionref02_Make.mono _ _ _ _ _
   | exact trunnionref02_Top.mono _ _
   | exact trunnionref02_Two.mono _ _
   | exact LeO.none _
   | refine LeO.ite ?_ ?_
   | refine LeO.bind ?_ (fun _ => ?_)
set_option maxHeartbeats 8000000 in
set_option maxRecDepth 100000 in
theorem trunnionref02_Nan.calls (k : Nat) (a0 : Int) (r : Int) (w : World) (h : trunnionref02_Nan.f k a0 = some r) :
  Calls Try.prog 67 #[.int .i64 a0] w fun e w' => e = .returned (.int .u64 r) ∧ Drawn0 w w' := by
 have H : ((trunnionref02_Top.f k a0).bind fun t515 => ((trunnionref02_F.f a0).bind fun t516 => ((trunnionref02_Two.f k (wrap64 (t516 - 1))).bind fun t517 => ((trunnionref02_Make.f k a0 false t515 t517).bind fun t518 => (some t518))))) = some r := h
 clear h
 replace H := Option.bind_eq_some_iff.mp H
 obtain ⟨t515, A20, H⟩ := H
 replace H : ((trunnionref02_F.f a0).bind fun t516 => ((trunnionref02_Two.f k (wrap64 (t516 - 1))).bind fun t517 => ((trunnionref02_Make.f k a0 false t515 t517).bind fun t518 => (some t518)))) = some r := H
 have A2 := Aside0.mk A20
 clear A20
 replace H := Option.bind_eq_some_iff.mp H
 obtain ⟨t516, A30, H⟩ := H
 replace H : ((trunnionref02_Two.f k (wrap64 (t516 - 1))).bind fun t517 => ((trunnionref02_Make.f k a0 false t515 t517).bind fun t518 => (some t518))) = some r := H
 have A3 := Aside0.mk A30
 clear A30
 replace H := Option.bind_eq_some_iff.mp H
 obtain ⟨t517, A40, H⟩ := H
 replace H : ((trunnionref02_Make.f k a0 false t515 t517).bind fun t518 => (some t518)) = some r := H
 have A4 := Aside0.mk A40
 clear A40
 replace H := Option.bind_eq_some_iff.mp H
 obtain ⟨t518, A50, H⟩ := H
 replace H : (some t518) = some r := H
 have A5 := Aside0.mk A50
 clear A50
 obtain rfl := Option.some.inj H
 go_enter Try.func67, Try.ntmps67
 go_wp2_with (first | ((with_reducible refine gate_callee (f := 64) rfl ?_); refine goesL_ (some 5) rfl rfl Try.func64 (by kernel_rfl) rfl #[.int .i64 a0] rfl (by (try simp only [List.map_toArray, List.map_cons, List.map_nil]); first | done | rfl | (simp only [List.length_drop, List.length_take]; rfl)) ?_; (with_reducible refine (trunnionref02_Top.calls k a0 t515 _ A2.out).mono ?_); rintro e w' ⟨rfl, ⟨nd, rfl⟩⟩; refine ⟨_, rfl, ?_⟩) | ((with_reducible refine gate_callee (f := 66) rfl ?_); refine goesL_ (some 7) rfl rfl Try.func66 (by kernel_rfl) rfl #[.int .i64 a0] rfl (by (try simp only [List.map_toArray, List.map_cons, List.map_nil]); first | done | rfl | (simp only [List.length_drop, List.length_take]; rfl)) ?_; (with_reducible refine (trunnionref02_F.calls a0 t516 _ A3.out).mono ?_); rintro e w' ⟨rfl, ⟨nd, rfl⟩⟩; refine ⟨_, rfl, ?_⟩) | ((with_reducible refine gate_callee (f := 70) rfl ?_); refine goesL_ (some 9) rfl rfl Try.func70 (by kernel_rfl) rfl #[.int .i64 (wrap64 (t516 - 1))] rfl (by (try simp only [List.map_toArray, List.map_cons, List.map_nil]); first | done | rfl | (simp only [List.length_drop, List.length_take]; rfl)) ?_; (with_reducible refine (trunnionref02_Two.calls k (wrap64 (t516 - 1)) t517 _ A4.out).mono ?_); rintro e w' ⟨rfl, ⟨nd, rfl⟩⟩; refine ⟨_, rfl, ?_⟩) | ((with_reducible refine gate_callee (f := 69) rfl ?_); refine goesL_ (some 10) rfl rfl Try.func69 (by kernel_rfl) rfl #[.int .i64 a0, .bool false, .int .i64 t515, .int .u64 t517] rfl (by (try simp only [List.map_toArray, List.map_cons, List.map_nil]); first | done | rfl | (simp only [List.length_drop, List.length_take]; rfl)) ?_; (with_reducible refine (trunnionref02_Make.calls k a0 false t515 t517 t518 _ A5.out).mono ?_); rintro e w' ⟨rfl, ⟨nd, rfl⟩⟩; refine ⟨_, rfl, ?_⟩))
 go_ret
 exact ⟨by first | rfl | (simp; done) | (simp [*]; done), by repeat (first | exact Drawn0.refl _ | apply Drawn0.step)⟩

end Go.Proofs.Ytmjfenbbgfohlaa.PA

namespace Go.Proofs.Ytmjfenbbgfohlaa.PA
open Go.RowKit Go.Proofs.YtmjfenbbgfohlaaW.PrintWords Go.Proofs.YtmjfenbbgfohlaaW.PrintLast Go.Proofs.YtmjfenbbgfohlaaW.PrintMore
attribute [local go_sem] max2_int min2_int max_two min_two max_three min_three max_four min_four   -- for this text's walks alone
set_option linter.unusedVariables false
set_option linter.unusedSimpArgs false

/-! ### trunnionref08_Pick: function 97 -/
def trunnionref08_Pick.f (k : Nat) (a0 : Int) (a1 : Int) (a2 : Int) (a3 : Int) (a4 : Bool) : Option (Int) := (trunnionref02_Cut.f a0 a1).bind fun t769 => ((trunnionref02_Cut.f a0 a2).bind fun t770 => ((trunnionref08_Cmp.f k a0 t769 t770).bind fun t771 => (if t771 = 2 then ((trunnionref02_Nan.f k a0).bind fun t772 => (some t772)) else (if t771 = a3 then (some t769) else (if t771 = 0 then ((trunnionref02_Neg.f k a0 t769).bind fun t773 => (if (t773 == a4) = true then (some t769) else (some t770))) else (some t770))))))
theorem trunnionref08_Pick.mono : ∀ a0 a1 a2 a3 a4 k, LeO (trunnionref08_Pick.f k a0 a1 a2 a3 a4) (trunnionref08_Pick.f (k + 1) a0 a1 a2 a3 a4) := by
 intro a0 a1 a2 a3 a4 k
 unfold trunnionref08_Pick.f
 repeat' first
   | (with_reducible exact trunnionref02_Nan.mono _ _)
   | (with_reducible exact trunnionref02_Neg.mono _ _ _)
   | (with_reducible exact trunnionref08_Cmp.mono _ _ _ _)
   | (with_reducible exact LeO.refl _)
   | (with_reducible exact LeO.none _)
   | (with_reducible refine LeO.ite ?_ ?_)
   | (with_reducible refine LeO.bind ?_ (fun _ => ?_))
   | exact trunnionref02_Nan.mono _ _
   | exact trunnionref02_Neg.mono _ _ _
   | exact trunnionref08_Cmp.mono _ _ _ _
   | exact LeO.none _
   | refine LeO.ite ?_ ?_
   | refine LeO.bind ?_ (fun _ => ?_)
set_option maxHeartbeats 8000000 in
set_option maxRecDepth 100000 in
theorem trunnionref08_Pick.calls (k : Nat) (a0 : Int) (a1 : Int) (a2 : Int) (a3 : Int) (a4 : Bool) (r : Int) (w : World) (h : trunnionref08_Pick.f k a0 a1 a2 a3 a4 = some r) :
  Calls Try.prog 97 #[.int .i64 a0, .int .u64 a1, .int .u64 a2, .int .i64 a3, .bool a4] w fun e w' => e = .returned (.int .u64 r) ∧ Below w.heap.size w w' := by
 have HB := Aside0.mk (Below.refl w.heap.size w)
 have H : ((trunnionref02_Cut.f a0 a1).bind fun t769 => ((trunnionref02_Cut.f a0 a2).bind fun t770 => ((trunnionref08_Cmp.f k a0 t769 t770).bind fun t771 => (if t771 = 2 then ((trunnionref02_Nan.f k a0).bind fun t772 => (some t772)) else (if t771 = a3 then (some t769) else (if t771 = 0 then ((trunnionref02_Neg.f k a0 t769).bind fun t773 => (if (t773 == a4) = true then (some t769) else (some t770))) else (some t770))))))) = some r := h
 clear h
 replace H := Option.bind_eq_some_iff.mp H
 obtain ⟨t769, A60, H⟩ := H
 replace H : ((trunnionref02_Cut.f a0 a2).bind fun t770 => ((trunnionref08_Cmp.f k a0 t769 t770).bind fun t771 => (if t771 = 2 then ((trunnionref02_Nan.f k a0).bind fun t772 => (some t772)) else (if t771 = a3 then (some t769) else (if t771 = 0 then ((trunnionref02_Neg.f k a0 t769).bind fun t773 => (if (t773 == a4) = true then (some t769) else (some t770))) else (some t770)))))) = some r := H
 have A6 := Aside0.mk A60
 clear A60
 replace H := Option.bind_eq_some_iff.mp H
 obtain ⟨t770, A70, H⟩ := H
 replace H : ((trunnionref08_Cmp.f k a0 t769 t770).bind fun t771 => (if t771 = 2 then ((trunnionref02_Nan.f k a0).bind fun t772 => (some t772)) else (if t771 = a3 then (some t769) else (if t771 = 0 then ((trunnionref02_Neg.f k a0 t769).bind fun t773 => (if (t773 == a4) = true then (some t769) else (some t770))) else (some t770))))) = some r := H
 have A7 := Aside0.mk A70
 clear A70
 replace H := Option.bind_eq_some_iff.mp H
 obtain ⟨t771, A80, H⟩ := H
 replace H : (if t771 = 2 then ((trunnionref02_Nan.f k a0).bind fun t772 => (some t772)) else (if t771 = a3 then (some t769) else (if t771 = 0 then ((trunnionref02_Neg.f k a0 t769).bind fun t773 => (if (t773 == a4) = true then (some t769) else (some t770))) else (some t770)))) = some r := H
 have A8 := Aside0.mk A80
 clear A80
 by_cases c9 : t771 = 2
 ·rw [if_pos c9] at H
  have c9b0 : (t771 == 2) = true := beq_iff_eq.mpr c9
  have c9b1 : (t771 != 2) = false := bne_eq_false_iff_eq.mpr c9
  clear c9
  replace H := Option.bind_eq_some_iff.mp H
  obtain ⟨t772, A100, H⟩ := H
  replace H : (some t772) = some r := H
  have A10 := Aside0.mk A100
  clear A100
  obtain rfl := Option.some.inj H
  go_enter Try.func97, Try.ntmps97
  go_wp2_with (first | ((with_reducible refine gate_callee (f := 45) rfl ?_); refine goesL_ (some 14) rfl rfl Try.func45 (by kernel_rfl) rfl #[.int .i64 a0, .int .u64 a1] rfl (by (try simp only [List.map_toArray, List.map_cons, List.map_nil]); first | done | rfl | (simp only [List.length_drop, List.length_take]; rfl)) ?_; (with_reducible refine (trunnionref02_Cut.calls a0 a1 t769 _ A6.out).mono ?_); rintro e w' ⟨rfl, ⟨nd, rfl⟩⟩; refine ⟨_, rfl, ?_⟩) | ((with_reducible refine gate_callee (f := 45) rfl ?_); refine goesL_ (some 17) rfl rfl Try.func45 (by kernel_rfl) rfl #[.int .i64 a0, .int .u64 a2] rfl (by (try simp only [List.map_toArray, List.map_cons, List.map_nil]); first | done | rfl | (simp only [List.length_drop, List.length_take]; rfl)) ?_; (with_reducible refine (trunnionref02_Cut.calls a0 a2 t770 _ A7.out).mono ?_); rintro e w' ⟨rfl, ⟨nd, rfl⟩⟩; refine ⟨_, rfl, ?_⟩) | ((with_reducible refine gate_callee (f := 98) rfl ?_); refine goesL_ (some 21) rfl rfl Try.func98 (by kernel_rfl) rfl #[.int .i64 a0, .int .u64 t769, .int .u64 t770] rfl (by (try simp only [List.map_toArray, List.map_cons, List.map_nil]); first | done | rfl | (simp only [List.length_drop, List.length_take]; rfl)) ?_; (with_reducible refine (trunnionref08_Cmp.calls k a0 t769 t770 t771 _ A8.out).mono ?_); rintro e w11 ⟨rfl, hb⟩; refine ⟨_, rfl, ?_⟩; have n0_ := Aside0.mk (below_step (by repeat (first | (with_reducible first | exact HB.out | apply below_alloc | apply pw_below_drewN | apply below_drew1) | exact HB.out)) hb); clear HB; have HB := n0_; clear n0_; (try clear hb); (try clear hb2); (try clear hk); (try clear hi)) | ((with_reducible refine gate_callee (f := 67) rfl ?_); refine goesL_ (some 25) rfl rfl Try.func67 (by kernel_rfl) rfl #[.int .i64 a0] rfl (by (try simp only [List.map_toArray, List.map_cons, List.map_nil]); first | done | rfl | (simp only [List.length_drop, List.length_take]; rfl)) ?_; (with_reducible refine (trunnionref02_Nan.calls k a0 t772 _ A10.out).mono ?_); rintro e w' ⟨rfl, ⟨nd, rfl⟩⟩; refine ⟨_, rfl, ?_⟩))
  go_ret
  exact ⟨by first | rfl | (simp [errW_none, errW_some] <;> rfl) | (simp [*, errW_none, errW_some] <;> rfl), by repeat (first | (with_reducible first | exact HB.out | apply below_alloc | apply pw_below_drewN | apply below_drew1) | exact HB.out)⟩
 ·rw [if_neg c9] at H
  have c9b0 : (t771 == 2) = false := beq_eq_false_iff_ne.mpr c9
  have c9b1 : (t771 != 2) = true := bne_iff_ne.mpr c9
  by_cases c12 : t771 = a3
  ·rw [if_pos c12] at H
   have c12b0 : (t771 == a3) = true := beq_iff_eq.mpr c12
   have c12b1 : (t771 != a3) = false := bne_eq_false_iff_eq.mpr c12
   clear c12
   obtain rfl := Option.some.inj H
   go_enter Try.func97, Try.ntmps97
   go_wp2_with (first | ((with_reducible refine gate_callee (f := 45) rfl ?_); refine goesL_ (some 14) rfl rfl Try.func45 (by kernel_rfl) rfl #[.int .i64 a0, .int .u64 a1] rfl (by (try simp only [List.map_toArray, List.map_cons, List.map_nil]); first | done | rfl | (simp only [List.length_drop, List.length_take]; rfl)) ?_; (with_reducible refine (trunnionref02_Cut.calls a0 a1 t769 _ A6.out).mono ?_); rintro e w' ⟨rfl, ⟨nd, rfl⟩⟩; refine ⟨_, rfl, ?_⟩) | ((with_reducible refine gate_callee (f := 45) rfl ?_); refine goesL_ (some 17) rfl rfl Try.func45 (by kernel_rfl) rfl #[.int .i64 a0, .int .u64 a2] rfl (by (try simp only [List.map_toArray, List.map_cons, List.map_nil]); first | done | rfl | (simp only [List.length_drop, List.length_take]; rfl)) ?_; (with_reducible refine (trunnionref02_Cut.calls a0 a2 t770 _ A7.out).mono ?_); rintro e w' ⟨rfl, ⟨nd, rfl⟩⟩; refine ⟨_, rfl, ?_⟩) | ((with_reducible refine gate_callee (f := 98) rfl ?_); refine goesL_ (some 21) rfl rfl Try.func98 (by kernel_rfl) rfl #[.int .i64 a0, .int .u64 t769, .int .u64 t770] rfl (by (try simp only [List.map_toArray, List.map_cons, List.map_nil]); first | done | rfl | (simp only [List.length_drop, List.length_take]; rfl)) ?_; (with_reducible refine (trunnionref08_Cmp.calls k a0 t769 t770 t771 _ A8.out).mono ?_); rintro e w13 ⟨rfl, hb⟩; refine ⟨_, rfl, ?_⟩; have n0_ := Aside0.mk (below_step (by repeat (first | (with_reducible first | exact HB.out | apply below_alloc | apply pw_below_drewN | apply below_drew1) | exact HB.out)) hb); clear HB; have HB := n0_; clear n0_; (try clear hb); (try clear hb2); (try clear hk); (try clear hi)))
   go_ret
   exact ⟨by first | rfl | (simp [errW_none, errW_some] <;> rfl) | (simp [*, errW_none, errW_some] <;> rfl), by repeat (first | (with_reducible first | exact HB.out | apply below_alloc | apply pw_below_drewN | apply below_drew1) | exact HB.out)⟩
  ·rw [if_neg c12] at H
   have c12b0 : (t771 == a3) = false := beq_eq_false_iff_ne.mpr c12
   have c12b1 : (t771 != a3) = true := bne_iff_ne.mpr c12
   by_cases c14 : t771 = 0
   ·rw [if_pos c14] at H
    have c14b0 : (t771 == 0) = true := beq_iff_eq.mpr c14
    have c14b1 : (t771 != 0) = false := bne_eq_false_iff_eq.mpr c14
    clear c14
    replace H := Option.bind_eq_some_iff.mp H
    obtain ⟨t773, A150, H⟩ := H
    replace H : (if (t773 == a4) = true then (some t769) else (some t770)) = some r := H
    have A15 := Aside0.mk A150
    clear A150
    by_cases c16 : (t773 == a4) = true
    ·rw [if_pos c16] at H
     have c16b0 : (t773 == a4) = true := c16
     (try (have c16b1 : decide (t773 = a4) = true := by simpa using c16))
     (try (have c16b2 : (t773 == a4) = true := by simpa using c16))
     clear c16
     obtain rfl := Option.some.inj H
     go_enter Try.func97, Try.ntmps97
     go_wp2_with (first | ((with_reducible refine gate_callee (f := 45) rfl ?_); refine goesL_ (some 14) rfl rfl Try.func45 (by kernel_rfl) rfl #[.int .i64 a0, .int .u64 a1] rfl (by (try simp only [List.map_toArray, List.map_cons, List.map_nil]); first | done | rfl | (simp only [List.length_drop, List.length_take]; rfl)) ?_; (with_reducible refine (trunnionref02_Cut.calls a0 a1 t769 _ A6.out).mono ?_); rintro e w' ⟨rfl, ⟨nd, rfl⟩⟩; refine ⟨_, rfl, ?_⟩) | ((with_reducible refine gate_callee (f := 45) rfl ?_); refine goesL_ (some 17) rfl rfl Try.func45 (by kernel_rfl) rfl #[.int .i64 a0, .int .u64 a2] rfl (by (try simp only [List.map_toArray, List.map_cons, List.map_nil]); first | done | rfl | (simp only [List.length_drop, List.length_take]; rfl)) ?_; (with_reducible refine (trunnionref02_Cut.calls a0 a2 t770 _ A7.out).mono ?_); rintro e w' ⟨rfl, ⟨nd, rfl⟩⟩; refine ⟨_, rfl, ?_⟩) | ((with_reducible refine gate_callee (f := 98) rfl ?_); refine goesL_ (some 21) rfl rfl Try.func98 (by kernel_rfl) rfl #[.int .i64 a0, .int .u64 t769, .int .u64 t770] rfl (by (try simp only [List.map_toArray, List.map_cons, List.map_nil]); first | done | rfl | (simp only [List.length_drop, List.length_take]; rfl)) ?_; (with_reducible refine (trunnionref08_Cmp.calls k a0 t769 t770 t771 _ A8.out).mono ?_); rintro e w17 ⟨rfl, hb⟩; refine ⟨_, rfl, ?_⟩; have n0_ := Aside0.mk (below_step (by repeat (first | (with_reducible first | exact HB.out | apply below_alloc | apply pw_below_drewN | apply below_drew1) | exact HB.out)) hb); clear HB; have HB := n0_; clear n0_; (try clear hb); (try clear hb2); (try clear hk); (try clear hi)) | (go_at_call 31; (with_reducible refine (trunnionref02_Neg.calls k a0 t769 t773 _ A15.out).mono ?_); rintro e w' ⟨rfl, ⟨nd, rfl⟩⟩))
     go_ret
     exact ⟨by first | rfl | (simp [errW_none, errW_some] <;> rfl) | (simp [*, errW_none, errW_some] <;> rfl), by repeat (first | (with_reducible first | exact HB.out | apply below_alloc | apply pw_below_drewN | apply below_drew1) | exact HB.out)⟩
    ·rw [if_neg c16] at H
     have c16b0 : (t773 == a4) = false := by simpa using c16
     (try (have c16b1 : decide (t773 = a4) = false := by simpa using c16))
     (try (have c16b2 : (t773 == a4) = false := by simpa using c16))
     (try (have c16b3 : ¬ (t773 = a4) := by simpa using c16))
     clear c16
     obtain rfl := Option.some.inj H
     go_enter Try.func97, Try.ntmps97
     go_wp2_with (first | ((with_reducible refine gate_callee (f := 45) rfl ?_); refine goesL_ (some 14) rfl rfl Try.func45 (by kernel_rfl) rfl #[.int .i64 a0, .int .u64 a1] rfl (by (try simp only [List.map_toArray, List.map_cons, List.map_nil]); first | done | rfl | (simp only [List.length_drop, List.length_take]; rfl)) ?_; (with_reducible refine (trunnionref02_Cut.calls a0 a1 t769 _ A6.out).mono ?_); rintro e w' ⟨rfl, ⟨nd, rfl⟩⟩; refine ⟨_, rfl, ?_⟩) | ((with_reducible refine gate_callee (f := 45) rfl ?_); refine goesL_ (some 17) rfl rfl Try.func45 (by kernel_rfl) rfl #[.int .i64 a0, .int .u64 a2] rfl (by (try simp only [List.map_toArray, List.map_cons, List.map_nil]); first | done | rfl | (simp only [List.length_drop, List.length_take]; rfl)) ?_; (with_reducible refine (trunnionref02_Cut.calls a0 a2 t770 _ A7.out).mono ?_); rintro e w' ⟨rfl, ⟨nd, rfl⟩⟩; refine ⟨_, rfl, ?_⟩) | ((with_reducible refine gate_callee (f := 98) rfl ?_); refine goesL_ (some 21) rfl rfl Try.func98 (by kernel_rfl) rfl #[.int .i64 a0, .int .u64 t769, .int .u64 t770] rfl (by (try simp only [List.map_toArray, List.map_cons, List.map_nil]); first | done | rfl | (simp only [List.length_drop, List.length_take]; rfl)) ?_; (with_reducible refine (trunnionref08_Cmp.calls k a0 t769 t770 t771 _ A8.out).mono ?_); rintro e w18 ⟨rfl, hb⟩; refine ⟨_, rfl, ?_⟩; have n0_ := Aside0.mk (below_step (by repeat (first | (with_reducible first | exact HB.out | apply below_alloc | apply pw_below_drewN | apply below_drew1) | exact HB.out)) hb); clear HB; have HB := n0_; clear n0_; (try clear hb); (try clear hb2); (try clear hk); (try clear hi)) | (go_at_call 31; (with_reducible refine (trunnionref02_Neg.calls k a0 t769 t773 _ A15.out).mono ?_); rintro e w' ⟨rfl, ⟨nd, rfl⟩⟩))
     go_ret
     exact ⟨by first | rfl | (simp [errW_none, errW_some] <;> rfl) | (simp [*, errW_none, errW_some] <;> rfl), by repeat (first | (with_reducible first | exact HB.out | apply below_alloc | apply pw_below_drewN | apply below_drew1) | exact HB.out)⟩
   ·rw [if_neg c14] at H
    have c14b0 : (t771 == 0) = false := beq_eq_false_iff_ne.mpr c14
    have c14b1 : (t771 != 0) = true := bne_iff_ne.mpr c14
    obtain rfl := Option.some.inj H
    go_enter Try.func97, Try.ntmps97
    go_wp2_with (first | ((with_reducible refine gate_callee (f := 45) rfl ?_); refine goesL_ (some 14) rfl rfl Try.func45 (by kernel_rfl) rfl #[.int .i64 a0, .int .u64 a1] rfl (by (try simp only [List.map_toArray, List.map_cons, List.map_nil]); first | done | rfl | (simp only [List.length_drop, List.length_take]; rfl)) ?_; (with_reducible refine (trunnionref02_Cut.calls a0 a1 t769 _ A6.out).mono ?_); rintro e w' ⟨rfl, ⟨nd, rfl⟩⟩; refine ⟨_, rfl, ?_⟩) | ((with_reducible refine gate_callee (f := 45) rfl ?_); refine goesL_ (some 17) rfl rfl Try.func45 (by kernel_rfl) rfl #[.int .i64 a0, .int .u64 a2] rfl (by (try simp only [List.map_toArray, List.map_cons, List.map_nil]); first | done | rfl | (simp only [List.length_drop, List.length_take]; rfl)) ?_; (with_reducible refine (trunnionref02_Cut.calls a0 a2 t770 _ A7.out).mono ?_); rintro e w' ⟨rfl, ⟨nd, rfl⟩⟩; refine ⟨_, rfl, ?_⟩) | ((with_reducible refine gate_callee (f := 98) rfl ?_); refine goesL_ (some 21) rfl rfl Try.func98 (by kernel_rfl) rfl #[.int .i64 a0, .int .u64 t769, .int .u64 t770] rfl (by (try simp only [List.map_toArray, List.map_cons, List.map_nil]); first | done | rfl | (simp only [List.length_drop, List.length_take]; rfl)) ?_; (with_reducible refine (trunnionref08_Cmp.calls k a0 t769 t770 t771 _ A8.out).mono ?_); rintro e w19 ⟨rfl, hb⟩; refine ⟨_, rfl, ?_⟩; have n0_ := Aside0.mk (below_step (by repeat (first | (with_reducible first | exact HB.out | apply below_alloc | apply pw_below_drewN | apply below_drew1) | exact HB.out)) hb); clear HB; have HB := n0_; clear n0_; (try clear hb); (try clear hb2); (try clear hk); (try clear hi)))
    go_ret
    exact ⟨by first | rfl | (simp [errW_none, errW_some] <;> rfl) | (simp [*, errW_none, errW_some] <;> rfl), by repeat (first | (with_reducible first | exact HB.out | apply below_alloc | apply pw_below_drewN | apply below_drew1) | exact HB.out)⟩

end Go.Proofs.Ytmjfenbbgfohlaa.PA

namespace Go.Proofs.Ytmjfenbbgfohlaa.PA
open Go.RowKit Go.Proofs.YtmjfenbbgfohlaaW.PrintWords Go.Proofs.YtmjfenbbgfohlaaW.PrintLast Go.Proofs.YtmjfenbbgfohlaaW.PrintMore
attribute [local go_sem] max2_int min2_int max_two min_two max_three min_three max_four min_four   -- for this text's walks alone
set_option linter.unusedVariables false
set_option linter.unusedSimpArgs false

/-! ### trunnionlaw08_OrderPicks: function 17 -/
def trunnionlaw08_OrderPicks.j0 : Nat → Int → Int → Int → Int → Bool → Int → Bool → Bool → Option (Bool)
 | 0, _, _, _, _, _, _, _, _ => none
 | k + 1, x0, x1, x2, x9, x10, x11, x12, x76 => if x76 = true then (some false) else ((trunnionref02_Open.f k x0 x1).bind fun bt784 => ((trunnionref02_Open.f k x0 x2).bind fun bt788 => (if (x10 != (bt784.2.1 != 3)) = true then (some false) else (if (x12 != (bt788.2.1 != 3)) = true then (some false) else (if x10 = true then ((trunnionref08_Cmp.f k x0 x1 x2).bind fun t794 => (if x12 = true then (if ((decide (x9 < x11)) == (t794 == (-1))) = true then (if ((x9 == x11) == (t794 == 0)) = true then (if bt784.1 = true then (some ((decide (x9 < 0)) == (bt784.2.1 != 0))) else (some ((decide (x9 < 0)) == false))) else (some false)) else (some false)) else (some true))) else (if x9 = 0 then ((trunnionref08_Cmp.f k x0 x1 x2).bind fun t795 => (some true)) else (some false)))))))
def trunnionlaw08_OrderPicks.f (k : Nat) (a0 : Int) (a1 : Int) (a2 : Int) : Option (Bool) := (trunnionlaw08_awake.f k).bind fun t774 => (if t774 = true then ((order_Min.f k a0 a1 a2).bind fun t775 => ((order_Max.f k a0 a1 a2).bind fun t776 => ((order_Rank.f k a0 a1).bind fun bt777 => ((order_Rank.f k a0 a2).bind fun bt779 => ((trunnionref02_Known.f a0).bind fun t781 => (if t781 = true then ((trunnionref08_Pick.f k a0 a1 a2 (-1) true).bind fun t782 => (if t775 = t782 then ((trunnionref08_Pick.f k a0 a1 a2 1 false).bind fun t783 => (trunnionlaw08_OrderPicks.j0 k a0 a1 a2 bt777.1 bt777.2 bt779.1 bt779.2 (t776 != t783))) else (trunnionlaw08_OrderPicks.j0 k a0 a1 a2 bt777.1 bt777.2 bt779.1 bt779.2 true))) else (if t775 = 0 then (if t776 = 0 then (if bt777.1 = 0 then (if bt777.2 = true then (some false) else (if bt779.1 = 0 then (some (!bt779.2)) else (some false))) else (some false)) else (some false)) else (some false)))))))) else (some false))
theorem trunnionlaw08_OrderPicks.mono_l : ∀ k, (∀ y0 y1 y2 y3 y4 y5 y6 y7, LeO (trunnionlaw08_OrderPicks.j0 k y0 y1 y2 y3 y4 y5 y6 y7) (trunnionlaw08_OrderPicks.j0 (k + 1) y0 y1 y2 y3 y4 y5 y6 y7))
 | 0 => fun _ _ _ _ _ _ _ _ r h => by simp [trunnionlaw08_OrderPicks.j0] at h
 | k + 1 => by
  have ih0 := trunnionlaw08_OrderPicks.mono_l k
  ·intro y0 y1 y2 y3 y4 y5 y6 y7
   unfold trunnionlaw08_OrderPicks.j0
   repeat' first
   | (with_reducible exact ih0 _ _ _ _ _ _ _ _)
   | (with_reducible exact order_Max.mono _ _ _ _)
   | (with_reducible exact order_Min.mono _ _ _ _)
   | (with_reducible exact order_Rank.mono _ _ _)
   | (with_reducible exact trunnionlaw08_awake.mono _)
   | (with_reducible exact trunnionref02_Open.mono _ _ _)
   | (with_reducible exact trunnionref08_Cmp.mono _ _ _ _)
   | (with_reducible exact trunnionref08_Pick.mono _ _ _ _ _ _)
   | (with_reducible exact LeO.refl _)
   | (with_reducible exact LeO.none _)
   | (with_reducible refine LeO.ite ?_ ?_)
   | (with_reducible refine LeO.bind ?_ (fun _ => ?_))
   | exact ih0 _ _ _ _ _ _ _ _
   | exact order_Max.mono _ _ _ _
   | exact order_Min.mono _ _ _ _
   | exact order_Rank.mono _ _ _
   | exact trunnionlaw08_awake.mono _
   | exact trunnionref02_Open.mono _ _ _
   | exact trunnionref08_Cmp.mono _ _ _ _
   | exact trunnionref08_Pick.mono _ _ _ _ _ _
   | exact LeO.none _
   | refine LeO.ite ?_ ?_
   | refine LeO.bind ?_ (fun _ => ?_)
theorem trunnionlaw08_OrderPicks.mono : ∀ a0 a1 a2 k, LeO (trunnionlaw08_OrderPicks.f k a0 a1 a2) (trunnionlaw08_OrderPicks.f (k + 1) a0 a1 a2) := by
 intro a0 a1 a2 k
 have ih0 := trunnionlaw08_OrderPicks.mono_l k
 unfold trunnionlaw08_OrderPicks.f
 repeat' first
   | (with_reducible exact ih0 _ _ _ _ _ _ _ _)
   | (with_reducible exact order_Max.mono _ _ _ _)
   | (with_reducible exact order_Min.mono _ _ _ _)
   | (with_reducible exact order_Rank.mono _ _ _)
   | (with_reducible exact trunnionlaw08_awake.mono _)
   | (with_reducible exact trunnionref02_Open.mono _ _ _)
   | (with_reducible exact trunnionref08_Cmp.mono _ _ _ _)
   | (with_reducible exact trunnionref08_Pick.mono _ _ _ _ _ _)
   | (with_reducible exact LeO.refl _)
   | (with_reducible exact LeO.none _)
   | (with_reducible refine LeO.ite ?_ ?_)
   | (with_reducible refine LeO.bind ?_ (fun _ => ?_))
   | exact ih0 _ _ _ _ _ _ _ _
   | exact order_Max.mono _ _ _ _
   | exact order_Min.mono _ _ _ _
   | exact order_Rank.mono _ _ _
   | exact trunnionlaw08_awake.mono _
   | exact trunnionref02_Open.mono _ _ _
   | exact trunnionref08_Cmp.mono _ _ _ _
   | exact trunnionref08_Pick.mono _ _ _ _ _ _
   | exact LeO.none _
   | refine LeO.ite ?_ ?_
   | refine LeO.bind ?_ (fun _ => ?_)
set_option maxHeartbeats 8000000 in
set_option maxRecDepth 100000 in
theorem trunnionlaw08_OrderPicks.calls (k : Nat) (a0 : Int) (a1 : Int) (a2 : Int) (r : Bool) (w : World) (h : trunnionlaw08_OrderPicks.f k a0 a1 a2 = some r) (hr_ : Aside0 (r = true)) :
  Calls Try.prog 17 #[.int .i64 a0, .int .u64 a1, .int .u64 a2] w fun e w' => e = .returned (.bool r) ∧ Below w.heap.size w w' := by
 have hu36 := Try.underlying36
 have HB := Aside0.mk (Below.refl w.heap.size w)
 have H : ((trunnionlaw08_awake.f k).bind fun t774 => (if t774 = true then ((order_Min.f k a0 a1 a2).bind fun t775 => ((order_Max.f k a0 a1 a2).bind fun t776 => ((order_Rank.f k a0 a1).bind fun bt777 => ((order_Rank.f k a0 a2).bind fun bt779 => ((trunnionref02_Known.f a0).bind fun t781 => (if t781 = true then ((trunnionref08_Pick.f k a0 a1 a2 (-1) true).bind fun t782 => (if t775 = t782 then ((trunnionref08_Pick.f k a0 a1 a2 1 false).bind fun t783 => (trunnionlaw08_OrderPicks.j0 k a0 a1 a2 bt777.1 bt777.2 bt779.1 bt779.2 (t776 != t783))) else (trunnionlaw08_OrderPicks.j0 k a0 a1 a2 bt777.1 bt777.2 bt779.1 bt779.2 true))) else (if t775 = 0 then (if t776 = 0 then (if bt777.1 = 0 then (if bt777.2 = true then (some false) else (if bt779.1 = 0 then (some (!bt779.2)) else (some false))) else (some false)) else (some false)) else (some false)))))))) else (some false))) = some r := h
 clear h
 replace H := Option.bind_eq_some_iff.mp H
 obtain ⟨t774, A40, H⟩ := H
 replace H : (if t774 = true then ((order_Min.f k a0 a1 a2).bind fun t775 => ((order_Max.f k a0 a1 a2).bind fun t776 => ((order_Rank.f k a0 a1).bind fun bt777 => ((order_Rank.f k a0 a2).bind fun bt779 => ((trunnionref02_Known.f a0).bind fun t781 => (if t781 = true then ((trunnionref08_Pick.f k a0 a1 a2 (-1) true).bind fun t782 => (if t775 = t782 then ((trunnionref08_Pick.f k a0 a1 a2 1 false).bind fun t783 => (trunnionlaw08_OrderPicks.j0 k a0 a1 a2 bt777.1 bt777.2 bt779.1 bt779.2 (t776 != t783))) else (trunnionlaw08_OrderPicks.j0 k a0 a1 a2 bt777.1 bt777.2 bt779.1 bt779.2 true))) else (if t775 = 0 then (if t776 = 0 then (if bt777.1 = 0 then (if bt777.2 = true then (some false) else (if bt779.1 = 0 then (some (!bt779.2)) else (some false))) else (some false)) else (some false)) else (some false)))))))) else (some false)) = some r := H
 have A4 := Aside0.mk A40
 clear A40
 by_cases c5 : t774 = true
 ·subst c5
  have H1 : ((order_Min.f k a0 a1 a2).bind fun t775 => ((order_Max.f k a0 a1 a2).bind fun t776 => ((order_Rank.f k a0 a1).bind fun bt777 => ((order_Rank.f k a0 a2).bind fun bt779 => ((trunnionref02_Known.f a0).bind fun t781 => (if t781 = true then ((trunnionref08_Pick.f k a0 a1 a2 (-1) true).bind fun t782 => (if t775 = t782 then ((trunnionref08_Pick.f k a0 a1 a2 1 false).bind fun t783 => (trunnionlaw08_OrderPicks.j0 k a0 a1 a2 bt777.1 bt777.2 bt779.1 bt779.2 (t776 != t783))) else (trunnionlaw08_OrderPicks.j0 k a0 a1 a2 bt777.1 bt777.2 bt779.1 bt779.2 true))) else (if t775 = 0 then (if t776 = 0 then (if bt777.1 = 0 then (if bt777.2 = true then (some false) else (if bt779.1 = 0 then (some (!bt779.2)) else (some false))) else (some false)) else (some false)) else (some false)))))))) = some r := by rw [if_pos rfl] at H; exact H
  clear H
  have H := H1
  clear H1
  replace H := Option.bind_eq_some_iff.mp H
  obtain ⟨t775, A60, H⟩ := H
  replace H : ((order_Max.f k a0 a1 a2).bind fun t776 => ((order_Rank.f k a0 a1).bind fun bt777 => ((order_Rank.f k a0 a2).bind fun bt779 => ((trunnionref02_Known.f a0).bind fun t781 => (if t781 = true then ((trunnionref08_Pick.f k a0 a1 a2 (-1) true).bind fun t782 => (if t775 = t782 then ((trunnionref08_Pick.f k a0 a1 a2 1 false).bind fun t783 => (trunnionlaw08_OrderPicks.j0 k a0 a1 a2 bt777.1 bt777.2 bt779.1 bt779.2 (t776 != t783))) else (trunnionlaw08_OrderPicks.j0 k a0 a1 a2 bt777.1 bt777.2 bt779.1 bt779.2 true))) else (if t775 = 0 then (if t776 = 0 then (if bt777.1 = 0 then (if bt777.2 = true then (some false) else (if bt779.1 = 0 then (some (!bt779.2)) else (some false))) else (some false)) else (some false)) else (some false))))))) = some r := H
  have A6 := Aside0.mk A60
  clear A60
  replace H := Option.bind_eq_some_iff.mp H
  obtain ⟨t776, A70, H⟩ := H
  replace H : ((order_Rank.f k a0 a1).bind fun bt777 => ((order_Rank.f k a0 a2).bind fun bt779 => ((trunnionref02_Known.f a0).bind fun t781 => (if t781 = true then ((trunnionref08_Pick.f k a0 a1 a2 (-1) true).bind fun t782 => (if t775 = t782 then ((trunnionref08_Pick.f k a0 a1 a2 1 false).bind fun t783 => (trunnionlaw08_OrderPicks.j0 k a0 a1 a2 bt777.1 bt777.2 bt779.1 bt779.2 (t776 != t783))) else (trunnionlaw08_OrderPicks.j0 k a0 a1 a2 bt777.1 bt777.2 bt779.1 bt779.2 true))) else (if t775 = 0 then (if t776 = 0 then (if bt777.1 = 0 then (if bt777.2 = true then (some false) else (if bt779.1 = 0 then (some (!bt779.2)) else (some false))) else (some false)) else (some false)) else (some false)))))) = some r := H
  have A7 := Aside0.mk A70
  clear A70
  replace H := Option.bind_eq_some_iff.mp H
  obtain ⟨⟨t777, t778⟩, A80, H⟩ := H
  replace H : ((order_Rank.f k a0 a2).bind fun bt779 => ((trunnionref02_Known.f a0).bind fun t781 => (if t781 = true then ((trunnionref08_Pick.f k a0 a1 a2 (-1) true).bind fun t782 => (if t775 = t782 then ((trunnionref08_Pick.f k a0 a1 a2 1 false).bind fun t783 => (trunnionlaw08_OrderPicks.j0 k a0 a1 a2 t777 t778 bt779.1 bt779.2 (t776 != t783))) else (trunnionlaw08_OrderPicks.j0 k a0 a1 a2 t777 t778 bt779.1 bt779.2 true))) else (if t775 = 0 then (if t776 = 0 then (if t777 = 0 then (if t778 = true then (some false) else (if bt779.1 = 0 then (some (!bt779.2)) else (some false))) else (some false)) else (some false)) else (some false))))) = some r := H
  have A8 := Aside0.mk A80
  clear A80
  replace H := Option.bind_eq_some_iff.mp H
  obtain ⟨⟨t779, t780⟩, A90, H⟩ := H
  replace H : ((trunnionref02_Known.f a0).bind fun t781 => (if t781 = true then ((trunnionref08_Pick.f k a0 a1 a2 (-1) true).bind fun t782 => (if t775 = t782 then ((trunnionref08_Pick.f k a0 a1 a2 1 false).bind fun t783 => (trunnionlaw08_OrderPicks.j0 k a0 a1 a2 t777 t778 t779 t780 (t776 != t783))) else (trunnionlaw08_OrderPicks.j0 k a0 a1 a2 t777 t778 t779 t780 true))) else (if t775 = 0 then (if t776 = 0 then (if t777 = 0 then (if t778 = true then (some false) else (if t779 = 0 then (some (!t780)) else (some false))) else (some false)) else (some false)) else (some false)))) = some r := H
  have A9 := Aside0.mk A90
  clear A90
  replace H := Option.bind_eq_some_iff.mp H
  obtain ⟨t781, A100, H⟩ := H
  replace H : (if t781 = true then ((trunnionref08_Pick.f k a0 a1 a2 (-1) true).bind fun t782 => (if t775 = t782 then ((trunnionref08_Pick.f k a0 a1 a2 1 false).bind fun t783 => (trunnionlaw08_OrderPicks.j0 k a0 a1 a2 t777 t778 t779 t780 (t776 != t783))) else (trunnionlaw08_OrderPicks.j0 k a0 a1 a2 t777 t778 t779 t780 true))) else (if t775 = 0 then (if t776 = 0 then (if t777 = 0 then (if t778 = true then (some false) else (if t779 = 0 then (some (!t780)) else (some false))) else (some false)) else (some false)) else (some false))) = some r := H
  have A10 := Aside0.mk A100
  clear A100
  by_cases c11 : t781 = true
  ·subst c11
   have H1 : ((trunnionref08_Pick.f k a0 a1 a2 (-1) true).bind fun t782 => (if t775 = t782 then ((trunnionref08_Pick.f k a0 a1 a2 1 false).bind fun t783 => (trunnionlaw08_OrderPicks.j0 k a0 a1 a2 t777 t778 t779 t780 (t776 != t783))) else (trunnionlaw08_OrderPicks.j0 k a0 a1 a2 t777 t778 t779 t780 true))) = some r := by rw [if_pos rfl] at H; exact H
   clear H
   have H := H1
   clear H1
   have HC12 := Aside0.mk H
   clear H
   go_enter Try.func17, Try.ntmps17
   go_upto_region 8 with (first | ((with_reducible refine gate_callee (f := 93) rfl ?_); refine goesL_ (some 16) rfl rfl Try.func93 (by kernel_rfl) rfl #[] rfl (by (try simp only [List.map_toArray, List.map_cons, List.map_nil]); first | done | rfl | (simp only [List.length_drop, List.length_take]; rfl)) ?_; (with_reducible refine (trunnionlaw08_awake.calls k  true _ A4.out).mono ?_); rintro e w13 ⟨rfl, hb⟩; refine ⟨_, rfl, ?_⟩; have n0_ := Aside0.mk (below_step (by repeat (first | (with_reducible first | exact HB.out | apply below_alloc | apply pw_below_drewN | apply below_drew1) | exact HB.out)) hb); clear HB; have HB := n0_; clear n0_; (try clear hb); (try clear hb2); (try clear hk); (try clear hi)) | ((with_reducible refine gate_callee (f := 94) rfl ?_); refine goesL_ (some 21) rfl rfl Try.func94 (by kernel_rfl) rfl #[.int .i64 a0, .int .u64 a1, .int .u64 a2] rfl (by (try simp only [List.map_toArray, List.map_cons, List.map_nil]); first | done | rfl | (simp only [List.length_drop, List.length_take]; rfl)) ?_; (with_reducible refine (order_Min.calls k a0 a1 a2 t775 _ A6.out).mono ?_); rintro e w14 ⟨rfl, hb⟩; refine ⟨_, rfl, ?_⟩; have n0_ := Aside0.mk (below_step (by repeat (first | (with_reducible first | exact HB.out | apply below_alloc | apply pw_below_drewN | apply below_drew1) | exact HB.out)) hb); clear HB; have HB := n0_; clear n0_; (try clear hb); (try clear hb2); (try clear hk); (try clear hi)) | ((with_reducible refine gate_callee (f := 95) rfl ?_); refine goesL_ (some 25) rfl rfl Try.func95 (by kernel_rfl) rfl #[.int .i64 a0, .int .u64 a1, .int .u64 a2] rfl (by (try simp only [List.map_toArray, List.map_cons, List.map_nil]); first | done | rfl | (simp only [List.length_drop, List.length_take]; rfl)) ?_; (with_reducible refine (order_Max.calls k a0 a1 a2 t776 _ A7.out).mono ?_); rintro e w15 ⟨rfl, hb⟩; refine ⟨_, rfl, ?_⟩; have n0_ := Aside0.mk (below_step (by repeat (first | (with_reducible first | exact HB.out | apply below_alloc | apply pw_below_drewN | apply below_drew1) | exact HB.out)) hb); clear HB; have HB := n0_; clear n0_; (try clear hb); (try clear hb2); (try clear hk); (try clear hi)) | ((with_reducible refine gate_callee (f := 96) rfl ?_); refine goesL_ (some 29) rfl rfl Try.func96 (by kernel_rfl) rfl #[.int .i64 a0, .int .u64 a1] rfl (by (try simp only [List.map_toArray, List.map_cons, List.map_nil]); first | done | rfl | (simp only [List.length_drop, List.length_take]; rfl)) ?_; (with_reducible refine (order_Rank.calls k a0 a1 t777 t778 _ A8.out).mono ?_); rintro e w16 ⟨rfl, hb⟩; refine ⟨_, rfl, ?_⟩; have n0_ := Aside0.mk (below_step (by repeat (first | (with_reducible first | exact HB.out | apply below_alloc | apply pw_below_drewN | apply below_drew1) | exact HB.out)) hb); clear HB; have HB := n0_; clear n0_; (try clear hb); (try clear hb2); (try clear hk); (try clear hi)) | ((with_reducible refine gate_callee (f := 96) rfl ?_); refine goesL_ (some 35) rfl rfl Try.func96 (by kernel_rfl) rfl #[.int .i64 a0, .int .u64 a2] rfl (by (try simp only [List.map_toArray, List.map_cons, List.map_nil]); first | done | rfl | (simp only [List.length_drop, List.length_take]; rfl)) ?_; (with_reducible refine (order_Rank.calls k a0 a2 t779 t780 _ A9.out).mono ?_); rintro e w17 ⟨rfl, hb⟩; refine ⟨_, rfl, ?_⟩; have n0_ := Aside0.mk (below_step (by repeat (first | (with_reducible first | exact HB.out | apply below_alloc | apply pw_below_drewN | apply below_drew1) | exact HB.out)) hb); clear HB; have HB := n0_; clear n0_; (try clear hb); (try clear hb2); (try clear hk); (try clear hi)) | ((with_reducible refine gate_callee (f := 29) rfl ?_); refine goesL_ (some 39) rfl rfl Try.func29 (by kernel_rfl) rfl #[.int .i64 a0] rfl (by (try simp only [List.map_toArray, List.map_cons, List.map_nil]); first | done | rfl | (simp only [List.length_drop, List.length_take]; rfl)) ?_; (with_reducible refine (trunnionref02_Known.calls a0 true _ A10.out).mono ?_); rintro e w' ⟨rfl, ⟨nd, rfl⟩⟩; refine ⟨_, rfl, ?_⟩))
   (try simp only [Act.put, List.setIfInBounds_toArray, List.set_cons_zero, List.set_cons_succ])
   go_cut [76] (fun v76 wc => ∃ (kq : Nat) (x76_11 : Bool), v76 = .bool x76_11 ∧ Aside0 (trunnionlaw08_OrderPicks.j0 kq a0 a1 a2 t777 t778 t779 t780 x76_11 = some r) ∧ Aside0 (kq ≤ k) ∧ Aside0 (Below w.heap.size w wc))
   case first =>
    have H := HC12.out
    clear HC12
    replace H := Option.bind_eq_some_iff.mp H
    obtain ⟨t782, A180, H⟩ := H
    replace H : (if t775 = t782 then ((trunnionref08_Pick.f k a0 a1 a2 1 false).bind fun t783 => (trunnionlaw08_OrderPicks.j0 k a0 a1 a2 t777 t778 t779 t780 (t776 != t783))) else (trunnionlaw08_OrderPicks.j0 k a0 a1 a2 t777 t778 t779 t780 true)) = some r := H
    have A18 := Aside0.mk A180
    clear A180
    by_cases c19 : t775 = t782
    ·rw [if_pos c19] at H
     have c19b0 : (t775 == t782) = true := beq_iff_eq.mpr c19
     have c19b1 : (t775 != t782) = false := bne_eq_false_iff_eq.mpr c19
     clear c19
     (first | rw [c19b0] | (simp only [i64_w, i32_w]; rw [c19b0]) | skip)
     replace H := Option.bind_eq_some_iff.mp H
     obtain ⟨t783, A200, H⟩ := H
     replace H : (trunnionlaw08_OrderPicks.j0 k a0 a1 a2 t777 t778 t779 t780 (t776 != t783)) = some r := H
     have A20 := Aside0.mk A200
     clear A200
     have H' := Aside0.mk H
     clear H
     go_wp2_with (first | ((with_reducible refine gate_callee (f := 97) rfl ?_); refine goesL_ (some 67) rfl rfl Try.func97 (by kernel_rfl) rfl #[.int .i64 a0, .int .u64 a1, .int .u64 a2, .int .i64 (-1), .bool true] rfl (by (try simp only [List.map_toArray, List.map_cons, List.map_nil]); first | done | rfl | (simp only [List.length_drop, List.length_take]; rfl)) ?_; (with_reducible refine (trunnionref08_Pick.calls k a0 a1 a2 (-1) true t782 _ A18.out).mono ?_); rintro e w21 ⟨rfl, hb⟩; refine ⟨_, rfl, ?_⟩; have n0_ := Aside0.mk (below_step (by repeat (first | (with_reducible first | exact HB.out | apply below_alloc | apply pw_below_drewN | apply below_drew1) | exact HB.out)) hb); clear HB; have HB := n0_; clear n0_; (try clear hb); (try clear hb2); (try clear hk); (try clear hi)) | (go_at_call 97; (with_reducible refine (trunnionref08_Pick.calls k a0 a1 a2 1 false t783 _ A20.out).mono ?_); rintro e w22 ⟨rfl, hb⟩; have n0_ := Aside0.mk (below_step (by repeat (first | (with_reducible first | exact HB.out | apply below_alloc | apply pw_below_drewN | apply below_drew1) | exact HB.out)) hb); clear HB; have HB := n0_; clear n0_; (try clear hb); (try clear hb2); (try clear hk); (try clear hi)))
     go_meet
     case rel => exact ⟨_, ((t776 != t783)), (by first | rfl | (simp; done) | (simp [*]; done)), H', ⟨by first | omega | exact Nat.le_refl _⟩, ⟨by repeat (first | (with_reducible first | exact HB.out | apply below_alloc | apply pw_below_drewN | apply below_drew1) | exact HB.out)⟩⟩
    ·rw [if_neg c19] at H
     have c19b0 : (t775 == t782) = false := beq_eq_false_iff_ne.mpr c19
     have c19b1 : (t775 != t782) = true := bne_iff_ne.mpr c19
     (first | rw [c19b0] | (simp only [i64_w, i32_w]; rw [c19b0]) | skip)
     have H' := Aside0.mk H
     clear H
     go_wp2_with (first | ((with_reducible refine gate_callee (f := 97) rfl ?_); refine goesL_ (some 67) rfl rfl Try.func97 (by kernel_rfl) rfl #[.int .i64 a0, .int .u64 a1, .int .u64 a2, .int .i64 (-1), .bool true] rfl (by (try simp only [List.map_toArray, List.map_cons, List.map_nil]); first | done | rfl | (simp only [List.length_drop, List.length_take]; rfl)) ?_; (with_reducible refine (trunnionref08_Pick.calls k a0 a1 a2 (-1) true t782 _ A18.out).mono ?_); rintro e w23 ⟨rfl, hb⟩; refine ⟨_, rfl, ?_⟩; have n0_ := Aside0.mk (below_step (by repeat (first | (with_reducible first | exact HB.out | apply below_alloc | apply pw_below_drewN | apply below_drew1) | exact HB.out)) hb); clear HB; have HB := n0_; clear n0_; (try clear hb); (try clear hb2); (try clear hk); (try clear hi)))
     go_meet
     case rel => exact ⟨_, (true), (by first | rfl | (simp; done) | (simp [*]; done)), H', ⟨by first | omega | exact Nat.le_refl _⟩, ⟨by repeat (first | (with_reducible first | exact HB.out | apply below_alloc | apply pw_below_drewN | apply below_drew1) | exact HB.out)⟩⟩
   case rest =>
    clear HC12
    try clear c1
    try clear c2
    try clear p2
    try clear c5
    try clear c9
    try clear c11
    try clear c17
    try clear c19
    try clear c19b0
    try clear c19b1
    obtain ⟨kq, x76_11, rfl, HA, HJ11, HB⟩ := hcut
    cases kq with
    | zero => exact absurd HA.out (by simp [trunnionlaw08_OrderPicks.j0])
    | succ kj11 =>
     have H := HA.out
     clear HA
     simp only [trunnionlaw08_OrderPicks.j0] at H
     by_cases c24 : x76_11 = true
     ·subst c24
      have H1 : (some false) = some r := by rw [if_pos rfl] at H; exact H
      clear H
      have H := H1
      clear H1
      exact absurd ((Option.some.inj H).trans hr_.out) (by decide)
     ·replace c24 := Bool.eq_false_iff.mpr c24
      subst c24
      have H1 : ((trunnionref02_Open.f kj11 a0 a1).bind fun bt784 => ((trunnionref02_Open.f kj11 a0 a2).bind fun bt788 => (if (t778 != (bt784.2.1 != 3)) = true then (some false) else (if (t780 != (bt788.2.1 != 3)) = true then (some false) else (if t778 = true then ((trunnionref08_Cmp.f kj11 a0 a1 a2).bind fun t794 => (if t780 = true then (if ((decide (t777 < t779)) == (t794 == (-1))) = true then (if ((t777 == t779) == (t794 == 0)) = true then (if bt784.1 = true then (some ((decide (t777 < 0)) == (bt784.2.1 != 0))) else (some ((decide (t777 < 0)) == false))) else (some false)) else (some false)) else (some true))) else (if t777 = 0 then ((trunnionref08_Cmp.f kj11 a0 a1 a2).bind fun t795 => (some true)) else (some false))))))) = some r := by rw [if_neg (show ¬ (false = true) by decide)] at H; exact H
      clear H
      have H := H1
      clear H1
      replace H := Option.bind_eq_some_iff.mp H
      obtain ⟨⟨t784, t785, t786, t787⟩, A250, H⟩ := H
      replace H : ((trunnionref02_Open.f kj11 a0 a2).bind fun bt788 => (if (t778 != (t785 != 3)) = true then (some false) else (if (t780 != (bt788.2.1 != 3)) = true then (some false) else (if t778 = true then ((trunnionref08_Cmp.f kj11 a0 a1 a2).bind fun t794 => (if t780 = true then (if ((decide (t777 < t779)) == (t794 == (-1))) = true then (if ((t777 == t779) == (t794 == 0)) = true then (if t784 = true then (some ((decide (t777 < 0)) == (t785 != 0))) else (some ((decide (t777 < 0)) == false))) else (some false)) else (some false)) else (some true))) else (if t777 = 0 then ((trunnionref08_Cmp.f kj11 a0 a1 a2).bind fun t795 => (some true)) else (some false)))))) = some r := H
      have A25 := Aside0.mk A250
      clear A250
      replace H := Option.bind_eq_some_iff.mp H
      obtain ⟨⟨t788, t789, t790, t791⟩, A260, H⟩ := H
      replace H : (if (t778 != (t785 != 3)) = true then (some false) else (if (t780 != (t789 != 3)) = true then (some false) else (if t778 = true then ((trunnionref08_Cmp.f kj11 a0 a1 a2).bind fun t794 => (if t780 = true then (if ((decide (t777 < t779)) == (t794 == (-1))) = true then (if ((t777 == t779) == (t794 == 0)) = true then (if t784 = true then (some ((decide (t777 < 0)) == (t785 != 0))) else (some ((decide (t777 < 0)) == false))) else (some false)) else (some false)) else (some true))) else (if t777 = 0 then ((trunnionref08_Cmp.f kj11 a0 a1 a2).bind fun t795 => (some true)) else (some false))))) = some r := H
      have A26 := Aside0.mk A260
      clear A260
      by_cases c27 : (t778 != (t785 != 3)) = true
      ·rw [if_pos c27] at H
       have c27b0 : (t778 != (t785 != 3)) = true := c27
       (try (have c27b1 : decide (t778 = (t785 != 3)) = false := by simpa using c27))
       (try (have c27b2 : (t778 == (t785 != 3)) = false := by simpa using c27))
       (try (have c27b3 : ¬ (t778 = (t785 != 3)) := by simpa using c27))
       clear c27
       exact absurd ((Option.some.inj H).trans hr_.out) (by decide)
      ·rw [if_neg c27] at H
       have c27b0 : (t778 != (t785 != 3)) = false := by simpa using c27
       (try (have c27b1 : decide (t778 = (t785 != 3)) = true := by simpa using c27))
       (try (have c27b2 : (t778 == (t785 != 3)) = true := by simpa using c27))
       clear c27
       by_cases c28 : (t780 != (t789 != 3)) = true
       ·rw [if_pos c28] at H
        have c28b0 : (t780 != (t789 != 3)) = true := c28
        (try (have c28b1 : decide (t780 = (t789 != 3)) = false := by simpa using c28))
        (try (have c28b2 : (t780 == (t789 != 3)) = false := by simpa using c28))
        (try (have c28b3 : ¬ (t780 = (t789 != 3)) := by simpa using c28))
        clear c28
        exact absurd ((Option.some.inj H).trans hr_.out) (by decide)
       ·rw [if_neg c28] at H
        have c28b0 : (t780 != (t789 != 3)) = false := by simpa using c28
        (try (have c28b1 : decide (t780 = (t789 != 3)) = true := by simpa using c28))
        (try (have c28b2 : (t780 == (t789 != 3)) = true := by simpa using c28))
        clear c28
        by_cases c29 : t778 = true
        ·subst c29
         have H1 : ((trunnionref08_Cmp.f kj11 a0 a1 a2).bind fun t794 => (if t780 = true then (if ((decide (t777 < t779)) == (t794 == (-1))) = true then (if ((t777 == t779) == (t794 == 0)) = true then (if t784 = true then (some ((decide (t777 < 0)) == (t785 != 0))) else (some ((decide (t777 < 0)) == false))) else (some false)) else (some false)) else (some true))) = some r := by rw [if_pos rfl] at H; exact H
         clear H
         have H := H1
         clear H1
         replace H := Option.bind_eq_some_iff.mp H
         obtain ⟨t794, A300, H⟩ := H
         replace H : (if t780 = true then (if ((decide (t777 < t779)) == (t794 == (-1))) = true then (if ((t777 == t779) == (t794 == 0)) = true then (if t784 = true then (some ((decide (t777 < 0)) == (t785 != 0))) else (some ((decide (t777 < 0)) == false))) else (some false)) else (some false)) else (some true)) = some r := H
         have A30 := Aside0.mk A300
         clear A300
         by_cases c31 : t780 = true
         ·subst c31
          have H1 : (if ((decide (t777 < t779)) == (t794 == (-1))) = true then (if ((t777 == t779) == (t794 == 0)) = true then (if t784 = true then (some ((decide (t777 < 0)) == (t785 != 0))) else (some ((decide (t777 < 0)) == false))) else (some false)) else (some false)) = some r := by rw [if_pos rfl] at H; exact H
          clear H
          have H := H1
          clear H1
          by_cases c32 : ((decide (t777 < t779)) == (t794 == (-1))) = true
          ·rw [if_pos c32] at H
           have c32b0 : ((decide (t777 < t779)) == (t794 == (-1))) = true := c32
           (try (have c32b1 : decide ((decide (t777 < t779)) = (t794 == (-1))) = true := by simpa using c32))
           (try (have c32b2 : ((decide (t777 < t779)) == (t794 == (-1))) = true := by simpa using c32))
           clear c32
           by_cases c33 : ((t777 == t779) == (t794 == 0)) = true
           ·rw [if_pos c33] at H
            have c33b0 : ((t777 == t779) == (t794 == 0)) = true := c33
            (try (have c33b1 : decide ((t777 == t779) = (t794 == 0)) = true := by simpa using c33))
            (try (have c33b2 : ((t777 == t779) == (t794 == 0)) = true := by simpa using c33))
            clear c33
            by_cases c34 : t784 = true
            ·subst c34
             have H1 : (some ((decide (t777 < 0)) == (t785 != 0))) = some r := by rw [if_pos rfl] at H; exact H
             clear H
             have H := H1
             clear H1
             obtain rfl := Option.some.inj H
             go_wp2_with (first | ((with_reducible refine gate_callee (f := 44) rfl ?_); refine goesL_ (some 79) rfl rfl Try.func44 (by kernel_rfl) rfl #[.int .i64 a0, .int .u64 a1] rfl (by (try simp only [List.map_toArray, List.map_cons, List.map_nil]); first | done | rfl | (simp only [List.length_drop, List.length_take]; rfl)) ?_; (with_reducible refine (trunnionref02_Open.calls kj11 a0 a1 true t785 t786 t787 _ A25.out).mono ?_); rintro e w35 ⟨rfl, hb⟩; refine ⟨_, rfl, ?_⟩; have n0_ := Aside0.mk (below_step (by repeat (first | (with_reducible first | exact HB.out | apply below_alloc | apply pw_below_drewN | apply below_drew1) | exact HB.out)) hb); clear HB; have HB := n0_; clear n0_; (try clear hb); (try clear hb2); (try clear hk); (try clear hi)) | ((with_reducible refine gate_callee (f := 44) rfl ?_); refine goesL_ (some 82) rfl rfl Try.func44 (by kernel_rfl) rfl #[.int .i64 a0, .int .u64 a2] rfl (by (try simp only [List.map_toArray, List.map_cons, List.map_nil]); first | done | rfl | (simp only [List.length_drop, List.length_take]; rfl)) ?_; (with_reducible refine (trunnionref02_Open.calls kj11 a0 a2 t788 t789 t790 t791 _ A26.out).mono ?_); rintro e w36 ⟨rfl, hb⟩; refine ⟨_, rfl, ?_⟩; have n0_ := Aside0.mk (below_step (by repeat (first | (with_reducible first | exact HB.out | apply below_alloc | apply pw_below_drewN | apply below_drew1) | exact HB.out)) hb); clear HB; have HB := n0_; clear n0_; (try clear hb); (try clear hb2); (try clear hk); (try clear hi)) | ((with_reducible refine gate_dst (N := 13) rfl ?_); refine box_event ?hg (N := 13) ?hd (cs := #[.bool false, .int .i64 0, .int .i64 0, .int .u64 0]) (t := 36) ?hr ?_; (case hd => rfl); (case hg => rfl); (case hr => first | (go_simp; done) | (go_simp; rfl)); intro gb792 hg w37 hbox hb; have n0_ := Aside0.mk (below_step (by repeat (first | (with_reducible first | exact HB.out | apply below_alloc | apply pw_below_drewN | apply below_drew1) | exact HB.out)) hb); have n1_ := Aside0.mk (hbox); have n2_ := Aside0.mk ((by rw [hg]; exact (below_size (by repeat (first | (with_reducible first | exact HB.out | apply below_alloc | apply pw_below_drewN | apply below_drew1) | exact HB.out))) : w.heap.size ≤ gb792)); have n3_ := Aside0.mk ((by rw [hg]; exact (below_size (by repeat (first | (with_reducible first | exact HB.out | apply below_alloc | apply pw_below_drewN | apply below_drew1) | exact HB.out))) : w.heap.size ≤ gb792)); clear HB; have HB := n0_; have BK792 := n1_; have GW792 := n2_; have GE792 := n3_; clear n0_ n1_ n2_ n3_; clear hb hbox hg) | ((with_reducible refine gate_dst (N := 14) rfl ?_); refine box_event ?hg (N := 14) ?hd (cs := #[.bool false, .int .i64 0, .int .i64 0, .int .u64 0]) (t := 36) ?hr ?_; (case hd => rfl); (case hg => rfl); (case hr => first | (go_simp; done) | (go_simp; rfl)); intro gb793 hg w38 hbox hb; have n0_ := Aside0.mk (blk_below (g := gb792) (o := .cells #[.bool false, .int .i64 0, .int .i64 0, .int .u64 0] 36 (0, 0)) (by (with_reducible repeat (first | refine blk_drewN ?_ _ | refine blk_drew ?_ | refine blk_alloc ?_ _)); exact BK792.out) hb); have n1_ := Aside0.mk (below_step (by repeat (first | (with_reducible first | exact HB.out | apply below_alloc | apply pw_below_drewN | apply below_drew1 | refine below_set ?_ GE792.out) | exact HB.out)) hb); have n2_ := Aside0.mk (hbox); have n3_ := Aside0.mk ((by rw [hg]; exact (below_size (by repeat (first | (with_reducible first | exact HB.out | apply below_alloc | apply pw_below_drewN | apply below_drew1 | refine below_set ?_ GE792.out) | exact HB.out))) : w.heap.size ≤ gb793)); have n4_ := Aside0.mk ((by rw [hg]; exact (below_size (by repeat (first | (with_reducible first | exact HB.out | apply below_alloc | apply pw_below_drewN | apply below_drew1 | refine below_set ?_ GE792.out) | exact HB.out))) : w.heap.size ≤ gb793)); have n5_ := Aside0.mk ((by rw [hg]; exact Nat.ne_of_lt (blk_lt (g := gb792) (o := .cells #[.bool false, .int .i64 0, .int .i64 0, .int .u64 0] 36 (0, 0)) (by (with_reducible repeat (first | refine blk_drewN ?_ _ | refine blk_drew ?_ | refine blk_alloc ?_ _)); exact BK792.out)) : gb792 ≠ gb793)); have n6_ := Aside0.mk ((by rw [hg]; exact Nat.ne_of_gt (blk_lt (g := gb792) (o := .cells #[.bool false, .int .i64 0, .int .i64 0, .int .u64 0] 36 (0, 0)) (by (with_reducible repeat (first | refine blk_drewN ?_ _ | refine blk_drew ?_ | refine blk_alloc ?_ _)); exact BK792.out)) : gb793 ≠ gb792)); clear BK792; clear HB; have BK792 := n0_; have HB := n1_; have BK793 := n2_; have GW793 := n3_; have GE793 := n4_; have NB792_793 := n5_; have NB793_792 := n6_; clear n0_ n1_ n2_ n3_ n4_ n5_ n6_; clear hb hbox hg; have hnb39 := NB792_793.out; have hnc39 := NB793_792.out; have hcz40_0 : w38.cell? ⟨gb792, 0, none⟩ = some (.bool false) := (blk_cell BK792.out 0).trans rfl; have hcz40_1 : w38.cell? ⟨gb792, 1, none⟩ = some (.int .i64 0) := (blk_cell BK792.out 1).trans rfl; have hcz40_2 : w38.cell? ⟨gb792, 2, none⟩ = some (.int .i64 0) := (blk_cell BK792.out 2).trans rfl; have hcz40_3 : w38.cell? ⟨gb792, 3, none⟩ = some (.int .u64 0) := (blk_cell BK792.out 3).trans rfl; have hfz40_0 := blk_frozen BK792.out 0; have hfz40_1 := blk_frozen BK792.out 1; have hfz40_2 := blk_frozen BK792.out 2; have hfz40_3 := blk_frozen BK792.out 3; have hcz41_0 : w38.cell? ⟨gb793, 0, none⟩ = some (.bool false) := (blk_cell BK793.out 0).trans rfl; have hcz41_1 : w38.cell? ⟨gb793, 1, none⟩ = some (.int .i64 0) := (blk_cell BK793.out 1).trans rfl; have hcz41_2 : w38.cell? ⟨gb793, 2, none⟩ = some (.int .i64 0) := (blk_cell BK793.out 2).trans rfl; have hcz41_3 : w38.cell? ⟨gb793, 3, none⟩ = some (.int .u64 0) := (blk_cell BK793.out 3).trans rfl; have hfz41_0 := blk_frozen BK793.out 0; have hfz41_1 := blk_frozen BK793.out 1; have hfz41_2 := blk_frozen BK793.out 2; have hfz41_3 := blk_frozen BK793.out 3) | ((with_reducible refine gate_callee (f := 98) rfl ?_); refine goesL_ (some 106) rfl rfl Try.func98 (by kernel_rfl) rfl #[.int .i64 a0, .int .u64 a1, .int .u64 a2] rfl (by (try simp only [List.map_toArray, List.map_cons, List.map_nil]); first | done | rfl | (simp only [List.length_drop, List.length_take]; rfl)) ?_; (with_reducible refine (trunnionref08_Cmp.calls kj11 a0 a1 a2 t794 _ A30.out).mono ?_); rintro e w42 ⟨rfl, hb⟩; refine ⟨_, rfl, ?_⟩; have n0_ := Aside0.mk (blk_below (g := gb792) (o := .cells #[.bool true, .int .i64 t785, .int .i64 t786, .int .u64 t787] 36 (0, 0)) (by (with_reducible repeat (first | refine blk_drewN ?_ _ | refine blk_drew ?_ | refine blk_alloc ?_ _)); refine blk_far ?_ NB792_793.out _; (with_reducible repeat (first | refine blk_drewN ?_ _ | refine blk_drew ?_ | refine blk_alloc ?_ _)); refine blk_far ?_ NB792_793.out _; (with_reducible repeat (first | refine blk_drewN ?_ _ | refine blk_drew ?_ | refine blk_alloc ?_ _)); refine blk_far ?_ NB792_793.out _; (with_reducible repeat (first | refine blk_drewN ?_ _ | refine blk_drew ?_ | refine blk_alloc ?_ _)); refine blk_far ?_ NB792_793.out _; (with_reducible repeat (first | refine blk_drewN ?_ _ | refine blk_drew ?_ | refine blk_alloc ?_ _)); refine blk_put (cs := #[.bool true, .int .i64 t785, .int .i64 t786, .int .u64 0]) ?_ 3 _ rfl; (with_reducible repeat (first | refine blk_drewN ?_ _ | refine blk_drew ?_ | refine blk_alloc ?_ _)); refine blk_put (cs := #[.bool true, .int .i64 t785, .int .i64 0, .int .u64 0]) ?_ 2 _ rfl; (with_reducible repeat (first | refine blk_drewN ?_ _ | refine blk_drew ?_ | refine blk_alloc ?_ _)); refine blk_put (cs := #[.bool true, .int .i64 0, .int .i64 0, .int .u64 0]) ?_ 1 _ rfl; (with_reducible repeat (first | refine blk_drewN ?_ _ | refine blk_drew ?_ | refine blk_alloc ?_ _)); refine blk_put (cs := #[.bool false, .int .i64 0, .int .i64 0, .int .u64 0]) ?_ 0 _ rfl; (with_reducible repeat (first | refine blk_drewN ?_ _ | refine blk_drew ?_ | refine blk_alloc ?_ _)); exact BK792.out) hb); have n1_ := Aside0.mk (blk_below (g := gb793) (o := .cells #[.bool t788, .int .i64 t789, .int .i64 t790, .int .u64 t791] 36 (0, 0)) (by (with_reducible repeat (first | refine blk_drewN ?_ _ | refine blk_drew ?_ | refine blk_alloc ?_ _)); refine blk_put (cs := #[.bool t788, .int .i64 t789, .int .i64 t790, .int .u64 0]) ?_ 3 _ rfl; (with_reducible repeat (first | refine blk_drewN ?_ _ | refine blk_drew ?_ | refine blk_alloc ?_ _)); refine blk_put (cs := #[.bool t788, .int .i64 t789, .int .i64 0, .int .u64 0]) ?_ 2 _ rfl; (with_reducible repeat (first | refine blk_drewN ?_ _ | refine blk_drew ?_ | refine blk_alloc ?_ _)); refine blk_put (cs := #[.bool t788, .int .i64 0, .int .i64 0, .int .u64 0]) ?_ 1 _ rfl; (with_reducible repeat (first | refine blk_drewN ?_ _ | refine blk_drew ?_ | refine blk_alloc ?_ _)); refine blk_put (cs := #[.bool false, .int .i64 0, .int .i64 0, .int .u64 0]) ?_ 0 _ rfl; (with_reducible repeat (first | refine blk_drewN ?_ _ | refine blk_drew ?_ | refine blk_alloc ?_ _)); refine blk_far ?_ NB793_792.out _; (with_reducible repeat (first | refine blk_drewN ?_ _ | refine blk_drew ?_ | refine blk_alloc ?_ _)); refine blk_far ?_ NB793_792.out _; (with_reducible repeat (first | refine blk_drewN ?_ _ | refine blk_drew ?_ | refine blk_alloc ?_ _)); refine blk_far ?_ NB793_792.out _; (with_reducible repeat (first | refine blk_drewN ?_ _ | refine blk_drew ?_ | refine blk_alloc ?_ _)); refine blk_far ?_ NB793_792.out _; (with_reducible repeat (first | refine blk_drewN ?_ _ | refine blk_drew ?_ | refine blk_alloc ?_ _)); exact BK793.out) hb); have n2_ := Aside0.mk (below_step (by repeat (first | (with_reducible first | exact HB.out | apply below_alloc | apply pw_below_drewN | apply below_drew1 | refine below_set ?_ GE792.out | refine below_set ?_ GE793.out) | exact HB.out)) hb); clear BK792; clear BK793; clear HB; have BK792 := n0_; have BK793 := n1_; have HB := n2_; clear n0_ n1_ n2_; (try clear hb); (try clear hb2); (try clear hk); (try clear hi); have hcz43_0 : w42.cell? ⟨gb792, 0, none⟩ = some (.bool true) := (blk_cell BK792.out 0).trans rfl; have hcz43_1 : w42.cell? ⟨gb792, 1, none⟩ = some (.int .i64 t785) := (blk_cell BK792.out 1).trans rfl; have hcz43_2 : w42.cell? ⟨gb792, 2, none⟩ = some (.int .i64 t786) := (blk_cell BK792.out 2).trans rfl; have hcz43_3 : w42.cell? ⟨gb792, 3, none⟩ = some (.int .u64 t787) := (blk_cell BK792.out 3).trans rfl; have hfz43_0 := blk_frozen BK792.out 0; have hfz43_1 := blk_frozen BK792.out 1; have hfz43_2 := blk_frozen BK792.out 2; have hfz43_3 := blk_frozen BK792.out 3))
             go_ret
             exact ⟨by first | rfl | (simp [errW_none, errW_some] <;> rfl) | (simp [*, errW_none, errW_some] <;> rfl), by repeat (first | (with_reducible first | exact HB.out | apply below_alloc | apply pw_below_drewN | apply below_drew1 | refine below_set ?_ GE792.out | refine below_set ?_ GE793.out) | exact HB.out)⟩
            ·replace c34 := Bool.eq_false_iff.mpr c34
             subst c34
             have H1 : (some ((decide (t777 < 0)) == false)) = some r := by rw [if_neg (show ¬ (false = true) by decide)] at H; exact H
             clear H
             have H := H1
             clear H1
             obtain rfl := Option.some.inj H
             go_wp2_with (first | ((with_reducible refine gate_callee (f := 44) rfl ?_); refine goesL_ (some 79) rfl rfl Try.func44 (by kernel_rfl) rfl #[.int .i64 a0, .int .u64 a1] rfl (by (try simp only [List.map_toArray, List.map_cons, List.map_nil]); first | done | rfl | (simp only [List.length_drop, List.length_take]; rfl)) ?_; (with_reducible refine (trunnionref02_Open.calls kj11 a0 a1 false t785 t786 t787 _ A25.out).mono ?_); rintro e w44 ⟨rfl, hb⟩; refine ⟨_, rfl, ?_⟩; have n0_ := Aside0.mk (below_step (by repeat (first | (with_reducible first | exact HB.out | apply below_alloc | apply pw_below_drewN | apply below_drew1) | exact HB.out)) hb); clear HB; have HB := n0_; clear n0_; (try clear hb); (try clear hb2); (try clear hk); (try clear hi)) | ((with_reducible refine gate_callee (f := 44) rfl ?_); refine goesL_ (some 82) rfl rfl Try.func44 (by kernel_rfl) rfl #[.int .i64 a0, .int .u64 a2] rfl (by (try simp only [List.map_toArray, List.map_cons, List.map_nil]); first | done | rfl | (simp only [List.length_drop, List.length_take]; rfl)) ?_; (with_reducible refine (trunnionref02_Open.calls kj11 a0 a2 t788 t789 t790 t791 _ A26.out).mono ?_); rintro e w45 ⟨rfl, hb⟩; refine ⟨_, rfl, ?_⟩; have n0_ := Aside0.mk (below_step (by repeat (first | (with_reducible first | exact HB.out | apply below_alloc | apply pw_below_drewN | apply below_drew1) | exact HB.out)) hb); clear HB; have HB := n0_; clear n0_; (try clear hb); (try clear hb2); (try clear hk); (try clear hi)) | ((with_reducible refine gate_dst (N := 13) rfl ?_); refine box_event ?hg (N := 13) ?hd (cs := #[.bool false, .int .i64 0, .int .i64 0, .int .u64 0]) (t := 36) ?hr ?_; (case hd => rfl); (case hg => rfl); (case hr => first | (go_simp; done) | (go_simp; rfl)); intro gb792 hg w46 hbox hb; have n0_ := Aside0.mk (below_step (by repeat (first | (with_reducible first | exact HB.out | apply below_alloc | apply pw_below_drewN | apply below_drew1) | exact HB.out)) hb); have n1_ := Aside0.mk (hbox); have n2_ := Aside0.mk ((by rw [hg]; exact (below_size (by repeat (first | (with_reducible first | exact HB.out | apply below_alloc | apply pw_below_drewN | apply below_drew1) | exact HB.out))) : w.heap.size ≤ gb792)); have n3_ := Aside0.mk ((by rw [hg]; exact (below_size (by repeat (first | (with_reducible first | exact HB.out | apply below_alloc | apply pw_below_drewN | apply below_drew1) | exact HB.out))) : w.heap.size ≤ gb792)); clear HB; have HB := n0_; have BK792 := n1_; have GW792 := n2_; have GE792 := n3_; clear n0_ n1_ n2_ n3_; clear hb hbox hg) | ((with_reducible refine gate_dst (N := 14) rfl ?_); refine box_event ?hg (N := 14) ?hd (cs := #[.bool false, .int .i64 0, .int .i64 0, .int .u64 0]) (t := 36) ?hr ?_; (case hd => rfl); (case hg => rfl); (case hr => first | (go_simp; done) | (go_simp; rfl)); intro gb793 hg w47 hbox hb; have n0_ := Aside0.mk (blk_below (g := gb792) (o := .cells #[.bool false, .int .i64 0, .int .i64 0, .int .u64 0] 36 (0, 0)) (by (with_reducible repeat (first | refine blk_drewN ?_ _ | refine blk_drew ?_ | refine blk_alloc ?_ _)); exact BK792.out) hb); have n1_ := Aside0.mk (below_step (by repeat (first | (with_reducible first | exact HB.out | apply below_alloc | apply pw_below_drewN | apply below_drew1 | refine below_set ?_ GE792.out) | exact HB.out)) hb); have n2_ := Aside0.mk (hbox); have n3_ := Aside0.mk ((by rw [hg]; exact (below_size (by repeat (first | (with_reducible first | exact HB.out | apply below_alloc | apply pw_below_drewN | apply below_drew1 | refine below_set ?_ GE792.out) | exact HB.out))) : w.heap.size ≤ gb793)); have n4_ := Aside0.mk ((by rw [hg]; exact (below_size (by repeat (first | (with_reducible first | exact HB.out | apply below_alloc | apply pw_below_drewN | apply below_drew1 | refine below_set ?_ GE792.out) | exact HB.out))) : w.heap.size ≤ gb793)); have n5_ := Aside0.mk ((by rw [hg]; exact Nat.ne_of_lt (blk_lt (g := gb792) (o := .cells #[.bool false, .int .i64 0, .int .i64 0, .int .u64 0] 36 (0, 0)) (by (with_reducible repeat (first | refine blk_drewN ?_ _ | refine blk_drew ?_ | refine blk_alloc ?_ _)); exact BK792.out)) : gb792 ≠ gb793)); have n6_ := Aside0.mk ((by rw [hg]; exact Nat.ne_of_gt (blk_lt (g := gb792) (o := .cells #[.bool false, .int .i64 0, .int .i64 0, .int .u64 0] 36 (0, 0)) (by (with_reducible repeat (first | refine blk_drewN ?_ _ | refine blk_drew ?_ | refine blk_alloc ?_ _)); exact BK792.out)) : gb793 ≠ gb792)); clear BK792; clear HB; have BK792 := n0_; have HB := n1_; have BK793 := n2_; have GW793 := n3_; have GE793 := n4_; have NB792_793 := n5_; have NB793_792 := n6_; clear n0_ n1_ n2_ n3_ n4_ n5_ n6_; clear hb hbox hg; have hnb48 := NB792_793.out; have hnc48 := NB793_792.out; have hcz49_0 : w47.cell? ⟨gb792, 0, none⟩ = some (.bool false) := (blk_cell BK792.out 0).trans rfl; have hcz49_1 : w47.cell? ⟨gb792, 1, none⟩ = some (.int .i64 0) := (blk_cell BK792.out 1).trans rfl; have hcz49_2 : w47.cell? ⟨gb792, 2, none⟩ = some (.int .i64 0) := (blk_cell BK792.out 2).trans rfl; have hcz49_3 : w47.cell? ⟨gb792, 3, none⟩ = some (.int .u64 0) := (blk_cell BK792.out 3).trans rfl; have hfz49_0 := blk_frozen BK792.out 0; have hfz49_1 := blk_frozen BK792.out 1; have hfz49_2 := blk_frozen BK792.out 2; have hfz49_3 := blk_frozen BK792.out 3; have hcz50_0 : w47.cell? ⟨gb793, 0, none⟩ = some (.bool false) := (blk_cell BK793.out 0).trans rfl; have hcz50_1 : w47.cell? ⟨gb793, 1, none⟩ = some (.int .i64 0) := (blk_cell BK793.out 1).trans rfl; have hcz50_2 : w47.cell? ⟨gb793, 2, none⟩ = some (.int .i64 0) := (blk_cell BK793.out 2).trans rfl; have hcz50_3 : w47.cell? ⟨gb793, 3, none⟩ = some (.int .u64 0) := (blk_cell BK793.out 3).trans rfl; have hfz50_0 := blk_frozen BK793.out 0; have hfz50_1 := blk_frozen BK793.out 1; have hfz50_2 := blk_frozen BK793.out 2; have hfz50_3 := blk_frozen BK793.out 3) | ((with_reducible refine gate_callee (f := 98) rfl ?_); refine goesL_ (some 106) rfl rfl Try.func98 (by kernel_rfl) rfl #[.int .i64 a0, .int .u64 a1, .int .u64 a2] rfl (by (try simp only [List.map_toArray, List.map_cons, List.map_nil]); first | done | rfl | (simp only [List.length_drop, List.length_take]; rfl)) ?_; (with_reducible refine (trunnionref08_Cmp.calls kj11 a0 a1 a2 t794 _ A30.out).mono ?_); rintro e w51 ⟨rfl, hb⟩; refine ⟨_, rfl, ?_⟩; have n0_ := Aside0.mk (blk_below (g := gb792) (o := .cells #[.bool false, .int .i64 t785, .int .i64 t786, .int .u64 t787] 36 (0, 0)) (by (with_reducible repeat (first | refine blk_drewN ?_ _ | refine blk_drew ?_ | refine blk_alloc ?_ _)); refine blk_far ?_ NB792_793.out _; (with_reducible repeat (first | refine blk_drewN ?_ _ | refine blk_drew ?_ | refine blk_alloc ?_ _)); refine blk_far ?_ NB792_793.out _; (with_reducible repeat (first | refine blk_drewN ?_ _ | refine blk_drew ?_ | refine blk_alloc ?_ _)); refine blk_far ?_ NB792_793.out _; (with_reducible repeat (first | refine blk_drewN ?_ _ | refine blk_drew ?_ | refine blk_alloc ?_ _)); refine blk_far ?_ NB792_793.out _; (with_reducible repeat (first | refine blk_drewN ?_ _ | refine blk_drew ?_ | refine blk_alloc ?_ _)); refine blk_put (cs := #[.bool false, .int .i64 t785, .int .i64 t786, .int .u64 0]) ?_ 3 _ rfl; (with_reducible repeat (first | refine blk_drewN ?_ _ | refine blk_drew ?_ | refine blk_alloc ?_ _)); refine blk_put (cs := #[.bool false, .int .i64 t785, .int .i64 0, .int .u64 0]) ?_ 2 _ rfl; (with_reducible repeat (first | refine blk_drewN ?_ _ | refine blk_drew ?_ | refine blk_alloc ?_ _)); refine blk_put (cs := #[.bool false, .int .i64 0, .int .i64 0, .int .u64 0]) ?_ 1 _ rfl; (with_reducible repeat (first | refine blk_drewN ?_ _ | refine blk_drew ?_ | refine blk_alloc ?_ _)); refine blk_put (cs := #[.bool false, .int .i64 0, .int .i64 0, .int .u64 0]) ?_ 0 _ rfl; (with_reducible repeat (first | refine blk_drewN ?_ _ | refine blk_drew ?_ | refine blk_alloc ?_ _)); exact BK792.out) hb); have n1_ := Aside0.mk (blk_below (g := gb793) (o := .cells #[.bool t788, .int .i64 t789, .int .i64 t790, .int .u64 t791] 36 (0, 0)) (by (with_reducible repeat (first | refine blk_drewN ?_ _ | refine blk_drew ?_ | refine blk_alloc ?_ _)); refine blk_put (cs := #[.bool t788, .int .i64 t789, .int .i64 t790, .int .u64 0]) ?_ 3 _ rfl; (with_reducible repeat (first | refine blk_drewN ?_ _ | refine blk_drew ?_ | refine blk_alloc ?_ _)); refine blk_put (cs := #[.bool t788, .int .i64 t789, .int .i64 0, .int .u64 0]) ?_ 2 _ rfl; (with_reducible repeat (first | refine blk_drewN ?_ _ | refine blk_drew ?_ | refine blk_alloc ?_ _)); refine blk_put (cs := #[.bool t788, .int .i64 0, .int .i64 0, .int .u64 0]) ?_ 1 _ rfl; (with_reducible repeat (first | refine blk_drewN ?_ _ | refine blk_drew ?_ | refine blk_alloc ?_ _)); refine blk_put (cs := #[.bool false, .int .i64 0, .int .i64 0, .int .u64 0]) ?_ 0 _ rfl; (with_reducible repeat (first | refine blk_drewN ?_ _ | refine blk_drew ?_ | refine blk_alloc ?_ _)); refine blk_far ?_ NB793_792.out _; (with_reducible repeat (first | refine blk_drewN ?_ _ | refine blk_drew ?_ | refine blk_alloc ?_ _)); refine blk_far ?_ NB793_792.out _; (with_reducible repeat (first | refine blk_drewN ?_ _ | refine blk_drew ?_ | refine blk_alloc ?_ _)); refine blk_far ?_ NB793_792.out _; (with_reducible repeat (first | refine blk_drewN ?_ _ | refine blk_drew ?_ | refine blk_alloc ?_ _)); refine blk_far ?_ NB793_792.out _; (with_reducible repeat (first | refine blk_drewN ?_ _ | refine blk_drew ?_ | refine blk_alloc ?_ _)); exact BK793.out) hb); have n2_ := Aside0.mk (below_step (by repeat (first | (with_reducible first | exact HB.out | apply below_alloc | apply pw_below_drewN | apply below_drew1 | refine below_set ?_ GE792.out | refine below_set ?_ GE793.out) | exact HB.out)) hb); clear BK792; clear BK793; clear HB; have BK792 := n0_; have BK793 := n1_; have HB := n2_; clear n0_ n1_ n2_; (try clear hb); (try clear hb2); (try clear hk); (try clear hi); have hcz52_0 : w51.cell? ⟨gb792, 0, none⟩ = some (.bool false) := (blk_cell BK792.out 0).trans rfl; have hcz52_1 : w51.cell? ⟨gb792, 1, none⟩ = some (.int .i64 t785) := (blk_cell BK792.out 1).trans rfl; have hcz52_2 : w51.cell? ⟨gb792, 2, none⟩ = some (.int .i64 t786) := (blk_cell BK792.out 2).trans rfl; have hcz52_3 : w51.cell? ⟨gb792, 3, none⟩ = some (.int .u64 t787) := (blk_cell BK792.out 3).trans rfl; have hfz52_0 := blk_frozen BK792.out 0; have hfz52_1 := blk_frozen BK792.out 1; have hfz52_2 := blk_frozen BK792.out 2; have hfz52_3 := blk_frozen BK792.out 3))
             go_ret
             exact ⟨by first | rfl | (simp [errW_none, errW_some] <;> rfl) | (simp [*, errW_none, errW_some] <;> rfl), by repeat (first | (with_reducible first | exact HB.out | apply below_alloc | apply pw_below_drewN | apply below_drew1 | refine below_set ?_ GE792.out | refine below_set ?_ GE793.out) | exact HB.out)⟩
           ·rw [if_neg c33] at H
            have c33b0 : ((t777 == t779) == (t794 == 0)) = false := by simpa using c33
            (try (have c33b1 : decide ((t777 == t779) = (t794 == 0)) = false := by simpa using c33))
            (try (have c33b2 : ((t777 == t779) == (t794 == 0)) = false := by simpa using c33))
            (try (have c33b3 : ¬ ((t777 == t779) = (t794 == 0)) := by simpa using c33))
            clear c33
            exact absurd ((Option.some.inj H).trans hr_.out) (by decide)
          ·rw [if_neg c32] at H
           have c32b0 : ((decide (t777 < t779)) == (t794 == (-1))) = false := by simpa using c32
           (try (have c32b1 : decide ((decide (t777 < t779)) = (t794 == (-1))) = false := by simpa using c32))
           (try (have c32b2 : ((decide (t777 < t779)) == (t794 == (-1))) = false := by simpa using c32))
           (try (have c32b3 : ¬ ((decide (t777 < t779)) = (t794 == (-1))) := by simpa using c32))
           clear c32
           exact absurd ((Option.some.inj H).trans hr_.out) (by decide)
         ·replace c31 := Bool.eq_false_iff.mpr c31
          subst c31
          have H1 : (some true) = some r := by rw [if_neg (show ¬ (false = true) by decide)] at H; exact H
          clear H
          have H := H1
          clear H1
          obtain rfl := Option.some.inj H
          go_wp2_with (first | ((with_reducible refine gate_callee (f := 44) rfl ?_); refine goesL_ (some 79) rfl rfl Try.func44 (by kernel_rfl) rfl #[.int .i64 a0, .int .u64 a1] rfl (by (try simp only [List.map_toArray, List.map_cons, List.map_nil]); first | done | rfl | (simp only [List.length_drop, List.length_take]; rfl)) ?_; (with_reducible refine (trunnionref02_Open.calls kj11 a0 a1 t784 t785 t786 t787 _ A25.out).mono ?_); rintro e w53 ⟨rfl, hb⟩; refine ⟨_, rfl, ?_⟩; have n0_ := Aside0.mk (below_step (by repeat (first | (with_reducible first | exact HB.out | apply below_alloc | apply pw_below_drewN | apply below_drew1) | exact HB.out)) hb); clear HB; have HB := n0_; clear n0_; (try clear hb); (try clear hb2); (try clear hk); (try clear hi)) | ((with_reducible refine gate_callee (f := 44) rfl ?_); refine goesL_ (some 82) rfl rfl Try.func44 (by kernel_rfl) rfl #[.int .i64 a0, .int .u64 a2] rfl (by (try simp only [List.map_toArray, List.map_cons, List.map_nil]); first | done | rfl | (simp only [List.length_drop, List.length_take]; rfl)) ?_; (with_reducible refine (trunnionref02_Open.calls kj11 a0 a2 t788 t789 t790 t791 _ A26.out).mono ?_); rintro e w54 ⟨rfl, hb⟩; refine ⟨_, rfl, ?_⟩; have n0_ := Aside0.mk (below_step (by repeat (first | (with_reducible first | exact HB.out | apply below_alloc | apply pw_below_drewN | apply below_drew1) | exact HB.out)) hb); clear HB; have HB := n0_; clear n0_; (try clear hb); (try clear hb2); (try clear hk); (try clear hi)) | ((with_reducible refine gate_dst (N := 13) rfl ?_); refine box_event ?hg (N := 13) ?hd (cs := #[.bool false, .int .i64 0, .int .i64 0, .int .u64 0]) (t := 36) ?hr ?_; (case hd => rfl); (case hg => rfl); (case hr => first | (go_simp; done) | (go_simp; rfl)); intro gb792 hg w55 hbox hb; have n0_ := Aside0.mk (below_step (by repeat (first | (with_reducible first | exact HB.out | apply below_alloc | apply pw_below_drewN | apply below_drew1) | exact HB.out)) hb); have n1_ := Aside0.mk (hbox); have n2_ := Aside0.mk ((by rw [hg]; exact (below_size (by repeat (first | (with_reducible first | exact HB.out | apply below_alloc | apply pw_below_drewN | apply below_drew1) | exact HB.out))) : w.heap.size ≤ gb792)); have n3_ := Aside0.mk ((by rw [hg]; exact (below_size (by repeat (first | (with_reducible first | exact HB.out | apply below_alloc | apply pw_below_drewN | apply below_drew1) | exact HB.out))) : w.heap.size ≤ gb792)); clear HB; have HB := n0_; have BK792 := n1_; have GW792 := n2_; have GE792 := n3_; clear n0_ n1_ n2_ n3_; clear hb hbox hg) | ((with_reducible refine gate_dst (N := 14) rfl ?_); refine box_event ?hg (N := 14) ?hd (cs := #[.bool false, .int .i64 0, .int .i64 0, .int .u64 0]) (t := 36) ?hr ?_; (case hd => rfl); (case hg => rfl); (case hr => first | (go_simp; done) | (go_simp; rfl)); intro gb793 hg w56 hbox hb; have n0_ := Aside0.mk (blk_below (g := gb792) (o := .cells #[.bool false, .int .i64 0, .int .i64 0, .int .u64 0] 36 (0, 0)) (by (with_reducible repeat (first | refine blk_drewN ?_ _ | refine blk_drew ?_ | refine blk_alloc ?_ _)); exact BK792.out) hb); have n1_ := Aside0.mk (below_step (by repeat (first | (with_reducible first | exact HB.out | apply below_alloc | apply pw_below_drewN | apply below_drew1 | refine below_set ?_ GE792.out) | exact HB.out)) hb); have n2_ := Aside0.mk (hbox); have n3_ := Aside0.mk ((by rw [hg]; exact (below_size (by repeat (first | (with_reducible first | exact HB.out | apply below_alloc | apply pw_below_drewN | apply below_drew1 | refine below_set ?_ GE792.out) | exact HB.out))) : w.heap.size ≤ gb793)); have n4_ := Aside0.mk ((by rw [hg]; exact (below_size (by repeat (first | (with_reducible first | exact HB.out | apply below_alloc | apply pw_below_drewN | apply below_drew1 | refine below_set ?_ GE792.out) | exact HB.out))) : w.heap.size ≤ gb793)); have n5_ := Aside0.mk ((by rw [hg]; exact Nat.ne_of_lt (blk_lt (g := gb792) (o := .cells #[.bool false, .int .i64 0, .int .i64 0, .int .u64 0] 36 (0, 0)) (by (with_reducible repeat (first | refine blk_drewN ?_ _ | refine blk_drew ?_ | refine blk_alloc ?_ _)); exact BK792.out)) : gb792 ≠ gb793)); have n6_ := Aside0.mk ((by rw [hg]; exact Nat.ne_of_gt (blk_lt (g := gb792) (o := .cells #[.bool false, .int .i64 0, .int .i64 0, .int .u64 0] 36 (0, 0)) (by (with_reducible repeat (first | refine blk_drewN ?_ _ | refine blk_drew ?_ | refine blk_alloc ?_ _)); exact BK792.out)) : gb793 ≠ gb792)); clear BK792; clear HB; have BK792 := n0_; have HB := n1_; have BK793 := n2_; have GW793 := n3_; have GE793 := n4_; have NB792_793 := n5_; have NB793_792 := n6_; clear n0_ n1_ n2_ n3_ n4_ n5_ n6_; clear hb hbox hg; have hnb57 := NB792_793.out; have hnc57 := NB793_792.out; have hcz58_0 : w56.cell? ⟨gb792, 0, none⟩ = some (.bool false) := (blk_cell BK792.out 0).trans rfl; have hcz58_1 : w56.cell? ⟨gb792, 1, none⟩ = some (.int .i64 0) := (blk_cell BK792.out 1).trans rfl; have hcz58_2 : w56.cell? ⟨gb792, 2, none⟩ = some (.int .i64 0) := (blk_cell BK792.out 2).trans rfl; have hcz58_3 : w56.cell? ⟨gb792, 3, none⟩ = some (.int .u64 0) := (blk_cell BK792.out 3).trans rfl; have hfz58_0 := blk_frozen BK792.out 0; have hfz58_1 := blk_frozen BK792.out 1; have hfz58_2 := blk_frozen BK792.out 2; have hfz58_3 := blk_frozen BK792.out 3; have hcz59_0 : w56.cell? ⟨gb793, 0, none⟩ = some (.bool false) := (blk_cell BK793.out 0).trans rfl; have hcz59_1 : w56.cell? ⟨gb793, 1, none⟩ = some (.int .i64 0) := (blk_cell BK793.out 1).trans rfl; have hcz59_2 : w56.cell? ⟨gb793, 2, none⟩ = some (.int .i64 0) := (blk_cell BK793.out 2).trans rfl; have hcz59_3 : w56.cell? ⟨gb793, 3, none⟩ = some (.int .u64 0) := (blk_cell BK793.out 3).trans rfl; have hfz59_0 := blk_frozen BK793.out 0; have hfz59_1 := blk_frozen BK793.out 1; have hfz59_2 := blk_frozen BK793.out 2; have hfz59_3 := blk_frozen BK793.out 3) | ((with_reducible refine gate_callee (f := 98) rfl ?_); refine goesL_ (some 106) rfl rfl Try.func98 (by kernel_rfl) rfl #[.int .i64 a0, .int .u64 a1, .int .u64 a2] rfl (by (try simp only [List.map_toArray, List.map_cons, List.map_nil]); first | done | rfl | (simp only [List.length_drop, List.length_take]; rfl)) ?_; (with_reducible refine (trunnionref08_Cmp.calls kj11 a0 a1 a2 t794 _ A30.out).mono ?_); rintro e w60 ⟨rfl, hb⟩; refine ⟨_, rfl, ?_⟩; have n0_ := Aside0.mk (blk_below (g := gb792) (o := .cells #[.bool t784, .int .i64 t785, .int .i64 t786, .int .u64 t787] 36 (0, 0)) (by (with_reducible repeat (first | refine blk_drewN ?_ _ | refine blk_drew ?_ | refine blk_alloc ?_ _)); refine blk_far ?_ NB792_793.out _; (with_reducible repeat (first | refine blk_drewN ?_ _ | refine blk_drew ?_ | refine blk_alloc ?_ _)); refine blk_far ?_ NB792_793.out _; (with_reducible repeat (first | refine blk_drewN ?_ _ | refine blk_drew ?_ | refine blk_alloc ?_ _)); refine blk_far ?_ NB792_793.out _; (with_reducible repeat (first | refine blk_drewN ?_ _ | refine blk_drew ?_ | refine blk_alloc ?_ _)); refine blk_far ?_ NB792_793.out _; (with_reducible repeat (first | refine blk_drewN ?_ _ | refine blk_drew ?_ | refine blk_alloc ?_ _)); refine blk_put (cs := #[.bool t784, .int .i64 t785, .int .i64 t786, .int .u64 0]) ?_ 3 _ rfl; (with_reducible repeat (first | refine blk_drewN ?_ _ | refine blk_drew ?_ | refine blk_alloc ?_ _)); refine blk_put (cs := #[.bool t784, .int .i64 t785, .int .i64 0, .int .u64 0]) ?_ 2 _ rfl; (with_reducible repeat (first | refine blk_drewN ?_ _ | refine blk_drew ?_ | refine blk_alloc ?_ _)); refine blk_put (cs := #[.bool t784, .int .i64 0, .int .i64 0, .int .u64 0]) ?_ 1 _ rfl; (with_reducible repeat (first | refine blk_drewN ?_ _ | refine blk_drew ?_ | refine blk_alloc ?_ _)); refine blk_put (cs := #[.bool false, .int .i64 0, .int .i64 0, .int .u64 0]) ?_ 0 _ rfl; (with_reducible repeat (first | refine blk_drewN ?_ _ | refine blk_drew ?_ | refine blk_alloc ?_ _)); exact BK792.out) hb); have n1_ := Aside0.mk (blk_below (g := gb793) (o := .cells #[.bool t788, .int .i64 t789, .int .i64 t790, .int .u64 t791] 36 (0, 0)) (by (with_reducible repeat (first | refine blk_drewN ?_ _ | refine blk_drew ?_ | refine blk_alloc ?_ _)); refine blk_put (cs := #[.bool t788, .int .i64 t789, .int .i64 t790, .int .u64 0]) ?_ 3 _ rfl; (with_reducible repeat (first | refine blk_drewN ?_ _ | refine blk_drew ?_ | refine blk_alloc ?_ _)); refine blk_put (cs := #[.bool t788, .int .i64 t789, .int .i64 0, .int .u64 0]) ?_ 2 _ rfl; (with_reducible repeat (first | refine blk_drewN ?_ _ | refine blk_drew ?_ | refine blk_alloc ?_ _)); refine blk_put (cs := #[.bool t788, .int .i64 0, .int .i64 0, .int .u64 0]) ?_ 1 _ rfl; (with_reducible repeat (first | refine blk_drewN ?_ _ | refine blk_drew ?_ | refine blk_alloc ?_ _)); refine blk_put (cs := #[.bool false, .int .i64 0, .int .i64 0, .int .u64 0]) ?_ 0 _ rfl; (with_reducible repeat (first | refine blk_drewN ?_ _ | refine blk_drew ?_ | refine blk_alloc ?_ _)); refine blk_far ?_ NB793_792.out _; (with_reducible repeat (first | refine blk_drewN ?_ _ | refine blk_drew ?_ | refine blk_alloc ?_ _)); refine blk_far ?_ NB793_792.out _; (with_reducible repeat (first | refine blk_drewN ?_ _ | refine blk_drew ?_ | refine blk_alloc ?_ _)); refine blk_far ?_ NB793_792.out _; (with_reducible repeat (first | refine blk_drewN ?_ _ | refine blk_drew ?_ | refine blk_alloc ?_ _)); refine blk_far ?_ NB793_792.out _; (with_reducible repeat (first | refine blk_drewN ?_ _ | refine blk_drew ?_ | refine blk_alloc ?_ _)); exact BK793.out) hb); have n2_ := Aside0.mk (below_step (by repeat (first | (with_reducible first | exact HB.out | apply below_alloc | apply pw_below_drewN | apply below_drew1 | refine below_set ?_ GE792.out | refine below_set ?_ GE793.out) | exact HB.out)) hb); clear BK792; clear BK793; clear HB; have BK792 := n0_; have BK793 := n1_; have HB := n2_; clear n0_ n1_ n2_; (try clear hb); (try clear hb2); (try clear hk); (try clear hi)))
          go_ret
          exact ⟨by first | rfl | (simp [errW_none, errW_some] <;> rfl) | (simp [*, errW_none, errW_some] <;> rfl), by repeat (first | (with_reducible first | exact HB.out | apply below_alloc | apply pw_below_drewN | apply below_drew1 | refine below_set ?_ GE792.out | refine below_set ?_ GE793.out) | exact HB.out)⟩
        ·replace c29 := Bool.eq_false_iff.mpr c29
         subst c29
         have H1 : (if t777 = 0 then ((trunnionref08_Cmp.f kj11 a0 a1 a2).bind fun t795 => (some true)) else (some false)) = some r := by rw [if_neg (show ¬ (false = true) by decide)] at H; exact H
         clear H
         have H := H1
         clear H1
         by_cases c61 : t777 = 0
         ·rw [if_pos c61] at H
          have c61b0 : (t777 == 0) = true := beq_iff_eq.mpr c61
          have c61b1 : (t777 != 0) = false := bne_eq_false_iff_eq.mpr c61
          clear c61
          replace H := Option.bind_eq_some_iff.mp H
          obtain ⟨t795, A620, H⟩ := H
          replace H : (some true) = some r := H
          have A62 := Aside0.mk A620
          clear A620
          obtain rfl := Option.some.inj H
          go_wp2_with (first | ((with_reducible refine gate_callee (f := 44) rfl ?_); refine goesL_ (some 79) rfl rfl Try.func44 (by kernel_rfl) rfl #[.int .i64 a0, .int .u64 a1] rfl (by (try simp only [List.map_toArray, List.map_cons, List.map_nil]); first | done | rfl | (simp only [List.length_drop, List.length_take]; rfl)) ?_; (with_reducible refine (trunnionref02_Open.calls kj11 a0 a1 t784 t785 t786 t787 _ A25.out).mono ?_); rintro e w63 ⟨rfl, hb⟩; refine ⟨_, rfl, ?_⟩; have n0_ := Aside0.mk (below_step (by repeat (first | (with_reducible first | exact HB.out | apply below_alloc | apply pw_below_drewN | apply below_drew1) | exact HB.out)) hb); clear HB; have HB := n0_; clear n0_; (try clear hb); (try clear hb2); (try clear hk); (try clear hi)) | ((with_reducible refine gate_callee (f := 44) rfl ?_); refine goesL_ (some 82) rfl rfl Try.func44 (by kernel_rfl) rfl #[.int .i64 a0, .int .u64 a2] rfl (by (try simp only [List.map_toArray, List.map_cons, List.map_nil]); first | done | rfl | (simp only [List.length_drop, List.length_take]; rfl)) ?_; (with_reducible refine (trunnionref02_Open.calls kj11 a0 a2 t788 t789 t790 t791 _ A26.out).mono ?_); rintro e w64 ⟨rfl, hb⟩; refine ⟨_, rfl, ?_⟩; have n0_ := Aside0.mk (below_step (by repeat (first | (with_reducible first | exact HB.out | apply below_alloc | apply pw_below_drewN | apply below_drew1) | exact HB.out)) hb); clear HB; have HB := n0_; clear n0_; (try clear hb); (try clear hb2); (try clear hk); (try clear hi)) | ((with_reducible refine gate_dst (N := 13) rfl ?_); refine box_event ?hg (N := 13) ?hd (cs := #[.bool false, .int .i64 0, .int .i64 0, .int .u64 0]) (t := 36) ?hr ?_; (case hd => rfl); (case hg => rfl); (case hr => first | (go_simp; done) | (go_simp; rfl)); intro gb792 hg w65 hbox hb; have n0_ := Aside0.mk (below_step (by repeat (first | (with_reducible first | exact HB.out | apply below_alloc | apply pw_below_drewN | apply below_drew1) | exact HB.out)) hb); have n1_ := Aside0.mk (hbox); have n2_ := Aside0.mk ((by rw [hg]; exact (below_size (by repeat (first | (with_reducible first | exact HB.out | apply below_alloc | apply pw_below_drewN | apply below_drew1) | exact HB.out))) : w.heap.size ≤ gb792)); have n3_ := Aside0.mk ((by rw [hg]; exact (below_size (by repeat (first | (with_reducible first | exact HB.out | apply below_alloc | apply pw_below_drewN | apply below_drew1) | exact HB.out))) : w.heap.size ≤ gb792)); clear HB; have HB := n0_; have BK792 := n1_; have GW792 := n2_; have GE792 := n3_; clear n0_ n1_ n2_ n3_; clear hb hbox hg) | ((with_reducible refine gate_dst (N := 14) rfl ?_); refine box_event ?hg (N := 14) ?hd (cs := #[.bool false, .int .i64 0, .int .i64 0, .int .u64 0]) (t := 36) ?hr ?_; (case hd => rfl); (case hg => rfl); (case hr => first | (go_simp; done) | (go_simp; rfl)); intro gb793 hg w66 hbox hb; have n0_ := Aside0.mk (blk_below (g := gb792) (o := .cells #[.bool false, .int .i64 0, .int .i64 0, .int .u64 0] 36 (0, 0)) (by (with_reducible repeat (first | refine blk_drewN ?_ _ | refine blk_drew ?_ | refine blk_alloc ?_ _)); exact BK792.out) hb); have n1_ := Aside0.mk (below_step (by repeat (first | (with_reducible first | exact HB.out | apply below_alloc | apply pw_below_drewN | apply below_drew1 | refine below_set ?_ GE792.out) | exact HB.out)) hb); have n2_ := Aside0.mk (hbox); have n3_ := Aside0.mk ((by rw [hg]; exact (below_size (by repeat (first | (with_reducible first | exact HB.out | apply below_alloc | apply pw_below_drewN | apply below_drew1 | refine below_set ?_ GE792.out) | exact HB.out))) : w.heap.size ≤ gb793)); have n4_ := Aside0.mk ((by rw [hg]; exact (below_size (by repeat (first | (with_reducible first | exact HB.out | apply below_alloc | apply pw_below_drewN | apply below_drew1 | refine below_set ?_ GE792.out) | exact HB.out))) : w.heap.size ≤ gb793)); have n5_ := Aside0.mk ((by rw [hg]; exact Nat.ne_of_lt (blk_lt (g := gb792) (o := .cells #[.bool false, .int .i64 0, .int .i64 0, .int .u64 0] 36 (0, 0)) (by (with_reducible repeat (first | refine blk_drewN ?_ _ | refine blk_drew ?_ | refine blk_alloc ?_ _)); exact BK792.out)) : gb792 ≠ gb793)); have n6_ := Aside0.mk ((by rw [hg]; exact Nat.ne_of_gt (blk_lt (g := gb792) (o := .cells #[.bool false, .int .i64 0, .int .i64 0, .int .u64 0] 36 (0, 0)) (by (with_reducible repeat (first | refine blk_drewN ?_ _ | refine blk_drew ?_ | refine blk_alloc ?_ _)); exact BK792.out)) : gb793 ≠ gb792)); clear BK792; clear HB; have BK792 := n0_; have HB := n1_; have BK793 := n2_; have GW793 := n3_; have GE793 := n4_; have NB792_793 := n5_; have NB793_792 := n6_; clear n0_ n1_ n2_ n3_ n4_ n5_ n6_; clear hb hbox hg; have hnb67 := NB792_793.out; have hnc67 := NB793_792.out; have hcz68_0 : w66.cell? ⟨gb792, 0, none⟩ = some (.bool false) := (blk_cell BK792.out 0).trans rfl; have hcz68_1 : w66.cell? ⟨gb792, 1, none⟩ = some (.int .i64 0) := (blk_cell BK792.out 1).trans rfl; have hcz68_2 : w66.cell? ⟨gb792, 2, none⟩ = some (.int .i64 0) := (blk_cell BK792.out 2).trans rfl; have hcz68_3 : w66.cell? ⟨gb792, 3, none⟩ = some (.int .u64 0) := (blk_cell BK792.out 3).trans rfl; have hfz68_0 := blk_frozen BK792.out 0; have hfz68_1 := blk_frozen BK792.out 1; have hfz68_2 := blk_frozen BK792.out 2; have hfz68_3 := blk_frozen BK792.out 3; have hcz69_0 : w66.cell? ⟨gb793, 0, none⟩ = some (.bool false) := (blk_cell BK793.out 0).trans rfl; have hcz69_1 : w66.cell? ⟨gb793, 1, none⟩ = some (.int .i64 0) := (blk_cell BK793.out 1).trans rfl; have hcz69_2 : w66.cell? ⟨gb793, 2, none⟩ = some (.int .i64 0) := (blk_cell BK793.out 2).trans rfl; have hcz69_3 : w66.cell? ⟨gb793, 3, none⟩ = some (.int .u64 0) := (blk_cell BK793.out 3).trans rfl; have hfz69_0 := blk_frozen BK793.out 0; have hfz69_1 := blk_frozen BK793.out 1; have hfz69_2 := blk_frozen BK793.out 2; have hfz69_3 := blk_frozen BK793.out 3) | ((with_reducible refine gate_callee (f := 98) rfl ?_); refine goesL_ (some 106) rfl rfl Try.func98 (by kernel_rfl) rfl #[.int .i64 a0, .int .u64 a1, .int .u64 a2] rfl (by (try simp only [List.map_toArray, List.map_cons, List.map_nil]); first | done | rfl | (simp only [List.length_drop, List.length_take]; rfl)) ?_; (with_reducible refine (trunnionref08_Cmp.calls kj11 a0 a1 a2 t795 _ A62.out).mono ?_); rintro e w70 ⟨rfl, hb⟩; refine ⟨_, rfl, ?_⟩; have n0_ := Aside0.mk (blk_below (g := gb792) (o := .cells #[.bool t784, .int .i64 t785, .int .i64 t786, .int .u64 t787] 36 (0, 0)) (by (with_reducible repeat (first | refine blk_drewN ?_ _ | refine blk_drew ?_ | refine blk_alloc ?_ _)); refine blk_far ?_ NB792_793.out _; (with_reducible repeat (first | refine blk_drewN ?_ _ | refine blk_drew ?_ | refine blk_alloc ?_ _)); refine blk_far ?_ NB792_793.out _; (with_reducible repeat (first | refine blk_drewN ?_ _ | refine blk_drew ?_ | refine blk_alloc ?_ _)); refine blk_far ?_ NB792_793.out _; (with_reducible repeat (first | refine blk_drewN ?_ _ | refine blk_drew ?_ | refine blk_alloc ?_ _)); refine blk_far ?_ NB792_793.out _; (with_reducible repeat (first | refine blk_drewN ?_ _ | refine blk_drew ?_ | refine blk_alloc ?_ _)); refine blk_put (cs := #[.bool t784, .int .i64 t785, .int .i64 t786, .int .u64 0]) ?_ 3 _ rfl; (with_reducible repeat (first | refine blk_drewN ?_ _ | refine blk_drew ?_ | refine blk_alloc ?_ _)); refine blk_put (cs := #[.bool t784, .int .i64 t785, .int .i64 0, .int .u64 0]) ?_ 2 _ rfl; (with_reducible repeat (first | refine blk_drewN ?_ _ | refine blk_drew ?_ | refine blk_alloc ?_ _)); refine blk_put (cs := #[.bool t784, .int .i64 0, .int .i64 0, .int .u64 0]) ?_ 1 _ rfl; (with_reducible repeat (first | refine blk_drewN ?_ _ | refine blk_drew ?_ | refine blk_alloc ?_ _)); refine blk_put (cs := #[.bool false, .int .i64 0, .int .i64 0, .int .u64 0]) ?_ 0 _ rfl; (with_reducible repeat (first | refine blk_drewN ?_ _ | refine blk_drew ?_ | refine blk_alloc ?_ _)); exact BK792.out) hb); have n1_ := Aside0.mk (blk_below (g := gb793) (o := .cells #[.bool t788, .int .i64 t789, .int .i64 t790, .int .u64 t791] 36 (0, 0)) (by (with_reducible repeat (first | refine blk_drewN ?_ _ | refine blk_drew ?_ | refine blk_alloc ?_ _)); refine blk_put (cs := #[.bool t788, .int .i64 t789, .int .i64 t790, .int .u64 0]) ?_ 3 _ rfl; (with_reducible repeat (first | refine blk_drewN ?_ _ | refine blk_drew ?_ | refine blk_alloc ?_ _)); refine blk_put (cs := #[.bool t788, .int .i64 t789, .int .i64 0, .int .u64 0]) ?_ 2 _ rfl; (with_reducible repeat (first | refine blk_drewN ?_ _ | refine blk_drew ?_ | refine blk_alloc ?_ _)); refine blk_put (cs := #[.bool t788, .int .i64 0, .int .i64 0, .int .u64 0]) ?_ 1 _ rfl; (with_reducible repeat (first | refine blk_drewN ?_ _ | refine blk_drew ?_ | refine blk_alloc ?_ _)); refine blk_put (cs := #[.bool false, .int .i64 0, .int .i64 0, .int .u64 0]) ?_ 0 _ rfl; (with_reducible repeat (first | refine blk_drewN ?_ _ | refine blk_drew ?_ | refine blk_alloc ?_ _)); refine blk_far ?_ NB793_792.out _; (with_reducible repeat (first | refine blk_drewN ?_ _ | refine blk_drew ?_ | refine blk_alloc ?_ _)); refine blk_far ?_ NB793_792.out _; (with_reducible repeat (first | refine blk_drewN ?_ _ | refine blk_drew ?_ | refine blk_alloc ?_ _)); refine blk_far ?_ NB793_792.out _; (with_reducible repeat (first | refine blk_drewN ?_ _ | refine blk_drew ?_ | refine blk_alloc ?_ _)); refine blk_far ?_ NB793_792.out _; (with_reducible repeat (first | refine blk_drewN ?_ _ | refine blk_drew ?_ | refine blk_alloc ?_ _)); exact BK793.out) hb); have n2_ := Aside0.mk (below_step (by repeat (first | (with_reducible first | exact HB.out | apply below_alloc | apply pw_below_drewN | apply below_drew1 | refine below_set ?_ GE792.out | refine below_set ?_ GE793.out) | exact HB.out)) hb); clear BK792; clear BK793; clear HB; have BK792 := n0_; have BK793 := n1_; have HB := n2_; clear n0_ n1_ n2_; (try clear hb); (try clear hb2); (try clear hk); (try clear hi)))
          go_ret
          exact ⟨by first | rfl | (simp [errW_none, errW_some] <;> rfl) | (simp [*, errW_none, errW_some] <;> rfl), by repeat (first | (with_reducible first | exact HB.out | apply below_alloc | apply pw_below_drewN | apply below_drew1 | refine below_set ?_ GE792.out | refine below_set ?_ GE793.out) | exact HB.out)⟩
         ·rw [if_neg c61] at H
          have c61b0 : (t777 == 0) = false := beq_eq_false_iff_ne.mpr c61
          have c61b1 : (t777 != 0) = true := bne_iff_ne.mpr c61
          exact absurd ((Option.some.inj H).trans hr_.out) (by decide)
  ·replace c11 := Bool.eq_false_iff.mpr c11
   subst c11
   have H1 : (if t775 = 0 then (if t776 = 0 then (if t777 = 0 then (if t778 = true then (some false) else (if t779 = 0 then (some (!t780)) else (some false))) else (some false)) else (some false)) else (some false)) = some r := by rw [if_neg (show ¬ (false = true) by decide)] at H; exact H
   clear H
   have H := H1
   clear H1
   by_cases c71 : t775 = 0
   ·rw [if_pos c71] at H
    have c71b0 : (t775 == 0) = true := beq_iff_eq.mpr c71
    have c71b1 : (t775 != 0) = false := bne_eq_false_iff_eq.mpr c71
    clear c71
    by_cases c72 : t776 = 0
    ·rw [if_pos c72] at H
     have c72b0 : (t776 == 0) = true := beq_iff_eq.mpr c72
     have c72b1 : (t776 != 0) = false := bne_eq_false_iff_eq.mpr c72
     clear c72
     by_cases c73 : t777 = 0
     ·rw [if_pos c73] at H
      have c73b0 : (t777 == 0) = true := beq_iff_eq.mpr c73
      have c73b1 : (t777 != 0) = false := bne_eq_false_iff_eq.mpr c73
      clear c73
      by_cases c74 : t778 = true
      ·subst c74
       have H1 : (some false) = some r := by rw [if_pos rfl] at H; exact H
       clear H
       have H := H1
       clear H1
       exact absurd ((Option.some.inj H).trans hr_.out) (by decide)
      ·replace c74 := Bool.eq_false_iff.mpr c74
       subst c74
       have H1 : (if t779 = 0 then (some (!t780)) else (some false)) = some r := by rw [if_neg (show ¬ (false = true) by decide)] at H; exact H
       clear H
       have H := H1
       clear H1
       by_cases c75 : t779 = 0
       ·rw [if_pos c75] at H
        have c75b0 : (t779 == 0) = true := beq_iff_eq.mpr c75
        have c75b1 : (t779 != 0) = false := bne_eq_false_iff_eq.mpr c75
        clear c75
        obtain rfl := Option.some.inj H
        go_enter Try.func17, Try.ntmps17
        go_wp2_with (first | ((with_reducible refine gate_callee (f := 93) rfl ?_); refine goesL_ (some 16) rfl rfl Try.func93 (by kernel_rfl) rfl #[] rfl (by (try simp only [List.map_toArray, List.map_cons, List.map_nil]); first | done | rfl | (simp only [List.length_drop, List.length_take]; rfl)) ?_; (with_reducible refine (trunnionlaw08_awake.calls k  true _ A4.out).mono ?_); rintro e w76 ⟨rfl, hb⟩; refine ⟨_, rfl, ?_⟩; have n0_ := Aside0.mk (below_step (by repeat (first | (with_reducible first | exact HB.out | apply below_alloc | apply pw_below_drewN | apply below_drew1) | exact HB.out)) hb); clear HB; have HB := n0_; clear n0_; (try clear hb); (try clear hb2); (try clear hk); (try clear hi)) | ((with_reducible refine gate_callee (f := 94) rfl ?_); refine goesL_ (some 21) rfl rfl Try.func94 (by kernel_rfl) rfl #[.int .i64 a0, .int .u64 a1, .int .u64 a2] rfl (by (try simp only [List.map_toArray, List.map_cons, List.map_nil]); first | done | rfl | (simp only [List.length_drop, List.length_take]; rfl)) ?_; (with_reducible refine (order_Min.calls k a0 a1 a2 t775 _ A6.out).mono ?_); rintro e w77 ⟨rfl, hb⟩; refine ⟨_, rfl, ?_⟩; have n0_ := Aside0.mk (below_step (by repeat (first | (with_reducible first | exact HB.out | apply below_alloc | apply pw_below_drewN | apply below_drew1) | exact HB.out)) hb); clear HB; have HB := n0_; clear n0_; (try clear hb); (try clear hb2); (try clear hk); (try clear hi)) | ((with_reducible refine gate_callee (f := 95) rfl ?_); refine goesL_ (some 25) rfl rfl Try.func95 (by kernel_rfl) rfl #[.int .i64 a0, .int .u64 a1, .int .u64 a2] rfl (by (try simp only [List.map_toArray, List.map_cons, List.map_nil]); first | done | rfl | (simp only [List.length_drop, List.length_take]; rfl)) ?_; (with_reducible refine (order_Max.calls k a0 a1 a2 t776 _ A7.out).mono ?_); rintro e w78 ⟨rfl, hb⟩; refine ⟨_, rfl, ?_⟩; have n0_ := Aside0.mk (below_step (by repeat (first | (with_reducible first | exact HB.out | apply below_alloc | apply pw_below_drewN | apply below_drew1) | exact HB.out)) hb); clear HB; have HB := n0_; clear n0_; (try clear hb); (try clear hb2); (try clear hk); (try clear hi)) | ((with_reducible refine gate_callee (f := 96) rfl ?_); refine goesL_ (some 29) rfl rfl Try.func96 (by kernel_rfl) rfl #[.int .i64 a0, .int .u64 a1] rfl (by (try simp only [List.map_toArray, List.map_cons, List.map_nil]); first | done | rfl | (simp only [List.length_drop, List.length_take]; rfl)) ?_; (with_reducible refine (order_Rank.calls k a0 a1 t777 false _ A8.out).mono ?_); rintro e w79 ⟨rfl, hb⟩; refine ⟨_, rfl, ?_⟩; have n0_ := Aside0.mk (below_step (by repeat (first | (with_reducible first | exact HB.out | apply below_alloc | apply pw_below_drewN | apply below_drew1) | exact HB.out)) hb); clear HB; have HB := n0_; clear n0_; (try clear hb); (try clear hb2); (try clear hk); (try clear hi)) | ((with_reducible refine gate_callee (f := 96) rfl ?_); refine goesL_ (some 35) rfl rfl Try.func96 (by kernel_rfl) rfl #[.int .i64 a0, .int .u64 a2] rfl (by (try simp only [List.map_toArray, List.map_cons, List.map_nil]); first | done | rfl | (simp only [List.length_drop, List.length_take]; rfl)) ?_; (with_reducible refine (order_Rank.calls k a0 a2 t779 t780 _ A9.out).mono ?_); rintro e w80 ⟨rfl, hb⟩; refine ⟨_, rfl, ?_⟩; have n0_ := Aside0.mk (below_step (by repeat (first | (with_reducible first | exact HB.out | apply below_alloc | apply pw_below_drewN | apply below_drew1) | exact HB.out)) hb); clear HB; have HB := n0_; clear n0_; (try clear hb); (try clear hb2); (try clear hk); (try clear hi)) | ((with_reducible refine gate_callee (f := 29) rfl ?_); refine goesL_ (some 39) rfl rfl Try.func29 (by kernel_rfl) rfl #[.int .i64 a0] rfl (by (try simp only [List.map_toArray, List.map_cons, List.map_nil]); first | done | rfl | (simp only [List.length_drop, List.length_take]; rfl)) ?_; (with_reducible refine (trunnionref02_Known.calls a0 false _ A10.out).mono ?_); rintro e w' ⟨rfl, ⟨nd, rfl⟩⟩; refine ⟨_, rfl, ?_⟩))
        go_ret
        exact ⟨by first | rfl | (simp [errW_none, errW_some] <;> rfl) | (simp [*, errW_none, errW_some] <;> rfl), by repeat (first | (with_reducible first | exact HB.out | apply below_alloc | apply pw_below_drewN | apply below_drew1) | exact HB.out)⟩
       ·rw [if_neg c75] at H
        have c75b0 : (t779 == 0) = false := beq_eq_false_iff_ne.mpr c75
        have c75b1 : (t779 != 0) = true := bne_iff_ne.mpr c75
        exact absurd ((Option.some.inj H).trans hr_.out) (by decide)
     ·rw [if_neg c73] at H
      have c73b0 : (t777 == 0) = false := beq_eq_false_iff_ne.mpr c73
      have c73b1 : (t777 != 0) = true := bne_iff_ne.mpr c73
      exact absurd ((Option.some.inj H).trans hr_.out) (by decide)
    ·rw [if_neg c72] at H
     have c72b0 : (t776 == 0) = false := beq_eq_false_iff_ne.mpr c72
     have c72b1 : (t776 != 0) = true := bne_iff_ne.mpr c72
     exact absurd ((Option.some.inj H).trans hr_.out) (by decide)
   ·rw [if_neg c71] at H
    have c71b0 : (t775 == 0) = false := beq_eq_false_iff_ne.mpr c71
    have c71b1 : (t775 != 0) = true := bne_iff_ne.mpr c71
    exact absurd ((Option.some.inj H).trans hr_.out) (by decide)
 ·replace c5 := Bool.eq_false_iff.mpr c5
  subst c5
  have H1 : (some false) = some r := by rw [if_neg (show ¬ (false = true) by decide)] at H; exact H
  clear H
  have H := H1
  clear H1
  exact absurd ((Option.some.inj H).trans hr_.out) (by decide)

/-- THE ONE PURE STATEMENT of trunnionlaw08_OrderPicks: yours. -/
def trunnionlaw08_OrderPicks.Pure : Prop := ∀ (a0 : Int) (a1 : Int) (a2 : Int), (Lit.int .i64 a0).wf = true → (Lit.int .u64 a1).wf = true → (Lit.int .u64 a2).wf = true → ∃ k, trunnionlaw08_OrderPicks.f k a0 a1 a2 = some true
theorem trunnionlaw08_OrderPicks.walk (P : trunnionlaw08_OrderPicks.Pure) (a0 : Int) (a1 : Int) (a2 : Int) (w : World) (w0 : (Lit.int .i64 a0).wf = true) (w1 : (Lit.int .u64 a1).wf = true) (w2 : (Lit.int .u64 a2).wf = true) :
  Calls Try.prog 17 #[.int .i64 a0, .int .u64 a1, .int .u64 a2] w fun e w' => e = .returned (.bool true) ∧ Below w.heap.size w w' := by
 obtain ⟨k, h⟩ := P a0 a1 a2 w0 w1 w2
 refine (trunnionlaw08_OrderPicks.calls k a0 a1 a2 true w h ⟨rfl⟩).mono ?_
 rintro e w' ⟨rfl, hd⟩
 exact ⟨rfl, hd⟩

end Go.Proofs.Ytmjfenbbgfohlaa.PA

namespace Go.Proofs.Ytmjfenbbgfohlaa.PA
open Go.RowKit Go.Proofs.YtmjfenbbgfohlaaW.PrintWords Go.Proofs.YtmjfenbbgfohlaaW.PrintLast Go.Proofs.YtmjfenbbgfohlaaW.PrintMore
attribute [local go_sem] max2_int min2_int max_two min_two max_three min_three max_four min_four   -- for this text's walks alone
set_option linter.unusedVariables false
set_option linter.unusedSimpArgs false

/-! ### sign_bit: function 110 -/
def sign_bit.f (a0 : Int) : Option (Int) := if a0 = 32 then (some 2147483648) else (if a0 = 64 then (some 9223372036854775808) else (some 0))
set_option maxHeartbeats 8000000 in
set_option maxRecDepth 100000 in
theorem sign_bit.calls (a0 : Int) (r : Int) (w : World) (h : sign_bit.f a0 = some r) :
  Calls Try.prog 110 #[.int .i64 a0] w fun e w' => e = .returned (.int .u64 r) ∧ Below w.heap.size w w' := by
 have hu130 := Try.underlying130
 have HB := Aside0.mk (Below.refl w.heap.size w)
 have H : (if a0 = 32 then (some 2147483648) else (if a0 = 64 then (some 9223372036854775808) else (some 0))) = some r := h
 clear h
 by_cases c2 : a0 = 32
 ·rw [if_pos c2] at H
  have c2b0 : (a0 == 32) = true := beq_iff_eq.mpr c2
  have c2b1 : (a0 != 32) = false := bne_eq_false_iff_eq.mpr c2
  clear c2
  obtain rfl := Option.some.inj H
  go_enter Try.func110, Try.ntmps110
  go_wp2_with (first | ((with_reducible refine gate_dst (N := 3) rfl ?_); refine box_event ?hg (N := 3) ?hd (cs := #[.int .u64 0, .int .u64 0]) (t := 130) ?hr ?_; (case hd => rfl); (case hg => rfl); (case hr => first | (go_simp; done) | (go_simp; rfl)); intro gb101 hg w3 hbox hb; have n0_ := Aside0.mk (below_step (by repeat (first | (with_reducible first | exact HB.out | apply below_alloc | apply pw_below_drewN | apply below_drew1) | exact HB.out)) hb); have n1_ := Aside0.mk (hbox); have n2_ := Aside0.mk ((by rw [hg]; exact (below_size (by repeat (first | (with_reducible first | exact HB.out | apply below_alloc | apply pw_below_drewN | apply below_drew1) | exact HB.out))) : w.heap.size ≤ gb101)); have n3_ := Aside0.mk ((by rw [hg]; exact (below_size (by repeat (first | (with_reducible first | exact HB.out | apply below_alloc | apply pw_below_drewN | apply below_drew1) | exact HB.out))) : w.heap.size ≤ gb101)); clear HB; have HB := n0_; have BK101 := n1_; have GW101 := n2_; have GE101 := n3_; clear n0_ n1_ n2_ n3_; clear hb hbox hg; have hcz4_0 : w3.cell? ⟨gb101, 0, none⟩ = some (.int .u64 0) := (blk_cell BK101.out 0).trans rfl; have hcz4_1 : w3.cell? ⟨gb101, 1, none⟩ = some (.int .u64 0) := (blk_cell BK101.out 1).trans rfl; have hfz4_0 := blk_frozen BK101.out 0; have hfz4_1 := blk_frozen BK101.out 1))
  go_ret
  exact ⟨by first | rfl | (simp [errW_none, errW_some] <;> rfl) | (simp [*, errW_none, errW_some] <;> rfl), by repeat (first | (with_reducible first | exact HB.out | apply below_alloc | apply pw_below_drewN | apply below_drew1 | refine below_set ?_ GE101.out) | exact HB.out)⟩
 ·rw [if_neg c2] at H
  have c2b0 : (a0 == 32) = false := beq_eq_false_iff_ne.mpr c2
  have c2b1 : (a0 != 32) = true := bne_iff_ne.mpr c2
  by_cases c5 : a0 = 64
  ·rw [if_pos c5] at H
   have c5b0 : (a0 == 64) = true := beq_iff_eq.mpr c5
   have c5b1 : (a0 != 64) = false := bne_eq_false_iff_eq.mpr c5
   clear c5
   obtain rfl := Option.some.inj H
   go_enter Try.func110, Try.ntmps110
   go_wp2_with (first | ((with_reducible refine gate_dst (N := 3) rfl ?_); refine box_event ?hg (N := 3) ?hd (cs := #[.int .u64 0, .int .u64 0]) (t := 130) ?hr ?_; (case hd => rfl); (case hg => rfl); (case hr => first | (go_simp; done) | (go_simp; rfl)); intro gb101 hg w6 hbox hb; have n0_ := Aside0.mk (below_step (by repeat (first | (with_reducible first | exact HB.out | apply below_alloc | apply pw_below_drewN | apply below_drew1) | exact HB.out)) hb); have n1_ := Aside0.mk (hbox); have n2_ := Aside0.mk ((by rw [hg]; exact (below_size (by repeat (first | (with_reducible first | exact HB.out | apply below_alloc | apply pw_below_drewN | apply below_drew1) | exact HB.out))) : w.heap.size ≤ gb101)); have n3_ := Aside0.mk ((by rw [hg]; exact (below_size (by repeat (first | (with_reducible first | exact HB.out | apply below_alloc | apply pw_below_drewN | apply below_drew1) | exact HB.out))) : w.heap.size ≤ gb101)); clear HB; have HB := n0_; have BK101 := n1_; have GW101 := n2_; have GE101 := n3_; clear n0_ n1_ n2_ n3_; clear hb hbox hg; have hcz7_0 : w6.cell? ⟨gb101, 0, none⟩ = some (.int .u64 0) := (blk_cell BK101.out 0).trans rfl; have hcz7_1 : w6.cell? ⟨gb101, 1, none⟩ = some (.int .u64 0) := (blk_cell BK101.out 1).trans rfl; have hfz7_0 := blk_frozen BK101.out 0; have hfz7_1 := blk_frozen BK101.out 1))
   go_ret
   exact ⟨by first | rfl | (simp [errW_none, errW_some] <;> rfl) | (simp [*, errW_none, errW_some] <;> rfl), by repeat (first | (with_reducible first | exact HB.out | apply below_alloc | apply pw_below_drewN | apply below_drew1 | refine below_set ?_ GE101.out) | exact HB.out)⟩
  ·rw [if_neg c5] at H
   have c5b0 : (a0 == 64) = false := beq_eq_false_iff_ne.mpr c5
   have c5b1 : (a0 != 64) = true := bne_iff_ne.mpr c5
   obtain rfl := Option.some.inj H
   go_enter Try.func110, Try.ntmps110
   go_wp2_with (first | ((with_reducible refine gate_dst (N := 3) rfl ?_); refine box_event ?hg (N := 3) ?hd (cs := #[.int .u64 0, .int .u64 0]) (t := 130) ?hr ?_; (case hd => rfl); (case hg => rfl); (case hr => first | (go_simp; done) | (go_simp; rfl)); intro gb101 hg w8 hbox hb; have n0_ := Aside0.mk (below_step (by repeat (first | (with_reducible first | exact HB.out | apply below_alloc | apply pw_below_drewN | apply below_drew1) | exact HB.out)) hb); have n1_ := Aside0.mk (hbox); have n2_ := Aside0.mk ((by rw [hg]; exact (below_size (by repeat (first | (with_reducible first | exact HB.out | apply below_alloc | apply pw_below_drewN | apply below_drew1) | exact HB.out))) : w.heap.size ≤ gb101)); have n3_ := Aside0.mk ((by rw [hg]; exact (below_size (by repeat (first | (with_reducible first | exact HB.out | apply below_alloc | apply pw_below_drewN | apply below_drew1) | exact HB.out))) : w.heap.size ≤ gb101)); clear HB; have HB := n0_; have BK101 := n1_; have GW101 := n2_; have GE101 := n3_; clear n0_ n1_ n2_ n3_; clear hb hbox hg; have hcz9_0 : w8.cell? ⟨gb101, 0, none⟩ = some (.int .u64 0) := (blk_cell BK101.out 0).trans rfl; have hcz9_1 : w8.cell? ⟨gb101, 1, none⟩ = some (.int .u64 0) := (blk_cell BK101.out 1).trans rfl; have hfz9_0 := blk_frozen BK101.out 0; have hfz9_1 := blk_frozen BK101.out 1))
   go_ret
   exact ⟨by first | rfl | (simp [errW_none, errW_some] <;> rfl) | (simp [*, errW_none, errW_some] <;> rfl), by repeat (first | (with_reducible first | exact HB.out | apply below_alloc | apply pw_below_drewN | apply below_drew1 | refine below_set ?_ GE101.out) | exact HB.out)⟩

end Go.Proofs.Ytmjfenbbgfohlaa.PA

namespace Go.Proofs.Ytmjfenbbgfohlaa.PA
open Go.RowKit Go.Proofs.YtmjfenbbgfohlaaW.PrintWords Go.Proofs.YtmjfenbbgfohlaaW.PrintLast Go.Proofs.YtmjfenbbgfohlaaW.PrintMore
attribute [local go_sem] max2_int min2_int max_two min_two max_three min_three max_four min_four   -- for this text's walks alone
set_option linter.unusedVariables false
set_option linter.unusedSimpArgs false

/-! ### sign_Abs: function 27 -/
def sign_Abs.f (a0 : Int) (a1 : Int) : Option (Int) := (shape_Cut.f a0 a1).bind fun t102 => ((sign_bit.f a0).bind fun t103 => (some (Go.bits .andNot .u64 t102 t103)))
set_option maxHeartbeats 8000000 in
set_option maxRecDepth 100000 in
theorem sign_Abs.calls (a0 : Int) (a1 : Int) (r : Int) (w : World) (h : sign_Abs.f a0 a1 = some r) :
  Calls Try.prog 27 #[.int .i64 a0, .int .u64 a1] w fun e w' => e = .returned (.int .u64 r) ∧ Below w.heap.size w w' := by
 have HB := Aside0.mk (Below.refl w.heap.size w)
 have H : ((shape_Cut.f a0 a1).bind fun t102 => ((sign_bit.f a0).bind fun t103 => (some (Go.bits .andNot .u64 t102 t103)))) = some r := h
 clear h
 replace H := Option.bind_eq_some_iff.mp H
 obtain ⟨t102, A30, H⟩ := H
 replace H : ((sign_bit.f a0).bind fun t103 => (some (Go.bits .andNot .u64 t102 t103))) = some r := H
 have A3 := Aside0.mk A30
 clear A30
 replace H := Option.bind_eq_some_iff.mp H
 obtain ⟨t103, A40, H⟩ := H
 replace H : (some (Go.bits .andNot .u64 t102 t103)) = some r := H
 have A4 := Aside0.mk A40
 clear A40
 obtain rfl := Option.some.inj H
 go_enter Try.func27, Try.ntmps27
 go_wp2_with (first | ((with_reducible refine gate_callee (f := 42) rfl ?_); refine goesL_ (some 7) rfl rfl Try.func42 (by kernel_rfl) rfl #[.int .i64 a0, .int .u64 a1] rfl (by (try simp only [List.map_toArray, List.map_cons, List.map_nil]); first | done | rfl | (simp only [List.length_drop, List.length_take]; rfl)) ?_; (with_reducible refine (shape_Cut.calls a0 a1 t102 _ A3.out).mono ?_); rintro e w' ⟨rfl, ⟨nd, rfl⟩⟩; refine ⟨_, rfl, ?_⟩) | ((with_reducible refine gate_callee (f := 110) rfl ?_); refine goesL_ (some 9) rfl rfl Try.func110 (by kernel_rfl) rfl #[.int .i64 a0] rfl (by (try simp only [List.map_toArray, List.map_cons, List.map_nil]); first | done | rfl | (simp only [List.length_drop, List.length_take]; rfl)) ?_; (with_reducible refine (sign_bit.calls a0 t103 _ A4.out).mono ?_); rintro e w5 ⟨rfl, hb⟩; refine ⟨_, rfl, ?_⟩; have n0_ := Aside0.mk (below_step (by repeat (first | (with_reducible first | exact HB.out | apply below_alloc | apply pw_below_drewN | apply below_drew1) | exact HB.out)) hb); clear HB; have HB := n0_; clear n0_; (try clear hb); (try clear hb2); (try clear hk); (try clear hi)))
 go_ret
 exact ⟨by first | rfl | (simp [errW_none, errW_some] <;> rfl) | (simp [*, errW_none, errW_some] <;> rfl), by repeat (first | (with_reducible first | exact HB.out | apply below_alloc | apply pw_below_drewN | apply below_drew1) | exact HB.out)⟩

end Go.Proofs.Ytmjfenbbgfohlaa.PA

namespace Bit
theorem andnot_pow (a k : Nat) (hk : k < 64) (ha : a < 2 ^ (k + 1)) : a &&& (18446744073709551615 - 2 ^ k) = a % 2 ^ k := by
  have hp : 2 ^ k < 2 ^ 64 := Nat.pow_lt_pow_right (by decide) hk
  have e : 18446744073709551615 - 2 ^ k = 2 ^ 64 - (2 ^ k + 1) := by
    have : (2 : Nat) ^ 64 = 18446744073709551616 := by decide
    omega
  rw [e]
  apply Nat.eq_of_testBit_eq
  intro i
  rw [Nat.testBit_and, Nat.testBit_two_pow_sub_succ hp, Nat.testBit_mod_two_pow, Nat.testBit_two_pow]
  by_cases h : i < k
  · simp [h, show i < 64 by omega, show k ≠ i by omega]
  · by_cases h2 : i = k
    · subst h2; simp
    · have h3 : a.testBit i = false := Nat.testBit_lt_two_pow (Nat.lt_of_lt_of_le ha (Nat.pow_le_pow_right (by decide) (by omega)))
      simp [h, h3]
theorem or_pow (x c k : Nat) (hx : x < 2 ^ k) : x ||| c * 2 ^ k = x + c * 2 ^ k := by
  rw [Nat.mul_comm, Nat.or_comm, ← Nat.two_pow_add_eq_or_of_lt hx, Nat.add_comm]
theorem and_low (a k : Nat) : a &&& (2 ^ k - 1) = a % 2 ^ k := Nat.and_two_pow_sub_one_eq_mod a k
end Bit

set_option linter.unusedVariables false
set_option linter.unusedSimpArgs false
namespace Go.Proofs.Ytmjfenbbgfohlaa.Th
open Go.RowKit Go.Proofs.YtmjfenbbgfohlaaW.PrintWords Go.Proofs.YtmjfenbbgfohlaaW.PrintLast Go.Proofs.YtmjfenbbgfohlaaW.PrintMore Go.Proofs.Ytmjfenbbgfohlaa.PA Bit
theorem wf_u64 {a : Int} (h : (Lit.int .u64 a).wf = true) : 0 ≤ a ∧ a < 18446744073709551616 := by
  simp [Lit.wf, IntKind.min, IntKind.max, IntKind.signed, IntKind.bits] at h; omega
/-! ### shape.Cut, sign -/
/-- a width's greatest power -/
def cutN (w : Int) (a : Nat) : Nat := if w = 32 then a % 4294967296 else if w = 64 then a else 0
theorem shCut (w : Int) (a : Nat) (ha : a < 18446744073709551616) : shape_Cut.f w a = some ((cutN w a : Nat) : Int) := by
  unfold shape_Cut.f cutN
  by_cases h : w = 32
  · rw [if_pos h, if_pos h, show (4294967295 : Int) = ((4294967295 : Nat) : Int) from rfl, u64_and_nat a _ ha (by decide)]
    rw [show (4294967295 : Nat) = 2 ^ 32 - 1 by decide, and_low]
  · rw [if_neg h, if_neg h]
    by_cases h2 : w = 64
    · rw [if_pos h2, if_pos h2]
    · rw [if_neg h2, if_neg h2]; rfl
theorem r2Cut (w : Int) (a : Nat) (hw : w = 32 ∨ w = 64) : trunnionref02_Cut.f w a = some ((cutN w a : Nat) : Int) := by
  unfold trunnionref02_Cut.f cutN
  rcases hw with rfl | rfl
  · rw [if_pos rfl, if_pos rfl, Int.tmod_eq_emod_of_nonneg (by omega)]; congr 1
  · rw [if_neg (by decide), if_neg (by decide), if_pos rfl]
def sb (w : Int) : Nat := if w = 32 then 2147483648 else 9223372036854775808
theorem bitS (w : Int) (hw : w = 32 ∨ w = 64) : sign_bit.f w = some ((sb w : Nat) : Int) := by
  rcases hw with rfl | rfl <;> rfl
/-- has it a sign -/
def sgB (w : Int) (a : Nat) : Bool := decide (a / sb w % 2 = 1)
/-- without a sign -/
def magN (w : Int) (a : Nat) : Nat := a % sb w
theorem cutN_eq (w : Int) (hw : w = 32 ∨ w = 64) (a : Nat) (ha : a < 18446744073709551616) : cutN w a = magN w a + (if sgB w a then sb w else 0) := by
  unfold magN sgB
  rcases hw with rfl | rfl
  · simp only [cutN, sb, if_true, decide_eq_true_eq]; split <;> omega
  · simp only [cutN, sb, show ¬ ((64 : Int) = 32) by decide, if_false, if_true, decide_eq_true_eq]; split <;> omega
theorem magN_lt (w : Int) (hw : w = 32 ∨ w = 64) (a : Nat) : magN w a < sb w := by
  unfold magN sb; rcases hw with rfl | rfl <;> exact Nat.mod_lt _ (by decide)
theorem absS (w : Int) (hw : w = 32 ∨ w = 64) (a : Nat) (ha : a < 18446744073709551616) : sign_Abs.f w a = some ((magN w a : Nat) : Int) := by
  unfold sign_Abs.f
  rw [shCut w a ha, Option.bind_some, bitS w hw, Option.bind_some]
  congr 1
  rcases hw with rfl | rfl
  · simp only [cutN, sb, magN, if_true]
    rw [u64_andNot_nat _ _ (by omega) (by decide)]
    have h := andnot_pow (a % 4294967296) 31 (by decide) (by have : a % 4294967296 < 4294967296 := Nat.mod_lt _ (by decide); simpa using this)
    rw [show (2 : Nat) ^ 31 = 2147483648 by decide] at h
    rw [h]; congr 1; omega
  · simp only [cutN, sb, magN, show ¬ ((64 : Int) = 32) by decide, if_false, if_true]
    rw [u64_andNot_nat _ _ ha (by decide)]
    have h := andnot_pow a 63 (by decide) (by simpa using ha)
    rw [show (2 : Nat) ^ 63 = 9223372036854775808 by decide] at h
    rw [h]
/-- with a sign, or without -/
def mkN (w : Int) (m : Nat) (s : Bool) : Nat := m + if s then sb w else 0
theorem mkN_lt (w : Int) (hw : w = 32 ∨ w = 64) (m : Nat) (s : Bool) (h : m < sb w) : mkN w m s < 18446744073709551616 := by
  unfold mkN; revert h; unfold sb; rcases hw with rfl | rfl <;> cases s <;> simp <;> omega
theorem sg_mk (w : Int) (hw : w = 32 ∨ w = 64) (m : Nat) (s : Bool) (h : m < sb w) : sgB w (mkN w m s) = s := by
  unfold sgB mkN; revert h; unfold sb; rcases hw with rfl | rfl <;> cases s <;> simp <;> omega
theorem mag_mk (w : Int) (hw : w = 32 ∨ w = 64) (m : Nat) (s : Bool) (h : m < sb w) : magN w (mkN w m s) = m := by
  unfold magN mkN; revert h; unfold sb; rcases hw with rfl | rfl <;> cases s <;> simp <;> omega
/-! ### the document's -/
theorem known_f (w : Int) : trunnionref02_Known.f w = some (decide (w = 32 ∨ w = 64)) := by
  unfold trunnionref02_Known.f
  by_cases h : w = 32
  · rw [if_pos h]; simp [h]
  · rw [if_neg h]; congr 1; by_cases h2 : w = 64 <;> simp [h, h2]
theorem Ev.pos {α : Type} {c : Prop} [Decidable c] {f g : Nat → Option α} {r : α} (h : c) (k : Ev f r) : Ev (fun n => if c then f n else g n) r := Ev.congr (fun _ => if_pos h) k
theorem Ev.neg {α : Type} {c : Prop} [Decidable c] {f g : Nat → Option α} {r : α} (h : ¬ c) (k : Ev g r) : Ev (fun n => if c then f n else g n) r := Ev.congr (fun _ => if_neg h) k
theorem Ev.bs {α β : Type} {g : Option α} {a : α} {f : Nat → α → Option β} {r : β} (h : g = some a) (k : Ev (fun n => f n a) r) : Ev (fun n => g.bind (f n)) r := by subst h; exact k
theorem Ev.out {α : Type} {r s : α} (h : r = s) : Ev (fun _ => some r) s := by subst h; exact Ev.now _
theorem u64_id {n : Int} (h : 0 ≤ n) (h2 : n < 18446744073709551616) : IntKind.u64.wrap n = n := by rw [IntKind.wrap_u64]; omega
theorem w64_id {n : Int} (h : -9223372036854775808 ≤ n) (h2 : n < 9223372036854775808) : wrap64 n = n := by unfold wrap64; omega
theorem two_loop (n : Nat) (hn : n < 64) (d : Nat) : ∀ i : Nat, i ≤ n → n - i = d → Ev (fun k => trunnionref02_Two.l0 k n (2 ^ i : Nat) i) ((2 ^ n : Nat) : Int) := by
  induction d with
  | zero =>
    intro i hi hd
    obtain rfl : i = n := by omega
    refine Ev.step (fun _ => trunnionref02_Two.l0.eq_2 ..) ?_
    exact Ev.neg (by omega) (Ev.out rfl)
  | succ d ih =>
    intro i hi hd
    refine Ev.step (fun _ => trunnionref02_Two.l0.eq_2 ..) ?_
    refine Ev.pos (by omega) ?_
    have h := ih (i + 1) (by omega) (by omega)
    have hp : 2 ^ i ≤ 4611686018427387904 * 2 := by
      have : 2 ^ i ≤ 2 ^ 63 := Nat.pow_le_pow_right (by decide) (by omega)
      simpa using this
    have hp2 : 2 ^ (i + 1) ≤ 9223372036854775808 := by
      have : 2 ^ (i + 1) ≤ 2 ^ 63 := Nat.pow_le_pow_right (by decide) (by omega)
      simpa using this
    rw [Nat.pow_succ] at h hp2
    generalize 2 ^ i = P at *
    rw [u64_id (by omega) (by omega), w64_id (by omega) (by omega), show (2 : Int) * (P : Int) = ((P * 2 : Nat) : Int) by omega, show (i : Int) + 1 = ((i + 1 : Nat) : Int) by omega]
    exact h
theorem two_f (n : Nat) (hn : n < 64) : Ev (fun k => trunnionref02_Two.f k n) ((2 ^ n : Nat) : Int) := two_loop n hn _ 0 (by omega) rfl
theorem twoS (w : Int) (hw : w = 32 ∨ w = 64) : Ev (fun k => trunnionref02_Two.f k (wrap64 (w - 1))) ((sb w : Nat) : Int) := by
  rcases hw with rfl | rfl
  · rw [show wrap64 (32 - 1) = ((31 : Nat) : Int) by decide +kernel]; exact two_f 31 (by decide)
  · rw [show wrap64 (64 - 1) = ((63 : Nat) : Int) by decide +kernel]; exact two_f 63 (by decide)
theorem r2Neg (w : Int) (hw : w = 32 ∨ w = 64) (a : Nat) (ha : a < 18446744073709551616) : Ev (fun k => trunnionref02_Neg.f k w a) (sgB w a) := by
  unfold trunnionref02_Neg.f
  refine Ev.bs (r2Cut w a hw) (Ev.bind (twoS w hw) ?_)
  have hs : 0 < sb w := by unfold sb; split <;> decide
  refine Ev.neg (by omega) (Ev.out ?_)
  have hm := magN_lt w hw a
  rw [Int.tdiv_eq_ediv_of_nonneg (by omega), ← Int.natCast_ediv, cutN_eq w hw a ha]
  cases sgB w a
  · simp only [Bool.false_eq_true, if_false, Nat.add_zero]
    rw [Nat.div_eq_of_lt hm]; decide
  · simp only [if_true]
    rw [Nat.add_div_right _ hs, Nat.div_eq_of_lt hm]; decide
end Go.Proofs.Ytmjfenbbgfohlaa.Th
