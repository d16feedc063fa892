/- What the Go functions that the statement OrderAsks reaches compute, and the mathematics on it, in the order in which one leans on the other; for every input. -/
import Derived.Test.YtmjfenbbgfohlaaMOrderAsks0
import Derived.Test.YtmjfenbbgfohlaaMOrderAsks1
namespace Go.Proofs.Ytmjfenbbgfohlaa.PA
open Go.RowKit Go.Proofs.YtmjfenbbgfohlaaW.PrintWords Go.Proofs.YtmjfenbbgfohlaaW.PrintLast Go.Proofs.YtmjfenbbgfohlaaW.PrintMore
attribute [local go_sem] max2_int min2_int max_two min_two max_three min_three max_four min_four   -- for this text's walks alone
set_option linter.unusedVariables false
set_option linter.unusedSimpArgs false

/-! ### trunnionref08_Cmp: function 98 -/
mutual
def trunnionref08_Cmp.j0 : Nat → Bool → Bool → Int → Int → Int → Bool → Int → Int → Int → Option (Int)
 | 0, _, _, _, _, _, _, _, _, _ => none
 | k + 1, x24, x746000, x746001, x746002, x746003, x751000, x751001, x751002, x751003 => if x24 = true then (some 2) else ((trunnionref08_sign.f x746000 x746001 x746002 x746003).bind fun t751 => ((trunnionref08_sign.f x751000 x751001 x751002 x751003).bind fun t752 => (if t751 < t752 then (some (-1)) else ((trunnionref08_sign.f x746000 x746001 x746002 x746003).bind fun t753 => ((trunnionref08_sign.f x751000 x751001 x751002 x751003).bind fun t754 => (if t753 > t754 then (some 1) else ((trunnionref08_sign.f x746000 x746001 x746002 x746003).bind fun t755 => (if t755 = 0 then (some 0) else (if x746001 = 2 then (trunnionref08_Cmp.j1 k true x746000 x746001 x746002 x746003 x751000 x751001 x751002 x751003) else (trunnionref08_Cmp.j1 k (x751001 == 2) x746000 x746001 x746002 x746003 x751000 x751001 x751002 x751003))))))))))
def trunnionref08_Cmp.j1 : Nat → Bool → Bool → Int → Int → Int → Bool → Int → Int → Int → Option (Int)
 | 0, _, _, _, _, _, _, _, _, _ => none
 | k + 1, x45, x746000, x746001, x746002, x746003, x751000, x751001, x751002, x751003 => if x45 = true then (if x746000 = true then (some (wrap64 (-(wrap64 (x746001 - x751001))))) else (some (wrap64 (x746001 - x751001)))) else ((trunnionref01_Of.f k x746003).bind fun t756 => ((trunnionref01_Shl.f k t756 (wrap64 (x746002 - (mn x746002 x751002)))).bind fun t759 => ((trunnionref01_Of.f k x751003).bind fun t762 => ((trunnionref01_Shl.f k t762 (wrap64 (x751002 - (mn x746002 x751002)))).bind fun t765 => ((trunnionref01_Cmp.f k t759 t765).bind fun t768 => (if x746000 = true then (some (wrap64 (-t768))) else (some t768)))))))
end
def trunnionref08_Cmp.f (k : Nat) (a0 : Int) (a1 : Int) (a2 : Int) : Option (Int) := (trunnionref02_Open.f k a0 a1).bind fun bt741 => ((trunnionref02_Open.f k a0 a2).bind fun bt746 => (if bt741.2.1 = 3 then (trunnionref08_Cmp.j0 k true bt741.1 bt741.2.1 bt741.2.2.1 bt741.2.2.2 bt746.1 bt746.2.1 bt746.2.2.1 bt746.2.2.2) else (trunnionref08_Cmp.j0 k (bt746.2.1 == 3) bt741.1 bt741.2.1 bt741.2.2.1 bt741.2.2.2 bt746.1 bt746.2.1 bt746.2.2.1 bt746.2.2.2)))
theorem trunnionref08_Cmp.mono_l : ∀ k, (∀ y0 y1 y2 y3 y4 y5 y6 y7 y8, LeO (trunnionref08_Cmp.j0 k y0 y1 y2 y3 y4 y5 y6 y7 y8) (trunnionref08_Cmp.j0 (k + 1) y0 y1 y2 y3 y4 y5 y6 y7 y8)) ∧ (∀ y0 y1 y2 y3 y4 y5 y6 y7 y8, LeO (trunnionref08_Cmp.j1 k y0 y1 y2 y3 y4 y5 y6 y7 y8) (trunnionref08_Cmp.j1 (k + 1) y0 y1 y2 y3 y4 y5 y6 y7 y8))
 | 0 => ⟨fun _ _ _ _ _ _ _ _ _ r h => by simp [trunnionref08_Cmp.j0] at h, fun _ _ _ _ _ _ _ _ _ r h => by simp [trunnionref08_Cmp.j1] at h⟩
 | k + 1 => by
  obtain ⟨ih0, ih1⟩ := trunnionref08_Cmp.mono_l k
  refine ⟨?_, ?_⟩
  ·intro y0 y1 y2 y3 y4 y5 y6 y7 y8
   unfold trunnionref08_Cmp.j0
   repeat' first
   | (with_reducible exact ih0 _ _ _ _ _ _ _ _ _)
   | (with_reducible exact ih1 _ _ _ _ _ _ _ _ _)
   | (with_reducible exact trunnionref01_Cmp.mono _ _ _)
   | (with_reducible exact trunnionref01_Of.mono _ _)
   | (with_reducible exact trunnionref01_Shl.mono _ _ _)
   | (with_reducible exact trunnionref02_Open.mono _ _ _)
   | (with_reducible exact LeO.refl _)
   | (with_reducible exact LeO.none _)
   | (with_reducible refine LeO.ite ?_ ?_)
   | (with_reducible refine LeO.bind ?_ (fun _ => ?_))
   | exact ih0 _ _ _ _ _ _ _ _ _
   | exact ih1 _ _ _ _ _ _ _ _ _
   | exact trunnionref01_Cmp.mono _ _ _
   | exact trunnionref01_Of.mono _ _
   | exact trunnionref01_Shl.mono _ _ _
   | exact trunnionref02_Open.mono _ _ _
   | exact LeO.none _
   | refine LeO.ite ?_ ?_
   | refine LeO.bind ?_ (fun _ => ?_)
  ·intro y0 y1 y2 y3 y4 y5 y6 y7 y8
   unfold trunnionref08_Cmp.j1
   repeat' first
   | (with_reducible exact ih0 _ _ _ _ _ _ _ _ _)
   | (with_reducible exact ih1 _ _ _ _ _ _ _ _ _)
   | (with_reducible exact trunnionref01_Cmp.mono _ _ _)
   | (with_reducible exact trunnionref01_Of.mono _ _)
   | (with_reducible exact trunnionref01_Shl.mono _ _ _)
   | (with_reducible exact trunnionref02_Open.mono _ _ _)
   | (with_reducible exact LeO.refl _)
   | (with_reducible exact LeO.none _)
   | (with_reducible refine LeO.ite ?_ ?_)
   | (with_reducible refine LeO.bind ?_ (fun _ => ?_))
   | exact ih0 _ _ _ _ _ _ _ _ _
   | exact ih1 _ _ _ _ _ _ _ _ _
   | exact trunnionref01_Cmp.mono _ _ _
   | exact trunnionref01_Of.mono _ _
   | exact trunnionref01_Shl.mono _ _ _
   | exact trunnionref02_Open.mono _ _ _
   | exact LeO.none _
   | refine LeO.ite ?_ ?_
   | refine LeO.bind ?_ (fun _ => ?_)
theorem trunnionref08_Cmp.mono : ∀ a0 a1 a2 k, LeO (trunnionref08_Cmp.f k a0 a1 a2) (trunnionref08_Cmp.f (k + 1) a0 a1 a2) := by
 intro a0 a1 a2 k
 obtain ⟨ih0, ih1⟩ := trunnionref08_Cmp.mono_l k
 unfold trunnionref08_Cmp.f
 repeat' first
   | (with_reducible exact ih0 _ _ _ _ _ _ _ _ _)
   | (with_reducible exact ih1 _ _ _ _ _ _ _ _ _)
   | (with_reducible exact trunnionref01_Cmp.mono _ _ _)
   | (with_reducible exact trunnionref01_Of.mono _ _)
   | (with_reducible exact trunnionref01_Shl.mono _ _ _)
   | (with_reducible exact trunnionref02_Open.mono _ _ _)
   | (with_reducible exact LeO.refl _)
   | (with_reducible exact LeO.none _)
   | (with_reducible refine LeO.ite ?_ ?_)
   | (with_reducible refine LeO.bind ?_ (fun _ => ?_))
   | exact ih0 _ _ _ _ _ _ _ _ _
   | exact ih1 _ _ _ _ _ _ _ _ _
   | exact trunnionref01_Cmp.mono _ _ _
   | exact trunnionref01_Of.mono _ _
   | exact trunnionref01_Shl.mono _ _ _
   | exact trunnionref02_Open.mono _ _ _
   | exact LeO.none _
   | refine LeO.ite ?_ ?_
   | refine LeO.bind ?_ (fun _ => ?_)
def trunnionref08_Cmp.T15 : Bool × List (List Nat × List Nat) := (true, [([], []), ([0], [0]), ([1], [1]), ([], []), ([3], [3]), ([], []), ([4, 5], [4, 5]), ([2, 6, 2], [2, 6]), ([], []), ([8], [8]), ([9, 7], [9]), ([], []), ([11], [11]), ([], []), ([12, 13], [12, 13]), ([10, 14, 10], [10, 14]), ([7, 15, 15], [7, 15]), ([16, 16, 0, 1, 2, 3, 4, 5, 6, 7, 8, 9, 10, 11, 12, 13, 14, 15, 16], [16])])
def trunnionref08_Cmp.B15 : List Nat := [0, 1, 3, 0, 8, 0, 56, 127, 0, 256, 1023, 0, 2048, 0, 14336, 32767, 65535, 131071]
theorem trunnionref08_Cmp.tab15 : rtab .any (opsOf Try.f98 15) = trunnionref08_Cmp.T15 := by kernel_rfl
theorem trunnionref08_Cmp.bits15 : waitsOk trunnionref08_Cmp.T15.2 trunnionref08_Cmp.B15 = true := by kernel_rfl
set_option maxHeartbeats 8000000 in
set_option maxRecDepth 100000 in
theorem trunnionref08_Cmp.calls (k : Nat) (a0 : Int) (a1 : Int) (a2 : Int) (r : Int) (w : World) (h : trunnionref08_Cmp.f k a0 a1 a2 = some r) :
  Calls Try.prog 98 #[.int .i64 a0, .int .u64 a1, .int .u64 a2] w fun e w' => e = .returned (.int .i64 r) ∧ Below w.heap.size w w' := by
 have hu36 := Try.underlying36
 have HB := Aside0.mk (Below.refl w.heap.size w)
 have H : ((trunnionref02_Open.f k a0 a1).bind fun bt741 => ((trunnionref02_Open.f k a0 a2).bind fun bt746 => (if bt741.2.1 = 3 then (trunnionref08_Cmp.j0 k true bt741.1 bt741.2.1 bt741.2.2.1 bt741.2.2.2 bt746.1 bt746.2.1 bt746.2.2.1 bt746.2.2.2) else (trunnionref08_Cmp.j0 k (bt746.2.1 == 3) bt741.1 bt741.2.1 bt741.2.2.1 bt741.2.2.2 bt746.1 bt746.2.1 bt746.2.2.1 bt746.2.2.2)))) = some r := h
 clear h
 replace H := Option.bind_eq_some_iff.mp H
 obtain ⟨⟨t741, t742, t743, t744⟩, A40, H⟩ := H
 replace H : ((trunnionref02_Open.f k a0 a2).bind fun bt746 => (if t742 = 3 then (trunnionref08_Cmp.j0 k true t741 t742 t743 t744 bt746.1 bt746.2.1 bt746.2.2.1 bt746.2.2.2) else (trunnionref08_Cmp.j0 k (bt746.2.1 == 3) t741 t742 t743 t744 bt746.1 bt746.2.1 bt746.2.2.1 bt746.2.2.2))) = some r := H
 have A4 := Aside0.mk A40
 clear A40
 replace H := Option.bind_eq_some_iff.mp H
 obtain ⟨⟨t746, t747, t748, t749⟩, A50, H⟩ := H
 replace H : (if t742 = 3 then (trunnionref08_Cmp.j0 k true t741 t742 t743 t744 t746 t747 t748 t749) else (trunnionref08_Cmp.j0 k (t747 == 3) t741 t742 t743 t744 t746 t747 t748 t749)) = some r := H
 have A5 := Aside0.mk A50
 clear A50
 have HC6 := Aside0.mk H
 clear H
 go_enter Try.func98, Try.ntmps98
 go_upto_region 3 with (first | ((with_reducible refine gate_callee (f := 44) rfl ?_); refine goesL_ (some 13) rfl rfl Try.func44 (by kernel_rfl) rfl #[.int .i64 a0, .int .u64 a1] rfl (by (try simp only [List.map_toArray, List.map_cons, List.map_nil]); first | done | rfl | (simp only [List.length_drop, List.length_take]; rfl)) ?_; (with_reducible refine (trunnionref02_Open.calls k a0 a1 t741 t742 t743 t744 _ A4.out).mono ?_); rintro e w7 ⟨rfl, hb⟩; refine ⟨_, rfl, ?_⟩; have n0_ := Aside0.mk (below_step (by repeat (first | (with_reducible first | exact HB.out | apply below_alloc | apply pw_below_drewN | apply below_drew1) | exact HB.out)) hb); clear HB; have HB := n0_; clear n0_; (try clear hb); (try clear hb2); (try clear hk); (try clear hi)) | ((with_reducible refine gate_dst (N := 7) rfl ?_); refine box_event ?hg (N := 7) ?hd (cs := #[.bool false, .int .i64 0, .int .i64 0, .int .u64 0]) (t := 36) ?hr ?_; (case hd => rfl); (case hg => rfl); (case hr => first | (go_simp; done) | (go_simp; rfl)); intro gb745 hg w8 hbox hb; have n0_ := Aside0.mk (below_step (by repeat (first | (with_reducible first | exact HB.out | apply below_alloc | apply pw_below_drewN | apply below_drew1) | exact HB.out)) hb); have n1_ := Aside0.mk (hbox); have n2_ := Aside0.mk ((by rw [hg]; exact (below_size (by repeat (first | (with_reducible first | exact HB.out | apply below_alloc | apply pw_below_drewN | apply below_drew1) | exact HB.out))) : w.heap.size ≤ gb745)); have n3_ := Aside0.mk ((by rw [hg]; exact (below_size (by repeat (first | (with_reducible first | exact HB.out | apply below_alloc | apply pw_below_drewN | apply below_drew1) | exact HB.out))) : w.heap.size ≤ gb745)); clear HB; have HB := n0_; have BK745 := n1_; have GW745 := n2_; have GE745 := n3_; clear n0_ n1_ n2_ n3_; clear hb hbox hg; have hcz9_0 : w8.cell? ⟨gb745, 0, none⟩ = some (.bool false) := (blk_cell BK745.out 0).trans rfl; have hcz9_1 : w8.cell? ⟨gb745, 1, none⟩ = some (.int .i64 0) := (blk_cell BK745.out 1).trans rfl; have hcz9_2 : w8.cell? ⟨gb745, 2, none⟩ = some (.int .i64 0) := (blk_cell BK745.out 2).trans rfl; have hcz9_3 : w8.cell? ⟨gb745, 3, none⟩ = some (.int .u64 0) := (blk_cell BK745.out 3).trans rfl; have hfz9_0 := blk_frozen BK745.out 0; have hfz9_1 := blk_frozen BK745.out 1; have hfz9_2 := blk_frozen BK745.out 2; have hfz9_3 := blk_frozen BK745.out 3) | ((with_reducible refine gate_callee (f := 44) rfl ?_); refine goesL_ (some 16) rfl rfl Try.func44 (by kernel_rfl) rfl #[.int .i64 a0, .int .u64 a2] rfl (by (try simp only [List.map_toArray, List.map_cons, List.map_nil]); first | done | rfl | (simp only [List.length_drop, List.length_take]; rfl)) ?_; (with_reducible refine (trunnionref02_Open.calls k a0 a2 t746 t747 t748 t749 _ A5.out).mono ?_); rintro e w10 ⟨rfl, hb⟩; refine ⟨_, rfl, ?_⟩; have n0_ := Aside0.mk (blk_below (g := gb745) (o := .cells #[.bool t741, .int .i64 t742, .int .i64 t743, .int .u64 t744] 36 (0, 0)) (by (with_reducible repeat (first | refine blk_drewN ?_ _ | refine blk_drew ?_ | refine blk_alloc ?_ _)); refine blk_put (cs := #[.bool t741, .int .i64 t742, .int .i64 t743, .int .u64 0]) ?_ 3 _ rfl; (with_reducible repeat (first | refine blk_drewN ?_ _ | refine blk_drew ?_ | refine blk_alloc ?_ _)); refine blk_put (cs := #[.bool t741, .int .i64 t742, .int .i64 0, .int .u64 0]) ?_ 2 _ rfl; (with_reducible repeat (first | refine blk_drewN ?_ _ | refine blk_drew ?_ | refine blk_alloc ?_ _)); refine blk_put (cs := #[.bool t741, .int .i64 0, .int .i64 0, .int .u64 0]) ?_ 1 _ rfl; (with_reducible repeat (first | refine blk_drewN ?_ _ | refine blk_drew ?_ | refine blk_alloc ?_ _)); refine blk_put (cs := #[.bool false, .int .i64 0, .int .i64 0, .int .u64 0]) ?_ 0 _ rfl; (with_reducible repeat (first | refine blk_drewN ?_ _ | refine blk_drew ?_ | refine blk_alloc ?_ _)); exact BK745.out) hb); have n1_ := Aside0.mk (below_step (by repeat (first | (with_reducible first | exact HB.out | apply below_alloc | apply pw_below_drewN | apply below_drew1 | refine below_set ?_ GE745.out) | exact HB.out)) hb); clear BK745; clear HB; have BK745 := n0_; have HB := n1_; clear n0_ n1_; (try clear hb); (try clear hb2); (try clear hk); (try clear hi)) | ((with_reducible refine gate_dst (N := 8) rfl ?_); refine box_event ?hg (N := 8) ?hd (cs := #[.bool false, .int .i64 0, .int .i64 0, .int .u64 0]) (t := 36) ?hr ?_; (case hd => rfl); (case hg => rfl); (case hr => first | (go_simp; done) | (go_simp; rfl)); intro gb750 hg w11 hbox hb; have n0_ := Aside0.mk (blk_below (g := gb745) (o := .cells #[.bool t741, .int .i64 t742, .int .i64 t743, .int .u64 t744] 36 (0, 0)) (by (with_reducible repeat (first | refine blk_drewN ?_ _ | refine blk_drew ?_ | refine blk_alloc ?_ _)); exact BK745.out) hb); have n1_ := Aside0.mk (below_step (by repeat (first | (with_reducible first | exact HB.out | apply below_alloc | apply pw_below_drewN | apply below_drew1 | refine below_set ?_ GE745.out) | exact HB.out)) hb); have n2_ := Aside0.mk (hbox); have n3_ := Aside0.mk ((by rw [hg]; exact (below_size (by repeat (first | (with_reducible first | exact HB.out | apply below_alloc | apply pw_below_drewN | apply below_drew1 | refine below_set ?_ GE745.out) | exact HB.out))) : w.heap.size ≤ gb750)); have n4_ := Aside0.mk ((by rw [hg]; exact (below_size (by repeat (first | (with_reducible first | exact HB.out | apply below_alloc | apply pw_below_drewN | apply below_drew1 | refine below_set ?_ GE745.out) | exact HB.out))) : w.heap.size ≤ gb750)); have n5_ := Aside0.mk ((by rw [hg]; exact Nat.ne_of_lt (blk_lt (g := gb745) (o := .cells #[.bool t741, .int .i64 t742, .int .i64 t743, .int .u64 t744] 36 (0, 0)) (by (with_reducible repeat (first | refine blk_drewN ?_ _ | refine blk_drew ?_ | refine blk_alloc ?_ _)); exact BK745.out)) : gb745 ≠ gb750)); have n6_ := Aside0.mk ((by rw [hg]; exact Nat.ne_of_gt (blk_lt (g := gb745) (o := .cells #[.bool t741, .int .i64 t742, .int .i64 t743, .int .u64 t744] 36 (0, 0)) (by (with_reducible repeat (first | refine blk_drewN ?_ _ | refine blk_drew ?_ | refine blk_alloc ?_ _)); exact BK745.out)) : gb750 ≠ gb745)); clear BK745; clear HB; have BK745 := n0_; have HB := n1_; have BK750 := n2_; have GW750 := n3_; have GE750 := n4_; have NB745_750 := n5_; have NB750_745 := n6_; clear n0_ n1_ n2_ n3_ n4_ n5_ n6_; clear hb hbox hg; have hnb12 := NB750_745.out; have hnc12 := NB745_750.out; have hcz13_0 : w11.cell? ⟨gb750, 0, none⟩ = some (.bool false) := (blk_cell BK750.out 0).trans rfl; have hcz13_1 : w11.cell? ⟨gb750, 1, none⟩ = some (.int .i64 0) := (blk_cell BK750.out 1).trans rfl; have hcz13_2 : w11.cell? ⟨gb750, 2, none⟩ = some (.int .i64 0) := (blk_cell BK750.out 2).trans rfl; have hcz13_3 : w11.cell? ⟨gb750, 3, none⟩ = some (.int .u64 0) := (blk_cell BK750.out 3).trans rfl; have hfz13_0 := blk_frozen BK750.out 0; have hfz13_1 := blk_frozen BK750.out 1; have hfz13_2 := blk_frozen BK750.out 2; have hfz13_3 := blk_frozen BK750.out 3))
 (try simp only [Act.put, List.setIfInBounds_toArray, List.set_cons_zero, List.set_cons_succ])
 go_cut [24] (fun v24 wc => ∃ (kq : Nat) (x24_5 : Bool), v24 = .bool x24_5 ∧ Aside0 (trunnionref08_Cmp.j0 kq x24_5 t741 t742 t743 t744 t746 t747 t748 t749 = some r) ∧ Aside0 (kq ≤ k) ∧ Aside0 (wc.heap[gb745]? = some (.cells #[.bool t741, .int .i64 t742, .int .i64 t743, .int .u64 t744] 36 (0, 0))) ∧ Aside0 (wc.heap[gb750]? = some (.cells #[.bool t746, .int .i64 t747, .int .i64 t748, .int .u64 t749] 36 (0, 0))) ∧ Aside0 (Below w.heap.size w wc))
 case first =>
  have H := HC6.out
  clear HC6
  by_cases c14 : t742 = 3
  ·rw [if_pos c14] at H
   have c14b0 : (t742 == 3) = true := beq_iff_eq.mpr c14
   have c14b1 : (t742 != 3) = false := bne_eq_false_iff_eq.mpr c14
   clear c14
   (first | rw [c14b0] | (simp only [i64_w, i32_w]; rw [c14b0]) | skip)
   have H' := Aside0.mk H
   clear H
   have hnb15 := NB745_750.out
   have hnc15 := NB750_745.out
   have hcz16_0 : w11.cell? ⟨gb745, 0, none⟩ = some (.bool t741) := (blk_cell BK745.out 0).trans rfl
   have hcz16_1 : w11.cell? ⟨gb745, 1, none⟩ = some (.int .i64 t742) := (blk_cell BK745.out 1).trans rfl
   have hcz16_2 : w11.cell? ⟨gb745, 2, none⟩ = some (.int .i64 t743) := (blk_cell BK745.out 2).trans rfl
   have hcz16_3 : w11.cell? ⟨gb745, 3, none⟩ = some (.int .u64 t744) := (blk_cell BK745.out 3).trans rfl
   have hfz16_0 := blk_frozen BK745.out 0
   have hfz16_1 := blk_frozen BK745.out 1
   have hfz16_2 := blk_frozen BK745.out 2
   have hfz16_3 := blk_frozen BK745.out 3
   go_wp2
   go_meet
   case rel => exact ⟨_, (true), (by first | rfl | (simp; done) | (simp [*]; done)), H', ⟨by first | omega | exact Nat.le_refl _⟩, ⟨by (with_reducible repeat (first | refine blk_drewN ?_ _ | refine blk_drew ?_ | refine blk_alloc ?_ _)); refine blk_far ?_ NB745_750.out _; (with_reducible repeat (first | refine blk_drewN ?_ _ | refine blk_drew ?_ | refine blk_alloc ?_ _)); refine blk_far ?_ NB745_750.out _; (with_reducible repeat (first | refine blk_drewN ?_ _ | refine blk_drew ?_ | refine blk_alloc ?_ _)); refine blk_far ?_ NB745_750.out _; (with_reducible repeat (first | refine blk_drewN ?_ _ | refine blk_drew ?_ | refine blk_alloc ?_ _)); refine blk_far ?_ NB745_750.out _; (with_reducible repeat (first | refine blk_drewN ?_ _ | refine blk_drew ?_ | refine blk_alloc ?_ _)); exact BK745.out⟩, ⟨by (with_reducible repeat (first | refine blk_drewN ?_ _ | refine blk_drew ?_ | refine blk_alloc ?_ _)); refine blk_put (cs := #[.bool t746, .int .i64 t747, .int .i64 t748, .int .u64 0]) ?_ 3 _ rfl; (with_reducible repeat (first | refine blk_drewN ?_ _ | refine blk_drew ?_ | refine blk_alloc ?_ _)); refine blk_put (cs := #[.bool t746, .int .i64 t747, .int .i64 0, .int .u64 0]) ?_ 2 _ rfl; (with_reducible repeat (first | refine blk_drewN ?_ _ | refine blk_drew ?_ | refine blk_alloc ?_ _)); refine blk_put (cs := #[.bool t746, .int .i64 0, .int .i64 0, .int .u64 0]) ?_ 1 _ rfl; (with_reducible repeat (first | refine blk_drewN ?_ _ | refine blk_drew ?_ | refine blk_alloc ?_ _)); refine blk_put (cs := #[.bool false, .int .i64 0, .int .i64 0, .int .u64 0]) ?_ 0 _ rfl; (with_reducible repeat (first | refine blk_drewN ?_ _ | refine blk_drew ?_ | refine blk_alloc ?_ _)); exact BK750.out⟩, ⟨by repeat (first | (with_reducible first | exact HB.out | apply below_alloc | apply pw_below_drewN | apply below_drew1 | refine below_set ?_ GE745.out | refine below_set ?_ GE750.out) | exact HB.out)⟩⟩
  ·rw [if_neg c14] at H
   have c14b0 : (t742 == 3) = false := beq_eq_false_iff_ne.mpr c14
   have c14b1 : (t742 != 3) = true := bne_iff_ne.mpr c14
   (first | rw [c14b0] | (simp only [i64_w, i32_w]; rw [c14b0]) | skip)
   have H' := Aside0.mk H
   clear H
   have hnb17 := NB745_750.out
   have hnc17 := NB750_745.out
   have hcz18_0 : w11.cell? ⟨gb745, 0, none⟩ = some (.bool t741) := (blk_cell BK745.out 0).trans rfl
   have hcz18_1 : w11.cell? ⟨gb745, 1, none⟩ = some (.int .i64 t742) := (blk_cell BK745.out 1).trans rfl
   have hcz18_2 : w11.cell? ⟨gb745, 2, none⟩ = some (.int .i64 t743) := (blk_cell BK745.out 2).trans rfl
   have hcz18_3 : w11.cell? ⟨gb745, 3, none⟩ = some (.int .u64 t744) := (blk_cell BK745.out 3).trans rfl
   have hfz18_0 := blk_frozen BK745.out 0
   have hfz18_1 := blk_frozen BK745.out 1
   have hfz18_2 := blk_frozen BK745.out 2
   have hfz18_3 := blk_frozen BK745.out 3
   have hcz19_0 : w11.cell? ⟨gb750, 0, none⟩ = some (.bool false) := (blk_cell BK750.out 0).trans rfl
   have hcz19_1 : w11.cell? ⟨gb750, 1, none⟩ = some (.int .i64 0) := (blk_cell BK750.out 1).trans rfl
   have hcz19_2 : w11.cell? ⟨gb750, 2, none⟩ = some (.int .i64 0) := (blk_cell BK750.out 2).trans rfl
   have hcz19_3 : w11.cell? ⟨gb750, 3, none⟩ = some (.int .u64 0) := (blk_cell BK750.out 3).trans rfl
   have hfz19_0 := blk_frozen BK750.out 0
   have hfz19_1 := blk_frozen BK750.out 1
   have hfz19_2 := blk_frozen BK750.out 2
   have hfz19_3 := blk_frozen BK750.out 3
   go_wp2
   go_meet
   case rel => exact ⟨_, ((t747 == 3)), (by first | rfl | (simp; done) | (simp [*]; done)), H', ⟨by first | omega | exact Nat.le_refl _⟩, ⟨by (with_reducible repeat (first | refine blk_drewN ?_ _ | refine blk_drew ?_ | refine blk_alloc ?_ _)); refine blk_far ?_ NB745_750.out _; (with_reducible repeat (first | refine blk_drewN ?_ _ | refine blk_drew ?_ | refine blk_alloc ?_ _)); refine blk_far ?_ NB745_750.out _; (with_reducible repeat (first | refine blk_drewN ?_ _ | refine blk_drew ?_ | refine blk_alloc ?_ _)); refine blk_far ?_ NB745_750.out _; (with_reducible repeat (first | refine blk_drewN ?_ _ | refine blk_drew ?_ | refine blk_alloc ?_ _)); refine blk_far ?_ NB745_750.out _; (with_reducible repeat (first | refine blk_drewN ?_ _ | refine blk_drew ?_ | refine blk_alloc ?_ _)); exact BK745.out⟩, ⟨by (with_reducible repeat (first | refine blk_drewN ?_ _ | refine blk_drew ?_ | refine blk_alloc ?_ _)); refine blk_put (cs := #[.bool t746, .int .i64 t747, .int .i64 t748, .int .u64 0]) ?_ 3 _ rfl; (with_reducible repeat (first | refine blk_drewN ?_ _ | refine blk_drew ?_ | refine blk_alloc ?_ _)); refine blk_put (cs := #[.bool t746, .int .i64 t747, .int .i64 0, .int .u64 0]) ?_ 2 _ rfl; (with_reducible repeat (first | refine blk_drewN ?_ _ | refine blk_drew ?_ | refine blk_alloc ?_ _)); refine blk_put (cs := #[.bool t746, .int .i64 0, .int .i64 0, .int .u64 0]) ?_ 1 _ rfl; (with_reducible repeat (first | refine blk_drewN ?_ _ | refine blk_drew ?_ | refine blk_alloc ?_ _)); refine blk_put (cs := #[.bool false, .int .i64 0, .int .i64 0, .int .u64 0]) ?_ 0 _ rfl; (with_reducible repeat (first | refine blk_drewN ?_ _ | refine blk_drew ?_ | refine blk_alloc ?_ _)); exact BK750.out⟩, ⟨by repeat (first | (with_reducible first | exact HB.out | apply below_alloc | apply pw_below_drewN | apply below_drew1 | refine below_set ?_ GE745.out | refine below_set ?_ GE750.out) | exact HB.out)⟩⟩
 case rest =>
  clear HC6
  try clear c1
  try clear p2
  try clear c4
  try clear c9
  try clear c12
  try clear c14
  try clear c14b0
  try clear c14b1
  try clear c15
  try clear c17
  try clear hcz13_0
  try clear hcz13_1
  try clear hcz13_2
  try clear hcz13_3
  try clear hcz16_0
  try clear hcz16_1
  try clear hcz16_2
  try clear hcz16_3
  try clear hcz18_0
  try clear hcz18_1
  try clear hcz18_2
  try clear hcz18_3
  try clear hcz19_0
  try clear hcz19_1
  try clear hcz19_2
  try clear hcz19_3
  try clear hcz9_0
  try clear hcz9_1
  try clear hcz9_2
  try clear hcz9_3
  try clear hfz13_0
  try clear hfz13_1
  try clear hfz13_2
  try clear hfz13_3
  try clear hfz16_0
  try clear hfz16_1
  try clear hfz16_2
  try clear hfz16_3
  try clear hfz18_0
  try clear hfz18_1
  try clear hfz18_2
  try clear hfz18_3
  try clear hfz19_0
  try clear hfz19_1
  try clear hfz19_2
  try clear hfz19_3
  try clear hfz9_0
  try clear hfz9_1
  try clear hfz9_2
  try clear hfz9_3
  obtain ⟨kq, x24_5, rfl, HA, HJ5, BK745, BK750, HB⟩ := hcut
  cases kq with
  | zero => exact absurd HA.out (by simp [trunnionref08_Cmp.j0])
  | succ kj5 =>
   have H := HA.out
   clear HA
   simp only [trunnionref08_Cmp.j0] at H
   by_cases c20 : x24_5 = true
   ·subst c20
    have H1 : (some 2) = some r := by rw [if_pos rfl] at H; exact H
    clear H
    have H := H1
    clear H1
    obtain rfl := Option.some.inj H
    go_wp2
    go_ret
    exact ⟨by first | rfl | (simp [errW_none, errW_some] <;> rfl) | (simp [*, errW_none, errW_some] <;> rfl), by repeat (first | (with_reducible first | exact HB.out | apply below_alloc | apply pw_below_drewN | apply below_drew1 | refine below_set ?_ GE745.out | refine below_set ?_ GE750.out) | exact HB.out)⟩
   ·replace c20 := Bool.eq_false_iff.mpr c20
    subst c20
    have H1 : ((trunnionref08_sign.f t741 t742 t743 t744).bind fun t751 => ((trunnionref08_sign.f t746 t747 t748 t749).bind fun t752 => (if t751 < t752 then (some (-1)) else ((trunnionref08_sign.f t741 t742 t743 t744).bind fun t753 => ((trunnionref08_sign.f t746 t747 t748 t749).bind fun t754 => (if t753 > t754 then (some 1) else ((trunnionref08_sign.f t741 t742 t743 t744).bind fun t755 => (if t755 = 0 then (some 0) else (if t742 = 2 then (trunnionref08_Cmp.j1 kj5 true t741 t742 t743 t744 t746 t747 t748 t749) else (trunnionref08_Cmp.j1 kj5 (t747 == 2) t741 t742 t743 t744 t746 t747 t748 t749)))))))))) = some r := by rw [if_neg (show ¬ (false = true) by decide)] at H; exact H
    clear H
    have H := H1
    clear H1
    replace H := Option.bind_eq_some_iff.mp H
    obtain ⟨t751, A210, H⟩ := H
    replace H : ((trunnionref08_sign.f t746 t747 t748 t749).bind fun t752 => (if t751 < t752 then (some (-1)) else ((trunnionref08_sign.f t741 t742 t743 t744).bind fun t753 => ((trunnionref08_sign.f t746 t747 t748 t749).bind fun t754 => (if t753 > t754 then (some 1) else ((trunnionref08_sign.f t741 t742 t743 t744).bind fun t755 => (if t755 = 0 then (some 0) else (if t742 = 2 then (trunnionref08_Cmp.j1 kj5 true t741 t742 t743 t744 t746 t747 t748 t749) else (trunnionref08_Cmp.j1 kj5 (t747 == 2) t741 t742 t743 t744 t746 t747 t748 t749))))))))) = some r := H
    have A21 := Aside0.mk A210
    clear A210
    replace H := Option.bind_eq_some_iff.mp H
    obtain ⟨t752, A220, H⟩ := H
    replace H : (if t751 < t752 then (some (-1)) else ((trunnionref08_sign.f t741 t742 t743 t744).bind fun t753 => ((trunnionref08_sign.f t746 t747 t748 t749).bind fun t754 => (if t753 > t754 then (some 1) else ((trunnionref08_sign.f t741 t742 t743 t744).bind fun t755 => (if t755 = 0 then (some 0) else (if t742 = 2 then (trunnionref08_Cmp.j1 kj5 true t741 t742 t743 t744 t746 t747 t748 t749) else (trunnionref08_Cmp.j1 kj5 (t747 == 2) t741 t742 t743 t744 t746 t747 t748 t749)))))))) = some r := H
    have A22 := Aside0.mk A220
    clear A220
    by_cases c23 : t751 < t752
    ·rw [if_pos c23] at H
     have c23b0 : decide (t751 < t752) = true := decide_eq_true c23
     clear c23
     obtain rfl := Option.some.inj H
     try go_wp2
     have n0_ := Aside0.mk (blk_drew BK745.out)
     have n1_ := Aside0.mk (blk_drew BK750.out)
     have n2_ := Aside0.mk (below_drew1 HB.out)
     clear BK745
     clear BK750
     clear HB
     have BK745 := n0_
     have BK750 := n1_
     have HB := n2_
     clear n0_ n1_ n2_
     refine start_ (n := 5) (S := fun w' => w'.cell? ⟨gb745, 0, none⟩ = some (.bool t741) ∧ w'.cell? ⟨gb745, 1, none⟩ = some (.int .i64 t742) ∧ w'.cell? ⟨gb745, 2, none⟩ = some (.int .i64 t743) ∧ w'.cell? ⟨gb745, 3, none⟩ = some (.int .u64 t744) ∧ w'.cell? ⟨gb750, 0, none⟩ = some (.bool t746) ∧ w'.cell? ⟨gb750, 1, none⟩ = some (.int .i64 t747) ∧ w'.cell? ⟨gb750, 2, none⟩ = some (.int .i64 t748) ∧ w'.cell? ⟨gb750, 3, none⟩ = some (.int .u64 t749)) (ds := []) #[false, false, false, false, false] (by kernel_rfl) rfl rfl ⟨(blk_cell BK745.out 0).trans rfl, (blk_cell BK745.out 1).trans rfl, (blk_cell BK745.out 2).trans rfl, (blk_cell BK745.out 3).trans rfl, (blk_cell BK750.out 0).trans rfl, (blk_cell BK750.out 1).trans rfl, (blk_cell BK750.out 2).trans rfl, (blk_cell BK750.out 3).trans rfl⟩ (fun hHeld => ?_)
     generalize wc.drew = w24 at BK745 BK750 HB hHeld ⊢
     refine take_ (i := 0) (N := some 25) (v := ?_) (a' := ?_) #[true, false, false, false, false] rfl rfl (by kernel_rfl) (fun _ _ _ h => h) (Or.inl ⟨by rfl, ?_⟩) hHeld ?_ ?_
     rotate_left
     ·rintro w' ⟨s0, s1, s2, s3, s4, s5, s6, s7⟩
      go_simp
      with_reducible rfl
     rotate_left
     ·simp only [Act.put, List.setIfInBounds_toArray, List.set_cons_zero, List.set_cons_succ, i64_w, i32_w]
      rfl
     refine take_ (i := 2) (N := some 27) (v := ?_) (a' := ?_) #[true, false, true, false, false] rfl rfl (by kernel_rfl) (fun _ _ _ h => h) (Or.inl ⟨by rfl, ?_⟩) hHeld ?_ ?_
     rotate_left
     ·rintro w' ⟨s0, s1, s2, s3, s4, s5, s6, s7⟩
      go_simp
      with_reducible rfl
     rotate_left
     ·simp only [Act.put, List.setIfInBounds_toArray, List.set_cons_zero, List.set_cons_succ, i64_w, i32_w]
      rfl
     refine one_ (i := 1) (N := some 26) #[true, true, true, false, false] rfl rfl (by kernel_rfl) (by decide) (fun K hK => ?_)
     refine goes_ Try.func154 (by kernel_rfl) rfl #[.agg #[.bool t741, .int .i64 t742, .int .i64 t743, .int .u64 t744]] (by rfl) rfl rfl (by (try simp only [List.map_toArray, List.map_cons, List.map_nil]); first | done | rfl | (simp only [List.length_drop, List.length_take]; rfl)) ?_
     with_reducible refine (trunnionref08_sign.calls t741 t742 t743 t744 t751 _ A21.out).mono ?_
     rintro e w25 ⟨rfl, hb⟩
     refine ⟨_, rfl, ?_⟩
     have n0_ := Aside0.mk (blk_below (g := gb745) (o := .cells #[.bool t741, .int .i64 t742, .int .i64 t743, .int .u64 t744] 36 (0, 0)) (by (with_reducible repeat (first | refine blk_drewN ?_ _ | refine blk_drew ?_ | refine blk_alloc ?_ _)); exact BK745.out) hb)
     have n1_ := Aside0.mk (blk_below (g := gb750) (o := .cells #[.bool t746, .int .i64 t747, .int .i64 t748, .int .u64 t749] 36 (0, 0)) (by (with_reducible repeat (first | refine blk_drewN ?_ _ | refine blk_drew ?_ | refine blk_alloc ?_ _)); exact BK750.out) hb)
     have n2_ := Aside0.mk (below_step (by repeat (first | (with_reducible first | exact HB.out | apply below_alloc | apply pw_below_drewN | apply below_drew1 | refine below_set ?_ GE745.out | refine below_set ?_ GE750.out) | exact HB.out)) hb)
     clear BK745
     clear BK750
     clear HB
     have BK745 := n0_
     have BK750 := n1_
     have HB := n2_
     clear n0_ n1_ n2_
     (try clear hb)
     (try clear hb2)
     (try clear hk)
     (try clear hi)
     refine hK.out _ _ ⟨(blk_cell BK745.out 0).trans rfl, (blk_cell BK745.out 1).trans rfl, (blk_cell BK745.out 2).trans rfl, (blk_cell BK745.out 3).trans rfl, (blk_cell BK750.out 0).trans rfl, (blk_cell BK750.out 1).trans rfl, (blk_cell BK750.out 2).trans rfl, (blk_cell BK750.out 3).trans rfl⟩ (fun hHeld => ?_)
     clear hK K
     refine norm_ (a' := ?_) ?_ ?_
     rotate_left
     ·show Act.put _ (some 26) _ = _
      simp only [Act.put, List.setIfInBounds_toArray, List.set_cons_zero, List.set_cons_succ, i64_w, i32_w]
      rfl
     refine one_ (i := 3) (N := some 28) #[true, true, true, true, false] rfl rfl (by kernel_rfl) (by decide) (fun K hK => ?_)
     refine goes_ Try.func154 (by kernel_rfl) rfl #[.agg #[.bool t746, .int .i64 t747, .int .i64 t748, .int .u64 t749]] (by rfl) rfl rfl (by (try simp only [List.map_toArray, List.map_cons, List.map_nil]); first | done | rfl | (simp only [List.length_drop, List.length_take]; rfl)) ?_
     with_reducible refine (trunnionref08_sign.calls t746 t747 t748 t749 t752 _ A22.out).mono ?_
     rintro e w26 ⟨rfl, hb⟩
     refine ⟨_, rfl, ?_⟩
     have n0_ := Aside0.mk (blk_below (g := gb745) (o := .cells #[.bool t741, .int .i64 t742, .int .i64 t743, .int .u64 t744] 36 (0, 0)) (by (with_reducible repeat (first | refine blk_drewN ?_ _ | refine blk_drew ?_ | refine blk_alloc ?_ _)); exact BK745.out) hb)
     have n1_ := Aside0.mk (blk_below (g := gb750) (o := .cells #[.bool t746, .int .i64 t747, .int .i64 t748, .int .u64 t749] 36 (0, 0)) (by (with_reducible repeat (first | refine blk_drewN ?_ _ | refine blk_drew ?_ | refine blk_alloc ?_ _)); exact BK750.out) hb)
     have n2_ := Aside0.mk (below_step (by repeat (first | (with_reducible first | exact HB.out | apply below_alloc | apply pw_below_drewN | apply below_drew1 | refine below_set ?_ GE745.out | refine below_set ?_ GE750.out) | exact HB.out)) hb)
     clear BK745
     clear BK750
     clear HB
     have BK745 := n0_
     have BK750 := n1_
     have HB := n2_
     clear n0_ n1_ n2_
     (try clear hb)
     (try clear hb2)
     (try clear hk)
     (try clear hi)
     refine hK.out _ _ ⟨(blk_cell BK745.out 0).trans rfl, (blk_cell BK745.out 1).trans rfl, (blk_cell BK745.out 2).trans rfl, (blk_cell BK745.out 3).trans rfl, (blk_cell BK750.out 0).trans rfl, (blk_cell BK750.out 1).trans rfl, (blk_cell BK750.out 2).trans rfl, (blk_cell BK750.out 3).trans rfl⟩ (fun hHeld => ?_)
     clear hK K
     refine norm_ (a' := ?_) ?_ ?_
     rotate_left
     ·show Act.put _ (some 28) _ = _
      simp only [Act.put, List.setIfInBounds_toArray, List.set_cons_zero, List.set_cons_succ, i64_w, i32_w]
      rfl
     refine pure_ (i := 4) (N := some 29) (v := ?_) (a' := ?_) #[true, true, true, true, true] rfl rfl (by kernel_rfl) (fun _ _ _ h => h) (Or.inl ⟨by rfl, ?_⟩) ?_ ?_
     rotate_left
     ·intro w'
      go_simp
      with_reducible rfl
     rotate_left
     ·simp only [Act.put, List.setIfInBounds_toArray, List.set_cons_zero, List.set_cons_succ, i64_w, i32_w]
      rfl
     refine done_ (by kernel_rfl) ?_
     try go_wp2
     go_ret
     exact ⟨by first | rfl | (simp [errW_none, errW_some] <;> rfl) | (simp [*, errW_none, errW_some] <;> rfl), by repeat (first | (with_reducible first | exact HB.out | apply below_alloc | apply pw_below_drewN | apply below_drew1 | refine below_set ?_ GE745.out | refine below_set ?_ GE750.out) | exact HB.out)⟩
    ·rw [if_neg c23] at H
     have c23b0 : decide (t751 < t752) = false := decide_eq_false c23
     clear c23
     replace H := Option.bind_eq_some_iff.mp H
     obtain ⟨t753, A270, H⟩ := H
     replace H : ((trunnionref08_sign.f t746 t747 t748 t749).bind fun t754 => (if t753 > t754 then (some 1) else ((trunnionref08_sign.f t741 t742 t743 t744).bind fun t755 => (if t755 = 0 then (some 0) else (if t742 = 2 then (trunnionref08_Cmp.j1 kj5 true t741 t742 t743 t744 t746 t747 t748 t749) else (trunnionref08_Cmp.j1 kj5 (t747 == 2) t741 t742 t743 t744 t746 t747 t748 t749)))))) = some r := H
     have A27 := Aside0.mk A270
     clear A270
     replace H := Option.bind_eq_some_iff.mp H
     obtain ⟨t754, A280, H⟩ := H
     replace H : (if t753 > t754 then (some 1) else ((trunnionref08_sign.f t741 t742 t743 t744).bind fun t755 => (if t755 = 0 then (some 0) else (if t742 = 2 then (trunnionref08_Cmp.j1 kj5 true t741 t742 t743 t744 t746 t747 t748 t749) else (trunnionref08_Cmp.j1 kj5 (t747 == 2) t741 t742 t743 t744 t746 t747 t748 t749))))) = some r := H
     have A28 := Aside0.mk A280
     clear A280
     by_cases c29 : t753 > t754
     ·rw [if_pos c29] at H
      have c29b0 : decide (t754 < t753) = true := decide_eq_true c29
      clear c29
      obtain rfl := Option.some.inj H
      try go_wp2
      have n0_ := Aside0.mk (blk_drew BK745.out)
      have n1_ := Aside0.mk (blk_drew BK750.out)
      have n2_ := Aside0.mk (below_drew1 HB.out)
      clear BK745
      clear BK750
      clear HB
      have BK745 := n0_
      have BK750 := n1_
      have HB := n2_
      clear n0_ n1_ n2_
      refine start_ (n := 5) (S := fun w' => w'.cell? ⟨gb745, 0, none⟩ = some (.bool t741) ∧ w'.cell? ⟨gb745, 1, none⟩ = some (.int .i64 t742) ∧ w'.cell? ⟨gb745, 2, none⟩ = some (.int .i64 t743) ∧ w'.cell? ⟨gb745, 3, none⟩ = some (.int .u64 t744) ∧ w'.cell? ⟨gb750, 0, none⟩ = some (.bool t746) ∧ w'.cell? ⟨gb750, 1, none⟩ = some (.int .i64 t747) ∧ w'.cell? ⟨gb750, 2, none⟩ = some (.int .i64 t748) ∧ w'.cell? ⟨gb750, 3, none⟩ = some (.int .u64 t749)) (ds := []) #[false, false, false, false, false] (by kernel_rfl) rfl rfl ⟨(blk_cell BK745.out 0).trans rfl, (blk_cell BK745.out 1).trans rfl, (blk_cell BK745.out 2).trans rfl, (blk_cell BK745.out 3).trans rfl, (blk_cell BK750.out 0).trans rfl, (blk_cell BK750.out 1).trans rfl, (blk_cell BK750.out 2).trans rfl, (blk_cell BK750.out 3).trans rfl⟩ (fun hHeld => ?_)
      generalize wc.drew = w30 at BK745 BK750 HB hHeld ⊢
      refine take_ (i := 0) (N := some 25) (v := ?_) (a' := ?_) #[true, false, false, false, false] rfl rfl (by kernel_rfl) (fun _ _ _ h => h) (Or.inl ⟨by rfl, ?_⟩) hHeld ?_ ?_
      rotate_left
      ·rintro w' ⟨s0, s1, s2, s3, s4, s5, s6, s7⟩
       go_simp
       with_reducible rfl
      rotate_left
      ·simp only [Act.put, List.setIfInBounds_toArray, List.set_cons_zero, List.set_cons_succ, i64_w, i32_w]
       rfl
      refine take_ (i := 2) (N := some 27) (v := ?_) (a' := ?_) #[true, false, true, false, false] rfl rfl (by kernel_rfl) (fun _ _ _ h => h) (Or.inl ⟨by rfl, ?_⟩) hHeld ?_ ?_
      rotate_left
      ·rintro w' ⟨s0, s1, s2, s3, s4, s5, s6, s7⟩
       go_simp
       with_reducible rfl
      rotate_left
      ·simp only [Act.put, List.setIfInBounds_toArray, List.set_cons_zero, List.set_cons_succ, i64_w, i32_w]
       rfl
      refine one_ (i := 1) (N := some 26) #[true, true, true, false, false] rfl rfl (by kernel_rfl) (by decide) (fun K hK => ?_)
      refine goes_ Try.func154 (by kernel_rfl) rfl #[.agg #[.bool t741, .int .i64 t742, .int .i64 t743, .int .u64 t744]] (by rfl) rfl rfl (by (try simp only [List.map_toArray, List.map_cons, List.map_nil]); first | done | rfl | (simp only [List.length_drop, List.length_take]; rfl)) ?_
      with_reducible refine (trunnionref08_sign.calls t741 t742 t743 t744 t751 _ A21.out).mono ?_
      rintro e w31 ⟨rfl, hb⟩
      refine ⟨_, rfl, ?_⟩
      have n0_ := Aside0.mk (blk_below (g := gb745) (o := .cells #[.bool t741, .int .i64 t742, .int .i64 t743, .int .u64 t744] 36 (0, 0)) (by (with_reducible repeat (first | refine blk_drewN ?_ _ | refine blk_drew ?_ | refine blk_alloc ?_ _)); exact BK745.out) hb)
      have n1_ := Aside0.mk (blk_below (g := gb750) (o := .cells #[.bool t746, .int .i64 t747, .int .i64 t748, .int .u64 t749] 36 (0, 0)) (by (with_reducible repeat (first | refine blk_drewN ?_ _ | refine blk_drew ?_ | refine blk_alloc ?_ _)); exact BK750.out) hb)
      have n2_ := Aside0.mk (below_step (by repeat (first | (with_reducible first | exact HB.out | apply below_alloc | apply pw_below_drewN | apply below_drew1 | refine below_set ?_ GE745.out | refine below_set ?_ GE750.out) | exact HB.out)) hb)
      clear BK745
      clear BK750
      clear HB
      have BK745 := n0_
      have BK750 := n1_
      have HB := n2_
      clear n0_ n1_ n2_
      (try clear hb)
      (try clear hb2)
      (try clear hk)
      (try clear hi)
      refine hK.out _ _ ⟨(blk_cell BK745.out 0).trans rfl, (blk_cell BK745.out 1).trans rfl, (blk_cell BK745.out 2).trans rfl, (blk_cell BK745.out 3).trans rfl, (blk_cell BK750.out 0).trans rfl, (blk_cell BK750.out 1).trans rfl, (blk_cell BK750.out 2).trans rfl, (blk_cell BK750.out 3).trans rfl⟩ (fun hHeld => ?_)
      clear hK K
      refine norm_ (a' := ?_) ?_ ?_
      rotate_left
      ·show Act.put _ (some 26) _ = _
       simp only [Act.put, List.setIfInBounds_toArray, List.set_cons_zero, List.set_cons_succ, i64_w, i32_w]
       rfl
      refine one_ (i := 3) (N := some 28) #[true, true, true, true, false] rfl rfl (by kernel_rfl) (by decide) (fun K hK => ?_)
      refine goes_ Try.func154 (by kernel_rfl) rfl #[.agg #[.bool t746, .int .i64 t747, .int .i64 t748, .int .u64 t749]] (by rfl) rfl rfl (by (try simp only [List.map_toArray, List.map_cons, List.map_nil]); first | done | rfl | (simp only [List.length_drop, List.length_take]; rfl)) ?_
      with_reducible refine (trunnionref08_sign.calls t746 t747 t748 t749 t752 _ A22.out).mono ?_
      rintro e w32 ⟨rfl, hb⟩
      refine ⟨_, rfl, ?_⟩
      have n0_ := Aside0.mk (blk_below (g := gb745) (o := .cells #[.bool t741, .int .i64 t742, .int .i64 t743, .int .u64 t744] 36 (0, 0)) (by (with_reducible repeat (first | refine blk_drewN ?_ _ | refine blk_drew ?_ | refine blk_alloc ?_ _)); exact BK745.out) hb)
      have n1_ := Aside0.mk (blk_below (g := gb750) (o := .cells #[.bool t746, .int .i64 t747, .int .i64 t748, .int .u64 t749] 36 (0, 0)) (by (with_reducible repeat (first | refine blk_drewN ?_ _ | refine blk_drew ?_ | refine blk_alloc ?_ _)); exact BK750.out) hb)
      have n2_ := Aside0.mk (below_step (by repeat (first | (with_reducible first | exact HB.out | apply below_alloc | apply pw_below_drewN | apply below_drew1 | refine below_set ?_ GE745.out | refine below_set ?_ GE750.out) | exact HB.out)) hb)
      clear BK745
      clear BK750
      clear HB
      have BK745 := n0_
      have BK750 := n1_
      have HB := n2_
      clear n0_ n1_ n2_
      (try clear hb)
      (try clear hb2)
      (try clear hk)
      (try clear hi)
      refine hK.out _ _ ⟨(blk_cell BK745.out 0).trans rfl, (blk_cell BK745.out 1).trans rfl, (blk_cell BK745.out 2).trans rfl, (blk_cell BK745.out 3).trans rfl, (blk_cell BK750.out 0).trans rfl, (blk_cell BK750.out 1).trans rfl, (blk_cell BK750.out 2).trans rfl, (blk_cell BK750.out 3).trans rfl⟩ (fun hHeld => ?_)
      clear hK K
      refine norm_ (a' := ?_) ?_ ?_
      rotate_left
      ·show Act.put _ (some 28) _ = _
       simp only [Act.put, List.setIfInBounds_toArray, List.set_cons_zero, List.set_cons_succ, i64_w, i32_w]
       rfl
      refine pure_ (i := 4) (N := some 29) (v := ?_) (a' := ?_) #[true, true, true, true, true] rfl rfl (by kernel_rfl) (fun _ _ _ h => h) (Or.inl ⟨by rfl, ?_⟩) ?_ ?_
      rotate_left
      ·intro w'
       go_simp
       with_reducible rfl
      rotate_left
      ·simp only [Act.put, List.setIfInBounds_toArray, List.set_cons_zero, List.set_cons_succ, i64_w, i32_w]
       rfl
      refine done_ (by kernel_rfl) ?_
      try go_wp2
      have n0_ := Aside0.mk (blk_drew BK745.out)
      have n1_ := Aside0.mk (blk_drew BK750.out)
      have n2_ := Aside0.mk (below_drew1 HB.out)
      clear BK745
      clear BK750
      clear HB
      have BK745 := n0_
      have BK750 := n1_
      have HB := n2_
      clear n0_ n1_ n2_
      refine start_ (n := 5) (S := fun w' => w'.cell? ⟨gb745, 0, none⟩ = some (.bool t741) ∧ w'.cell? ⟨gb745, 1, none⟩ = some (.int .i64 t742) ∧ w'.cell? ⟨gb745, 2, none⟩ = some (.int .i64 t743) ∧ w'.cell? ⟨gb745, 3, none⟩ = some (.int .u64 t744) ∧ w'.cell? ⟨gb750, 0, none⟩ = some (.bool t746) ∧ w'.cell? ⟨gb750, 1, none⟩ = some (.int .i64 t747) ∧ w'.cell? ⟨gb750, 2, none⟩ = some (.int .i64 t748) ∧ w'.cell? ⟨gb750, 3, none⟩ = some (.int .u64 t749)) (ds := []) #[false, false, false, false, false] (by kernel_rfl) rfl rfl ⟨(blk_cell BK745.out 0).trans rfl, (blk_cell BK745.out 1).trans rfl, (blk_cell BK745.out 2).trans rfl, (blk_cell BK745.out 3).trans rfl, (blk_cell BK750.out 0).trans rfl, (blk_cell BK750.out 1).trans rfl, (blk_cell BK750.out 2).trans rfl, (blk_cell BK750.out 3).trans rfl⟩ (fun hHeld => ?_)
      generalize w32.drew = w33 at BK745 BK750 HB hHeld ⊢
      refine take_ (i := 0) (N := some 30) (v := ?_) (a' := ?_) #[true, false, false, false, false] rfl rfl (by kernel_rfl) (fun _ _ _ h => h) (Or.inl ⟨by rfl, ?_⟩) hHeld ?_ ?_
      rotate_left
      ·rintro w' ⟨s0, s1, s2, s3, s4, s5, s6, s7⟩
       go_simp
       with_reducible rfl
      rotate_left
      ·simp only [Act.put, List.setIfInBounds_toArray, List.set_cons_zero, List.set_cons_succ, i64_w, i32_w]
       rfl
      refine take_ (i := 2) (N := some 32) (v := ?_) (a' := ?_) #[true, false, true, false, false] rfl rfl (by kernel_rfl) (fun _ _ _ h => h) (Or.inl ⟨by rfl, ?_⟩) hHeld ?_ ?_
      rotate_left
      ·rintro w' ⟨s0, s1, s2, s3, s4, s5, s6, s7⟩
       go_simp
       with_reducible rfl
      rotate_left
      ·simp only [Act.put, List.setIfInBounds_toArray, List.set_cons_zero, List.set_cons_succ, i64_w, i32_w]
       rfl
      refine one_ (i := 1) (N := some 31) #[true, true, true, false, false] rfl rfl (by kernel_rfl) (by decide) (fun K hK => ?_)
      refine goes_ Try.func154 (by kernel_rfl) rfl #[.agg #[.bool t741, .int .i64 t742, .int .i64 t743, .int .u64 t744]] (by rfl) rfl rfl (by (try simp only [List.map_toArray, List.map_cons, List.map_nil]); first | done | rfl | (simp only [List.length_drop, List.length_take]; rfl)) ?_
      with_reducible refine (trunnionref08_sign.calls t741 t742 t743 t744 t753 _ A27.out).mono ?_
      rintro e w34 ⟨rfl, hb⟩
      refine ⟨_, rfl, ?_⟩
      have n0_ := Aside0.mk (blk_below (g := gb745) (o := .cells #[.bool t741, .int .i64 t742, .int .i64 t743, .int .u64 t744] 36 (0, 0)) (by (with_reducible repeat (first | refine blk_drewN ?_ _ | refine blk_drew ?_ | refine blk_alloc ?_ _)); exact BK745.out) hb)
      have n1_ := Aside0.mk (blk_below (g := gb750) (o := .cells #[.bool t746, .int .i64 t747, .int .i64 t748, .int .u64 t749] 36 (0, 0)) (by (with_reducible repeat (first | refine blk_drewN ?_ _ | refine blk_drew ?_ | refine blk_alloc ?_ _)); exact BK750.out) hb)
      have n2_ := Aside0.mk (below_step (by repeat (first | (with_reducible first | exact HB.out | apply below_alloc | apply pw_below_drewN | apply below_drew1 | refine below_set ?_ GE745.out | refine below_set ?_ GE750.out) | exact HB.out)) hb)
      clear BK745
      clear BK750
      clear HB
      have BK745 := n0_
      have BK750 := n1_
      have HB := n2_
      clear n0_ n1_ n2_
      (try clear hb)
      (try clear hb2)
      (try clear hk)
      (try clear hi)
      refine hK.out _ _ ⟨(blk_cell BK745.out 0).trans rfl, (blk_cell BK745.out 1).trans rfl, (blk_cell BK745.out 2).trans rfl, (blk_cell BK745.out 3).trans rfl, (blk_cell BK750.out 0).trans rfl, (blk_cell BK750.out 1).trans rfl, (blk_cell BK750.out 2).trans rfl, (blk_cell BK750.out 3).trans rfl⟩ (fun hHeld => ?_)
      clear hK K
      refine norm_ (a' := ?_) ?_ ?_
      rotate_left
      ·show Act.put _ (some 31) _ = _
       simp only [Act.put, List.setIfInBounds_toArray, List.set_cons_zero, List.set_cons_succ, i64_w, i32_w]
       rfl
      refine one_ (i := 3) (N := some 33) #[true, true, true, true, false] rfl rfl (by kernel_rfl) (by decide) (fun K hK => ?_)
      refine goes_ Try.func154 (by kernel_rfl) rfl #[.agg #[.bool t746, .int .i64 t747, .int .i64 t748, .int .u64 t749]] (by rfl) rfl rfl (by (try simp only [List.map_toArray, List.map_cons, List.map_nil]); first | done | rfl | (simp only [List.length_drop, List.length_take]; rfl)) ?_
      with_reducible refine (trunnionref08_sign.calls t746 t747 t748 t749 t754 _ A28.out).mono ?_
      rintro e w35 ⟨rfl, hb⟩
      refine ⟨_, rfl, ?_⟩
      have n0_ := Aside0.mk (blk_below (g := gb745) (o := .cells #[.bool t741, .int .i64 t742, .int .i64 t743, .int .u64 t744] 36 (0, 0)) (by (with_reducible repeat (first | refine blk_drewN ?_ _ | refine blk_drew ?_ | refine blk_alloc ?_ _)); exact BK745.out) hb)
      have n1_ := Aside0.mk (blk_below (g := gb750) (o := .cells #[.bool t746, .int .i64 t747, .int .i64 t748, .int .u64 t749] 36 (0, 0)) (by (with_reducible repeat (first | refine blk_drewN ?_ _ | refine blk_drew ?_ | refine blk_alloc ?_ _)); exact BK750.out) hb)
      have n2_ := Aside0.mk (below_step (by repeat (first | (with_reducible first | exact HB.out | apply below_alloc | apply pw_below_drewN | apply below_drew1 | refine below_set ?_ GE745.out | refine below_set ?_ GE750.out) | exact HB.out)) hb)
      clear BK745
      clear BK750
      clear HB
      have BK745 := n0_
      have BK750 := n1_
      have HB := n2_
      clear n0_ n1_ n2_
      (try clear hb)
      (try clear hb2)
      (try clear hk)
      (try clear hi)
      refine hK.out _ _ ⟨(blk_cell BK745.out 0).trans rfl, (blk_cell BK745.out 1).trans rfl, (blk_cell BK745.out 2).trans rfl, (blk_cell BK745.out 3).trans rfl, (blk_cell BK750.out 0).trans rfl, (blk_cell BK750.out 1).trans rfl, (blk_cell BK750.out 2).trans rfl, (blk_cell BK750.out 3).trans rfl⟩ (fun hHeld => ?_)
      clear hK K
      refine norm_ (a' := ?_) ?_ ?_
      rotate_left
      ·show Act.put _ (some 33) _ = _
       simp only [Act.put, List.setIfInBounds_toArray, List.set_cons_zero, List.set_cons_succ, i64_w, i32_w]
       rfl
      refine pure_ (i := 4) (N := some 34) (v := ?_) (a' := ?_) #[true, true, true, true, true] rfl rfl (by kernel_rfl) (fun _ _ _ h => h) (Or.inl ⟨by rfl, ?_⟩) ?_ ?_
      rotate_left
      ·intro w'
       go_simp
       with_reducible rfl
      rotate_left
      ·simp only [Act.put, List.setIfInBounds_toArray, List.set_cons_zero, List.set_cons_succ, i64_w, i32_w]
       rfl
      refine done_ (by kernel_rfl) ?_
      try go_wp2
      go_ret
      exact ⟨by first | rfl | (simp [errW_none, errW_some] <;> rfl) | (simp [*, errW_none, errW_some] <;> rfl), by repeat (first | (with_reducible first | exact HB.out | apply below_alloc | apply pw_below_drewN | apply below_drew1 | refine below_set ?_ GE745.out | refine below_set ?_ GE750.out) | exact HB.out)⟩
     ·rw [if_neg c29] at H
      have c29b0 : decide (t754 < t753) = false := decide_eq_false c29
      clear c29
      replace H := Option.bind_eq_some_iff.mp H
      obtain ⟨t755, A360, H⟩ := H
      replace H : (if t755 = 0 then (some 0) else (if t742 = 2 then (trunnionref08_Cmp.j1 kj5 true t741 t742 t743 t744 t746 t747 t748 t749) else (trunnionref08_Cmp.j1 kj5 (t747 == 2) t741 t742 t743 t744 t746 t747 t748 t749))) = some r := H
      have A36 := Aside0.mk A360
      clear A360
      by_cases c37 : t755 = 0
      ·rw [if_pos c37] at H
       have c37b0 : (t755 == 0) = true := beq_iff_eq.mpr c37
       have c37b1 : (t755 != 0) = false := bne_eq_false_iff_eq.mpr c37
       clear c37
       obtain rfl := Option.some.inj H
       try go_wp2
       have n0_ := Aside0.mk (blk_drew BK745.out)
       have n1_ := Aside0.mk (blk_drew BK750.out)
       have n2_ := Aside0.mk (below_drew1 HB.out)
       clear BK745
       clear BK750
       clear HB
       have BK745 := n0_
       have BK750 := n1_
       have HB := n2_
       clear n0_ n1_ n2_
       refine start_ (n := 5) (S := fun w' => w'.cell? ⟨gb745, 0, none⟩ = some (.bool t741) ∧ w'.cell? ⟨gb745, 1, none⟩ = some (.int .i64 t742) ∧ w'.cell? ⟨gb745, 2, none⟩ = some (.int .i64 t743) ∧ w'.cell? ⟨gb745, 3, none⟩ = some (.int .u64 t744) ∧ w'.cell? ⟨gb750, 0, none⟩ = some (.bool t746) ∧ w'.cell? ⟨gb750, 1, none⟩ = some (.int .i64 t747) ∧ w'.cell? ⟨gb750, 2, none⟩ = some (.int .i64 t748) ∧ w'.cell? ⟨gb750, 3, none⟩ = some (.int .u64 t749)) (ds := []) #[false, false, false, false, false] (by kernel_rfl) rfl rfl ⟨(blk_cell BK745.out 0).trans rfl, (blk_cell BK745.out 1).trans rfl, (blk_cell BK745.out 2).trans rfl, (blk_cell BK745.out 3).trans rfl, (blk_cell BK750.out 0).trans rfl, (blk_cell BK750.out 1).trans rfl, (blk_cell BK750.out 2).trans rfl, (blk_cell BK750.out 3).trans rfl⟩ (fun hHeld => ?_)
       generalize wc.drew = w38 at BK745 BK750 HB hHeld ⊢
       refine take_ (i := 0) (N := some 25) (v := ?_) (a' := ?_) #[true, false, false, false, false] rfl rfl (by kernel_rfl) (fun _ _ _ h => h) (Or.inl ⟨by rfl, ?_⟩) hHeld ?_ ?_
       rotate_left
       ·rintro w' ⟨s0, s1, s2, s3, s4, s5, s6, s7⟩
        go_simp
        with_reducible rfl
       rotate_left
       ·simp only [Act.put, List.setIfInBounds_toArray, List.set_cons_zero, List.set_cons_succ, i64_w, i32_w]
        rfl
       refine take_ (i := 2) (N := some 27) (v := ?_) (a' := ?_) #[true, false, true, false, false] rfl rfl (by kernel_rfl) (fun _ _ _ h => h) (Or.inl ⟨by rfl, ?_⟩) hHeld ?_ ?_
       rotate_left
       ·rintro w' ⟨s0, s1, s2, s3, s4, s5, s6, s7⟩
        go_simp
        with_reducible rfl
       rotate_left
       ·simp only [Act.put, List.setIfInBounds_toArray, List.set_cons_zero, List.set_cons_succ, i64_w, i32_w]
        rfl
       refine one_ (i := 1) (N := some 26) #[true, true, true, false, false] rfl rfl (by kernel_rfl) (by decide) (fun K hK => ?_)
       refine goes_ Try.func154 (by kernel_rfl) rfl #[.agg #[.bool t741, .int .i64 t742, .int .i64 t743, .int .u64 t744]] (by rfl) rfl rfl (by (try simp only [List.map_toArray, List.map_cons, List.map_nil]); first | done | rfl | (simp only [List.length_drop, List.length_take]; rfl)) ?_
       with_reducible refine (trunnionref08_sign.calls t741 t742 t743 t744 t751 _ A21.out).mono ?_
       rintro e w39 ⟨rfl, hb⟩
       refine ⟨_, rfl, ?_⟩
       have n0_ := Aside0.mk (blk_below (g := gb745) (o := .cells #[.bool t741, .int .i64 t742, .int .i64 t743, .int .u64 t744] 36 (0, 0)) (by (with_reducible repeat (first | refine blk_drewN ?_ _ | refine blk_drew ?_ | refine blk_alloc ?_ _)); exact BK745.out) hb)
       have n1_ := Aside0.mk (blk_below (g := gb750) (o := .cells #[.bool t746, .int .i64 t747, .int .i64 t748, .int .u64 t749] 36 (0, 0)) (by (with_reducible repeat (first | refine blk_drewN ?_ _ | refine blk_drew ?_ | refine blk_alloc ?_ _)); exact BK750.out) hb)
       have n2_ := Aside0.mk (below_step (by repeat (first | (with_reducible first | exact HB.out | apply below_alloc | apply pw_below_drewN | apply below_drew1 | refine below_set ?_ GE745.out | refine below_set ?_ GE750.out) | exact HB.out)) hb)
       clear BK745
       clear BK750
       clear HB
       have BK745 := n0_
       have BK750 := n1_
       have HB := n2_
       clear n0_ n1_ n2_
       (try clear hb)
       (try clear hb2)
       (try clear hk)
       (try clear hi)
       refine hK.out _ _ ⟨(blk_cell BK745.out 0).trans rfl, (blk_cell BK745.out 1).trans rfl, (blk_cell BK745.out 2).trans rfl, (blk_cell BK745.out 3).trans rfl, (blk_cell BK750.out 0).trans rfl, (blk_cell BK750.out 1).trans rfl, (blk_cell BK750.out 2).trans rfl, (blk_cell BK750.out 3).trans rfl⟩ (fun hHeld => ?_)
       clear hK K
       refine norm_ (a' := ?_) ?_ ?_
       rotate_left
       ·show Act.put _ (some 26) _ = _
        simp only [Act.put, List.setIfInBounds_toArray, List.set_cons_zero, List.set_cons_succ, i64_w, i32_w]
        rfl
       refine one_ (i := 3) (N := some 28) #[true, true, true, true, false] rfl rfl (by kernel_rfl) (by decide) (fun K hK => ?_)
       refine goes_ Try.func154 (by kernel_rfl) rfl #[.agg #[.bool t746, .int .i64 t747, .int .i64 t748, .int .u64 t749]] (by rfl) rfl rfl (by (try simp only [List.map_toArray, List.map_cons, List.map_nil]); first | done | rfl | (simp only [List.length_drop, List.length_take]; rfl)) ?_
       with_reducible refine (trunnionref08_sign.calls t746 t747 t748 t749 t752 _ A22.out).mono ?_
       rintro e w40 ⟨rfl, hb⟩
       refine ⟨_, rfl, ?_⟩
       have n0_ := Aside0.mk (blk_below (g := gb745) (o := .cells #[.bool t741, .int .i64 t742, .int .i64 t743, .int .u64 t744] 36 (0, 0)) (by (with_reducible repeat (first | refine blk_drewN ?_ _ | refine blk_drew ?_ | refine blk_alloc ?_ _)); exact BK745.out) hb)
       have n1_ := Aside0.mk (blk_below (g := gb750) (o := .cells #[.bool t746, .int .i64 t747, .int .i64 t748, .int .u64 t749] 36 (0, 0)) (by (with_reducible repeat (first | refine blk_drewN ?_ _ | refine blk_drew ?_ | refine blk_alloc ?_ _)); exact BK750.out) hb)
       have n2_ := Aside0.mk (below_step (by repeat (first | (with_reducible first | exact HB.out | apply below_alloc | apply pw_below_drewN | apply below_drew1 | refine below_set ?_ GE745.out | refine below_set ?_ GE750.out) | exact HB.out)) hb)
       clear BK745
       clear BK750
       clear HB
       have BK745 := n0_
       have BK750 := n1_
       have HB := n2_
       clear n0_ n1_ n2_
       (try clear hb)
       (try clear hb2)
       (try clear hk)
       (try clear hi)
       refine hK.out _ _ ⟨(blk_cell BK745.out 0).trans rfl, (blk_cell BK745.out 1).trans rfl, (blk_cell BK745.out 2).trans rfl, (blk_cell BK745.out 3).trans rfl, (blk_cell BK750.out 0).trans rfl, (blk_cell BK750.out 1).trans rfl, (blk_cell BK750.out 2).trans rfl, (blk_cell BK750.out 3).trans rfl⟩ (fun hHeld => ?_)
       clear hK K
       refine norm_ (a' := ?_) ?_ ?_
       rotate_left
       ·show Act.put _ (some 28) _ = _
        simp only [Act.put, List.setIfInBounds_toArray, List.set_cons_zero, List.set_cons_succ, i64_w, i32_w]
        rfl
       refine pure_ (i := 4) (N := some 29) (v := ?_) (a' := ?_) #[true, true, true, true, true] rfl rfl (by kernel_rfl) (fun _ _ _ h => h) (Or.inl ⟨by rfl, ?_⟩) ?_ ?_
       rotate_left
       ·intro w'
        go_simp
        with_reducible rfl
       rotate_left
       ·simp only [Act.put, List.setIfInBounds_toArray, List.set_cons_zero, List.set_cons_succ, i64_w, i32_w]
        rfl
       refine done_ (by kernel_rfl) ?_
       try go_wp2
       have n0_ := Aside0.mk (blk_drew BK745.out)
       have n1_ := Aside0.mk (blk_drew BK750.out)
       have n2_ := Aside0.mk (below_drew1 HB.out)
       clear BK745
       clear BK750
       clear HB
       have BK745 := n0_
       have BK750 := n1_
       have HB := n2_
       clear n0_ n1_ n2_
       refine start_ (n := 5) (S := fun w' => w'.cell? ⟨gb745, 0, none⟩ = some (.bool t741) ∧ w'.cell? ⟨gb745, 1, none⟩ = some (.int .i64 t742) ∧ w'.cell? ⟨gb745, 2, none⟩ = some (.int .i64 t743) ∧ w'.cell? ⟨gb745, 3, none⟩ = some (.int .u64 t744) ∧ w'.cell? ⟨gb750, 0, none⟩ = some (.bool t746) ∧ w'.cell? ⟨gb750, 1, none⟩ = some (.int .i64 t747) ∧ w'.cell? ⟨gb750, 2, none⟩ = some (.int .i64 t748) ∧ w'.cell? ⟨gb750, 3, none⟩ = some (.int .u64 t749)) (ds := []) #[false, false, false, false, false] (by kernel_rfl) rfl rfl ⟨(blk_cell BK745.out 0).trans rfl, (blk_cell BK745.out 1).trans rfl, (blk_cell BK745.out 2).trans rfl, (blk_cell BK745.out 3).trans rfl, (blk_cell BK750.out 0).trans rfl, (blk_cell BK750.out 1).trans rfl, (blk_cell BK750.out 2).trans rfl, (blk_cell BK750.out 3).trans rfl⟩ (fun hHeld => ?_)
       generalize w40.drew = w41 at BK745 BK750 HB hHeld ⊢
       refine take_ (i := 0) (N := some 30) (v := ?_) (a' := ?_) #[true, false, false, false, false] rfl rfl (by kernel_rfl) (fun _ _ _ h => h) (Or.inl ⟨by rfl, ?_⟩) hHeld ?_ ?_
       rotate_left
       ·rintro w' ⟨s0, s1, s2, s3, s4, s5, s6, s7⟩
        go_simp
        with_reducible rfl
       rotate_left
       ·simp only [Act.put, List.setIfInBounds_toArray, List.set_cons_zero, List.set_cons_succ, i64_w, i32_w]
        rfl
       refine take_ (i := 2) (N := some 32) (v := ?_) (a' := ?_) #[true, false, true, false, false] rfl rfl (by kernel_rfl) (fun _ _ _ h => h) (Or.inl ⟨by rfl, ?_⟩) hHeld ?_ ?_
       rotate_left
       ·rintro w' ⟨s0, s1, s2, s3, s4, s5, s6, s7⟩
        go_simp
        with_reducible rfl
       rotate_left
       ·simp only [Act.put, List.setIfInBounds_toArray, List.set_cons_zero, List.set_cons_succ, i64_w, i32_w]
        rfl
       refine one_ (i := 1) (N := some 31) #[true, true, true, false, false] rfl rfl (by kernel_rfl) (by decide) (fun K hK => ?_)
       refine goes_ Try.func154 (by kernel_rfl) rfl #[.agg #[.bool t741, .int .i64 t742, .int .i64 t743, .int .u64 t744]] (by rfl) rfl rfl (by (try simp only [List.map_toArray, List.map_cons, List.map_nil]); first | done | rfl | (simp only [List.length_drop, List.length_take]; rfl)) ?_
       with_reducible refine (trunnionref08_sign.calls t741 t742 t743 t744 t753 _ A27.out).mono ?_
       rintro e w42 ⟨rfl, hb⟩
       refine ⟨_, rfl, ?_⟩
       have n0_ := Aside0.mk (blk_below (g := gb745) (o := .cells #[.bool t741, .int .i64 t742, .int .i64 t743, .int .u64 t744] 36 (0, 0)) (by (with_reducible repeat (first | refine blk_drewN ?_ _ | refine blk_drew ?_ | refine blk_alloc ?_ _)); exact BK745.out) hb)
       have n1_ := Aside0.mk (blk_below (g := gb750) (o := .cells #[.bool t746, .int .i64 t747, .int .i64 t748, .int .u64 t749] 36 (0, 0)) (by (with_reducible repeat (first | refine blk_drewN ?_ _ | refine blk_drew ?_ | refine blk_alloc ?_ _)); exact BK750.out) hb)
       have n2_ := Aside0.mk (below_step (by repeat (first | (with_reducible first | exact HB.out | apply below_alloc | apply pw_below_drewN | apply below_drew1 | refine below_set ?_ GE745.out | refine below_set ?_ GE750.out) | exact HB.out)) hb)
       clear BK745
       clear BK750
       clear HB
       have BK745 := n0_
       have BK750 := n1_
       have HB := n2_
       clear n0_ n1_ n2_
       (try clear hb)
       (try clear hb2)
       (try clear hk)
       (try clear hi)
       refine hK.out _ _ ⟨(blk_cell BK745.out 0).trans rfl, (blk_cell BK745.out 1).trans rfl, (blk_cell BK745.out 2).trans rfl, (blk_cell BK745.out 3).trans rfl, (blk_cell BK750.out 0).trans rfl, (blk_cell BK750.out 1).trans rfl, (blk_cell BK750.out 2).trans rfl, (blk_cell BK750.out 3).trans rfl⟩ (fun hHeld => ?_)
       clear hK K
       refine norm_ (a' := ?_) ?_ ?_
       rotate_left
       ·show Act.put _ (some 31) _ = _
        simp only [Act.put, List.setIfInBounds_toArray, List.set_cons_zero, List.set_cons_succ, i64_w, i32_w]
        rfl
       refine one_ (i := 3) (N := some 33) #[true, true, true, true, false] rfl rfl (by kernel_rfl) (by decide) (fun K hK => ?_)
       refine goes_ Try.func154 (by kernel_rfl) rfl #[.agg #[.bool t746, .int .i64 t747, .int .i64 t748, .int .u64 t749]] (by rfl) rfl rfl (by (try simp only [List.map_toArray, List.map_cons, List.map_nil]); first | done | rfl | (simp only [List.length_drop, List.length_take]; rfl)) ?_
       with_reducible refine (trunnionref08_sign.calls t746 t747 t748 t749 t754 _ A28.out).mono ?_
       rintro e w43 ⟨rfl, hb⟩
       refine ⟨_, rfl, ?_⟩
       have n0_ := Aside0.mk (blk_below (g := gb745) (o := .cells #[.bool t741, .int .i64 t742, .int .i64 t743, .int .u64 t744] 36 (0, 0)) (by (with_reducible repeat (first | refine blk_drewN ?_ _ | refine blk_drew ?_ | refine blk_alloc ?_ _)); exact BK745.out) hb)
       have n1_ := Aside0.mk (blk_below (g := gb750) (o := .cells #[.bool t746, .int .i64 t747, .int .i64 t748, .int .u64 t749] 36 (0, 0)) (by (with_reducible repeat (first | refine blk_drewN ?_ _ | refine blk_drew ?_ | refine blk_alloc ?_ _)); exact BK750.out) hb)
       have n2_ := Aside0.mk (below_step (by repeat (first | (with_reducible first | exact HB.out | apply below_alloc | apply pw_below_drewN | apply below_drew1 | refine below_set ?_ GE745.out | refine below_set ?_ GE750.out) | exact HB.out)) hb)
       clear BK745
       clear BK750
       clear HB
       have BK745 := n0_
       have BK750 := n1_
       have HB := n2_
       clear n0_ n1_ n2_
       (try clear hb)
       (try clear hb2)
       (try clear hk)
       (try clear hi)
       refine hK.out _ _ ⟨(blk_cell BK745.out 0).trans rfl, (blk_cell BK745.out 1).trans rfl, (blk_cell BK745.out 2).trans rfl, (blk_cell BK745.out 3).trans rfl, (blk_cell BK750.out 0).trans rfl, (blk_cell BK750.out 1).trans rfl, (blk_cell BK750.out 2).trans rfl, (blk_cell BK750.out 3).trans rfl⟩ (fun hHeld => ?_)
       clear hK K
       refine norm_ (a' := ?_) ?_ ?_
       rotate_left
       ·show Act.put _ (some 33) _ = _
        simp only [Act.put, List.setIfInBounds_toArray, List.set_cons_zero, List.set_cons_succ, i64_w, i32_w]
        rfl
       refine pure_ (i := 4) (N := some 34) (v := ?_) (a' := ?_) #[true, true, true, true, true] rfl rfl (by kernel_rfl) (fun _ _ _ h => h) (Or.inl ⟨by rfl, ?_⟩) ?_ ?_
       rotate_left
       ·intro w'
        go_simp
        with_reducible rfl
       rotate_left
       ·simp only [Act.put, List.setIfInBounds_toArray, List.set_cons_zero, List.set_cons_succ, i64_w, i32_w]
        rfl
       refine done_ (by kernel_rfl) ?_
       have hnb44 := NB745_750.out
       have hnc44 := NB750_745.out
       have hcz45_0 : w43.cell? ⟨gb745, 0, none⟩ = some (.bool t741) := (blk_cell BK745.out 0).trans rfl
       have hcz45_1 : w43.cell? ⟨gb745, 1, none⟩ = some (.int .i64 t742) := (blk_cell BK745.out 1).trans rfl
       have hcz45_2 : w43.cell? ⟨gb745, 2, none⟩ = some (.int .i64 t743) := (blk_cell BK745.out 2).trans rfl
       have hcz45_3 : w43.cell? ⟨gb745, 3, none⟩ = some (.int .u64 t744) := (blk_cell BK745.out 3).trans rfl
       have hfz45_0 := blk_frozen BK745.out 0
       have hfz45_1 := blk_frozen BK745.out 1
       have hfz45_2 := blk_frozen BK745.out 2
       have hfz45_3 := blk_frozen BK745.out 3
       try go_wp2_with (first | ((with_reducible refine gate_callee (f := 154) rfl ?_); refine goesL_ (some 36) rfl rfl Try.func154 (by kernel_rfl) rfl #[.agg #[.bool t741, .int .i64 t742, .int .i64 t743, .int .u64 t744]] rfl (by (try simp only [List.map_toArray, List.map_cons, List.map_nil]); first | done | rfl | (simp only [List.length_drop, List.length_take]; rfl)) ?_; (with_reducible refine (trunnionref08_sign.calls t741 t742 t743 t744 t755 _ A36.out).mono ?_); rintro e w46 ⟨rfl, hb⟩; refine ⟨_, rfl, ?_⟩; have n0_ := Aside0.mk (blk_below (g := gb745) (o := .cells #[.bool t741, .int .i64 t742, .int .i64 t743, .int .u64 t744] 36 (0, 0)) (by (with_reducible repeat (first | refine blk_drewN ?_ _ | refine blk_drew ?_ | refine blk_alloc ?_ _)); exact BK745.out) hb); have n1_ := Aside0.mk (blk_below (g := gb750) (o := .cells #[.bool t746, .int .i64 t747, .int .i64 t748, .int .u64 t749] 36 (0, 0)) (by (with_reducible repeat (first | refine blk_drewN ?_ _ | refine blk_drew ?_ | refine blk_alloc ?_ _)); exact BK750.out) hb); have n2_ := Aside0.mk (below_step (by repeat (first | (with_reducible first | exact HB.out | apply below_alloc | apply pw_below_drewN | apply below_drew1 | refine below_set ?_ GE745.out | refine below_set ?_ GE750.out) | exact HB.out)) hb); clear BK745; clear BK750; clear HB; have BK745 := n0_; have BK750 := n1_; have HB := n2_; clear n0_ n1_ n2_; (try clear hb); (try clear hb2); (try clear hk); (try clear hi)))
       go_ret
       exact ⟨by first | rfl | (simp [errW_none, errW_some] <;> rfl) | (simp [*, errW_none, errW_some] <;> rfl), by repeat (first | (with_reducible first | exact HB.out | apply below_alloc | apply pw_below_drewN | apply below_drew1 | refine below_set ?_ GE745.out | refine below_set ?_ GE750.out) | exact HB.out)⟩
      ·rw [if_neg c37] at H
       have c37b0 : (t755 == 0) = false := beq_eq_false_iff_ne.mpr c37
       have c37b1 : (t755 != 0) = true := bne_iff_ne.mpr c37
       have HC47 := Aside0.mk H
       clear H
       try go_wp2
       have n0_ := Aside0.mk (blk_drew BK745.out)
       have n1_ := Aside0.mk (blk_drew BK750.out)
       have n2_ := Aside0.mk (below_drew1 HB.out)
       clear BK745
       clear BK750
       clear HB
       have BK745 := n0_
       have BK750 := n1_
       have HB := n2_
       clear n0_ n1_ n2_
       refine start_ (n := 5) (S := fun w' => w'.cell? ⟨gb745, 0, none⟩ = some (.bool t741) ∧ w'.cell? ⟨gb745, 1, none⟩ = some (.int .i64 t742) ∧ w'.cell? ⟨gb745, 2, none⟩ = some (.int .i64 t743) ∧ w'.cell? ⟨gb745, 3, none⟩ = some (.int .u64 t744) ∧ w'.cell? ⟨gb750, 0, none⟩ = some (.bool t746) ∧ w'.cell? ⟨gb750, 1, none⟩ = some (.int .i64 t747) ∧ w'.cell? ⟨gb750, 2, none⟩ = some (.int .i64 t748) ∧ w'.cell? ⟨gb750, 3, none⟩ = some (.int .u64 t749)) (ds := []) #[false, false, false, false, false] (by kernel_rfl) rfl rfl ⟨(blk_cell BK745.out 0).trans rfl, (blk_cell BK745.out 1).trans rfl, (blk_cell BK745.out 2).trans rfl, (blk_cell BK745.out 3).trans rfl, (blk_cell BK750.out 0).trans rfl, (blk_cell BK750.out 1).trans rfl, (blk_cell BK750.out 2).trans rfl, (blk_cell BK750.out 3).trans rfl⟩ (fun hHeld => ?_)
       generalize wc.drew = w48 at BK745 BK750 HB hHeld ⊢
       refine take_ (i := 0) (N := some 25) (v := ?_) (a' := ?_) #[true, false, false, false, false] rfl rfl (by kernel_rfl) (fun _ _ _ h => h) (Or.inl ⟨by rfl, ?_⟩) hHeld ?_ ?_
       rotate_left
       ·rintro w' ⟨s0, s1, s2, s3, s4, s5, s6, s7⟩
        go_simp
        with_reducible rfl
       rotate_left
       ·simp only [Act.put, List.setIfInBounds_toArray, List.set_cons_zero, List.set_cons_succ, i64_w, i32_w]
        rfl
       refine take_ (i := 2) (N := some 27) (v := ?_) (a' := ?_) #[true, false, true, false, false] rfl rfl (by kernel_rfl) (fun _ _ _ h => h) (Or.inl ⟨by rfl, ?_⟩) hHeld ?_ ?_
       rotate_left
       ·rintro w' ⟨s0, s1, s2, s3, s4, s5, s6, s7⟩
        go_simp
        with_reducible rfl
       rotate_left
       ·simp only [Act.put, List.setIfInBounds_toArray, List.set_cons_zero, List.set_cons_succ, i64_w, i32_w]
        rfl
       refine one_ (i := 1) (N := some 26) #[true, true, true, false, false] rfl rfl (by kernel_rfl) (by decide) (fun K hK => ?_)
       refine goes_ Try.func154 (by kernel_rfl) rfl #[.agg #[.bool t741, .int .i64 t742, .int .i64 t743, .int .u64 t744]] (by rfl) rfl rfl (by (try simp only [List.map_toArray, List.map_cons, List.map_nil]); first | done | rfl | (simp only [List.length_drop, List.length_take]; rfl)) ?_
       with_reducible refine (trunnionref08_sign.calls t741 t742 t743 t744 t751 _ A21.out).mono ?_
       rintro e w49 ⟨rfl, hb⟩
       refine ⟨_, rfl, ?_⟩
       have n0_ := Aside0.mk (blk_below (g := gb745) (o := .cells #[.bool t741, .int .i64 t742, .int .i64 t743, .int .u64 t744] 36 (0, 0)) (by (with_reducible repeat (first | refine blk_drewN ?_ _ | refine blk_drew ?_ | refine blk_alloc ?_ _)); exact BK745.out) hb)
       have n1_ := Aside0.mk (blk_below (g := gb750) (o := .cells #[.bool t746, .int .i64 t747, .int .i64 t748, .int .u64 t749] 36 (0, 0)) (by (with_reducible repeat (first | refine blk_drewN ?_ _ | refine blk_drew ?_ | refine blk_alloc ?_ _)); exact BK750.out) hb)
       have n2_ := Aside0.mk (below_step (by repeat (first | (with_reducible first | exact HB.out | apply below_alloc | apply pw_below_drewN | apply below_drew1 | refine below_set ?_ GE745.out | refine below_set ?_ GE750.out) | exact HB.out)) hb)
       clear BK745
       clear BK750
       clear HB
       have BK745 := n0_
       have BK750 := n1_
       have HB := n2_
       clear n0_ n1_ n2_
       (try clear hb)
       (try clear hb2)
       (try clear hk)
       (try clear hi)
       refine hK.out _ _ ⟨(blk_cell BK745.out 0).trans rfl, (blk_cell BK745.out 1).trans rfl, (blk_cell BK745.out 2).trans rfl, (blk_cell BK745.out 3).trans rfl, (blk_cell BK750.out 0).trans rfl, (blk_cell BK750.out 1).trans rfl, (blk_cell BK750.out 2).trans rfl, (blk_cell BK750.out 3).trans rfl⟩ (fun hHeld => ?_)
       clear hK K
       refine norm_ (a' := ?_) ?_ ?_
       rotate_left
       ·show Act.put _ (some 26) _ = _
        simp only [Act.put, List.setIfInBounds_toArray, List.set_cons_zero, List.set_cons_succ, i64_w, i32_w]
        rfl
       refine one_ (i := 3) (N := some 28) #[true, true, true, true, false] rfl rfl (by kernel_rfl) (by decide) (fun K hK => ?_)
       refine goes_ Try.func154 (by kernel_rfl) rfl #[.agg #[.bool t746, .int .i64 t747, .int .i64 t748, .int .u64 t749]] (by rfl) rfl rfl (by (try simp only [List.map_toArray, List.map_cons, List.map_nil]); first | done | rfl | (simp only [List.length_drop, List.length_take]; rfl)) ?_
       with_reducible refine (trunnionref08_sign.calls t746 t747 t748 t749 t752 _ A22.out).mono ?_
       rintro e w50 ⟨rfl, hb⟩
       refine ⟨_, rfl, ?_⟩
       have n0_ := Aside0.mk (blk_below (g := gb745) (o := .cells #[.bool t741, .int .i64 t742, .int .i64 t743, .int .u64 t744] 36 (0, 0)) (by (with_reducible repeat (first | refine blk_drewN ?_ _ | refine blk_drew ?_ | refine blk_alloc ?_ _)); exact BK745.out) hb)
       have n1_ := Aside0.mk (blk_below (g := gb750) (o := .cells #[.bool t746, .int .i64 t747, .int .i64 t748, .int .u64 t749] 36 (0, 0)) (by (with_reducible repeat (first | refine blk_drewN ?_ _ | refine blk_drew ?_ | refine blk_alloc ?_ _)); exact BK750.out) hb)
       have n2_ := Aside0.mk (below_step (by repeat (first | (with_reducible first | exact HB.out | apply below_alloc | apply pw_below_drewN | apply below_drew1 | refine below_set ?_ GE745.out | refine below_set ?_ GE750.out) | exact HB.out)) hb)
       clear BK745
       clear BK750
       clear HB
       have BK745 := n0_
       have BK750 := n1_
       have HB := n2_
       clear n0_ n1_ n2_
       (try clear hb)
       (try clear hb2)
       (try clear hk)
       (try clear hi)
       refine hK.out _ _ ⟨(blk_cell BK745.out 0).trans rfl, (blk_cell BK745.out 1).trans rfl, (blk_cell BK745.out 2).trans rfl, (blk_cell BK745.out 3).trans rfl, (blk_cell BK750.out 0).trans rfl, (blk_cell BK750.out 1).trans rfl, (blk_cell BK750.out 2).trans rfl, (blk_cell BK750.out 3).trans rfl⟩ (fun hHeld => ?_)
       clear hK K
       refine norm_ (a' := ?_) ?_ ?_
       rotate_left
       ·show Act.put _ (some 28) _ = _
        simp only [Act.put, List.setIfInBounds_toArray, List.set_cons_zero, List.set_cons_succ, i64_w, i32_w]
        rfl
       refine pure_ (i := 4) (N := some 29) (v := ?_) (a' := ?_) #[true, true, true, true, true] rfl rfl (by kernel_rfl) (fun _ _ _ h => h) (Or.inl ⟨by rfl, ?_⟩) ?_ ?_
       rotate_left
       ·intro w'
        go_simp
        with_reducible rfl
       rotate_left
       ·simp only [Act.put, List.setIfInBounds_toArray, List.set_cons_zero, List.set_cons_succ, i64_w, i32_w]
        rfl
       refine done_ (by kernel_rfl) ?_
       try go_wp2
       have n0_ := Aside0.mk (blk_drew BK745.out)
       have n1_ := Aside0.mk (blk_drew BK750.out)
       have n2_ := Aside0.mk (below_drew1 HB.out)
       clear BK745
       clear BK750
       clear HB
       have BK745 := n0_
       have BK750 := n1_
       have HB := n2_
       clear n0_ n1_ n2_
       refine start_ (n := 5) (S := fun w' => w'.cell? ⟨gb745, 0, none⟩ = some (.bool t741) ∧ w'.cell? ⟨gb745, 1, none⟩ = some (.int .i64 t742) ∧ w'.cell? ⟨gb745, 2, none⟩ = some (.int .i64 t743) ∧ w'.cell? ⟨gb745, 3, none⟩ = some (.int .u64 t744) ∧ w'.cell? ⟨gb750, 0, none⟩ = some (.bool t746) ∧ w'.cell? ⟨gb750, 1, none⟩ = some (.int .i64 t747) ∧ w'.cell? ⟨gb750, 2, none⟩ = some (.int .i64 t748) ∧ w'.cell? ⟨gb750, 3, none⟩ = some (.int .u64 t749)) (ds := []) #[false, false, false, false, false] (by kernel_rfl) rfl rfl ⟨(blk_cell BK745.out 0).trans rfl, (blk_cell BK745.out 1).trans rfl, (blk_cell BK745.out 2).trans rfl, (blk_cell BK745.out 3).trans rfl, (blk_cell BK750.out 0).trans rfl, (blk_cell BK750.out 1).trans rfl, (blk_cell BK750.out 2).trans rfl, (blk_cell BK750.out 3).trans rfl⟩ (fun hHeld => ?_)
       generalize w50.drew = w51 at BK745 BK750 HB hHeld ⊢
       refine take_ (i := 0) (N := some 30) (v := ?_) (a' := ?_) #[true, false, false, false, false] rfl rfl (by kernel_rfl) (fun _ _ _ h => h) (Or.inl ⟨by rfl, ?_⟩) hHeld ?_ ?_
       rotate_left
       ·rintro w' ⟨s0, s1, s2, s3, s4, s5, s6, s7⟩
        go_simp
        with_reducible rfl
       rotate_left
       ·simp only [Act.put, List.setIfInBounds_toArray, List.set_cons_zero, List.set_cons_succ, i64_w, i32_w]
        rfl
       refine take_ (i := 2) (N := some 32) (v := ?_) (a' := ?_) #[true, false, true, false, false] rfl rfl (by kernel_rfl) (fun _ _ _ h => h) (Or.inl ⟨by rfl, ?_⟩) hHeld ?_ ?_
       rotate_left
       ·rintro w' ⟨s0, s1, s2, s3, s4, s5, s6, s7⟩
        go_simp
        with_reducible rfl
       rotate_left
       ·simp only [Act.put, List.setIfInBounds_toArray, List.set_cons_zero, List.set_cons_succ, i64_w, i32_w]
        rfl
       refine one_ (i := 1) (N := some 31) #[true, true, true, false, false] rfl rfl (by kernel_rfl) (by decide) (fun K hK => ?_)
       refine goes_ Try.func154 (by kernel_rfl) rfl #[.agg #[.bool t741, .int .i64 t742, .int .i64 t743, .int .u64 t744]] (by rfl) rfl rfl (by (try simp only [List.map_toArray, List.map_cons, List.map_nil]); first | done | rfl | (simp only [List.length_drop, List.length_take]; rfl)) ?_
       with_reducible refine (trunnionref08_sign.calls t741 t742 t743 t744 t753 _ A27.out).mono ?_
       rintro e w52 ⟨rfl, hb⟩
       refine ⟨_, rfl, ?_⟩
       have n0_ := Aside0.mk (blk_below (g := gb745) (o := .cells #[.bool t741, .int .i64 t742, .int .i64 t743, .int .u64 t744] 36 (0, 0)) (by (with_reducible repeat (first | refine blk_drewN ?_ _ | refine blk_drew ?_ | refine blk_alloc ?_ _)); exact BK745.out) hb)
       have n1_ := Aside0.mk (blk_below (g := gb750) (o := .cells #[.bool t746, .int .i64 t747, .int .i64 t748, .int .u64 t749] 36 (0, 0)) (by (with_reducible repeat (first | refine blk_drewN ?_ _ | refine blk_drew ?_ | refine blk_alloc ?_ _)); exact BK750.out) hb)
       have n2_ := Aside0.mk (below_step (by repeat (first | (with_reducible first | exact HB.out | apply below_alloc | apply pw_below_drewN | apply below_drew1 | refine below_set ?_ GE745.out | refine below_set ?_ GE750.out) | exact HB.out)) hb)
       clear BK745
       clear BK750
       clear HB
       have BK745 := n0_
       have BK750 := n1_
       have HB := n2_
       clear n0_ n1_ n2_
       (try clear hb)
       (try clear hb2)
       (try clear hk)
       (try clear hi)
       refine hK.out _ _ ⟨(blk_cell BK745.out 0).trans rfl, (blk_cell BK745.out 1).trans rfl, (blk_cell BK745.out 2).trans rfl, (blk_cell BK745.out 3).trans rfl, (blk_cell BK750.out 0).trans rfl, (blk_cell BK750.out 1).trans rfl, (blk_cell BK750.out 2).trans rfl, (blk_cell BK750.out 3).trans rfl⟩ (fun hHeld => ?_)
       clear hK K
       refine norm_ (a' := ?_) ?_ ?_
       rotate_left
       ·show Act.put _ (some 31) _ = _
        simp only [Act.put, List.setIfInBounds_toArray, List.set_cons_zero, List.set_cons_succ, i64_w, i32_w]
        rfl
       refine one_ (i := 3) (N := some 33) #[true, true, true, true, false] rfl rfl (by kernel_rfl) (by decide) (fun K hK => ?_)
       refine goes_ Try.func154 (by kernel_rfl) rfl #[.agg #[.bool t746, .int .i64 t747, .int .i64 t748, .int .u64 t749]] (by rfl) rfl rfl (by (try simp only [List.map_toArray, List.map_cons, List.map_nil]); first | done | rfl | (simp only [List.length_drop, List.length_take]; rfl)) ?_
       with_reducible refine (trunnionref08_sign.calls t746 t747 t748 t749 t754 _ A28.out).mono ?_
       rintro e w53 ⟨rfl, hb⟩
       refine ⟨_, rfl, ?_⟩
       have n0_ := Aside0.mk (blk_below (g := gb745) (o := .cells #[.bool t741, .int .i64 t742, .int .i64 t743, .int .u64 t744] 36 (0, 0)) (by (with_reducible repeat (first | refine blk_drewN ?_ _ | refine blk_drew ?_ | refine blk_alloc ?_ _)); exact BK745.out) hb)
       have n1_ := Aside0.mk (blk_below (g := gb750) (o := .cells #[.bool t746, .int .i64 t747, .int .i64 t748, .int .u64 t749] 36 (0, 0)) (by (with_reducible repeat (first | refine blk_drewN ?_ _ | refine blk_drew ?_ | refine blk_alloc ?_ _)); exact BK750.out) hb)
       have n2_ := Aside0.mk (below_step (by repeat (first | (with_reducible first | exact HB.out | apply below_alloc | apply pw_below_drewN | apply below_drew1 | refine below_set ?_ GE745.out | refine below_set ?_ GE750.out) | exact HB.out)) hb)
       clear BK745
       clear BK750
       clear HB
       have BK745 := n0_
       have BK750 := n1_
       have HB := n2_
       clear n0_ n1_ n2_
       (try clear hb)
       (try clear hb2)
       (try clear hk)
       (try clear hi)
       refine hK.out _ _ ⟨(blk_cell BK745.out 0).trans rfl, (blk_cell BK745.out 1).trans rfl, (blk_cell BK745.out 2).trans rfl, (blk_cell BK745.out 3).trans rfl, (blk_cell BK750.out 0).trans rfl, (blk_cell BK750.out 1).trans rfl, (blk_cell BK750.out 2).trans rfl, (blk_cell BK750.out 3).trans rfl⟩ (fun hHeld => ?_)
       clear hK K
       refine norm_ (a' := ?_) ?_ ?_
       rotate_left
       ·show Act.put _ (some 33) _ = _
        simp only [Act.put, List.setIfInBounds_toArray, List.set_cons_zero, List.set_cons_succ, i64_w, i32_w]
        rfl
       refine pure_ (i := 4) (N := some 34) (v := ?_) (a' := ?_) #[true, true, true, true, true] rfl rfl (by kernel_rfl) (fun _ _ _ h => h) (Or.inl ⟨by rfl, ?_⟩) ?_ ?_
       rotate_left
       ·intro w'
        go_simp
        with_reducible rfl
       rotate_left
       ·simp only [Act.put, List.setIfInBounds_toArray, List.set_cons_zero, List.set_cons_succ, i64_w, i32_w]
        rfl
       refine done_ (by kernel_rfl) ?_
       have hnb54 := NB745_750.out
       have hnc54 := NB750_745.out
       have hcz55_0 : w53.cell? ⟨gb745, 0, none⟩ = some (.bool t741) := (blk_cell BK745.out 0).trans rfl
       have hcz55_1 : w53.cell? ⟨gb745, 1, none⟩ = some (.int .i64 t742) := (blk_cell BK745.out 1).trans rfl
       have hcz55_2 : w53.cell? ⟨gb745, 2, none⟩ = some (.int .i64 t743) := (blk_cell BK745.out 2).trans rfl
       have hcz55_3 : w53.cell? ⟨gb745, 3, none⟩ = some (.int .u64 t744) := (blk_cell BK745.out 3).trans rfl
       have hfz55_0 := blk_frozen BK745.out 0
       have hfz55_1 := blk_frozen BK745.out 1
       have hfz55_2 := blk_frozen BK745.out 2
       have hfz55_3 := blk_frozen BK745.out 3
       go_upto_region 12 with (first | ((with_reducible refine gate_callee (f := 154) rfl ?_); refine goesL_ (some 36) rfl rfl Try.func154 (by kernel_rfl) rfl #[.agg #[.bool t741, .int .i64 t742, .int .i64 t743, .int .u64 t744]] rfl (by (try simp only [List.map_toArray, List.map_cons, List.map_nil]); first | done | rfl | (simp only [List.length_drop, List.length_take]; rfl)) ?_; (with_reducible refine (trunnionref08_sign.calls t741 t742 t743 t744 t755 _ A36.out).mono ?_); rintro e w56 ⟨rfl, hb⟩; refine ⟨_, rfl, ?_⟩; have n0_ := Aside0.mk (blk_below (g := gb745) (o := .cells #[.bool t741, .int .i64 t742, .int .i64 t743, .int .u64 t744] 36 (0, 0)) (by (with_reducible repeat (first | refine blk_drewN ?_ _ | refine blk_drew ?_ | refine blk_alloc ?_ _)); exact BK745.out) hb); have n1_ := Aside0.mk (blk_below (g := gb750) (o := .cells #[.bool t746, .int .i64 t747, .int .i64 t748, .int .u64 t749] 36 (0, 0)) (by (with_reducible repeat (first | refine blk_drewN ?_ _ | refine blk_drew ?_ | refine blk_alloc ?_ _)); exact BK750.out) hb); have n2_ := Aside0.mk (below_step (by repeat (first | (with_reducible first | exact HB.out | apply below_alloc | apply pw_below_drewN | apply below_drew1 | refine below_set ?_ GE745.out | refine below_set ?_ GE750.out) | exact HB.out)) hb); clear BK745; clear BK750; clear HB; have BK745 := n0_; have BK750 := n1_; have HB := n2_; clear n0_ n1_ n2_; (try clear hb); (try clear hb2); (try clear hk); (try clear hi)))
       (try simp only [Act.put, List.setIfInBounds_toArray, List.set_cons_zero, List.set_cons_succ])
       go_cut [45] (fun v45 wc => ∃ (kq : Nat) (x45_46 : Bool), v45 = .bool x45_46 ∧ Aside0 (trunnionref08_Cmp.j1 kq x45_46 t741 t742 t743 t744 t746 t747 t748 t749 = some r) ∧ Aside0 (kq ≤ kj5) ∧ Aside0 (wc.heap[gb745]? = some (.cells #[.bool t741, .int .i64 t742, .int .i64 t743, .int .u64 t744] 36 (0, 0))) ∧ Aside0 (wc.heap[gb750]? = some (.cells #[.bool t746, .int .i64 t747, .int .i64 t748, .int .u64 t749] 36 (0, 0))) ∧ Aside0 (Below w.heap.size w wc))
       case first =>
        have H := HC47.out
        clear HC47
        by_cases c57 : t742 = 2
        ·rw [if_pos c57] at H
         have c57b0 : (t742 == 2) = true := beq_iff_eq.mpr c57
         have c57b1 : (t742 != 2) = false := bne_eq_false_iff_eq.mpr c57
         clear c57
         (first | rw [c57b0] | (simp only [i64_w, i32_w]; rw [c57b0]) | skip)
         have H' := Aside0.mk H
         clear H
         have hnb58 := NB745_750.out
         have hnc58 := NB750_745.out
         have hcz59_0 : w56.cell? ⟨gb745, 0, none⟩ = some (.bool t741) := (blk_cell BK745.out 0).trans rfl
         have hcz59_1 : w56.cell? ⟨gb745, 1, none⟩ = some (.int .i64 t742) := (blk_cell BK745.out 1).trans rfl
         have hcz59_2 : w56.cell? ⟨gb745, 2, none⟩ = some (.int .i64 t743) := (blk_cell BK745.out 2).trans rfl
         have hcz59_3 : w56.cell? ⟨gb745, 3, none⟩ = some (.int .u64 t744) := (blk_cell BK745.out 3).trans rfl
         have hfz59_0 := blk_frozen BK745.out 0
         have hfz59_1 := blk_frozen BK745.out 1
         have hfz59_2 := blk_frozen BK745.out 2
         have hfz59_3 := blk_frozen BK745.out 3
         go_wp2
         go_meet
         case rel => exact ⟨_, (true), (by first | rfl | (simp; done) | (simp [*]; done)), H', ⟨by have := HJ5.out; first | omega | exact Nat.le_refl _⟩, ⟨by (with_reducible repeat (first | refine blk_drewN ?_ _ | refine blk_drew ?_ | refine blk_alloc ?_ _)); exact BK745.out⟩, ⟨by (with_reducible repeat (first | refine blk_drewN ?_ _ | refine blk_drew ?_ | refine blk_alloc ?_ _)); exact BK750.out⟩, ⟨by repeat (first | (with_reducible first | exact HB.out | apply below_alloc | apply pw_below_drewN | apply below_drew1 | refine below_set ?_ GE745.out | refine below_set ?_ GE750.out) | exact HB.out)⟩⟩
        ·rw [if_neg c57] at H
         have c57b0 : (t742 == 2) = false := beq_eq_false_iff_ne.mpr c57
         have c57b1 : (t742 != 2) = true := bne_iff_ne.mpr c57
         (first | rw [c57b0] | (simp only [i64_w, i32_w]; rw [c57b0]) | skip)
         have H' := Aside0.mk H
         clear H
         have hnb60 := NB745_750.out
         have hnc60 := NB750_745.out
         have hcz61_0 : w56.cell? ⟨gb745, 0, none⟩ = some (.bool t741) := (blk_cell BK745.out 0).trans rfl
         have hcz61_1 : w56.cell? ⟨gb745, 1, none⟩ = some (.int .i64 t742) := (blk_cell BK745.out 1).trans rfl
         have hcz61_2 : w56.cell? ⟨gb745, 2, none⟩ = some (.int .i64 t743) := (blk_cell BK745.out 2).trans rfl
         have hcz61_3 : w56.cell? ⟨gb745, 3, none⟩ = some (.int .u64 t744) := (blk_cell BK745.out 3).trans rfl
         have hfz61_0 := blk_frozen BK745.out 0
         have hfz61_1 := blk_frozen BK745.out 1
         have hfz61_2 := blk_frozen BK745.out 2
         have hfz61_3 := blk_frozen BK745.out 3
         have hcz62_0 : w56.cell? ⟨gb750, 0, none⟩ = some (.bool t746) := (blk_cell BK750.out 0).trans rfl
         have hcz62_1 : w56.cell? ⟨gb750, 1, none⟩ = some (.int .i64 t747) := (blk_cell BK750.out 1).trans rfl
         have hcz62_2 : w56.cell? ⟨gb750, 2, none⟩ = some (.int .i64 t748) := (blk_cell BK750.out 2).trans rfl
         have hcz62_3 : w56.cell? ⟨gb750, 3, none⟩ = some (.int .u64 t749) := (blk_cell BK750.out 3).trans rfl
         have hfz62_0 := blk_frozen BK750.out 0
         have hfz62_1 := blk_frozen BK750.out 1
         have hfz62_2 := blk_frozen BK750.out 2
         have hfz62_3 := blk_frozen BK750.out 3
         go_wp2
         go_meet
         case rel => exact ⟨_, ((t747 == 2)), (by first | rfl | (simp; done) | (simp [*]; done)), H', ⟨by have := HJ5.out; first | omega | exact Nat.le_refl _⟩, ⟨by (with_reducible repeat (first | refine blk_drewN ?_ _ | refine blk_drew ?_ | refine blk_alloc ?_ _)); exact BK745.out⟩, ⟨by (with_reducible repeat (first | refine blk_drewN ?_ _ | refine blk_drew ?_ | refine blk_alloc ?_ _)); exact BK750.out⟩, ⟨by repeat (first | (with_reducible first | exact HB.out | apply below_alloc | apply pw_below_drewN | apply below_drew1 | refine below_set ?_ GE745.out | refine below_set ?_ GE750.out) | exact HB.out)⟩⟩
       case rest =>
        clear HC47
        try clear c1
        try clear c2
        try clear p2
        try clear c3
        try clear c4
        try clear c5
        try clear c6
        try clear c15
        try clear c29
        try clear c29b0
        try clear c37
        try clear c37b0
        try clear c37b1
        try clear c44
        try clear c54
        try clear c57
        try clear c57b0
        try clear c57b1
        try clear c58
        try clear c60
        try clear hcz45_0
        try clear hcz45_1
        try clear hcz45_2
        try clear hcz45_3
        try clear hcz55_0
        try clear hcz55_1
        try clear hcz55_2
        try clear hcz55_3
        try clear hcz59_0
        try clear hcz59_1
        try clear hcz59_2
        try clear hcz59_3
        try clear hcz61_0
        try clear hcz61_1
        try clear hcz61_2
        try clear hcz61_3
        try clear hcz62_0
        try clear hcz62_1
        try clear hcz62_2
        try clear hcz62_3
        try clear hfz45_0
        try clear hfz45_1
        try clear hfz45_2
        try clear hfz45_3
        try clear hfz55_0
        try clear hfz55_1
        try clear hfz55_2
        try clear hfz55_3
        try clear hfz59_0
        try clear hfz59_1
        try clear hfz59_2
        try clear hfz59_3
        try clear hfz61_0
        try clear hfz61_1
        try clear hfz61_2
        try clear hfz61_3
        try clear hfz62_0
        try clear hfz62_1
        try clear hfz62_2
        try clear hfz62_3
        obtain ⟨kq, x45_46, rfl, HA, HJ46, BK745, BK750, HB⟩ := hcut
        cases kq with
        | zero => exact absurd HA.out (by simp [trunnionref08_Cmp.j1])
        | succ kj46 =>
         have H := HA.out
         clear HA
         simp only [trunnionref08_Cmp.j1] at H
         by_cases c63 : x45_46 = true
         ·subst c63
          have H1 : (if t741 = true then (some (wrap64 (-(wrap64 (t742 - t747))))) else (some (wrap64 (t742 - t747)))) = some r := by rw [if_pos rfl] at H; exact H
          clear H
          have H := H1
          clear H1
          by_cases c64 : t741 = true
          ·subst c64
           have H1 : (some (wrap64 (-(wrap64 (t742 - t747))))) = some r := by rw [if_pos rfl] at H; exact H
           clear H
           have H := H1
           clear H1
           obtain rfl := Option.some.inj H
           have hnb65 := NB745_750.out
           have hnc65 := NB750_745.out
           have hcz66_0 : wc.cell? ⟨gb745, 0, none⟩ = some (.bool true) := (blk_cell BK745.out 0).trans rfl
           have hcz66_1 : wc.cell? ⟨gb745, 1, none⟩ = some (.int .i64 t742) := (blk_cell BK745.out 1).trans rfl
           have hcz66_2 : wc.cell? ⟨gb745, 2, none⟩ = some (.int .i64 t743) := (blk_cell BK745.out 2).trans rfl
           have hcz66_3 : wc.cell? ⟨gb745, 3, none⟩ = some (.int .u64 t744) := (blk_cell BK745.out 3).trans rfl
           have hfz66_0 := blk_frozen BK745.out 0
           have hfz66_1 := blk_frozen BK745.out 1
           have hfz66_2 := blk_frozen BK745.out 2
           have hfz66_3 := blk_frozen BK745.out 3
           have hcz67_0 : wc.cell? ⟨gb750, 0, none⟩ = some (.bool t746) := (blk_cell BK750.out 0).trans rfl
           have hcz67_1 : wc.cell? ⟨gb750, 1, none⟩ = some (.int .i64 t747) := (blk_cell BK750.out 1).trans rfl
           have hcz67_2 : wc.cell? ⟨gb750, 2, none⟩ = some (.int .i64 t748) := (blk_cell BK750.out 2).trans rfl
           have hcz67_3 : wc.cell? ⟨gb750, 3, none⟩ = some (.int .u64 t749) := (blk_cell BK750.out 3).trans rfl
           have hfz67_0 := blk_frozen BK750.out 0
           have hfz67_1 := blk_frozen BK750.out 1
           have hfz67_2 := blk_frozen BK750.out 2
           have hfz67_3 := blk_frozen BK750.out 3
           go_wp2
           go_ret
           exact ⟨by first | rfl | (simp [errW_none, errW_some] <;> rfl) | (simp [*, errW_none, errW_some] <;> rfl), by repeat (first | (with_reducible first | exact HB.out | apply below_alloc | apply pw_below_drewN | apply below_drew1 | refine below_set ?_ GE745.out | refine below_set ?_ GE750.out) | exact HB.out)⟩
          ·replace c64 := Bool.eq_false_iff.mpr c64
           subst c64
           have H1 : (some (wrap64 (t742 - t747))) = some r := by rw [if_neg (show ¬ (false = true) by decide)] at H; exact H
           clear H
           have H := H1
           clear H1
           obtain rfl := Option.some.inj H
           have hnb68 := NB745_750.out
           have hnc68 := NB750_745.out
           have hcz69_0 : wc.cell? ⟨gb745, 0, none⟩ = some (.bool false) := (blk_cell BK745.out 0).trans rfl
           have hcz69_1 : wc.cell? ⟨gb745, 1, none⟩ = some (.int .i64 t742) := (blk_cell BK745.out 1).trans rfl
           have hcz69_2 : wc.cell? ⟨gb745, 2, none⟩ = some (.int .i64 t743) := (blk_cell BK745.out 2).trans rfl
           have hcz69_3 : wc.cell? ⟨gb745, 3, none⟩ = some (.int .u64 t744) := (blk_cell BK745.out 3).trans rfl
           have hfz69_0 := blk_frozen BK745.out 0
           have hfz69_1 := blk_frozen BK745.out 1
           have hfz69_2 := blk_frozen BK745.out 2
           have hfz69_3 := blk_frozen BK745.out 3
           have hcz70_0 : wc.cell? ⟨gb750, 0, none⟩ = some (.bool t746) := (blk_cell BK750.out 0).trans rfl
           have hcz70_1 : wc.cell? ⟨gb750, 1, none⟩ = some (.int .i64 t747) := (blk_cell BK750.out 1).trans rfl
           have hcz70_2 : wc.cell? ⟨gb750, 2, none⟩ = some (.int .i64 t748) := (blk_cell BK750.out 2).trans rfl
           have hcz70_3 : wc.cell? ⟨gb750, 3, none⟩ = some (.int .u64 t749) := (blk_cell BK750.out 3).trans rfl
           have hfz70_0 := blk_frozen BK750.out 0
           have hfz70_1 := blk_frozen BK750.out 1
           have hfz70_2 := blk_frozen BK750.out 2
           have hfz70_3 := blk_frozen BK750.out 3
           go_wp2
           go_ret
           exact ⟨by first | rfl | (simp [errW_none, errW_some] <;> rfl) | (simp [*, errW_none, errW_some] <;> rfl), by repeat (first | (with_reducible first | exact HB.out | apply below_alloc | apply pw_below_drewN | apply below_drew1 | refine below_set ?_ GE745.out | refine below_set ?_ GE750.out) | exact HB.out)⟩
         ·replace c63 := Bool.eq_false_iff.mpr c63
          subst c63
          have H1 : ((trunnionref01_Of.f kj46 t744).bind fun t756 => ((trunnionref01_Shl.f kj46 t756 (wrap64 (t743 - (mn t743 t748)))).bind fun t759 => ((trunnionref01_Of.f kj46 t749).bind fun t762 => ((trunnionref01_Shl.f kj46 t762 (wrap64 (t748 - (mn t743 t748)))).bind fun t765 => ((trunnionref01_Cmp.f kj46 t759 t765).bind fun t768 => (if t741 = true then (some (wrap64 (-t768))) else (some t768))))))) = some r := by rw [if_neg (show ¬ (false = true) by decide)] at H; exact H
          clear H
          have H := H1
          clear H1
          obtain ⟨ji71, hji71⟩ : ∃ j_ : Int, (mn t743 t748) = j_ := ⟨_, rfl⟩
          replace H : ((trunnionref01_Of.f kj46 t744).bind fun t756 => ((trunnionref01_Shl.f kj46 t756 (wrap64 (t743 - (ji71)))).bind fun t759 => ((trunnionref01_Of.f kj46 t749).bind fun t762 => ((trunnionref01_Shl.f kj46 t762 (wrap64 (t748 - (ji71)))).bind fun t765 => ((trunnionref01_Cmp.f kj46 t759 t765).bind fun t768 => (if t741 = true then (some (wrap64 (-t768))) else (some t768))))))) = some r := by first | (rw [hji71] at H; exact H) | (simp only [hji71] at H ⊢; exact H)
          have hji71_ : (if t748 < t743 then t748 else t743) = ji71 := hji71
          replace H := Option.bind_eq_some_iff.mp H
          obtain ⟨t756, A720, H⟩ := H
          replace H : ((trunnionref01_Shl.f kj46 t756 (wrap64 (t743 - (ji71)))).bind fun t759 => ((trunnionref01_Of.f kj46 t749).bind fun t762 => ((trunnionref01_Shl.f kj46 t762 (wrap64 (t748 - (ji71)))).bind fun t765 => ((trunnionref01_Cmp.f kj46 t759 t765).bind fun t768 => (if t741 = true then (some (wrap64 (-t768))) else (some t768)))))) = some r := H
          have A72 := Aside0.mk A720
          clear A720
          replace H := Option.bind_eq_some_iff.mp H
          obtain ⟨t759, A730, H⟩ := H
          replace H : ((trunnionref01_Of.f kj46 t749).bind fun t762 => ((trunnionref01_Shl.f kj46 t762 (wrap64 (t748 - (ji71)))).bind fun t765 => ((trunnionref01_Cmp.f kj46 t759 t765).bind fun t768 => (if t741 = true then (some (wrap64 (-t768))) else (some t768))))) = some r := H
          have A73 := Aside0.mk A730
          clear A730
          replace H := Option.bind_eq_some_iff.mp H
          obtain ⟨t762, A740, H⟩ := H
          replace H : ((trunnionref01_Shl.f kj46 t762 (wrap64 (t748 - (ji71)))).bind fun t765 => ((trunnionref01_Cmp.f kj46 t759 t765).bind fun t768 => (if t741 = true then (some (wrap64 (-t768))) else (some t768)))) = some r := H
          have A74 := Aside0.mk A740
          clear A740
          replace H := Option.bind_eq_some_iff.mp H
          obtain ⟨t765, A750, H⟩ := H
          replace H : ((trunnionref01_Cmp.f kj46 t759 t765).bind fun t768 => (if t741 = true then (some (wrap64 (-t768))) else (some t768))) = some r := H
          have A75 := Aside0.mk A750
          clear A750
          replace H := Option.bind_eq_some_iff.mp H
          obtain ⟨t768, A760, H⟩ := H
          replace H : (if t741 = true then (some (wrap64 (-t768))) else (some t768)) = some r := H
          have A76 := Aside0.mk A760
          clear A760
          by_cases c77 : t741 = true
          ·subst c77
           have H1 : (some (wrap64 (-t768))) = some r := by rw [if_pos rfl] at H; exact H
           clear H
           have H := H1
           clear H1
           obtain rfl := Option.some.inj H
           have hnb78 := NB745_750.out
           have hnc78 := NB750_745.out
           have hcz79_0 : wc.cell? ⟨gb745, 0, none⟩ = some (.bool true) := (blk_cell BK745.out 0).trans rfl
           have hcz79_1 : wc.cell? ⟨gb745, 1, none⟩ = some (.int .i64 t742) := (blk_cell BK745.out 1).trans rfl
           have hcz79_2 : wc.cell? ⟨gb745, 2, none⟩ = some (.int .i64 t743) := (blk_cell BK745.out 2).trans rfl
           have hcz79_3 : wc.cell? ⟨gb745, 3, none⟩ = some (.int .u64 t744) := (blk_cell BK745.out 3).trans rfl
           have hfz79_0 := blk_frozen BK745.out 0
           have hfz79_1 := blk_frozen BK745.out 1
           have hfz79_2 := blk_frozen BK745.out 2
           have hfz79_3 := blk_frozen BK745.out 3
           have hcz80_0 : wc.cell? ⟨gb750, 0, none⟩ = some (.bool t746) := (blk_cell BK750.out 0).trans rfl
           have hcz80_1 : wc.cell? ⟨gb750, 1, none⟩ = some (.int .i64 t747) := (blk_cell BK750.out 1).trans rfl
           have hcz80_2 : wc.cell? ⟨gb750, 2, none⟩ = some (.int .i64 t748) := (blk_cell BK750.out 2).trans rfl
           have hcz80_3 : wc.cell? ⟨gb750, 3, none⟩ = some (.int .u64 t749) := (blk_cell BK750.out 3).trans rfl
           have hfz80_0 := blk_frozen BK750.out 0
           have hfz80_1 := blk_frozen BK750.out 1
           have hfz80_2 := blk_frozen BK750.out 2
           have hfz80_3 := blk_frozen BK750.out 3
           try go_wp2
           have n0_ := Aside0.mk (blk_drew BK745.out)
           have n1_ := Aside0.mk (blk_drew BK750.out)
           have n2_ := Aside0.mk (below_drew1 HB.out)
           clear BK745
           clear BK750
           clear HB
           have BK745 := n0_
           have BK750 := n1_
           have HB := n2_
           clear n0_ n1_ n2_
           refine start_ (n := 18) (S := fun w' => w'.cell? ⟨gb745, 0, none⟩ = some (.bool true) ∧ w'.cell? ⟨gb745, 1, none⟩ = some (.int .i64 t742) ∧ w'.cell? ⟨gb745, 2, none⟩ = some (.int .i64 t743) ∧ w'.cell? ⟨gb745, 3, none⟩ = some (.int .u64 t744) ∧ w'.cell? ⟨gb750, 0, none⟩ = some (.bool t746) ∧ w'.cell? ⟨gb750, 1, none⟩ = some (.int .i64 t747) ∧ w'.cell? ⟨gb750, 2, none⟩ = some (.int .i64 t748) ∧ w'.cell? ⟨gb750, 3, none⟩ = some (.int .u64 t749)) (ds := []) #[false, false, false, false, false, false, false, false, false, false, false, false, false, false, false, false, false, false] (by kernel_rfl) rfl rfl ⟨(blk_cell BK745.out 0).trans rfl, (blk_cell BK745.out 1).trans rfl, (blk_cell BK745.out 2).trans rfl, (blk_cell BK745.out 3).trans rfl, (blk_cell BK750.out 0).trans rfl, (blk_cell BK750.out 1).trans rfl, (blk_cell BK750.out 2).trans rfl, (blk_cell BK750.out 3).trans rfl⟩ (fun hHeld => ?_); refine with_tabW trunnionref08_Cmp.tab15 trunnionref08_Cmp.bits15 (fun HT_ HW_ => ?_)
           generalize wc.drew = w81 at BK745 BK750 HB hHeld ⊢
           refine pure_ (i := 0) (N := some 56) (v := ?_) (a' := ?_) #[true, false, false, false, false, false, false, false, false, false, false, false, false, false, false, false, false, false] rfl rfl (any_of HT_.out (by kernel_rfl)) (fun _ _ _ h => h) (Or.inl ⟨by rfl, ?_⟩) ?_ ?_
           rotate_left
           ·intro w'
            go_simp
            with_reducible rfl
           rotate_left
           ·simp only [Act.put, List.setIfInBounds_toArray, List.set_cons_zero, List.set_cons_succ, i64_w, i32_w]
            rfl
           refine pure_ (i := 3) (N := some 59) (v := ?_) (a' := ?_) #[true, false, false, true, false, false, false, false, false, false, false, false, false, false, false, false, false, false] rfl rfl (any_of HT_.out (by kernel_rfl)) (fun _ _ _ h => h) (Or.inl ⟨by rfl, ?_⟩) ?_ ?_
           rotate_left
           ·intro w'
            go_simp
            with_reducible rfl
           rotate_left
           ·simp only [Act.put, List.setIfInBounds_toArray, List.set_cons_zero, List.set_cons_succ, i64_w, i32_w]
            rfl
           refine pure_ (i := 5) (N := some 61) (v := ?_) (a' := ?_) #[true, false, false, true, false, true, false, false, false, false, false, false, false, false, false, false, false, false] rfl rfl (any_of HT_.out (by kernel_rfl)) (fun _ _ _ h => h) (Or.inl ⟨by rfl, ?_⟩) ?_ ?_
           rotate_left
           ·intro w'
            go_simp
            with_reducible rfl
           rotate_left
           ·simp only [Act.put, List.setIfInBounds_toArray, List.set_cons_zero, List.set_cons_succ, i64_w, i32_w]
            rfl
           refine pure_ (i := 8) (N := some 64) (v := ?_) (a' := ?_) #[true, false, false, true, false, true, false, false, true, false, false, false, false, false, false, false, false, false] rfl rfl (any_of HT_.out (by kernel_rfl)) (fun _ _ _ h => h) (Or.inl ⟨by rfl, ?_⟩) ?_ ?_
           rotate_left
           ·intro w'
            go_simp
            with_reducible rfl
           rotate_left
           ·simp only [Act.put, List.setIfInBounds_toArray, List.set_cons_zero, List.set_cons_succ, i64_w, i32_w]
            rfl
           refine pure_ (i := 11) (N := some 67) (v := ?_) (a' := ?_) #[true, false, false, true, false, true, false, false, true, false, false, true, false, false, false, false, false, false] rfl rfl (any_of HT_.out (by kernel_rfl)) (fun _ _ _ h => h) (Or.inl ⟨by rfl, ?_⟩) ?_ ?_
           rotate_left
           ·intro w'
            go_simp
            with_reducible rfl
           rotate_left
           ·simp only [Act.put, List.setIfInBounds_toArray, List.set_cons_zero, List.set_cons_succ, i64_w, i32_w]
            rfl
           refine pure_ (i := 13) (N := some 69) (v := ?_) (a' := ?_) #[true, false, false, true, false, true, false, false, true, false, false, true, false, true, false, false, false, false] rfl rfl (any_of HT_.out (by kernel_rfl)) (fun _ _ _ h => h) (Or.inl ⟨by rfl, ?_⟩) ?_ ?_
           rotate_left
           ·intro w'
            go_simp
            with_reducible rfl
           rotate_left
           ·simp only [Act.put, List.setIfInBounds_toArray, List.set_cons_zero, List.set_cons_succ, i64_w, i32_w]
            rfl
           refine take_ (i := 1) (N := some 57) (v := ?_) (a' := ?_) #[true, true, false, true, false, true, false, false, true, false, false, true, false, true, false, false, false, false] rfl rfl (take_ofW HT_.out HW_.out (by kernel_rfl)) (fun _ _ _ h => h) (Or.inl ⟨by rfl, ?_⟩) hHeld ?_ ?_
           rotate_left
           ·rintro w' ⟨s0, s1, s2, s3, s4, s5, s6, s7⟩
            go_simp
            with_reducible rfl
           rotate_left
           ·simp only [Act.put, List.setIfInBounds_toArray, List.set_cons_zero, List.set_cons_succ, i64_w, i32_w]
            rfl
           refine take_ (i := 4) (N := some 60) (v := ?_) (a' := ?_) #[true, true, false, true, true, true, false, false, true, false, false, true, false, true, false, false, false, false] rfl rfl (take_ofW HT_.out HW_.out (by kernel_rfl)) (fun _ _ _ h => h) (Or.inl ⟨by rfl, ?_⟩) hHeld ?_ ?_
           rotate_left
           ·rintro w' ⟨s0, s1, s2, s3, s4, s5, s6, s7⟩
            go_simp
            with_reducible rfl
           rotate_left
           ·simp only [Act.put, List.setIfInBounds_toArray, List.set_cons_zero, List.set_cons_succ, i64_w, i32_w]
            rfl
           refine pure_ (i := 6) (N := some 62) (v := ?_) (a' := ?_) #[true, true, false, true, true, true, true, false, true, false, false, true, false, true, false, false, false, false] rfl rfl (any_of HT_.out (by kernel_rfl)) (fun _ _ _ h => h) (Or.inl ⟨by rfl, ?_⟩) ?_ ?_
           rotate_left
           ·intro w'
            go_simp
            with_reducible rfl
           rotate_left
           ·simp only [Act.put, List.setIfInBounds_toArray, List.set_cons_zero, List.set_cons_succ, i64_w, i32_w]
            rfl
           refine take_ (i := 9) (N := some 65) (v := ?_) (a' := ?_) #[true, true, false, true, true, true, true, false, true, true, false, true, false, true, false, false, false, false] rfl rfl (take_ofW HT_.out HW_.out (by kernel_rfl)) (fun _ _ _ h => h) (Or.inl ⟨by rfl, ?_⟩) hHeld ?_ ?_
           rotate_left
           ·rintro w' ⟨s0, s1, s2, s3, s4, s5, s6, s7⟩
            go_simp
            with_reducible rfl
           rotate_left
           ·simp only [Act.put, List.setIfInBounds_toArray, List.set_cons_zero, List.set_cons_succ, i64_w, i32_w]
            rfl
           refine take_ (i := 12) (N := some 68) (v := ?_) (a' := ?_) #[true, true, false, true, true, true, true, false, true, true, false, true, true, true, false, false, false, false] rfl rfl (take_ofW HT_.out HW_.out (by kernel_rfl)) (fun _ _ _ h => h) (Or.inl ⟨by rfl, ?_⟩) hHeld ?_ ?_
           rotate_left
           ·rintro w' ⟨s0, s1, s2, s3, s4, s5, s6, s7⟩
            go_simp
            with_reducible rfl
           rotate_left
           ·simp only [Act.put, List.setIfInBounds_toArray, List.set_cons_zero, List.set_cons_succ, i64_w, i32_w]
            rfl
           refine pure_ (i := 14) (N := some 70) (v := ?_) (a' := ?_) #[true, true, false, true, true, true, true, false, true, true, false, true, true, true, true, false, false, false] rfl rfl (any_of HT_.out (by kernel_rfl)) (fun _ _ _ h => h) (Or.inl ⟨by rfl, ?_⟩) ?_ ?_
           rotate_left
           ·intro w'
            go_simp
            with_reducible rfl
           rotate_left
           ·simp only [Act.put, List.setIfInBounds_toArray, List.set_cons_zero, List.set_cons_succ, i64_w, i32_w]
            rfl
           refine one_ (i := 2) (N := some 58) #[true, true, true, true, true, true, true, false, true, true, false, true, true, true, true, false, false, false] rfl rfl (one_of HT_.out (by kernel_rfl)) (by decide) (fun K hK => ?_)
           refine goes_ Try.func88 (by kernel_rfl) rfl #[.int .u64 t744] (by rfl) rfl rfl (by (try simp only [List.map_toArray, List.map_cons, List.map_nil]); first | done | rfl | (simp only [List.length_drop, List.length_take]; rfl)) ?_
           with_reducible refine (trunnionref01_Of.calls kj46 t744 t756 _ A72.out).mono ?_
           rintro e w82 ⟨v757, rfl, ho0, hb⟩
           refine ⟨_, rfl, ?_⟩
           have n0_ := Aside0.mk (Kd.R_lower ho0 (below_size (by repeat (first | (with_reducible first | exact HB.out | apply below_alloc | apply pw_below_drewN | apply below_drew1 | refine below_set ?_ GE745.out | refine below_set ?_ GE750.out) | exact HB.out))))
           have n1_ := Aside0.mk (blk_below (g := gb745) (o := .cells #[.bool true, .int .i64 t742, .int .i64 t743, .int .u64 t744] 36 (0, 0)) (by (with_reducible repeat (first | refine blk_drewN ?_ _ | refine blk_drew ?_ | refine blk_alloc ?_ _)); exact BK745.out) hb)
           have n2_ := Aside0.mk (blk_below (g := gb750) (o := .cells #[.bool t746, .int .i64 t747, .int .i64 t748, .int .u64 t749] 36 (0, 0)) (by (with_reducible repeat (first | refine blk_drewN ?_ _ | refine blk_drew ?_ | refine blk_alloc ?_ _)); exact BK750.out) hb)
           have n3_ := Aside0.mk (below_step (by repeat (first | (with_reducible first | exact HB.out | apply below_alloc | apply pw_below_drewN | apply below_drew1 | refine below_set ?_ GE745.out | refine below_set ?_ GE750.out) | exact HB.out)) hb)
           clear BK745
           clear BK750
           clear HB
           have HO758 := n0_
           have BK745 := n1_
           have BK750 := n2_
           have HB := n3_
           clear n0_ n1_ n2_ n3_
           (try clear hb)
           (try clear hb2)
           (try clear hk)
           (try clear hi)
           (try clear ho0)
           obtain ⟨Ao83, co83, eo83⟩ := Kd.R_slice HO758.out
           (first | subst eo83 | (injection eo83 with f1_ f2_ f3_; have f4_ := f1_.symm; have f5_ := f3_.symm; clear f1_ f2_ f3_; subst f4_; subst f5_))
           refine hK.out _ _ ⟨(blk_cell BK745.out 0).trans rfl, (blk_cell BK745.out 1).trans rfl, (blk_cell BK745.out 2).trans rfl, (blk_cell BK745.out 3).trans rfl, (blk_cell BK750.out 0).trans rfl, (blk_cell BK750.out 1).trans rfl, (blk_cell BK750.out 2).trans rfl, (blk_cell BK750.out 3).trans rfl⟩ (fun hHeld => ?_)
           clear hK K
           refine norm_ (a' := ?_) ?_ ?_
           rotate_left
           ·show Act.put _ (some 58) _ = _
            simp only [Act.put, List.setIfInBounds_toArray, List.set_cons_zero, List.set_cons_succ, i64_w, i32_w]
            rfl
           refine one_ (i := 7) (N := some 63) #[true, true, true, true, true, true, true, true, true, true, false, true, true, true, true, false, false, false] rfl rfl (one_of HT_.out (by kernel_rfl)) (by decide) (fun K hK => ?_)
           refine goes_ Try.func82 (by kernel_rfl) rfl #[.agg #[.slice Ao83 t756.length co83], .int .i64 (wrap64 (t743 - (ji71)))] (by rfl) rfl rfl (by (try simp only [List.map_toArray, List.map_cons, List.map_nil]); first | done | (simp only [hji71]; rfl) | rfl | (simp only [List.length_drop, List.length_take]; rfl)) ?_
           with_reducible refine (trunnionref01_Shl.calls kj46 _ _ t756 (wrap64 (t743 - (ji71))) t759 _ ?side1 ?side2 A73.out).mono ?_
           (case side1 => repeat (first | exact (Kd.R_reads' HO758.out).2.2 | (with_reducible refine Kd.C_alloc ?_ _) | (with_reducible refine Kd.C_drewN ?_ _) | (with_reducible refine Kd.C_drew ?_)))
           (case side2 => exact (Kd.R_reads' HO758.out).2.1)
           rintro e w84 ⟨v760, rfl, ho0, hb⟩
           refine ⟨_, rfl, ?_⟩
           have n0_ := Aside0.mk (Kd.R_elder' (by (with_reducible repeat (first | apply Kd.R_alloc | apply Kd.R_drewN | apply Kd.R_drew)); exact HO758.out) (Kd.R_base ho0) hb)
           have n1_ := Aside0.mk (Kd.R_lower (Kd.R_new' ho0 (Kd.R_lt (by (with_reducible repeat (first | apply Kd.R_alloc | apply Kd.R_drewN | apply Kd.R_drew)); exact HO758.out))) (below_size (by repeat (first | (with_reducible first | exact HB.out | apply below_alloc | apply pw_below_drewN | apply below_drew1 | refine below_set ?_ GE745.out | refine below_set ?_ GE750.out) | exact HB.out))))
           have n2_ := Aside0.mk (blk_below (g := gb745) (o := .cells #[.bool true, .int .i64 t742, .int .i64 t743, .int .u64 t744] 36 (0, 0)) (by (with_reducible repeat (first | refine blk_drewN ?_ _ | refine blk_drew ?_ | refine blk_alloc ?_ _)); exact BK745.out) hb)
           have n3_ := Aside0.mk (blk_below (g := gb750) (o := .cells #[.bool t746, .int .i64 t747, .int .i64 t748, .int .u64 t749] 36 (0, 0)) (by (with_reducible repeat (first | refine blk_drewN ?_ _ | refine blk_drew ?_ | refine blk_alloc ?_ _)); exact BK750.out) hb)
           have n4_ := Aside0.mk (below_step (by repeat (first | (with_reducible first | exact HB.out | apply below_alloc | apply pw_below_drewN | apply below_drew1 | refine below_set ?_ GE745.out | refine below_set ?_ GE750.out) | exact HB.out)) hb)
           clear HO758
           clear BK745
           clear BK750
           clear HB
           have HO758 := n0_
           have HO761 := n1_
           have BK745 := n2_
           have BK750 := n3_
           have HB := n4_
           clear n0_ n1_ n2_ n3_ n4_
           (try clear hb)
           (try clear hb2)
           (try clear hk)
           (try clear hi)
           (try clear ho0)
           refine hK.out _ _ ⟨(blk_cell BK745.out 0).trans rfl, (blk_cell BK745.out 1).trans rfl, (blk_cell BK745.out 2).trans rfl, (blk_cell BK745.out 3).trans rfl, (blk_cell BK750.out 0).trans rfl, (blk_cell BK750.out 1).trans rfl, (blk_cell BK750.out 2).trans rfl, (blk_cell BK750.out 3).trans rfl⟩ (fun hHeld => ?_)
           clear hK K
           refine norm_ (a' := ?_) ?_ ?_
           rotate_left
           ·show Act.put _ (some 63) _ = _
            simp only [Act.put, List.setIfInBounds_toArray, List.set_cons_zero, List.set_cons_succ, i64_w, i32_w]
            rfl
           refine one_ (i := 10) (N := some 66) #[true, true, true, true, true, true, true, true, true, true, true, true, true, true, true, false, false, false] rfl rfl (one_of HT_.out (by kernel_rfl)) (by decide) (fun K hK => ?_)
           refine goes_ Try.func88 (by kernel_rfl) rfl #[.int .u64 t749] (by rfl) rfl rfl (by (try simp only [List.map_toArray, List.map_cons, List.map_nil]); first | done | rfl | (simp only [List.length_drop, List.length_take]; rfl)) ?_
           with_reducible refine (trunnionref01_Of.calls kj46 t749 t762 _ A74.out).mono ?_
           rintro e w85 ⟨v763, rfl, ho0, hb⟩
           refine ⟨_, rfl, ?_⟩
           have n0_ := Aside0.mk (Kd.R_elder' (by (with_reducible repeat (first | apply Kd.R_alloc | apply Kd.R_drewN | apply Kd.R_drew)); exact HO758.out) (Kd.R_base ho0) hb)
           have n1_ := Aside0.mk (Kd.R_elder' (by (with_reducible repeat (first | apply Kd.R_alloc | apply Kd.R_drewN | apply Kd.R_drew)); exact HO761.out) (Kd.R_base ho0) hb)
           have n2_ := Aside0.mk (Kd.R_lower (Kd.R_new' (Kd.R_new' ho0 (Kd.R_lt (by (with_reducible repeat (first | apply Kd.R_alloc | apply Kd.R_drewN | apply Kd.R_drew)); exact HO758.out))) (Kd.R_lt (by (with_reducible repeat (first | apply Kd.R_alloc | apply Kd.R_drewN | apply Kd.R_drew)); exact HO761.out))) (below_size (by repeat (first | (with_reducible first | exact HB.out | apply below_alloc | apply pw_below_drewN | apply below_drew1 | refine below_set ?_ GE745.out | refine below_set ?_ GE750.out) | exact HB.out))))
           have n3_ := Aside0.mk (blk_below (g := gb745) (o := .cells #[.bool true, .int .i64 t742, .int .i64 t743, .int .u64 t744] 36 (0, 0)) (by (with_reducible repeat (first | refine blk_drewN ?_ _ | refine blk_drew ?_ | refine blk_alloc ?_ _)); exact BK745.out) hb)
           have n4_ := Aside0.mk (blk_below (g := gb750) (o := .cells #[.bool t746, .int .i64 t747, .int .i64 t748, .int .u64 t749] 36 (0, 0)) (by (with_reducible repeat (first | refine blk_drewN ?_ _ | refine blk_drew ?_ | refine blk_alloc ?_ _)); exact BK750.out) hb)
           have n5_ := Aside0.mk (below_step (by repeat (first | (with_reducible first | exact HB.out | apply below_alloc | apply pw_below_drewN | apply below_drew1 | refine below_set ?_ GE745.out | refine below_set ?_ GE750.out) | exact HB.out)) hb)
           clear HO758
           clear HO761
           clear BK745
           clear BK750
           clear HB
           have HO758 := n0_
           have HO761 := n1_
           have HO764 := n2_
           have BK745 := n3_
           have BK750 := n4_
           have HB := n5_
           clear n0_ n1_ n2_ n3_ n4_ n5_
           (try clear hb)
           (try clear hb2)
           (try clear hk)
           (try clear hi)
           (try clear ho0)
           obtain ⟨Ao86, co86, eo86⟩ := Kd.R_slice HO764.out
           (first | subst eo86 | (injection eo86 with f1_ f2_ f3_; have f4_ := f1_.symm; have f5_ := f3_.symm; clear f1_ f2_ f3_; subst f4_; subst f5_))
           refine hK.out _ _ ⟨(blk_cell BK745.out 0).trans rfl, (blk_cell BK745.out 1).trans rfl, (blk_cell BK745.out 2).trans rfl, (blk_cell BK745.out 3).trans rfl, (blk_cell BK750.out 0).trans rfl, (blk_cell BK750.out 1).trans rfl, (blk_cell BK750.out 2).trans rfl, (blk_cell BK750.out 3).trans rfl⟩ (fun hHeld => ?_)
           clear hK K
           refine norm_ (a' := ?_) ?_ ?_
           rotate_left
           ·show Act.put _ (some 66) _ = _
            simp only [Act.put, List.setIfInBounds_toArray, List.set_cons_zero, List.set_cons_succ, i64_w, i32_w]
            rfl
           refine one_ (i := 15) (N := some 71) #[true, true, true, true, true, true, true, true, true, true, true, true, true, true, true, true, false, false] rfl rfl (one_of HT_.out (by kernel_rfl)) (by decide) (fun K hK => ?_)
           refine goes_ Try.func82 (by kernel_rfl) rfl #[.agg #[.slice Ao86 t762.length co86], .int .i64 (wrap64 (t748 - (ji71)))] (by rfl) rfl rfl (by (try simp only [List.map_toArray, List.map_cons, List.map_nil]); first | done | (simp only [hji71]; rfl) | rfl | (simp only [List.length_drop, List.length_take]; rfl)) ?_
           with_reducible refine (trunnionref01_Shl.calls kj46 _ _ t762 (wrap64 (t748 - (ji71))) t765 _ ?side1 ?side2 A75.out).mono ?_
           (case side1 => repeat (first | exact (Kd.R_reads' HO764.out).2.2 | (with_reducible refine Kd.C_alloc ?_ _) | (with_reducible refine Kd.C_drewN ?_ _) | (with_reducible refine Kd.C_drew ?_)))
           (case side2 => exact (Kd.R_reads' HO764.out).2.1)
           rintro e w87 ⟨v766, rfl, ho0, hb⟩
           refine ⟨_, rfl, ?_⟩
           have n0_ := Aside0.mk (Kd.R_elder' (by (with_reducible repeat (first | apply Kd.R_alloc | apply Kd.R_drewN | apply Kd.R_drew)); exact HO758.out) (Kd.R_base ho0) hb)
           have n1_ := Aside0.mk (Kd.R_elder' (by (with_reducible repeat (first | apply Kd.R_alloc | apply Kd.R_drewN | apply Kd.R_drew)); exact HO761.out) (Kd.R_base ho0) hb)
           have n2_ := Aside0.mk (Kd.R_elder' (by (with_reducible repeat (first | apply Kd.R_alloc | apply Kd.R_drewN | apply Kd.R_drew)); exact HO764.out) (Kd.R_base ho0) hb)
           have n3_ := Aside0.mk (Kd.R_lower (Kd.R_new' (Kd.R_new' (Kd.R_new' ho0 (Kd.R_lt (by (with_reducible repeat (first | apply Kd.R_alloc | apply Kd.R_drewN | apply Kd.R_drew)); exact HO758.out))) (Kd.R_lt (by (with_reducible repeat (first | apply Kd.R_alloc | apply Kd.R_drewN | apply Kd.R_drew)); exact HO761.out))) (Kd.R_lt (by (with_reducible repeat (first | apply Kd.R_alloc | apply Kd.R_drewN | apply Kd.R_drew)); exact HO764.out))) (below_size (by repeat (first | (with_reducible first | exact HB.out | apply below_alloc | apply pw_below_drewN | apply below_drew1 | refine below_set ?_ GE745.out | refine below_set ?_ GE750.out) | exact HB.out))))
           have n4_ := Aside0.mk (blk_below (g := gb745) (o := .cells #[.bool true, .int .i64 t742, .int .i64 t743, .int .u64 t744] 36 (0, 0)) (by (with_reducible repeat (first | refine blk_drewN ?_ _ | refine blk_drew ?_ | refine blk_alloc ?_ _)); exact BK745.out) hb)
           have n5_ := Aside0.mk (blk_below (g := gb750) (o := .cells #[.bool t746, .int .i64 t747, .int .i64 t748, .int .u64 t749] 36 (0, 0)) (by (with_reducible repeat (first | refine blk_drewN ?_ _ | refine blk_drew ?_ | refine blk_alloc ?_ _)); exact BK750.out) hb)
           have n6_ := Aside0.mk (below_step (by repeat (first | (with_reducible first | exact HB.out | apply below_alloc | apply pw_below_drewN | apply below_drew1 | refine below_set ?_ GE745.out | refine below_set ?_ GE750.out) | exact HB.out)) hb)
           clear HO758
           clear HO761
           clear HO764
           clear BK745
           clear BK750
           clear HB
           have HO758 := n0_
           have HO761 := n1_
           have HO764 := n2_
           have HO767 := n3_
           have BK745 := n4_
           have BK750 := n5_
           have HB := n6_
           clear n0_ n1_ n2_ n3_ n4_ n5_ n6_
           (try clear hb)
           (try clear hb2)
           (try clear hk)
           (try clear hi)
           (try clear ho0)
           obtain ⟨Ao88, co88, eo88⟩ := Kd.R_slice HO761.out
           (first | subst eo88 | (injection eo88 with f1_ f2_ f3_; have f4_ := f1_.symm; have f5_ := f3_.symm; clear f1_ f2_ f3_; subst f4_; subst f5_))
           obtain ⟨Ao89, co89, eo89⟩ := Kd.R_slice HO767.out
           (first | subst eo89 | (injection eo89 with f1_ f2_ f3_; have f4_ := f1_.symm; have f5_ := f3_.symm; clear f1_ f2_ f3_; subst f4_; subst f5_))
           refine hK.out _ _ ⟨(blk_cell BK745.out 0).trans rfl, (blk_cell BK745.out 1).trans rfl, (blk_cell BK745.out 2).trans rfl, (blk_cell BK745.out 3).trans rfl, (blk_cell BK750.out 0).trans rfl, (blk_cell BK750.out 1).trans rfl, (blk_cell BK750.out 2).trans rfl, (blk_cell BK750.out 3).trans rfl⟩ (fun hHeld => ?_)
           clear hK K
           refine norm_ (a' := ?_) ?_ ?_
           rotate_left
           ·show Act.put _ (some 71) _ = _
            simp only [Act.put, List.setIfInBounds_toArray, List.set_cons_zero, List.set_cons_succ, i64_w, i32_w]
            rfl
           refine one_ (i := 16) (N := some 72) #[true, true, true, true, true, true, true, true, true, true, true, true, true, true, true, true, true, false] rfl rfl (one_of HT_.out (by kernel_rfl)) (by decide) (fun K hK => ?_)
           refine goes_ Try.func57 (by kernel_rfl) rfl #[.agg #[.slice Ao88 t759.length co88], .agg #[.slice Ao89 t765.length co89]] (by rfl) rfl rfl (by (try simp only [List.map_toArray, List.map_cons, List.map_nil]); first | done | rfl | (simp only [List.length_drop, List.length_take]; rfl)) ?_
           with_reducible refine (trunnionref01_Cmp.calls kj46 _ _ t759 _ _ t765 t768 _ ?side1 ?side2 ?side3 ?side4 A76.out).mono ?_
           (case side1 => repeat (first | exact (Kd.R_reads' HO761.out).2.2 | (with_reducible refine Kd.C_alloc ?_ _) | (with_reducible refine Kd.C_drewN ?_ _) | (with_reducible refine Kd.C_drew ?_)))
           (case side2 => exact (Kd.R_reads' HO761.out).2.1)
           (case side3 => repeat (first | exact (Kd.R_reads' HO767.out).2.2 | (with_reducible refine Kd.C_alloc ?_ _) | (with_reducible refine Kd.C_drewN ?_ _) | (with_reducible refine Kd.C_drew ?_)))
           (case side4 => exact (Kd.R_reads' HO767.out).2.1)
           rintro e w90 ⟨rfl, hb⟩
           refine ⟨_, rfl, ?_⟩
           have n0_ := Aside0.mk (Kd.R_below (by (with_reducible repeat (first | apply Kd.R_alloc | apply Kd.R_drewN | apply Kd.R_drew)); exact HO758.out) hb)
           have n1_ := Aside0.mk (Kd.R_below (by (with_reducible repeat (first | apply Kd.R_alloc | apply Kd.R_drewN | apply Kd.R_drew)); exact HO761.out) hb)
           have n2_ := Aside0.mk (Kd.R_below (by (with_reducible repeat (first | apply Kd.R_alloc | apply Kd.R_drewN | apply Kd.R_drew)); exact HO764.out) hb)
           have n3_ := Aside0.mk (Kd.R_below (by (with_reducible repeat (first | apply Kd.R_alloc | apply Kd.R_drewN | apply Kd.R_drew)); exact HO767.out) hb)
           have n4_ := Aside0.mk (blk_below (g := gb745) (o := .cells #[.bool true, .int .i64 t742, .int .i64 t743, .int .u64 t744] 36 (0, 0)) (by (with_reducible repeat (first | refine blk_drewN ?_ _ | refine blk_drew ?_ | refine blk_alloc ?_ _)); exact BK745.out) hb)
           have n5_ := Aside0.mk (blk_below (g := gb750) (o := .cells #[.bool t746, .int .i64 t747, .int .i64 t748, .int .u64 t749] 36 (0, 0)) (by (with_reducible repeat (first | refine blk_drewN ?_ _ | refine blk_drew ?_ | refine blk_alloc ?_ _)); exact BK750.out) hb)
           have n6_ := Aside0.mk (below_step (by repeat (first | (with_reducible first | exact HB.out | apply below_alloc | apply pw_below_drewN | apply below_drew1 | refine below_set ?_ GE745.out | refine below_set ?_ GE750.out) | exact HB.out)) hb)
           clear HO758
           clear HO761
           clear HO764
           clear HO767
           clear BK745
           clear BK750
           clear HB
           have HO758 := n0_
           have HO761 := n1_
           have HO764 := n2_
           have HO767 := n3_
           have BK745 := n4_
           have BK750 := n5_
           have HB := n6_
           clear n0_ n1_ n2_ n3_ n4_ n5_ n6_
           (try clear hb)
           (try clear hb2)
           (try clear hk)
           (try clear hi)
           refine hK.out _ _ ⟨(blk_cell BK745.out 0).trans rfl, (blk_cell BK745.out 1).trans rfl, (blk_cell BK745.out 2).trans rfl, (blk_cell BK745.out 3).trans rfl, (blk_cell BK750.out 0).trans rfl, (blk_cell BK750.out 1).trans rfl, (blk_cell BK750.out 2).trans rfl, (blk_cell BK750.out 3).trans rfl⟩ (fun hHeld => ?_)
           clear hK K
           refine norm_ (a' := ?_) ?_ ?_
           rotate_left
           ·show Act.put _ (some 72) _ = _
            simp only [Act.put, List.setIfInBounds_toArray, List.set_cons_zero, List.set_cons_succ, i64_w, i32_w]
            rfl
           refine pure_ (i := 17) (N := some 9) (v := ?_) (a' := ?_) #[true, true, true, true, true, true, true, true, true, true, true, true, true, true, true, true, true, true] rfl rfl (any_of HT_.out (by kernel_rfl)) (fun _ _ _ h => h) (Or.inl ⟨by rfl, ?_⟩) ?_ ?_
           rotate_left
           ·intro w'
            go_simp
            with_reducible rfl
           rotate_left
           ·simp only [Act.put, List.setIfInBounds_toArray, List.set_cons_zero, List.set_cons_succ, i64_w, i32_w]
            rfl
           refine done_ (done_of HT_.out (by kernel_rfl)) ?_
           have hcz91_0 : w90.cell? ⟨gb745, 0, none⟩ = some (.bool true) := (blk_cell BK745.out 0).trans rfl
           have hcz91_1 : w90.cell? ⟨gb745, 1, none⟩ = some (.int .i64 t742) := (blk_cell BK745.out 1).trans rfl
           have hcz91_2 : w90.cell? ⟨gb745, 2, none⟩ = some (.int .i64 t743) := (blk_cell BK745.out 2).trans rfl
           have hcz91_3 : w90.cell? ⟨gb745, 3, none⟩ = some (.int .u64 t744) := (blk_cell BK745.out 3).trans rfl
           have hfz91_0 := blk_frozen BK745.out 0
           have hfz91_1 := blk_frozen BK745.out 1
           have hfz91_2 := blk_frozen BK745.out 2
           have hfz91_3 := blk_frozen BK745.out 3
           try go_wp2
           go_ret
           exact ⟨by first | rfl | (simp [errW_none, errW_some] <;> rfl) | (simp only [← hji71]; first | rfl | (simp [errW_none, errW_some] <;> rfl)) | (simp [*, errW_none, errW_some] <;> rfl), by repeat (first | (with_reducible first | exact HB.out | apply below_alloc | apply pw_below_drewN | apply below_drew1 | refine below_set ?_ GE745.out | refine below_set ?_ GE750.out) | exact HB.out)⟩
          ·replace c77 := Bool.eq_false_iff.mpr c77
           subst c77
           have H1 : (some t768) = some r := by rw [if_neg (show ¬ (false = true) by decide)] at H; exact H
           clear H
           have H := H1
           clear H1
           obtain rfl := Option.some.inj H
           have hnb92 := NB745_750.out
           have hnc92 := NB750_745.out
           have hcz93_0 : wc.cell? ⟨gb745, 0, none⟩ = some (.bool false) := (blk_cell BK745.out 0).trans rfl
           have hcz93_1 : wc.cell? ⟨gb745, 1, none⟩ = some (.int .i64 t742) := (blk_cell BK745.out 1).trans rfl
           have hcz93_2 : wc.cell? ⟨gb745, 2, none⟩ = some (.int .i64 t743) := (blk_cell BK745.out 2).trans rfl
           have hcz93_3 : wc.cell? ⟨gb745, 3, none⟩ = some (.int .u64 t744) := (blk_cell BK745.out 3).trans rfl
           have hfz93_0 := blk_frozen BK745.out 0
           have hfz93_1 := blk_frozen BK745.out 1
           have hfz93_2 := blk_frozen BK745.out 2
           have hfz93_3 := blk_frozen BK745.out 3
           have hcz94_0 : wc.cell? ⟨gb750, 0, none⟩ = some (.bool t746) := (blk_cell BK750.out 0).trans rfl
           have hcz94_1 : wc.cell? ⟨gb750, 1, none⟩ = some (.int .i64 t747) := (blk_cell BK750.out 1).trans rfl
           have hcz94_2 : wc.cell? ⟨gb750, 2, none⟩ = some (.int .i64 t748) := (blk_cell BK750.out 2).trans rfl
           have hcz94_3 : wc.cell? ⟨gb750, 3, none⟩ = some (.int .u64 t749) := (blk_cell BK750.out 3).trans rfl
           have hfz94_0 := blk_frozen BK750.out 0
           have hfz94_1 := blk_frozen BK750.out 1
           have hfz94_2 := blk_frozen BK750.out 2
           have hfz94_3 := blk_frozen BK750.out 3
           try go_wp2
           have n0_ := Aside0.mk (blk_drew BK745.out)
           have n1_ := Aside0.mk (blk_drew BK750.out)
           have n2_ := Aside0.mk (below_drew1 HB.out)
           clear BK745
           clear BK750
           clear HB
           have BK745 := n0_
           have BK750 := n1_
           have HB := n2_
           clear n0_ n1_ n2_
           refine start_ (n := 18) (S := fun w' => w'.cell? ⟨gb745, 0, none⟩ = some (.bool false) ∧ w'.cell? ⟨gb745, 1, none⟩ = some (.int .i64 t742) ∧ w'.cell? ⟨gb745, 2, none⟩ = some (.int .i64 t743) ∧ w'.cell? ⟨gb745, 3, none⟩ = some (.int .u64 t744) ∧ w'.cell? ⟨gb750, 0, none⟩ = some (.bool t746) ∧ w'.cell? ⟨gb750, 1, none⟩ = some (.int .i64 t747) ∧ w'.cell? ⟨gb750, 2, none⟩ = some (.int .i64 t748) ∧ w'.cell? ⟨gb750, 3, none⟩ = some (.int .u64 t749)) (ds := []) #[false, false, false, false, false, false, false, false, false, false, false, false, false, false, false, false, false, false] (by kernel_rfl) rfl rfl ⟨(blk_cell BK745.out 0).trans rfl, (blk_cell BK745.out 1).trans rfl, (blk_cell BK745.out 2).trans rfl, (blk_cell BK745.out 3).trans rfl, (blk_cell BK750.out 0).trans rfl, (blk_cell BK750.out 1).trans rfl, (blk_cell BK750.out 2).trans rfl, (blk_cell BK750.out 3).trans rfl⟩ (fun hHeld => ?_); refine with_tabW trunnionref08_Cmp.tab15 trunnionref08_Cmp.bits15 (fun HT_ HW_ => ?_)
           generalize wc.drew = w95 at BK745 BK750 HB hHeld ⊢
           refine pure_ (i := 0) (N := some 56) (v := ?_) (a' := ?_) #[true, false, false, false, false, false, false, false, false, false, false, false, false, false, false, false, false, false] rfl rfl (any_of HT_.out (by kernel_rfl)) (fun _ _ _ h => h) (Or.inl ⟨by rfl, ?_⟩) ?_ ?_
           rotate_left
           ·intro w'
            go_simp
            with_reducible rfl
           rotate_left
           ·simp only [Act.put, List.setIfInBounds_toArray, List.set_cons_zero, List.set_cons_succ, i64_w, i32_w]
            rfl
           refine pure_ (i := 3) (N := some 59) (v := ?_) (a' := ?_) #[true, false, false, true, false, false, false, false, false, false, false, false, false, false, false, false, false, false] rfl rfl (any_of HT_.out (by kernel_rfl)) (fun _ _ _ h => h) (Or.inl ⟨by rfl, ?_⟩) ?_ ?_
           rotate_left
           ·intro w'
            go_simp
            with_reducible rfl
           rotate_left
           ·simp only [Act.put, List.setIfInBounds_toArray, List.set_cons_zero, List.set_cons_succ, i64_w, i32_w]
            rfl
           refine pure_ (i := 5) (N := some 61) (v := ?_) (a' := ?_) #[true, false, false, true, false, true, false, false, false, false, false, false, false, false, false, false, false, false] rfl rfl (any_of HT_.out (by kernel_rfl)) (fun _ _ _ h => h) (Or.inl ⟨by rfl, ?_⟩) ?_ ?_
           rotate_left
           ·intro w'
            go_simp
            with_reducible rfl
           rotate_left
           ·simp only [Act.put, List.setIfInBounds_toArray, List.set_cons_zero, List.set_cons_succ, i64_w, i32_w]
            rfl
           refine pure_ (i := 8) (N := some 64) (v := ?_) (a' := ?_) #[true, false, false, true, false, true, false, false, true, false, false, false, false, false, false, false, false, false] rfl rfl (any_of HT_.out (by kernel_rfl)) (fun _ _ _ h => h) (Or.inl ⟨by rfl, ?_⟩) ?_ ?_
           rotate_left
           ·intro w'
            go_simp
            with_reducible rfl
           rotate_left
           ·simp only [Act.put, List.setIfInBounds_toArray, List.set_cons_zero, List.set_cons_succ, i64_w, i32_w]
            rfl
           refine pure_ (i := 11) (N := some 67) (v := ?_) (a' := ?_) #[true, false, false, true, false, true, false, false, true, false, false, true, false, false, false, false, false, false] rfl rfl (any_of HT_.out (by kernel_rfl)) (fun _ _ _ h => h) (Or.inl ⟨by rfl, ?_⟩) ?_ ?_
           rotate_left
           ·intro w'
            go_simp
            with_reducible rfl
           rotate_left
           ·simp only [Act.put, List.setIfInBounds_toArray, List.set_cons_zero, List.set_cons_succ, i64_w, i32_w]
            rfl
           refine pure_ (i := 13) (N := some 69) (v := ?_) (a' := ?_) #[true, false, false, true, false, true, false, false, true, false, false, true, false, true, false, false, false, false] rfl rfl (any_of HT_.out (by kernel_rfl)) (fun _ _ _ h => h) (Or.inl ⟨by rfl, ?_⟩) ?_ ?_
           rotate_left
           ·intro w'
            go_simp
            with_reducible rfl
           rotate_left
           ·simp only [Act.put, List.setIfInBounds_toArray, List.set_cons_zero, List.set_cons_succ, i64_w, i32_w]
            rfl
           refine take_ (i := 1) (N := some 57) (v := ?_) (a' := ?_) #[true, true, false, true, false, true, false, false, true, false, false, true, false, true, false, false, false, false] rfl rfl (take_ofW HT_.out HW_.out (by kernel_rfl)) (fun _ _ _ h => h) (Or.inl ⟨by rfl, ?_⟩) hHeld ?_ ?_
           rotate_left
           ·rintro w' ⟨s0, s1, s2, s3, s4, s5, s6, s7⟩
            go_simp
            with_reducible rfl
           rotate_left
           ·simp only [Act.put, List.setIfInBounds_toArray, List.set_cons_zero, List.set_cons_succ, i64_w, i32_w]
            rfl
           refine take_ (i := 4) (N := some 60) (v := ?_) (a' := ?_) #[true, true, false, true, true, true, false, false, true, false, false, true, false, true, false, false, false, false] rfl rfl (take_ofW HT_.out HW_.out (by kernel_rfl)) (fun _ _ _ h => h) (Or.inl ⟨by rfl, ?_⟩) hHeld ?_ ?_
           rotate_left
           ·rintro w' ⟨s0, s1, s2, s3, s4, s5, s6, s7⟩
            go_simp
            with_reducible rfl
           rotate_left
           ·simp only [Act.put, List.setIfInBounds_toArray, List.set_cons_zero, List.set_cons_succ, i64_w, i32_w]
            rfl
           refine pure_ (i := 6) (N := some 62) (v := ?_) (a' := ?_) #[true, true, false, true, true, true, true, false, true, false, false, true, false, true, false, false, false, false] rfl rfl (any_of HT_.out (by kernel_rfl)) (fun _ _ _ h => h) (Or.inl ⟨by rfl, ?_⟩) ?_ ?_
           rotate_left
           ·intro w'
            go_simp
            with_reducible rfl
           rotate_left
           ·simp only [Act.put, List.setIfInBounds_toArray, List.set_cons_zero, List.set_cons_succ, i64_w, i32_w]
            rfl
           refine take_ (i := 9) (N := some 65) (v := ?_) (a' := ?_) #[true, true, false, true, true, true, true, false, true, true, false, true, false, true, false, false, false, false] rfl rfl (take_ofW HT_.out HW_.out (by kernel_rfl)) (fun _ _ _ h => h) (Or.inl ⟨by rfl, ?_⟩) hHeld ?_ ?_
           rotate_left
           ·rintro w' ⟨s0, s1, s2, s3, s4, s5, s6, s7⟩
            go_simp
            with_reducible rfl
           rotate_left
           ·simp only [Act.put, List.setIfInBounds_toArray, List.set_cons_zero, List.set_cons_succ, i64_w, i32_w]
            rfl
           refine take_ (i := 12) (N := some 68) (v := ?_) (a' := ?_) #[true, true, false, true, true, true, true, false, true, true, false, true, true, true, false, false, false, false] rfl rfl (take_ofW HT_.out HW_.out (by kernel_rfl)) (fun _ _ _ h => h) (Or.inl ⟨by rfl, ?_⟩) hHeld ?_ ?_
           rotate_left
           ·rintro w' ⟨s0, s1, s2, s3, s4, s5, s6, s7⟩
            go_simp
            with_reducible rfl
           rotate_left
           ·simp only [Act.put, List.setIfInBounds_toArray, List.set_cons_zero, List.set_cons_succ, i64_w, i32_w]
            rfl
           refine pure_ (i := 14) (N := some 70) (v := ?_) (a' := ?_) #[true, true, false, true, true, true, true, false, true, true, false, true, true, true, true, false, false, false] rfl rfl (any_of HT_.out (by kernel_rfl)) (fun _ _ _ h => h) (Or.inl ⟨by rfl, ?_⟩) ?_ ?_
           rotate_left
           ·intro w'
            go_simp
            with_reducible rfl
           rotate_left
           ·simp only [Act.put, List.setIfInBounds_toArray, List.set_cons_zero, List.set_cons_succ, i64_w, i32_w]
            rfl
           refine one_ (i := 2) (N := some 58) #[true, true, true, true, true, true, true, false, true, true, false, true, true, true, true, false, false, false] rfl rfl (one_of HT_.out (by kernel_rfl)) (by decide) (fun K hK => ?_)
           refine goes_ Try.func88 (by kernel_rfl) rfl #[.int .u64 t744] (by rfl) rfl rfl (by (try simp only [List.map_toArray, List.map_cons, List.map_nil]); first | done | rfl | (simp only [List.length_drop, List.length_take]; rfl)) ?_
           with_reducible refine (trunnionref01_Of.calls kj46 t744 t756 _ A72.out).mono ?_
           rintro e w96 ⟨v757, rfl, ho0, hb⟩
           refine ⟨_, rfl, ?_⟩
           have n0_ := Aside0.mk (Kd.R_lower ho0 (below_size (by repeat (first | (with_reducible first | exact HB.out | apply below_alloc | apply pw_below_drewN | apply below_drew1 | refine below_set ?_ GE745.out | refine below_set ?_ GE750.out) | exact HB.out))))
           have n1_ := Aside0.mk (blk_below (g := gb745) (o := .cells #[.bool false, .int .i64 t742, .int .i64 t743, .int .u64 t744] 36 (0, 0)) (by (with_reducible repeat (first | refine blk_drewN ?_ _ | refine blk_drew ?_ | refine blk_alloc ?_ _)); exact BK745.out) hb)
           have n2_ := Aside0.mk (blk_below (g := gb750) (o := .cells #[.bool t746, .int .i64 t747, .int .i64 t748, .int .u64 t749] 36 (0, 0)) (by (with_reducible repeat (first | refine blk_drewN ?_ _ | refine blk_drew ?_ | refine blk_alloc ?_ _)); exact BK750.out) hb)
           have n3_ := Aside0.mk (below_step (by repeat (first | (with_reducible first | exact HB.out | apply below_alloc | apply pw_below_drewN | apply below_drew1 | refine below_set ?_ GE745.out | refine below_set ?_ GE750.out) | exact HB.out)) hb)
           clear BK745
           clear BK750
           clear HB
           have HO758 := n0_
           have BK745 := n1_
           have BK750 := n2_
           have HB := n3_
           clear n0_ n1_ n2_ n3_
           (try clear hb)
           (try clear hb2)
           (try clear hk)
           (try clear hi)
           (try clear ho0)
           obtain ⟨Ao97, co97, eo97⟩ := Kd.R_slice HO758.out
           (first | subst eo97 | (injection eo97 with f1_ f2_ f3_; have f4_ := f1_.symm; have f5_ := f3_.symm; clear f1_ f2_ f3_; subst f4_; subst f5_))
           refine hK.out _ _ ⟨(blk_cell BK745.out 0).trans rfl, (blk_cell BK745.out 1).trans rfl, (blk_cell BK745.out 2).trans rfl, (blk_cell BK745.out 3).trans rfl, (blk_cell BK750.out 0).trans rfl, (blk_cell BK750.out 1).trans rfl, (blk_cell BK750.out 2).trans rfl, (blk_cell BK750.out 3).trans rfl⟩ (fun hHeld => ?_)
           clear hK K
           refine norm_ (a' := ?_) ?_ ?_
           rotate_left
           ·show Act.put _ (some 58) _ = _
            simp only [Act.put, List.setIfInBounds_toArray, List.set_cons_zero, List.set_cons_succ, i64_w, i32_w]
            rfl
           refine one_ (i := 7) (N := some 63) #[true, true, true, true, true, true, true, true, true, true, false, true, true, true, true, false, false, false] rfl rfl (one_of HT_.out (by kernel_rfl)) (by decide) (fun K hK => ?_)
           refine goes_ Try.func82 (by kernel_rfl) rfl #[.agg #[.slice Ao97 t756.length co97], .int .i64 (wrap64 (t743 - (ji71)))] (by rfl) rfl rfl (by (try simp only [List.map_toArray, List.map_cons, List.map_nil]); first | done | (simp only [hji71]; rfl) | rfl | (simp only [List.length_drop, List.length_take]; rfl)) ?_
           with_reducible refine (trunnionref01_Shl.calls kj46 _ _ t756 (wrap64 (t743 - (ji71))) t759 _ ?side1 ?side2 A73.out).mono ?_
           (case side1 => repeat (first | exact (Kd.R_reads' HO758.out).2.2 | (with_reducible refine Kd.C_alloc ?_ _) | (with_reducible refine Kd.C_drewN ?_ _) | (with_reducible refine Kd.C_drew ?_)))
           (case side2 => exact (Kd.R_reads' HO758.out).2.1)
           rintro e w98 ⟨v760, rfl, ho0, hb⟩
           refine ⟨_, rfl, ?_⟩
           have n0_ := Aside0.mk (Kd.R_elder' (by (with_reducible repeat (first | apply Kd.R_alloc | apply Kd.R_drewN | apply Kd.R_drew)); exact HO758.out) (Kd.R_base ho0) hb)
           have n1_ := Aside0.mk (Kd.R_lower (Kd.R_new' ho0 (Kd.R_lt (by (with_reducible repeat (first | apply Kd.R_alloc | apply Kd.R_drewN | apply Kd.R_drew)); exact HO758.out))) (below_size (by repeat (first | (with_reducible first | exact HB.out | apply below_alloc | apply pw_below_drewN | apply below_drew1 | refine below_set ?_ GE745.out | refine below_set ?_ GE750.out) | exact HB.out))))
           have n2_ := Aside0.mk (blk_below (g := gb745) (o := .cells #[.bool false, .int .i64 t742, .int .i64 t743, .int .u64 t744] 36 (0, 0)) (by (with_reducible repeat (first | refine blk_drewN ?_ _ | refine blk_drew ?_ | refine blk_alloc ?_ _)); exact BK745.out) hb)
           have n3_ := Aside0.mk (blk_below (g := gb750) (o := .cells #[.bool t746, .int .i64 t747, .int .i64 t748, .int .u64 t749] 36 (0, 0)) (by (with_reducible repeat (first | refine blk_drewN ?_ _ | refine blk_drew ?_ | refine blk_alloc ?_ _)); exact BK750.out) hb)
           have n4_ := Aside0.mk (below_step (by repeat (first | (with_reducible first | exact HB.out | apply below_alloc | apply pw_below_drewN | apply below_drew1 | refine below_set ?_ GE745.out | refine below_set ?_ GE750.out) | exact HB.out)) hb)
           clear HO758
           clear BK745
           clear BK750
           clear HB
           have HO758 := n0_
           have HO761 := n1_
           have BK745 := n2_
           have BK750 := n3_
           have HB := n4_
           clear n0_ n1_ n2_ n3_ n4_
           (try clear hb)
           (try clear hb2)
           (try clear hk)
           (try clear hi)
           (try clear ho0)
           refine hK.out _ _ ⟨(blk_cell BK745.out 0).trans rfl, (blk_cell BK745.out 1).trans rfl, (blk_cell BK745.out 2).trans rfl, (blk_cell BK745.out 3).trans rfl, (blk_cell BK750.out 0).trans rfl, (blk_cell BK750.out 1).trans rfl, (blk_cell BK750.out 2).trans rfl, (blk_cell BK750.out 3).trans rfl⟩ (fun hHeld => ?_)
           clear hK K
           refine norm_ (a' := ?_) ?_ ?_
           rotate_left
           ·show Act.put _ (some 63) _ = _
            simp only [Act.put, List.setIfInBounds_toArray, List.set_cons_zero, List.set_cons_succ, i64_w, i32_w]
            rfl
           refine one_ (i := 10) (N := some 66) #[true, true, true, true, true, true, true, true, true, true, true, true, true, true, true, false, false, false] rfl rfl (one_of HT_.out (by kernel_rfl)) (by decide) (fun K hK => ?_)
           refine goes_ Try.func88 (by kernel_rfl) rfl #[.int .u64 t749] (by rfl) rfl rfl (by (try simp only [List.map_toArray, List.map_cons, List.map_nil]); first | done | rfl | (simp only [List.length_drop, List.length_take]; rfl)) ?_
           with_reducible refine (trunnionref01_Of.calls kj46 t749 t762 _ A74.out).mono ?_
           rintro e w99 ⟨v763, rfl, ho0, hb⟩
           refine ⟨_, rfl, ?_⟩
           have n0_ := Aside0.mk (Kd.R_elder' (by (with_reducible repeat (first | apply Kd.R_alloc | apply Kd.R_drewN | apply Kd.R_drew)); exact HO758.out) (Kd.R_base ho0) hb)
           have n1_ := Aside0.mk (Kd.R_elder' (by (with_reducible repeat (first | apply Kd.R_alloc | apply Kd.R_drewN | apply Kd.R_drew)); exact HO761.out) (Kd.R_base ho0) hb)
           have n2_ := Aside0.mk (Kd.R_lower (Kd.R_new' (Kd.R_new' ho0 (Kd.R_lt (by (with_reducible repeat (first | apply Kd.R_alloc | apply Kd.R_drewN | apply Kd.R_drew)); exact HO758.out))) (Kd.R_lt (by (with_reducible repeat (first | apply Kd.R_alloc | apply Kd.R_drewN | apply Kd.R_drew)); exact HO761.out))) (below_size (by repeat (first | (with_reducible first | exact HB.out | apply below_alloc | apply pw_below_drewN | apply below_drew1 | refine below_set ?_ GE745.out | refine below_set ?_ GE750.out) | exact HB.out))))
           have n3_ := Aside0.mk (blk_below (g := gb745) (o := .cells #[.bool false, .int .i64 t742, .int .i64 t743, .int .u64 t744] 36 (0, 0)) (by (with_reducible repeat (first | refine blk_drewN ?_ _ | refine blk_drew ?_ | refine blk_alloc ?_ _)); exact BK745.out) hb)
           have n4_ := Aside0.mk (blk_below (g := gb750) (o := .cells #[.bool t746, .int .i64 t747, .int .i64 t748, .int .u64 t749] 36 (0, 0)) (by (with_reducible repeat (first | refine blk_drewN ?_ _ | refine blk_drew ?_ | refine blk_alloc ?_ _)); exact BK750.out) hb)
           have n5_ := Aside0.mk (below_step (by repeat (first | (with_reducible first | exact HB.out | apply below_alloc | apply pw_below_drewN | apply below_drew1 | refine below_set ?_ GE745.out | refine below_set ?_ GE750.out) | exact HB.out)) hb)
           clear HO758
           clear HO761
           clear BK745
           clear BK750
           clear HB
           have HO758 := n0_
           have HO761 := n1_
           have HO764 := n2_
           have BK745 := n3_
           have BK750 := n4_
           have HB := n5_
           clear n0_ n1_ n2_ n3_ n4_ n5_
           (try clear hb)
           (try clear hb2)
           (try clear hk)
           (try clear hi)
           (try clear ho0)
           obtain ⟨Ao100, co100, eo100⟩ := Kd.R_slice HO764.out
           (first | subst eo100 | (injection eo100 with f1_ f2_ f3_; have f4_ := f1_.symm; have f5_ := f3_.symm; clear f1_ f2_ f3_; subst f4_; subst f5_))
           refine hK.out _ _ ⟨(blk_cell BK745.out 0).trans rfl, (blk_cell BK745.out 1).trans rfl, (blk_cell BK745.out 2).trans rfl, (blk_cell BK745.out 3).trans rfl, (blk_cell BK750.out 0).trans rfl, (blk_cell BK750.out 1).trans rfl, (blk_cell BK750.out 2).trans rfl, (blk_cell BK750.out 3).trans rfl⟩ (fun hHeld => ?_)
           clear hK K
           refine norm_ (a' := ?_) ?_ ?_
           rotate_left
           ·show Act.put _ (some 66) _ = _
            simp only [Act.put, List.setIfInBounds_toArray, List.set_cons_zero, List.set_cons_succ, i64_w, i32_w]
            rfl
           refine one_ (i := 15) (N := some 71) #[true, true, true, true, true, true, true, true, true, true, true, true, true, true, true, true, false, false] rfl rfl (one_of HT_.out (by kernel_rfl)) (by decide) (fun K hK => ?_)
           refine goes_ Try.func82 (by kernel_rfl) rfl #[.agg #[.slice Ao100 t762.length co100], .int .i64 (wrap64 (t748 - (ji71)))] (by rfl) rfl rfl (by (try simp only [List.map_toArray, List.map_cons, List.map_nil]); first | done | (simp only [hji71]; rfl) | rfl | (simp only [List.length_drop, List.length_take]; rfl)) ?_
           with_reducible refine (trunnionref01_Shl.calls kj46 _ _ t762 (wrap64 (t748 - (ji71))) t765 _ ?side1 ?side2 A75.out).mono ?_
           (case side1 => repeat (first | exact (Kd.R_reads' HO764.out).2.2 | (with_reducible refine Kd.C_alloc ?_ _) | (with_reducible refine Kd.C_drewN ?_ _) | (with_reducible refine Kd.C_drew ?_)))
           (case side2 => exact (Kd.R_reads' HO764.out).2.1)
           rintro e w101 ⟨v766, rfl, ho0, hb⟩
           refine ⟨_, rfl, ?_⟩
           have n0_ := Aside0.mk (Kd.R_elder' (by (with_reducible repeat (first | apply Kd.R_alloc | apply Kd.R_drewN | apply Kd.R_drew)); exact HO758.out) (Kd.R_base ho0) hb)
           have n1_ := Aside0.mk (Kd.R_elder' (by (with_reducible repeat (first | apply Kd.R_alloc | apply Kd.R_drewN | apply Kd.R_drew)); exact HO761.out) (Kd.R_base ho0) hb)
           have n2_ := Aside0.mk (Kd.R_elder' (by (with_reducible repeat (first | apply Kd.R_alloc | apply Kd.R_drewN | apply Kd.R_drew)); exact HO764.out) (Kd.R_base ho0) hb)
           have n3_ := Aside0.mk (Kd.R_lower (Kd.R_new' (Kd.R_new' (Kd.R_new' ho0 (Kd.R_lt (by (with_reducible repeat (first | apply Kd.R_alloc | apply Kd.R_drewN | apply Kd.R_drew)); exact HO758.out))) (Kd.R_lt (by (with_reducible repeat (first | apply Kd.R_alloc | apply Kd.R_drewN | apply Kd.R_drew)); exact HO761.out))) (Kd.R_lt (by (with_reducible repeat (first | apply Kd.R_alloc | apply Kd.R_drewN | apply Kd.R_drew)); exact HO764.out))) (below_size (by repeat (first | (with_reducible first | exact HB.out | apply below_alloc | apply pw_below_drewN | apply below_drew1 | refine below_set ?_ GE745.out | refine below_set ?_ GE750.out) | exact HB.out))))
           have n4_ := Aside0.mk (blk_below (g := gb745) (o := .cells #[.bool false, .int .i64 t742, .int .i64 t743, .int .u64 t744] 36 (0, 0)) (by (with_reducible repeat (first | refine blk_drewN ?_ _ | refine blk_drew ?_ | refine blk_alloc ?_ _)); exact BK745.out) hb)
           have n5_ := Aside0.mk (blk_below (g := gb750) (o := .cells #[.bool t746, .int .i64 t747, .int .i64 t748, .int .u64 t749] 36 (0, 0)) (by (with_reducible repeat (first | refine blk_drewN ?_ _ | refine blk_drew ?_ | refine blk_alloc ?_ _)); exact BK750.out) hb)
           have n6_ := Aside0.mk (below_step (by repeat (first | (with_reducible first | exact HB.out | apply below_alloc | apply pw_below_drewN | apply below_drew1 | refine below_set ?_ GE745.out | refine below_set ?_ GE750.out) | exact HB.out)) hb)
           clear HO758
           clear HO761
           clear HO764
           clear BK745
           clear BK750
           clear HB
           have HO758 := n0_
           have HO761 := n1_
           have HO764 := n2_
           have HO767 := n3_
           have BK745 := n4_
           have BK750 := n5_
           have HB := n6_
           clear n0_ n1_ n2_ n3_ n4_ n5_ n6_
           (try clear hb)
           (try clear hb2)
           (try clear hk)
           (try clear hi)
           (try clear ho0)
           obtain ⟨Ao102, co102, eo102⟩ := Kd.R_slice HO761.out
           (first | subst eo102 | (injection eo102 with f1_ f2_ f3_; have f4_ := f1_.symm; have f5_ := f3_.symm; clear f1_ f2_ f3_; subst f4_; subst f5_))
           obtain ⟨Ao103, co103, eo103⟩ := Kd.R_slice HO767.out
           (first | subst eo103 | (injection eo103 with f1_ f2_ f3_; have f4_ := f1_.symm; have f5_ := f3_.symm; clear f1_ f2_ f3_; subst f4_; subst f5_))
           refine hK.out _ _ ⟨(blk_cell BK745.out 0).trans rfl, (blk_cell BK745.out 1).trans rfl, (blk_cell BK745.out 2).trans rfl, (blk_cell BK745.out 3).trans rfl, (blk_cell BK750.out 0).trans rfl, (blk_cell BK750.out 1).trans rfl, (blk_cell BK750.out 2).trans rfl, (blk_cell BK750.out 3).trans rfl⟩ (fun hHeld => ?_)
           clear hK K
           refine norm_ (a' := ?_) ?_ ?_
           rotate_left
           ·show Act.put _ (some 71) _ = _
            simp only [Act.put, List.setIfInBounds_toArray, List.set_cons_zero, List.set_cons_succ, i64_w, i32_w]
            rfl
           refine one_ (i := 16) (N := some 72) #[true, true, true, true, true, true, true, true, true, true, true, true, true, true, true, true, true, false] rfl rfl (one_of HT_.out (by kernel_rfl)) (by decide) (fun K hK => ?_)
           refine goes_ Try.func57 (by kernel_rfl) rfl #[.agg #[.slice Ao102 t759.length co102], .agg #[.slice Ao103 t765.length co103]] (by rfl) rfl rfl (by (try simp only [List.map_toArray, List.map_cons, List.map_nil]); first | done | rfl | (simp only [List.length_drop, List.length_take]; rfl)) ?_
           with_reducible refine (trunnionref01_Cmp.calls kj46 _ _ t759 _ _ t765 t768 _ ?side1 ?side2 ?side3 ?side4 A76.out).mono ?_
           (case side1 => repeat (first | exact (Kd.R_reads' HO761.out).2.2 | (with_reducible refine Kd.C_alloc ?_ _) | (with_reducible refine Kd.C_drewN ?_ _) | (with_reducible refine Kd.C_drew ?_)))
           (case side2 => exact (Kd.R_reads' HO761.out).2.1)
           (case side3 => repeat (first | exact (Kd.R_reads' HO767.out).2.2 | (with_reducible refine Kd.C_alloc ?_ _) | (with_reducible refine Kd.C_drewN ?_ _) | (with_reducible refine Kd.C_drew ?_)))
           (case side4 => exact (Kd.R_reads' HO767.out).2.1)
           rintro e w104 ⟨rfl, hb⟩
           refine ⟨_, rfl, ?_⟩
           have n0_ := Aside0.mk (Kd.R_below (by (with_reducible repeat (first | apply Kd.R_alloc | apply Kd.R_drewN | apply Kd.R_drew)); exact HO758.out) hb)
           have n1_ := Aside0.mk (Kd.R_below (by (with_reducible repeat (first | apply Kd.R_alloc | apply Kd.R_drewN | apply Kd.R_drew)); exact HO761.out) hb)
           have n2_ := Aside0.mk (Kd.R_below (by (with_reducible repeat (first | apply Kd.R_alloc | apply Kd.R_drewN | apply Kd.R_drew)); exact HO764.out) hb)
           have n3_ := Aside0.mk (Kd.R_below (by (with_reducible repeat (first | apply Kd.R_alloc | apply Kd.R_drewN | apply Kd.R_drew)); exact HO767.out) hb)
           have n4_ := Aside0.mk (blk_below (g := gb745) (o := .cells #[.bool false, .int .i64 t742, .int .i64 t743, .int .u64 t744] 36 (0, 0)) (by (with_reducible repeat (first | refine blk_drewN ?_ _ | refine blk_drew ?_ | refine blk_alloc ?_ _)); exact BK745.out) hb)
           have n5_ := Aside0.mk (blk_below (g := gb750) (o := .cells #[.bool t746, .int .i64 t747, .int .i64 t748, .int .u64 t749] 36 (0, 0)) (by (with_reducible repeat (first | refine blk_drewN ?_ _ | refine blk_drew ?_ | refine blk_alloc ?_ _)); exact BK750.out) hb)
           have n6_ := Aside0.mk (below_step (by repeat (first | (with_reducible first | exact HB.out | apply below_alloc | apply pw_below_drewN | apply below_drew1 | refine below_set ?_ GE745.out | refine below_set ?_ GE750.out) | exact HB.out)) hb)
           clear HO758
           clear HO761
           clear HO764
           clear HO767
           clear BK745
           clear BK750
           clear HB
           have HO758 := n0_
           have HO761 := n1_
           have HO764 := n2_
           have HO767 := n3_
           have BK745 := n4_
           have BK750 := n5_
           have HB := n6_
           clear n0_ n1_ n2_ n3_ n4_ n5_ n6_
           (try clear hb)
           (try clear hb2)
           (try clear hk)
           (try clear hi)
           refine hK.out _ _ ⟨(blk_cell BK745.out 0).trans rfl, (blk_cell BK745.out 1).trans rfl, (blk_cell BK745.out 2).trans rfl, (blk_cell BK745.out 3).trans rfl, (blk_cell BK750.out 0).trans rfl, (blk_cell BK750.out 1).trans rfl, (blk_cell BK750.out 2).trans rfl, (blk_cell BK750.out 3).trans rfl⟩ (fun hHeld => ?_)
           clear hK K
           refine norm_ (a' := ?_) ?_ ?_
           rotate_left
           ·show Act.put _ (some 72) _ = _
            simp only [Act.put, List.setIfInBounds_toArray, List.set_cons_zero, List.set_cons_succ, i64_w, i32_w]
            rfl
           refine pure_ (i := 17) (N := some 9) (v := ?_) (a' := ?_) #[true, true, true, true, true, true, true, true, true, true, true, true, true, true, true, true, true, true] rfl rfl (any_of HT_.out (by kernel_rfl)) (fun _ _ _ h => h) (Or.inl ⟨by rfl, ?_⟩) ?_ ?_
           rotate_left
           ·intro w'
            go_simp
            with_reducible rfl
           rotate_left
           ·simp only [Act.put, List.setIfInBounds_toArray, List.set_cons_zero, List.set_cons_succ, i64_w, i32_w]
            rfl
           refine done_ (done_of HT_.out (by kernel_rfl)) ?_
           have hcz105_0 : w104.cell? ⟨gb745, 0, none⟩ = some (.bool false) := (blk_cell BK745.out 0).trans rfl
           have hcz105_1 : w104.cell? ⟨gb745, 1, none⟩ = some (.int .i64 t742) := (blk_cell BK745.out 1).trans rfl
           have hcz105_2 : w104.cell? ⟨gb745, 2, none⟩ = some (.int .i64 t743) := (blk_cell BK745.out 2).trans rfl
           have hcz105_3 : w104.cell? ⟨gb745, 3, none⟩ = some (.int .u64 t744) := (blk_cell BK745.out 3).trans rfl
           have hfz105_0 := blk_frozen BK745.out 0
           have hfz105_1 := blk_frozen BK745.out 1
           have hfz105_2 := blk_frozen BK745.out 2
           have hfz105_3 := blk_frozen BK745.out 3
           try go_wp2
           go_ret
           exact ⟨by first | rfl | (simp [errW_none, errW_some] <;> rfl) | (simp only [← hji71]; first | rfl | (simp [errW_none, errW_some] <;> rfl)) | (simp [*, errW_none, errW_some] <;> rfl), by repeat (first | (with_reducible first | exact HB.out | apply below_alloc | apply pw_below_drewN | apply below_drew1 | refine below_set ?_ GE745.out | refine below_set ?_ GE750.out) | exact HB.out)⟩

end Go.Proofs.Ytmjfenbbgfohlaa.PA
