/- What the Go functions that the statement ShapeOpens reaches compute, and the mathematics on it, in the order in which one leans on the other; for every input. -/
import Derived.Test.YtmjfenbbgfohlaaMShapeOpens0
import Derived.Laws.BitsAllLaws
namespace Go.Proofs.Ytmjfenbbgfohlaa.PA
open Go.RowKit Go.Proofs.YtmjfenbbgfohlaaW.PrintWords Go.Proofs.YtmjfenbbgfohlaaW.PrintLast Go.Proofs.YtmjfenbbgfohlaaW.PrintMore
attribute [local go_sem] max2_int min2_int max_two min_two max_three min_three max_four min_four   -- for this text's walks alone
set_option linter.unusedVariables false
set_option linter.unusedSimpArgs false

/-! ### trunnionref02_Open: function 44 -/
def trunnionref02_Open.f (k : Nat) (a0 : Int) (a1 : Int) : Option (Bool × Int × Int × Int) := (trunnionref02_Exp.f k a0 a1).bind fun t350 => ((trunnionref02_Frac.f k a0 a1).bind fun t351 => ((trunnionref02_Neg.f k a0 a1).bind fun t352 => ((trunnionref02_Top.f k a0).bind fun t353 => (if t350 = t353 then (if t351 = 0 then (some (t352, 2, 0, 0)) else (some (false, 3, 0, 0))) else (if t350 = 0 then (if t351 = 0 then (some (t352, 0, 0, 0)) else ((trunnionref02_B.f a0).bind fun t354 => ((trunnionref02_F.f a0).bind fun t355 => (some (t352, 1, wrap64 ((wrap64 (1 - t354)) - t355), t351))))) else ((trunnionref02_B.f a0).bind fun t356 => ((trunnionref02_F.f a0).bind fun t357 => ((trunnionref02_F.f a0).bind fun t358 => ((trunnionref02_Two.f k t358).bind fun t359 => (some (t352, 1, wrap64 ((wrap64 (t350 - t356)) - t357), IntKind.u64.wrap (t359 + t351))))))))))))
theorem trunnionref02_Open.mono : ∀ a0 a1 k, LeO (trunnionref02_Open.f k a0 a1) (trunnionref02_Open.f (k + 1) a0 a1) := by
  intro a0 a1 k
  unfold trunnionref02_Open.f
  repeat' first
      | (with_reducible exact trunnionref02_Exp.mono _ _ _)
      | (with_reducible exact trunnionref02_Frac.mono _ _ _)
      | (with_reducible exact trunnionref02_Neg.mono _ _ _)
      | (with_reducible exact trunnionref02_Top.mono _ _)
      | (with_reducible exact trunnionref02_Two.mono _ _)
      | (with_reducible exact LeO.refl _)
      | (with_reducible exact LeO.none _)
      | (with_reducible refine LeO.ite ?_ ?_)
      | (with_reducible refine LeO.bind ?_ (fun _ => ?_))
      | exact trunnionref02_Exp.mono _ _ _
      | exact trunnionref02_Frac.mono _ _ _
      | exact trunnionref02_Neg.mono _ _ _
      | exact trunnionref02_Top.mono _ _
      | exact trunnionref02_Two.mono _ _
      | exact LeO.none _
      | refine LeO.ite ?_ ?_
      | refine LeO.bind ?_ (fun _ => ?_)
set_option maxHeartbeats 8000000 in
set_option maxRecDepth 100000 in
theorem trunnionref02_Open.calls (k : Nat) (a0 : Int) (a1 : Int) (r1 : Bool) (r2 : Int) (r3 : Int) (r4 : Int) (w : World) (h : trunnionref02_Open.f k a0 a1 = some (r1, r2, r3, r4)) :
    Calls Try.prog 44 #[.int .i64 a0, .int .u64 a1] w fun e w' => e = .returned (.agg #[.bool r1, .int .i64 r2, .int .i64 r3, .int .u64 r4]) ∧ Below w.heap.size w w' := by
  have hu36 := Try.underlying36
  have HB := Aside0.mk (Below.refl w.heap.size w)
  have H : ((trunnionref02_Exp.f k a0 a1).bind fun t350 => ((trunnionref02_Frac.f k a0 a1).bind fun t351 => ((trunnionref02_Neg.f k a0 a1).bind fun t352 => ((trunnionref02_Top.f k a0).bind fun t353 => (if t350 = t353 then (if t351 = 0 then (some (t352, 2, 0, 0)) else (some (false, 3, 0, 0))) else (if t350 = 0 then (if t351 = 0 then (some (t352, 0, 0, 0)) else ((trunnionref02_B.f a0).bind fun t354 => ((trunnionref02_F.f a0).bind fun t355 => (some (t352, 1, wrap64 ((wrap64 (1 - t354)) - t355), t351))))) else ((trunnionref02_B.f a0).bind fun t356 => ((trunnionref02_F.f a0).bind fun t357 => ((trunnionref02_F.f a0).bind fun t358 => ((trunnionref02_Two.f k t358).bind fun t359 => (some (t352, 1, wrap64 ((wrap64 (t350 - t356)) - t357), IntKind.u64.wrap (t359 + t351))))))))))))) = some (r1, r2, r3, r4) := h
  clear h
  replace H := Option.bind_eq_some_iff.mp H
  obtain ⟨t350, A30, H⟩ := H
  replace H : ((trunnionref02_Frac.f k a0 a1).bind fun t351 => ((trunnionref02_Neg.f k a0 a1).bind fun t352 => ((trunnionref02_Top.f k a0).bind fun t353 => (if t350 = t353 then (if t351 = 0 then (some (t352, 2, 0, 0)) else (some (false, 3, 0, 0))) else (if t350 = 0 then (if t351 = 0 then (some (t352, 0, 0, 0)) else ((trunnionref02_B.f a0).bind fun t354 => ((trunnionref02_F.f a0).bind fun t355 => (some (t352, 1, wrap64 ((wrap64 (1 - t354)) - t355), t351))))) else ((trunnionref02_B.f a0).bind fun t356 => ((trunnionref02_F.f a0).bind fun t357 => ((trunnionref02_F.f a0).bind fun t358 => ((trunnionref02_Two.f k t358).bind fun t359 => (some (t352, 1, wrap64 ((wrap64 (t350 - t356)) - t357), IntKind.u64.wrap (t359 + t351)))))))))))) = some (r1, r2, r3, r4) := H
  have A3 := Aside0.mk A30
  clear A30
  replace H := Option.bind_eq_some_iff.mp H
  obtain ⟨t351, A40, H⟩ := H
  replace H : ((trunnionref02_Neg.f k a0 a1).bind fun t352 => ((trunnionref02_Top.f k a0).bind fun t353 => (if t350 = t353 then (if t351 = 0 then (some (t352, 2, 0, 0)) else (some (false, 3, 0, 0))) else (if t350 = 0 then (if t351 = 0 then (some (t352, 0, 0, 0)) else ((trunnionref02_B.f a0).bind fun t354 => ((trunnionref02_F.f a0).bind fun t355 => (some (t352, 1, wrap64 ((wrap64 (1 - t354)) - t355), t351))))) else ((trunnionref02_B.f a0).bind fun t356 => ((trunnionref02_F.f a0).bind fun t357 => ((trunnionref02_F.f a0).bind fun t358 => ((trunnionref02_Two.f k t358).bind fun t359 => (some (t352, 1, wrap64 ((wrap64 (t350 - t356)) - t357), IntKind.u64.wrap (t359 + t351))))))))))) = some (r1, r2, r3, r4) := H
  have A4 := Aside0.mk A40
  clear A40
  replace H := Option.bind_eq_some_iff.mp H
  obtain ⟨t352, A50, H⟩ := H
  replace H : ((trunnionref02_Top.f k a0).bind fun t353 => (if t350 = t353 then (if t351 = 0 then (some (t352, 2, 0, 0)) else (some (false, 3, 0, 0))) else (if t350 = 0 then (if t351 = 0 then (some (t352, 0, 0, 0)) else ((trunnionref02_B.f a0).bind fun t354 => ((trunnionref02_F.f a0).bind fun t355 => (some (t352, 1, wrap64 ((wrap64 (1 - t354)) - t355), t351))))) else ((trunnionref02_B.f a0).bind fun t356 => ((trunnionref02_F.f a0).bind fun t357 => ((trunnionref02_F.f a0).bind fun t358 => ((trunnionref02_Two.f k t358).bind fun t359 => (some (t352, 1, wrap64 ((wrap64 (t350 - t356)) - t357), IntKind.u64.wrap (t359 + t351)))))))))) = some (r1, r2, r3, r4) := H
  have A5 := Aside0.mk A50
  clear A50
  replace H := Option.bind_eq_some_iff.mp H
  obtain ⟨t353, A60, H⟩ := H
  replace H : (if t350 = t353 then (if t351 = 0 then (some (t352, 2, 0, 0)) else (some (false, 3, 0, 0))) else (if t350 = 0 then (if t351 = 0 then (some (t352, 0, 0, 0)) else ((trunnionref02_B.f a0).bind fun t354 => ((trunnionref02_F.f a0).bind fun t355 => (some (t352, 1, wrap64 ((wrap64 (1 - t354)) - t355), t351))))) else ((trunnionref02_B.f a0).bind fun t356 => ((trunnionref02_F.f a0).bind fun t357 => ((trunnionref02_F.f a0).bind fun t358 => ((trunnionref02_Two.f k t358).bind fun t359 => (some (t352, 1, wrap64 ((wrap64 (t350 - t356)) - t357), IntKind.u64.wrap (t359 + t351))))))))) = some (r1, r2, r3, r4) := H
  have A6 := Aside0.mk A60
  clear A60
  by_cases c7 : t350 = t353
  · rw [if_pos c7] at H
    have c7b0 : (t350 == t353) = true := beq_iff_eq.mpr c7
    have c7b1 : (t350 != t353) = false := bne_eq_false_iff_eq.mpr c7
    clear c7
    by_cases c8 : t351 = 0
    · rw [if_pos c8] at H
      have c8b0 : (t351 == 0) = true := beq_iff_eq.mpr c8
      have c8b1 : (t351 != 0) = false := bne_eq_false_iff_eq.mpr c8
      clear c8
      simp only [Option.some.injEq, Prod.mk.injEq] at H
      obtain ⟨rfl, rfl, rfl, rfl⟩ := H
      go_enter Try.func44, Try.ntmps44
      go_wp2_with (first | ((with_reducible refine gate_dst (N := 4) rfl ?_); refine box_event ?hg (N := 4) ?hd (cs := #[.bool false, .int .i64 0, .int .i64 0, .int .u64 0]) (t := 36) ?hr ?_; (case hd => rfl); (case hg => rfl); (case hr => first | (go_simp; done) | (go_simp; rfl)); intro gb349 hg w9 hbox hb; have n0_ := Aside0.mk (below_step (by repeat (first | (with_reducible first | exact HB.out | apply below_alloc | apply pw_below_drewN | apply below_drew1) | exact HB.out)) hb); have n1_ := Aside0.mk (hbox); have n2_ := Aside0.mk ((by rw [hg]; exact (below_size (by repeat (first | (with_reducible first | exact HB.out | apply below_alloc | apply pw_below_drewN | apply below_drew1) | exact HB.out))) : w.heap.size ≤ gb349)); have n3_ := Aside0.mk ((by rw [hg]; exact (below_size (by repeat (first | (with_reducible first | exact HB.out | apply below_alloc | apply pw_below_drewN | apply below_drew1) | exact HB.out))) : w.heap.size ≤ gb349)); clear HB; have HB := n0_; have BK349 := n1_; have GW349 := n2_; have GE349 := n3_; clear n0_ n1_ n2_ n3_; clear hb hbox hg) | ((with_reducible refine gate_callee (f := 124) rfl ?_); refine goesL_ (some 10) rfl rfl Try.func124 (by kernel_rfl) rfl #[.int .i64 a0, .int .u64 a1] rfl (by (try simp only [List.map_toArray, List.map_cons, List.map_nil]); first | done | rfl | (simp only [List.length_drop, List.length_take]; rfl)) ?_; (with_reducible refine (trunnionref02_Exp.calls k a0 a1 t350 _ A3.out).mono ?_); rintro e w' ⟨rfl, ⟨nd, rfl⟩⟩; refine ⟨_, rfl, ?_⟩; (try (rw [drewN_self w9]; generalize hq_ : World.drewN w9 _ = w9; have n0_ : Aside0 (w9.heap[gb349]? = some (.cells #[.bool false, .int .i64 0, .int .i64 0, .int .u64 0] 36 (0, 0))) := ⟨by rw [← hq_]; exact (by (with_reducible repeat (first | refine blk_drewN ?_ _ | refine blk_drew ?_ | refine blk_alloc ?_ _)); exact BK349.out)⟩; have n1_ : Aside0 (Below w.heap.size w w9) := ⟨by rw [← hq_]; exact (by repeat (first | (with_reducible first | exact HB.out | apply below_alloc | apply pw_below_drewN | apply below_drew1 | refine below_set ?_ GE349.out) | exact HB.out))⟩; clear BK349 HB hq_; have BK349 := n0_; have HB := n1_; clear n0_ n1_))) | ((with_reducible refine gate_callee (f := 125) rfl ?_); refine goesL_ (some 13) rfl rfl Try.func125 (by kernel_rfl) rfl #[.int .i64 a0, .int .u64 a1] rfl (by (try simp only [List.map_toArray, List.map_cons, List.map_nil]); first | done | rfl | (simp only [List.length_drop, List.length_take]; rfl)) ?_; (with_reducible refine (trunnionref02_Frac.calls k a0 a1 t351 _ A4.out).mono ?_); rintro e w' ⟨rfl, ⟨nd, rfl⟩⟩; refine ⟨_, rfl, ?_⟩; (try (rw [drewN_self w9]; generalize hq_ : World.drewN w9 _ = w9; have n0_ : Aside0 (w9.heap[gb349]? = some (.cells #[.bool false, .int .i64 0, .int .i64 0, .int .u64 0] 36 (0, 0))) := ⟨by rw [← hq_]; exact (by (with_reducible repeat (first | refine blk_drewN ?_ _ | refine blk_drew ?_ | refine blk_alloc ?_ _)); exact BK349.out)⟩; have n1_ : Aside0 (Below w.heap.size w w9) := ⟨by rw [← hq_]; exact (by repeat (first | (with_reducible first | exact HB.out | apply below_alloc | apply pw_below_drewN | apply below_drew1 | refine below_set ?_ GE349.out) | exact HB.out))⟩; clear BK349 HB hq_; have BK349 := n0_; have HB := n1_; clear n0_ n1_))) | ((with_reducible refine gate_callee (f := 31) rfl ?_); refine goesL_ (some 16) rfl rfl Try.func31 (by kernel_rfl) rfl #[.int .i64 a0, .int .u64 a1] rfl (by (try simp only [List.map_toArray, List.map_cons, List.map_nil]); first | done | rfl | (simp only [List.length_drop, List.length_take]; rfl)) ?_; (with_reducible refine (trunnionref02_Neg.calls k a0 a1 t352 _ A5.out).mono ?_); rintro e w' ⟨rfl, ⟨nd, rfl⟩⟩; refine ⟨_, rfl, ?_⟩; (try (rw [drewN_self w9]; generalize hq_ : World.drewN w9 _ = w9; have n0_ : Aside0 (w9.heap[gb349]? = some (.cells #[.bool false, .int .i64 0, .int .i64 0, .int .u64 0] 36 (0, 0))) := ⟨by rw [← hq_]; exact (by (with_reducible repeat (first | refine blk_drewN ?_ _ | refine blk_drew ?_ | refine blk_alloc ?_ _)); exact BK349.out)⟩; have n1_ : Aside0 (Below w.heap.size w w9) := ⟨by rw [← hq_]; exact (by repeat (first | (with_reducible first | exact HB.out | apply below_alloc | apply pw_below_drewN | apply below_drew1 | refine below_set ?_ GE349.out) | exact HB.out))⟩; clear BK349 HB hq_; have BK349 := n0_; have HB := n1_; clear n0_ n1_))) | ((with_reducible refine gate_callee (f := 64) rfl ?_); refine goesL_ (some 19) rfl rfl Try.func64 (by kernel_rfl) rfl #[.int .i64 a0] rfl (by (try simp only [List.map_toArray, List.map_cons, List.map_nil]); first | done | rfl | (simp only [List.length_drop, List.length_take]; rfl)) ?_; (with_reducible refine (trunnionref02_Top.calls k a0 t353 _ A6.out).mono ?_); rintro e w' ⟨rfl, ⟨nd, rfl⟩⟩; refine ⟨_, rfl, ?_⟩; (try (rw [drewN_self w9]; generalize hq_ : World.drewN w9 _ = w9; have n0_ : Aside0 (w9.heap[gb349]? = some (.cells #[.bool false, .int .i64 0, .int .i64 0, .int .u64 0] 36 (0, 0))) := ⟨by rw [← hq_]; exact (by (with_reducible repeat (first | refine blk_drewN ?_ _ | refine blk_drew ?_ | refine blk_alloc ?_ _)); exact BK349.out)⟩; have n1_ : Aside0 (Below w.heap.size w w9) := ⟨by rw [← hq_]; exact (by repeat (first | (with_reducible first | exact HB.out | apply below_alloc | apply pw_below_drewN | apply below_drew1 | refine below_set ?_ GE349.out) | exact HB.out))⟩; clear BK349 HB hq_; have BK349 := n0_; have HB := n1_; clear n0_ n1_)); have hcz10_0 : w9.cell? ⟨gb349, 0, none⟩ = some (.bool false) := (blk_cell BK349.out 0).trans rfl; have hcz10_1 : w9.cell? ⟨gb349, 1, none⟩ = some (.int .i64 0) := (blk_cell BK349.out 1).trans rfl; have hcz10_2 : w9.cell? ⟨gb349, 2, none⟩ = some (.int .i64 0) := (blk_cell BK349.out 2).trans rfl; have hcz10_3 : w9.cell? ⟨gb349, 3, none⟩ = some (.int .u64 0) := (blk_cell BK349.out 3).trans rfl; have hfz10_0 := blk_frozen BK349.out 0; have hfz10_1 := blk_frozen BK349.out 1; have hfz10_2 := blk_frozen BK349.out 2; have hfz10_3 := blk_frozen BK349.out 3))
      refine bodyPost_ret (results_cell_row rfl _ _ gb349 36 #[.bool t352, .int .i64 2, .int .i64 0, .int .u64 0] (0, 0) _ rfl (by (with_reducible repeat (first | refine blk_drewN ?_ _ | refine blk_drew ?_ | refine blk_alloc ?_ _)); refine blk_put (cs := #[.bool t352, .int .i64 2, .int .i64 0, .int .u64 0]) ?_ 3 _ rfl; (with_reducible repeat (first | refine blk_drewN ?_ _ | refine blk_drew ?_ | refine blk_alloc ?_ _)); refine blk_put (cs := #[.bool t352, .int .i64 2, .int .i64 0, .int .u64 0]) ?_ 2 _ rfl; (with_reducible repeat (first | refine blk_drewN ?_ _ | refine blk_drew ?_ | refine blk_alloc ?_ _)); refine blk_put (cs := #[.bool t352, .int .i64 0, .int .i64 0, .int .u64 0]) ?_ 1 _ rfl; (with_reducible repeat (first | refine blk_drewN ?_ _ | refine blk_drew ?_ | refine blk_alloc ?_ _)); refine blk_put (cs := #[.bool false, .int .i64 0, .int .i64 0, .int .u64 0]) ?_ 0 _ rfl; (with_reducible repeat (first | refine blk_drewN ?_ _ | refine blk_drew ?_ | refine blk_alloc ?_ _)); exact BK349.out) Try.underlying36 rfl (by kernel_rfl)) rfl ?_
      exact ⟨by first | rfl | (simp [errW_none, errW_some] <;> rfl) | (simp [*, errW_none, errW_some] <;> rfl), by repeat (first | (with_reducible first | exact HB.out | apply below_alloc | apply pw_below_drewN | apply below_drew1 | refine below_set ?_ GE349.out) | exact HB.out)⟩
    · rw [if_neg c8] at H
      have c8b0 : (t351 == 0) = false := beq_eq_false_iff_ne.mpr c8
      have c8b1 : (t351 != 0) = true := bne_iff_ne.mpr c8
      simp only [Option.some.injEq, Prod.mk.injEq] at H
      obtain ⟨rfl, rfl, rfl, rfl⟩ := H
      go_enter Try.func44, Try.ntmps44
      go_wp2_with (first | ((with_reducible refine gate_dst (N := 4) rfl ?_); refine box_event ?hg (N := 4) ?hd (cs := #[.bool false, .int .i64 0, .int .i64 0, .int .u64 0]) (t := 36) ?hr ?_; (case hd => rfl); (case hg => rfl); (case hr => first | (go_simp; done) | (go_simp; rfl)); intro gb349 hg w11 hbox hb; have n0_ := Aside0.mk (below_step (by repeat (first | (with_reducible first | exact HB.out | apply below_alloc | apply pw_below_drewN | apply below_drew1) | exact HB.out)) hb); have n1_ := Aside0.mk (hbox); have n2_ := Aside0.mk ((by rw [hg]; exact (below_size (by repeat (first | (with_reducible first | exact HB.out | apply below_alloc | apply pw_below_drewN | apply below_drew1) | exact HB.out))) : w.heap.size ≤ gb349)); have n3_ := Aside0.mk ((by rw [hg]; exact (below_size (by repeat (first | (with_reducible first | exact HB.out | apply below_alloc | apply pw_below_drewN | apply below_drew1) | exact HB.out))) : w.heap.size ≤ gb349)); clear HB; have HB := n0_; have BK349 := n1_; have GW349 := n2_; have GE349 := n3_; clear n0_ n1_ n2_ n3_; clear hb hbox hg) | ((with_reducible refine gate_callee (f := 124) rfl ?_); refine goesL_ (some 10) rfl rfl Try.func124 (by kernel_rfl) rfl #[.int .i64 a0, .int .u64 a1] rfl (by (try simp only [List.map_toArray, List.map_cons, List.map_nil]); first | done | rfl | (simp only [List.length_drop, List.length_take]; rfl)) ?_; (with_reducible refine (trunnionref02_Exp.calls k a0 a1 t350 _ A3.out).mono ?_); rintro e w' ⟨rfl, ⟨nd, rfl⟩⟩; refine ⟨_, rfl, ?_⟩; (try (rw [drewN_self w11]; generalize hq_ : World.drewN w11 _ = w11; have n0_ : Aside0 (w11.heap[gb349]? = some (.cells #[.bool false, .int .i64 0, .int .i64 0, .int .u64 0] 36 (0, 0))) := ⟨by rw [← hq_]; exact (by (with_reducible repeat (first | refine blk_drewN ?_ _ | refine blk_drew ?_ | refine blk_alloc ?_ _)); exact BK349.out)⟩; have n1_ : Aside0 (Below w.heap.size w w11) := ⟨by rw [← hq_]; exact (by repeat (first | (with_reducible first | exact HB.out | apply below_alloc | apply pw_below_drewN | apply below_drew1 | refine below_set ?_ GE349.out) | exact HB.out))⟩; clear BK349 HB hq_; have BK349 := n0_; have HB := n1_; clear n0_ n1_))) | ((with_reducible refine gate_callee (f := 125) rfl ?_); refine goesL_ (some 13) rfl rfl Try.func125 (by kernel_rfl) rfl #[.int .i64 a0, .int .u64 a1] rfl (by (try simp only [List.map_toArray, List.map_cons, List.map_nil]); first | done | rfl | (simp only [List.length_drop, List.length_take]; rfl)) ?_; (with_reducible refine (trunnionref02_Frac.calls k a0 a1 t351 _ A4.out).mono ?_); rintro e w' ⟨rfl, ⟨nd, rfl⟩⟩; refine ⟨_, rfl, ?_⟩; (try (rw [drewN_self w11]; generalize hq_ : World.drewN w11 _ = w11; have n0_ : Aside0 (w11.heap[gb349]? = some (.cells #[.bool false, .int .i64 0, .int .i64 0, .int .u64 0] 36 (0, 0))) := ⟨by rw [← hq_]; exact (by (with_reducible repeat (first | refine blk_drewN ?_ _ | refine blk_drew ?_ | refine blk_alloc ?_ _)); exact BK349.out)⟩; have n1_ : Aside0 (Below w.heap.size w w11) := ⟨by rw [← hq_]; exact (by repeat (first | (with_reducible first | exact HB.out | apply below_alloc | apply pw_below_drewN | apply below_drew1 | refine below_set ?_ GE349.out) | exact HB.out))⟩; clear BK349 HB hq_; have BK349 := n0_; have HB := n1_; clear n0_ n1_))) | ((with_reducible refine gate_callee (f := 31) rfl ?_); refine goesL_ (some 16) rfl rfl Try.func31 (by kernel_rfl) rfl #[.int .i64 a0, .int .u64 a1] rfl (by (try simp only [List.map_toArray, List.map_cons, List.map_nil]); first | done | rfl | (simp only [List.length_drop, List.length_take]; rfl)) ?_; (with_reducible refine (trunnionref02_Neg.calls k a0 a1 t352 _ A5.out).mono ?_); rintro e w' ⟨rfl, ⟨nd, rfl⟩⟩; refine ⟨_, rfl, ?_⟩; (try (rw [drewN_self w11]; generalize hq_ : World.drewN w11 _ = w11; have n0_ : Aside0 (w11.heap[gb349]? = some (.cells #[.bool false, .int .i64 0, .int .i64 0, .int .u64 0] 36 (0, 0))) := ⟨by rw [← hq_]; exact (by (with_reducible repeat (first | refine blk_drewN ?_ _ | refine blk_drew ?_ | refine blk_alloc ?_ _)); exact BK349.out)⟩; have n1_ : Aside0 (Below w.heap.size w w11) := ⟨by rw [← hq_]; exact (by repeat (first | (with_reducible first | exact HB.out | apply below_alloc | apply pw_below_drewN | apply below_drew1 | refine below_set ?_ GE349.out) | exact HB.out))⟩; clear BK349 HB hq_; have BK349 := n0_; have HB := n1_; clear n0_ n1_))) | ((with_reducible refine gate_callee (f := 64) rfl ?_); refine goesL_ (some 19) rfl rfl Try.func64 (by kernel_rfl) rfl #[.int .i64 a0] rfl (by (try simp only [List.map_toArray, List.map_cons, List.map_nil]); first | done | rfl | (simp only [List.length_drop, List.length_take]; rfl)) ?_; (with_reducible refine (trunnionref02_Top.calls k a0 t353 _ A6.out).mono ?_); rintro e w' ⟨rfl, ⟨nd, rfl⟩⟩; refine ⟨_, rfl, ?_⟩; (try (rw [drewN_self w11]; generalize hq_ : World.drewN w11 _ = w11; have n0_ : Aside0 (w11.heap[gb349]? = some (.cells #[.bool false, .int .i64 0, .int .i64 0, .int .u64 0] 36 (0, 0))) := ⟨by rw [← hq_]; exact (by (with_reducible repeat (first | refine blk_drewN ?_ _ | refine blk_drew ?_ | refine blk_alloc ?_ _)); exact BK349.out)⟩; have n1_ : Aside0 (Below w.heap.size w w11) := ⟨by rw [← hq_]; exact (by repeat (first | (with_reducible first | exact HB.out | apply below_alloc | apply pw_below_drewN | apply below_drew1 | refine below_set ?_ GE349.out) | exact HB.out))⟩; clear BK349 HB hq_; have BK349 := n0_; have HB := n1_; clear n0_ n1_)); have hcz12_0 : w11.cell? ⟨gb349, 0, none⟩ = some (.bool false) := (blk_cell BK349.out 0).trans rfl; have hcz12_1 : w11.cell? ⟨gb349, 1, none⟩ = some (.int .i64 0) := (blk_cell BK349.out 1).trans rfl; have hcz12_2 : w11.cell? ⟨gb349, 2, none⟩ = some (.int .i64 0) := (blk_cell BK349.out 2).trans rfl; have hcz12_3 : w11.cell? ⟨gb349, 3, none⟩ = some (.int .u64 0) := (blk_cell BK349.out 3).trans rfl; have hfz12_0 := blk_frozen BK349.out 0; have hfz12_1 := blk_frozen BK349.out 1; have hfz12_2 := blk_frozen BK349.out 2; have hfz12_3 := blk_frozen BK349.out 3))
      refine bodyPost_ret (results_cell_row rfl _ _ gb349 36 #[.bool false, .int .i64 3, .int .i64 0, .int .u64 0] (0, 0) _ rfl (by (with_reducible repeat (first | refine blk_drewN ?_ _ | refine blk_drew ?_ | refine blk_alloc ?_ _)); refine blk_put (cs := #[.bool false, .int .i64 3, .int .i64 0, .int .u64 0]) ?_ 3 _ rfl; (with_reducible repeat (first | refine blk_drewN ?_ _ | refine blk_drew ?_ | refine blk_alloc ?_ _)); refine blk_put (cs := #[.bool false, .int .i64 3, .int .i64 0, .int .u64 0]) ?_ 2 _ rfl; (with_reducible repeat (first | refine blk_drewN ?_ _ | refine blk_drew ?_ | refine blk_alloc ?_ _)); refine blk_put (cs := #[.bool false, .int .i64 0, .int .i64 0, .int .u64 0]) ?_ 1 _ rfl; (with_reducible repeat (first | refine blk_drewN ?_ _ | refine blk_drew ?_ | refine blk_alloc ?_ _)); refine blk_put (cs := #[.bool false, .int .i64 0, .int .i64 0, .int .u64 0]) ?_ 0 _ rfl; (with_reducible repeat (first | refine blk_drewN ?_ _ | refine blk_drew ?_ | refine blk_alloc ?_ _)); exact BK349.out) Try.underlying36 rfl (by kernel_rfl)) rfl ?_
      exact ⟨by first | rfl | (simp [errW_none, errW_some] <;> rfl) | (simp [*, errW_none, errW_some] <;> rfl), by repeat (first | (with_reducible first | exact HB.out | apply below_alloc | apply pw_below_drewN | apply below_drew1 | refine below_set ?_ GE349.out) | exact HB.out)⟩
  · rw [if_neg c7] at H
    have c7b0 : (t350 == t353) = false := beq_eq_false_iff_ne.mpr c7
    have c7b1 : (t350 != t353) = true := bne_iff_ne.mpr c7
    by_cases c13 : t350 = 0
    · rw [if_pos c13] at H
      have c13b0 : (t350 == 0) = true := beq_iff_eq.mpr c13
      have c13b1 : (t350 != 0) = false := bne_eq_false_iff_eq.mpr c13
      clear c13
      by_cases c14 : t351 = 0
      · rw [if_pos c14] at H
        have c14b0 : (t351 == 0) = true := beq_iff_eq.mpr c14
        have c14b1 : (t351 != 0) = false := bne_eq_false_iff_eq.mpr c14
        clear c14
        simp only [Option.some.injEq, Prod.mk.injEq] at H
        obtain ⟨rfl, rfl, rfl, rfl⟩ := H
        go_enter Try.func44, Try.ntmps44
        go_wp2_with (first | ((with_reducible refine gate_dst (N := 4) rfl ?_); refine box_event ?hg (N := 4) ?hd (cs := #[.bool false, .int .i64 0, .int .i64 0, .int .u64 0]) (t := 36) ?hr ?_; (case hd => rfl); (case hg => rfl); (case hr => first | (go_simp; done) | (go_simp; rfl)); intro gb349 hg w15 hbox hb; have n0_ := Aside0.mk (below_step (by repeat (first | (with_reducible first | exact HB.out | apply below_alloc | apply pw_below_drewN | apply below_drew1) | exact HB.out)) hb); have n1_ := Aside0.mk (hbox); have n2_ := Aside0.mk ((by rw [hg]; exact (below_size (by repeat (first | (with_reducible first | exact HB.out | apply below_alloc | apply pw_below_drewN | apply below_drew1) | exact HB.out))) : w.heap.size ≤ gb349)); have n3_ := Aside0.mk ((by rw [hg]; exact (below_size (by repeat (first | (with_reducible first | exact HB.out | apply below_alloc | apply pw_below_drewN | apply below_drew1) | exact HB.out))) : w.heap.size ≤ gb349)); clear HB; have HB := n0_; have BK349 := n1_; have GW349 := n2_; have GE349 := n3_; clear n0_ n1_ n2_ n3_; clear hb hbox hg) | ((with_reducible refine gate_callee (f := 124) rfl ?_); refine goesL_ (some 10) rfl rfl Try.func124 (by kernel_rfl) rfl #[.int .i64 a0, .int .u64 a1] rfl (by (try simp only [List.map_toArray, List.map_cons, List.map_nil]); first | done | rfl | (simp only [List.length_drop, List.length_take]; rfl)) ?_; (with_reducible refine (trunnionref02_Exp.calls k a0 a1 t350 _ A3.out).mono ?_); rintro e w' ⟨rfl, ⟨nd, rfl⟩⟩; refine ⟨_, rfl, ?_⟩; (try (rw [drewN_self w15]; generalize hq_ : World.drewN w15 _ = w15; have n0_ : Aside0 (w15.heap[gb349]? = some (.cells #[.bool false, .int .i64 0, .int .i64 0, .int .u64 0] 36 (0, 0))) := ⟨by rw [← hq_]; exact (by (with_reducible repeat (first | refine blk_drewN ?_ _ | refine blk_drew ?_ | refine blk_alloc ?_ _)); exact BK349.out)⟩; have n1_ : Aside0 (Below w.heap.size w w15) := ⟨by rw [← hq_]; exact (by repeat (first | (with_reducible first | exact HB.out | apply below_alloc | apply pw_below_drewN | apply below_drew1 | refine below_set ?_ GE349.out) | exact HB.out))⟩; clear BK349 HB hq_; have BK349 := n0_; have HB := n1_; clear n0_ n1_))) | ((with_reducible refine gate_callee (f := 125) rfl ?_); refine goesL_ (some 13) rfl rfl Try.func125 (by kernel_rfl) rfl #[.int .i64 a0, .int .u64 a1] rfl (by (try simp only [List.map_toArray, List.map_cons, List.map_nil]); first | done | rfl | (simp only [List.length_drop, List.length_take]; rfl)) ?_; (with_reducible refine (trunnionref02_Frac.calls k a0 a1 t351 _ A4.out).mono ?_); rintro e w' ⟨rfl, ⟨nd, rfl⟩⟩; refine ⟨_, rfl, ?_⟩; (try (rw [drewN_self w15]; generalize hq_ : World.drewN w15 _ = w15; have n0_ : Aside0 (w15.heap[gb349]? = some (.cells #[.bool false, .int .i64 0, .int .i64 0, .int .u64 0] 36 (0, 0))) := ⟨by rw [← hq_]; exact (by (with_reducible repeat (first | refine blk_drewN ?_ _ | refine blk_drew ?_ | refine blk_alloc ?_ _)); exact BK349.out)⟩; have n1_ : Aside0 (Below w.heap.size w w15) := ⟨by rw [← hq_]; exact (by repeat (first | (with_reducible first | exact HB.out | apply below_alloc | apply pw_below_drewN | apply below_drew1 | refine below_set ?_ GE349.out) | exact HB.out))⟩; clear BK349 HB hq_; have BK349 := n0_; have HB := n1_; clear n0_ n1_))) | ((with_reducible refine gate_callee (f := 31) rfl ?_); refine goesL_ (some 16) rfl rfl Try.func31 (by kernel_rfl) rfl #[.int .i64 a0, .int .u64 a1] rfl (by (try simp only [List.map_toArray, List.map_cons, List.map_nil]); first | done | rfl | (simp only [List.length_drop, List.length_take]; rfl)) ?_; (with_reducible refine (trunnionref02_Neg.calls k a0 a1 t352 _ A5.out).mono ?_); rintro e w' ⟨rfl, ⟨nd, rfl⟩⟩; refine ⟨_, rfl, ?_⟩; (try (rw [drewN_self w15]; generalize hq_ : World.drewN w15 _ = w15; have n0_ : Aside0 (w15.heap[gb349]? = some (.cells #[.bool false, .int .i64 0, .int .i64 0, .int .u64 0] 36 (0, 0))) := ⟨by rw [← hq_]; exact (by (with_reducible repeat (first | refine blk_drewN ?_ _ | refine blk_drew ?_ | refine blk_alloc ?_ _)); exact BK349.out)⟩; have n1_ : Aside0 (Below w.heap.size w w15) := ⟨by rw [← hq_]; exact (by repeat (first | (with_reducible first | exact HB.out | apply below_alloc | apply pw_below_drewN | apply below_drew1 | refine below_set ?_ GE349.out) | exact HB.out))⟩; clear BK349 HB hq_; have BK349 := n0_; have HB := n1_; clear n0_ n1_))) | ((with_reducible refine gate_callee (f := 64) rfl ?_); refine goesL_ (some 19) rfl rfl Try.func64 (by kernel_rfl) rfl #[.int .i64 a0] rfl (by (try simp only [List.map_toArray, List.map_cons, List.map_nil]); first | done | rfl | (simp only [List.length_drop, List.length_take]; rfl)) ?_; (with_reducible refine (trunnionref02_Top.calls k a0 t353 _ A6.out).mono ?_); rintro e w' ⟨rfl, ⟨nd, rfl⟩⟩; refine ⟨_, rfl, ?_⟩; (try (rw [drewN_self w15]; generalize hq_ : World.drewN w15 _ = w15; have n0_ : Aside0 (w15.heap[gb349]? = some (.cells #[.bool false, .int .i64 0, .int .i64 0, .int .u64 0] 36 (0, 0))) := ⟨by rw [← hq_]; exact (by (with_reducible repeat (first | refine blk_drewN ?_ _ | refine blk_drew ?_ | refine blk_alloc ?_ _)); exact BK349.out)⟩; have n1_ : Aside0 (Below w.heap.size w w15) := ⟨by rw [← hq_]; exact (by repeat (first | (with_reducible first | exact HB.out | apply below_alloc | apply pw_below_drewN | apply below_drew1 | refine below_set ?_ GE349.out) | exact HB.out))⟩; clear BK349 HB hq_; have BK349 := n0_; have HB := n1_; clear n0_ n1_)); have hcz16_0 : w15.cell? ⟨gb349, 0, none⟩ = some (.bool false) := (blk_cell BK349.out 0).trans rfl; have hcz16_1 : w15.cell? ⟨gb349, 1, none⟩ = some (.int .i64 0) := (blk_cell BK349.out 1).trans rfl; have hcz16_2 : w15.cell? ⟨gb349, 2, none⟩ = some (.int .i64 0) := (blk_cell BK349.out 2).trans rfl; have hcz16_3 : w15.cell? ⟨gb349, 3, none⟩ = some (.int .u64 0) := (blk_cell BK349.out 3).trans rfl; have hfz16_0 := blk_frozen BK349.out 0; have hfz16_1 := blk_frozen BK349.out 1; have hfz16_2 := blk_frozen BK349.out 2; have hfz16_3 := blk_frozen BK349.out 3))
        refine bodyPost_ret (results_cell_row rfl _ _ gb349 36 #[.bool t352, .int .i64 0, .int .i64 0, .int .u64 0] (0, 0) _ rfl (by (with_reducible repeat (first | refine blk_drewN ?_ _ | refine blk_drew ?_ | refine blk_alloc ?_ _)); refine blk_put (cs := #[.bool t352, .int .i64 0, .int .i64 0, .int .u64 0]) ?_ 3 _ rfl; (with_reducible repeat (first | refine blk_drewN ?_ _ | refine blk_drew ?_ | refine blk_alloc ?_ _)); refine blk_put (cs := #[.bool t352, .int .i64 0, .int .i64 0, .int .u64 0]) ?_ 2 _ rfl; (with_reducible repeat (first | refine blk_drewN ?_ _ | refine blk_drew ?_ | refine blk_alloc ?_ _)); refine blk_put (cs := #[.bool t352, .int .i64 0, .int .i64 0, .int .u64 0]) ?_ 1 _ rfl; (with_reducible repeat (first | refine blk_drewN ?_ _ | refine blk_drew ?_ | refine blk_alloc ?_ _)); refine blk_put (cs := #[.bool false, .int .i64 0, .int .i64 0, .int .u64 0]) ?_ 0 _ rfl; (with_reducible repeat (first | refine blk_drewN ?_ _ | refine blk_drew ?_ | refine blk_alloc ?_ _)); exact BK349.out) Try.underlying36 rfl (by kernel_rfl)) rfl ?_
        exact ⟨by first | rfl | (simp [errW_none, errW_some] <;> rfl) | (simp [*, errW_none, errW_some] <;> rfl), by repeat (first | (with_reducible first | exact HB.out | apply below_alloc | apply pw_below_drewN | apply below_drew1 | refine below_set ?_ GE349.out) | exact HB.out)⟩
      · rw [if_neg c14] at H
        have c14b0 : (t351 == 0) = false := beq_eq_false_iff_ne.mpr c14
        have c14b1 : (t351 != 0) = true := bne_iff_ne.mpr c14
        replace H := Option.bind_eq_some_iff.mp H
        obtain ⟨t354, A170, H⟩ := H
        replace H : ((trunnionref02_F.f a0).bind fun t355 => (some (t352, 1, wrap64 ((wrap64 (1 - t354)) - t355), t351))) = some (r1, r2, r3, r4) := H
        have A17 := Aside0.mk A170
        clear A170
        replace H := Option.bind_eq_some_iff.mp H
        obtain ⟨t355, A180, H⟩ := H
        replace H : (some (t352, 1, wrap64 ((wrap64 (1 - t354)) - t355), t351)) = some (r1, r2, r3, r4) := H
        have A18 := Aside0.mk A180
        clear A180
        simp only [Option.some.injEq, Prod.mk.injEq] at H
        obtain ⟨rfl, rfl, rfl, rfl⟩ := H
        go_enter Try.func44, Try.ntmps44
        go_wp2_with (first | ((with_reducible refine gate_dst (N := 4) rfl ?_); refine box_event ?hg (N := 4) ?hd (cs := #[.bool false, .int .i64 0, .int .i64 0, .int .u64 0]) (t := 36) ?hr ?_; (case hd => rfl); (case hg => rfl); (case hr => first | (go_simp; done) | (go_simp; rfl)); intro gb349 hg w19 hbox hb; have n0_ := Aside0.mk (below_step (by repeat (first | (with_reducible first | exact HB.out | apply below_alloc | apply pw_below_drewN | apply below_drew1) | exact HB.out)) hb); have n1_ := Aside0.mk (hbox); have n2_ := Aside0.mk ((by rw [hg]; exact (below_size (by repeat (first | (with_reducible first | exact HB.out | apply below_alloc | apply pw_below_drewN | apply below_drew1) | exact HB.out))) : w.heap.size ≤ gb349)); have n3_ := Aside0.mk ((by rw [hg]; exact (below_size (by repeat (first | (with_reducible first | exact HB.out | apply below_alloc | apply pw_below_drewN | apply below_drew1) | exact HB.out))) : w.heap.size ≤ gb349)); clear HB; have HB := n0_; have BK349 := n1_; have GW349 := n2_; have GE349 := n3_; clear n0_ n1_ n2_ n3_; clear hb hbox hg) | ((with_reducible refine gate_callee (f := 124) rfl ?_); refine goesL_ (some 10) rfl rfl Try.func124 (by kernel_rfl) rfl #[.int .i64 a0, .int .u64 a1] rfl (by (try simp only [List.map_toArray, List.map_cons, List.map_nil]); first | done | rfl | (simp only [List.length_drop, List.length_take]; rfl)) ?_; (with_reducible refine (trunnionref02_Exp.calls k a0 a1 t350 _ A3.out).mono ?_); rintro e w' ⟨rfl, ⟨nd, rfl⟩⟩; refine ⟨_, rfl, ?_⟩; (try (rw [drewN_self w19]; generalize hq_ : World.drewN w19 _ = w19; have n0_ : Aside0 (w19.heap[gb349]? = some (.cells #[.bool false, .int .i64 0, .int .i64 0, .int .u64 0] 36 (0, 0))) := ⟨by rw [← hq_]; exact (by (with_reducible repeat (first | refine blk_drewN ?_ _ | refine blk_drew ?_ | refine blk_alloc ?_ _)); exact BK349.out)⟩; have n1_ : Aside0 (Below w.heap.size w w19) := ⟨by rw [← hq_]; exact (by repeat (first | (with_reducible first | exact HB.out | apply below_alloc | apply pw_below_drewN | apply below_drew1 | refine below_set ?_ GE349.out) | exact HB.out))⟩; clear BK349 HB hq_; have BK349 := n0_; have HB := n1_; clear n0_ n1_))) | ((with_reducible refine gate_callee (f := 125) rfl ?_); refine goesL_ (some 13) rfl rfl Try.func125 (by kernel_rfl) rfl #[.int .i64 a0, .int .u64 a1] rfl (by (try simp only [List.map_toArray, List.map_cons, List.map_nil]); first | done | rfl | (simp only [List.length_drop, List.length_take]; rfl)) ?_; (with_reducible refine (trunnionref02_Frac.calls k a0 a1 t351 _ A4.out).mono ?_); rintro e w' ⟨rfl, ⟨nd, rfl⟩⟩; refine ⟨_, rfl, ?_⟩; (try (rw [drewN_self w19]; generalize hq_ : World.drewN w19 _ = w19; have n0_ : Aside0 (w19.heap[gb349]? = some (.cells #[.bool false, .int .i64 0, .int .i64 0, .int .u64 0] 36 (0, 0))) := ⟨by rw [← hq_]; exact (by (with_reducible repeat (first | refine blk_drewN ?_ _ | refine blk_drew ?_ | refine blk_alloc ?_ _)); exact BK349.out)⟩; have n1_ : Aside0 (Below w.heap.size w w19) := ⟨by rw [← hq_]; exact (by repeat (first | (with_reducible first | exact HB.out | apply below_alloc | apply pw_below_drewN | apply below_drew1 | refine below_set ?_ GE349.out) | exact HB.out))⟩; clear BK349 HB hq_; have BK349 := n0_; have HB := n1_; clear n0_ n1_))) | ((with_reducible refine gate_callee (f := 31) rfl ?_); refine goesL_ (some 16) rfl rfl Try.func31 (by kernel_rfl) rfl #[.int .i64 a0, .int .u64 a1] rfl (by (try simp only [List.map_toArray, List.map_cons, List.map_nil]); first | done | rfl | (simp only [List.length_drop, List.length_take]; rfl)) ?_; (with_reducible refine (trunnionref02_Neg.calls k a0 a1 t352 _ A5.out).mono ?_); rintro e w' ⟨rfl, ⟨nd, rfl⟩⟩; refine ⟨_, rfl, ?_⟩; (try (rw [drewN_self w19]; generalize hq_ : World.drewN w19 _ = w19; have n0_ : Aside0 (w19.heap[gb349]? = some (.cells #[.bool false, .int .i64 0, .int .i64 0, .int .u64 0] 36 (0, 0))) := ⟨by rw [← hq_]; exact (by (with_reducible repeat (first | refine blk_drewN ?_ _ | refine blk_drew ?_ | refine blk_alloc ?_ _)); exact BK349.out)⟩; have n1_ : Aside0 (Below w.heap.size w w19) := ⟨by rw [← hq_]; exact (by repeat (first | (with_reducible first | exact HB.out | apply below_alloc | apply pw_below_drewN | apply below_drew1 | refine below_set ?_ GE349.out) | exact HB.out))⟩; clear BK349 HB hq_; have BK349 := n0_; have HB := n1_; clear n0_ n1_))) | ((with_reducible refine gate_callee (f := 64) rfl ?_); refine goesL_ (some 19) rfl rfl Try.func64 (by kernel_rfl) rfl #[.int .i64 a0] rfl (by (try simp only [List.map_toArray, List.map_cons, List.map_nil]); first | done | rfl | (simp only [List.length_drop, List.length_take]; rfl)) ?_; (with_reducible refine (trunnionref02_Top.calls k a0 t353 _ A6.out).mono ?_); rintro e w' ⟨rfl, ⟨nd, rfl⟩⟩; refine ⟨_, rfl, ?_⟩; (try (rw [drewN_self w19]; generalize hq_ : World.drewN w19 _ = w19; have n0_ : Aside0 (w19.heap[gb349]? = some (.cells #[.bool false, .int .i64 0, .int .i64 0, .int .u64 0] 36 (0, 0))) := ⟨by rw [← hq_]; exact (by (with_reducible repeat (first | refine blk_drewN ?_ _ | refine blk_drew ?_ | refine blk_alloc ?_ _)); exact BK349.out)⟩; have n1_ : Aside0 (Below w.heap.size w w19) := ⟨by rw [← hq_]; exact (by repeat (first | (with_reducible first | exact HB.out | apply below_alloc | apply pw_below_drewN | apply below_drew1 | refine below_set ?_ GE349.out) | exact HB.out))⟩; clear BK349 HB hq_; have BK349 := n0_; have HB := n1_; clear n0_ n1_))) | ((with_reducible refine gate_callee (f := 126) rfl ?_); refine goesL_ (some 34) rfl rfl Try.func126 (by kernel_rfl) rfl #[.int .i64 a0] rfl (by (try simp only [List.map_toArray, List.map_cons, List.map_nil]); first | done | rfl | (simp only [List.length_drop, List.length_take]; rfl)) ?_; (with_reducible refine (trunnionref02_B.calls a0 t354 _ A17.out).mono ?_); rintro e w' ⟨rfl, ⟨nd, rfl⟩⟩; refine ⟨_, rfl, ?_⟩; (try (rw [drewN_self w19]; generalize hq_ : World.drewN w19 _ = w19; have n0_ : Aside0 (w19.heap[gb349]? = some (.cells #[.bool false, .int .i64 0, .int .i64 0, .int .u64 0] 36 (0, 0))) := ⟨by rw [← hq_]; exact (by (with_reducible repeat (first | refine blk_drewN ?_ _ | refine blk_drew ?_ | refine blk_alloc ?_ _)); exact BK349.out)⟩; have n1_ : Aside0 (Below w.heap.size w w19) := ⟨by rw [← hq_]; exact (by repeat (first | (with_reducible first | exact HB.out | apply below_alloc | apply pw_below_drewN | apply below_drew1 | refine below_set ?_ GE349.out) | exact HB.out))⟩; clear BK349 HB hq_; have BK349 := n0_; have HB := n1_; clear n0_ n1_))) | ((with_reducible refine gate_callee (f := 66) rfl ?_); refine goesL_ (some 37) rfl rfl Try.func66 (by kernel_rfl) rfl #[.int .i64 a0] rfl (by (try simp only [List.map_toArray, List.map_cons, List.map_nil]); first | done | rfl | (simp only [List.length_drop, List.length_take]; rfl)) ?_; (with_reducible refine (trunnionref02_F.calls a0 t355 _ A18.out).mono ?_); rintro e w' ⟨rfl, ⟨nd, rfl⟩⟩; refine ⟨_, rfl, ?_⟩; (try (rw [drewN_self w19]; generalize hq_ : World.drewN w19 _ = w19; have n0_ : Aside0 (w19.heap[gb349]? = some (.cells #[.bool false, .int .i64 0, .int .i64 0, .int .u64 0] 36 (0, 0))) := ⟨by rw [← hq_]; exact (by (with_reducible repeat (first | refine blk_drewN ?_ _ | refine blk_drew ?_ | refine blk_alloc ?_ _)); exact BK349.out)⟩; have n1_ : Aside0 (Below w.heap.size w w19) := ⟨by rw [← hq_]; exact (by repeat (first | (with_reducible first | exact HB.out | apply below_alloc | apply pw_below_drewN | apply below_drew1 | refine below_set ?_ GE349.out) | exact HB.out))⟩; clear BK349 HB hq_; have BK349 := n0_; have HB := n1_; clear n0_ n1_)); have hcz20_0 : w19.cell? ⟨gb349, 0, none⟩ = some (.bool false) := (blk_cell BK349.out 0).trans rfl; have hcz20_1 : w19.cell? ⟨gb349, 1, none⟩ = some (.int .i64 0) := (blk_cell BK349.out 1).trans rfl; have hcz20_2 : w19.cell? ⟨gb349, 2, none⟩ = some (.int .i64 0) := (blk_cell BK349.out 2).trans rfl; have hcz20_3 : w19.cell? ⟨gb349, 3, none⟩ = some (.int .u64 0) := (blk_cell BK349.out 3).trans rfl; have hfz20_0 := blk_frozen BK349.out 0; have hfz20_1 := blk_frozen BK349.out 1; have hfz20_2 := blk_frozen BK349.out 2; have hfz20_3 := blk_frozen BK349.out 3))
        refine bodyPost_ret (results_cell_row rfl _ _ gb349 36 #[.bool t352, .int .i64 1, .int .i64 (wrap64 ((wrap64 (1 - t354)) - t355)), .int .u64 t351] (0, 0) _ rfl (by (with_reducible repeat (first | refine blk_drewN ?_ _ | refine blk_drew ?_ | refine blk_alloc ?_ _)); refine blk_put (cs := #[.bool t352, .int .i64 1, .int .i64 (wrap64 ((wrap64 (1 - t354)) - t355)), .int .u64 0]) ?_ 3 _ rfl; (with_reducible repeat (first | refine blk_drewN ?_ _ | refine blk_drew ?_ | refine blk_alloc ?_ _)); refine blk_put (cs := #[.bool t352, .int .i64 1, .int .i64 0, .int .u64 0]) ?_ 2 _ rfl; (with_reducible repeat (first | refine blk_drewN ?_ _ | refine blk_drew ?_ | refine blk_alloc ?_ _)); refine blk_put (cs := #[.bool t352, .int .i64 0, .int .i64 0, .int .u64 0]) ?_ 1 _ rfl; (with_reducible repeat (first | refine blk_drewN ?_ _ | refine blk_drew ?_ | refine blk_alloc ?_ _)); refine blk_put (cs := #[.bool false, .int .i64 0, .int .i64 0, .int .u64 0]) ?_ 0 _ rfl; (with_reducible repeat (first | refine blk_drewN ?_ _ | refine blk_drew ?_ | refine blk_alloc ?_ _)); exact BK349.out) Try.underlying36 rfl (by kernel_rfl)) rfl ?_
        exact ⟨by first | rfl | (simp [errW_none, errW_some] <;> rfl) | (simp [*, errW_none, errW_some] <;> rfl), by repeat (first | (with_reducible first | exact HB.out | apply below_alloc | apply pw_below_drewN | apply below_drew1 | refine below_set ?_ GE349.out) | exact HB.out)⟩
    · rw [if_neg c13] at H
      have c13b0 : (t350 == 0) = false := beq_eq_false_iff_ne.mpr c13
      have c13b1 : (t350 != 0) = true := bne_iff_ne.mpr c13
      replace H := Option.bind_eq_some_iff.mp H
      obtain ⟨t356, A210, H⟩ := H
      replace H : ((trunnionref02_F.f a0).bind fun t357 => ((trunnionref02_F.f a0).bind fun t358 => ((trunnionref02_Two.f k t358).bind fun t359 => (some (t352, 1, wrap64 ((wrap64 (t350 - t356)) - t357), IntKind.u64.wrap (t359 + t351)))))) = some (r1, r2, r3, r4) := H
      have A21 := Aside0.mk A210
      clear A210
      replace H := Option.bind_eq_some_iff.mp H
      obtain ⟨t357, A220, H⟩ := H
      replace H : ((trunnionref02_F.f a0).bind fun t358 => ((trunnionref02_Two.f k t358).bind fun t359 => (some (t352, 1, wrap64 ((wrap64 (t350 - t356)) - t357), IntKind.u64.wrap (t359 + t351))))) = some (r1, r2, r3, r4) := H
      have A22 := Aside0.mk A220
      clear A220
      replace H := Option.bind_eq_some_iff.mp H
      obtain ⟨t358, A230, H⟩ := H
      replace H : ((trunnionref02_Two.f k t358).bind fun t359 => (some (t352, 1, wrap64 ((wrap64 (t350 - t356)) - t357), IntKind.u64.wrap (t359 + t351)))) = some (r1, r2, r3, r4) := H
      have A23 := Aside0.mk A230
      clear A230
      replace H := Option.bind_eq_some_iff.mp H
      obtain ⟨t359, A240, H⟩ := H
      replace H : (some (t352, 1, wrap64 ((wrap64 (t350 - t356)) - t357), IntKind.u64.wrap (t359 + t351))) = some (r1, r2, r3, r4) := H
      have A24 := Aside0.mk A240
      clear A240
      simp only [Option.some.injEq, Prod.mk.injEq] at H
      obtain ⟨rfl, rfl, rfl, rfl⟩ := H
      go_enter Try.func44, Try.ntmps44
      go_wp2_with (first | ((with_reducible refine gate_dst (N := 4) rfl ?_); refine box_event ?hg (N := 4) ?hd (cs := #[.bool false, .int .i64 0, .int .i64 0, .int .u64 0]) (t := 36) ?hr ?_; (case hd => rfl); (case hg => rfl); (case hr => first | (go_simp; done) | (go_simp; rfl)); intro gb349 hg w25 hbox hb; have n0_ := Aside0.mk (below_step (by repeat (first | (with_reducible first | exact HB.out | apply below_alloc | apply pw_below_drewN | apply below_drew1) | exact HB.out)) hb); have n1_ := Aside0.mk (hbox); have n2_ := Aside0.mk ((by rw [hg]; exact (below_size (by repeat (first | (with_reducible first | exact HB.out | apply below_alloc | apply pw_below_drewN | apply below_drew1) | exact HB.out))) : w.heap.size ≤ gb349)); have n3_ := Aside0.mk ((by rw [hg]; exact (below_size (by repeat (first | (with_reducible first | exact HB.out | apply below_alloc | apply pw_below_drewN | apply below_drew1) | exact HB.out))) : w.heap.size ≤ gb349)); clear HB; have HB := n0_; have BK349 := n1_; have GW349 := n2_; have GE349 := n3_; clear n0_ n1_ n2_ n3_; clear hb hbox hg) | ((with_reducible refine gate_callee (f := 124) rfl ?_); refine goesL_ (some 10) rfl rfl Try.func124 (by kernel_rfl) rfl #[.int .i64 a0, .int .u64 a1] rfl (by (try simp only [List.map_toArray, List.map_cons, List.map_nil]); first | done | rfl | (simp only [List.length_drop, List.length_take]; rfl)) ?_; (with_reducible refine (trunnionref02_Exp.calls k a0 a1 t350 _ A3.out).mono ?_); rintro e w' ⟨rfl, ⟨nd, rfl⟩⟩; refine ⟨_, rfl, ?_⟩; (try (rw [drewN_self w25]; generalize hq_ : World.drewN w25 _ = w25; have n0_ : Aside0 (w25.heap[gb349]? = some (.cells #[.bool false, .int .i64 0, .int .i64 0, .int .u64 0] 36 (0, 0))) := ⟨by rw [← hq_]; exact (by (with_reducible repeat (first | refine blk_drewN ?_ _ | refine blk_drew ?_ | refine blk_alloc ?_ _)); exact BK349.out)⟩; have n1_ : Aside0 (Below w.heap.size w w25) := ⟨by rw [← hq_]; exact (by repeat (first | (with_reducible first | exact HB.out | apply below_alloc | apply pw_below_drewN | apply below_drew1 | refine below_set ?_ GE349.out) | exact HB.out))⟩; clear BK349 HB hq_; have BK349 := n0_; have HB := n1_; clear n0_ n1_))) | ((with_reducible refine gate_callee (f := 125) rfl ?_); refine goesL_ (some 13) rfl rfl Try.func125 (by kernel_rfl) rfl #[.int .i64 a0, .int .u64 a1] rfl (by (try simp only [List.map_toArray, List.map_cons, List.map_nil]); first | done | rfl | (simp only [List.length_drop, List.length_take]; rfl)) ?_; (with_reducible refine (trunnionref02_Frac.calls k a0 a1 t351 _ A4.out).mono ?_); rintro e w' ⟨rfl, ⟨nd, rfl⟩⟩; refine ⟨_, rfl, ?_⟩; (try (rw [drewN_self w25]; generalize hq_ : World.drewN w25 _ = w25; have n0_ : Aside0 (w25.heap[gb349]? = some (.cells #[.bool false, .int .i64 0, .int .i64 0, .int .u64 0] 36 (0, 0))) := ⟨by rw [← hq_]; exact (by (with_reducible repeat (first | refine blk_drewN ?_ _ | refine blk_drew ?_ | refine blk_alloc ?_ _)); exact BK349.out)⟩; have n1_ : Aside0 (Below w.heap.size w w25) := ⟨by rw [← hq_]; exact (by repeat (first | (with_reducible first | exact HB.out | apply below_alloc | apply pw_below_drewN | apply below_drew1 | refine below_set ?_ GE349.out) | exact HB.out))⟩; clear BK349 HB hq_; have BK349 := n0_; have HB := n1_; clear n0_ n1_))) | ((with_reducible refine gate_callee (f := 31) rfl ?_); refine goesL_ (some 16) rfl rfl Try.func31 (by kernel_rfl) rfl #[.int .i64 a0, .int .u64 a1] rfl (by (try simp only [List.map_toArray, List.map_cons, List.map_nil]); first | done | rfl | (simp only [List.length_drop, List.length_take]; rfl)) ?_; (with_reducible refine (trunnionref02_Neg.calls k a0 a1 t352 _ A5.out).mono ?_); rintro e w' ⟨rfl, ⟨nd, rfl⟩⟩; refine ⟨_, rfl, ?_⟩; (try (rw [drewN_self w25]; generalize hq_ : World.drewN w25 _ = w25; have n0_ : Aside0 (w25.heap[gb349]? = some (.cells #[.bool false, .int .i64 0, .int .i64 0, .int .u64 0] 36 (0, 0))) := ⟨by rw [← hq_]; exact (by (with_reducible repeat (first | refine blk_drewN ?_ _ | refine blk_drew ?_ | refine blk_alloc ?_ _)); exact BK349.out)⟩; have n1_ : Aside0 (Below w.heap.size w w25) := ⟨by rw [← hq_]; exact (by repeat (first | (with_reducible first | exact HB.out | apply below_alloc | apply pw_below_drewN | apply below_drew1 | refine below_set ?_ GE349.out) | exact HB.out))⟩; clear BK349 HB hq_; have BK349 := n0_; have HB := n1_; clear n0_ n1_))) | ((with_reducible refine gate_callee (f := 64) rfl ?_); refine goesL_ (some 19) rfl rfl Try.func64 (by kernel_rfl) rfl #[.int .i64 a0] rfl (by (try simp only [List.map_toArray, List.map_cons, List.map_nil]); first | done | rfl | (simp only [List.length_drop, List.length_take]; rfl)) ?_; (with_reducible refine (trunnionref02_Top.calls k a0 t353 _ A6.out).mono ?_); rintro e w' ⟨rfl, ⟨nd, rfl⟩⟩; refine ⟨_, rfl, ?_⟩; (try (rw [drewN_self w25]; generalize hq_ : World.drewN w25 _ = w25; have n0_ : Aside0 (w25.heap[gb349]? = some (.cells #[.bool false, .int .i64 0, .int .i64 0, .int .u64 0] 36 (0, 0))) := ⟨by rw [← hq_]; exact (by (with_reducible repeat (first | refine blk_drewN ?_ _ | refine blk_drew ?_ | refine blk_alloc ?_ _)); exact BK349.out)⟩; have n1_ : Aside0 (Below w.heap.size w w25) := ⟨by rw [← hq_]; exact (by repeat (first | (with_reducible first | exact HB.out | apply below_alloc | apply pw_below_drewN | apply below_drew1 | refine below_set ?_ GE349.out) | exact HB.out))⟩; clear BK349 HB hq_; have BK349 := n0_; have HB := n1_; clear n0_ n1_))) | ((with_reducible refine gate_callee (f := 126) rfl ?_); refine goesL_ (some 44) rfl rfl Try.func126 (by kernel_rfl) rfl #[.int .i64 a0] rfl (by (try simp only [List.map_toArray, List.map_cons, List.map_nil]); first | done | rfl | (simp only [List.length_drop, List.length_take]; rfl)) ?_; (with_reducible refine (trunnionref02_B.calls a0 t356 _ A21.out).mono ?_); rintro e w' ⟨rfl, ⟨nd, rfl⟩⟩; refine ⟨_, rfl, ?_⟩; (try (rw [drewN_self w25]; generalize hq_ : World.drewN w25 _ = w25; have n0_ : Aside0 (w25.heap[gb349]? = some (.cells #[.bool false, .int .i64 0, .int .i64 0, .int .u64 0] 36 (0, 0))) := ⟨by rw [← hq_]; exact (by (with_reducible repeat (first | refine blk_drewN ?_ _ | refine blk_drew ?_ | refine blk_alloc ?_ _)); exact BK349.out)⟩; have n1_ : Aside0 (Below w.heap.size w w25) := ⟨by rw [← hq_]; exact (by repeat (first | (with_reducible first | exact HB.out | apply below_alloc | apply pw_below_drewN | apply below_drew1 | refine below_set ?_ GE349.out) | exact HB.out))⟩; clear BK349 HB hq_; have BK349 := n0_; have HB := n1_; clear n0_ n1_))) | ((with_reducible refine gate_callee (f := 66) rfl ?_); refine goesL_ (some 47) rfl rfl Try.func66 (by kernel_rfl) rfl #[.int .i64 a0] rfl (by (try simp only [List.map_toArray, List.map_cons, List.map_nil]); first | done | rfl | (simp only [List.length_drop, List.length_take]; rfl)) ?_; (with_reducible refine (trunnionref02_F.calls a0 t357 _ A22.out).mono ?_); rintro e w' ⟨rfl, ⟨nd, rfl⟩⟩; refine ⟨_, rfl, ?_⟩; (try (rw [drewN_self w25]; generalize hq_ : World.drewN w25 _ = w25; have n0_ : Aside0 (w25.heap[gb349]? = some (.cells #[.bool false, .int .i64 0, .int .i64 0, .int .u64 0] 36 (0, 0))) := ⟨by rw [← hq_]; exact (by (with_reducible repeat (first | refine blk_drewN ?_ _ | refine blk_drew ?_ | refine blk_alloc ?_ _)); exact BK349.out)⟩; have n1_ : Aside0 (Below w.heap.size w w25) := ⟨by rw [← hq_]; exact (by repeat (first | (with_reducible first | exact HB.out | apply below_alloc | apply pw_below_drewN | apply below_drew1 | refine below_set ?_ GE349.out) | exact HB.out))⟩; clear BK349 HB hq_; have BK349 := n0_; have HB := n1_; clear n0_ n1_))) | ((with_reducible refine gate_callee (f := 66) rfl ?_); refine goesL_ (some 50) rfl rfl Try.func66 (by kernel_rfl) rfl #[.int .i64 a0] rfl (by (try simp only [List.map_toArray, List.map_cons, List.map_nil]); first | done | rfl | (simp only [List.length_drop, List.length_take]; rfl)) ?_; (with_reducible refine (trunnionref02_F.calls a0 t358 _ A23.out).mono ?_); rintro e w' ⟨rfl, ⟨nd, rfl⟩⟩; refine ⟨_, rfl, ?_⟩; (try (rw [drewN_self w25]; generalize hq_ : World.drewN w25 _ = w25; have n0_ : Aside0 (w25.heap[gb349]? = some (.cells #[.bool false, .int .i64 0, .int .i64 0, .int .u64 0] 36 (0, 0))) := ⟨by rw [← hq_]; exact (by (with_reducible repeat (first | refine blk_drewN ?_ _ | refine blk_drew ?_ | refine blk_alloc ?_ _)); exact BK349.out)⟩; have n1_ : Aside0 (Below w.heap.size w w25) := ⟨by rw [← hq_]; exact (by repeat (first | (with_reducible first | exact HB.out | apply below_alloc | apply pw_below_drewN | apply below_drew1 | refine below_set ?_ GE349.out) | exact HB.out))⟩; clear BK349 HB hq_; have BK349 := n0_; have HB := n1_; clear n0_ n1_))) | ((with_reducible refine gate_callee (f := 70) rfl ?_); refine goesL_ (some 51) rfl rfl Try.func70 (by kernel_rfl) rfl #[.int .i64 t358] rfl (by (try simp only [List.map_toArray, List.map_cons, List.map_nil]); first | done | rfl | (simp only [List.length_drop, List.length_take]; rfl)) ?_; (with_reducible refine (trunnionref02_Two.calls k t358 t359 _ A24.out).mono ?_); rintro e w' ⟨rfl, ⟨nd, rfl⟩⟩; refine ⟨_, rfl, ?_⟩; (try (rw [drewN_self w25]; generalize hq_ : World.drewN w25 _ = w25; have n0_ : Aside0 (w25.heap[gb349]? = some (.cells #[.bool false, .int .i64 0, .int .i64 0, .int .u64 0] 36 (0, 0))) := ⟨by rw [← hq_]; exact (by (with_reducible repeat (first | refine blk_drewN ?_ _ | refine blk_drew ?_ | refine blk_alloc ?_ _)); exact BK349.out)⟩; have n1_ : Aside0 (Below w.heap.size w w25) := ⟨by rw [← hq_]; exact (by repeat (first | (with_reducible first | exact HB.out | apply below_alloc | apply pw_below_drewN | apply below_drew1 | refine below_set ?_ GE349.out) | exact HB.out))⟩; clear BK349 HB hq_; have BK349 := n0_; have HB := n1_; clear n0_ n1_)); have hcz26_0 : w25.cell? ⟨gb349, 0, none⟩ = some (.bool false) := (blk_cell BK349.out 0).trans rfl; have hcz26_1 : w25.cell? ⟨gb349, 1, none⟩ = some (.int .i64 0) := (blk_cell BK349.out 1).trans rfl; have hcz26_2 : w25.cell? ⟨gb349, 2, none⟩ = some (.int .i64 0) := (blk_cell BK349.out 2).trans rfl; have hcz26_3 : w25.cell? ⟨gb349, 3, none⟩ = some (.int .u64 0) := (blk_cell BK349.out 3).trans rfl; have hfz26_0 := blk_frozen BK349.out 0; have hfz26_1 := blk_frozen BK349.out 1; have hfz26_2 := blk_frozen BK349.out 2; have hfz26_3 := blk_frozen BK349.out 3))
      refine bodyPost_ret (results_cell_row rfl _ _ gb349 36 #[.bool t352, .int .i64 1, .int .i64 (wrap64 ((wrap64 (t350 - t356)) - t357)), .int .u64 (IntKind.u64.wrap (t359 + t351))] (0, 0) _ rfl (by (with_reducible repeat (first | refine blk_drewN ?_ _ | refine blk_drew ?_ | refine blk_alloc ?_ _)); refine blk_put (cs := #[.bool t352, .int .i64 1, .int .i64 (wrap64 ((wrap64 (t350 - t356)) - t357)), .int .u64 0]) ?_ 3 _ rfl; (with_reducible repeat (first | refine blk_drewN ?_ _ | refine blk_drew ?_ | refine blk_alloc ?_ _)); refine blk_put (cs := #[.bool t352, .int .i64 1, .int .i64 0, .int .u64 0]) ?_ 2 _ rfl; (with_reducible repeat (first | refine blk_drewN ?_ _ | refine blk_drew ?_ | refine blk_alloc ?_ _)); refine blk_put (cs := #[.bool t352, .int .i64 0, .int .i64 0, .int .u64 0]) ?_ 1 _ rfl; (with_reducible repeat (first | refine blk_drewN ?_ _ | refine blk_drew ?_ | refine blk_alloc ?_ _)); refine blk_put (cs := #[.bool false, .int .i64 0, .int .i64 0, .int .u64 0]) ?_ 0 _ rfl; (with_reducible repeat (first | refine blk_drewN ?_ _ | refine blk_drew ?_ | refine blk_alloc ?_ _)); exact BK349.out) Try.underlying36 rfl (by kernel_rfl)) rfl ?_
      exact ⟨by first | rfl | (simp [errW_none, errW_some] <;> rfl) | (simp [*, errW_none, errW_some] <;> rfl), by repeat (first | (with_reducible first | exact HB.out | apply below_alloc | apply pw_below_drewN | apply below_drew1 | refine below_set ?_ GE349.out) | exact HB.out)⟩

end Go.Proofs.Ytmjfenbbgfohlaa.PA

namespace Go.Proofs.Ytmjfenbbgfohlaa.PA
open Go.RowKit Go.Proofs.YtmjfenbbgfohlaaW.PrintWords Go.Proofs.YtmjfenbbgfohlaaW.PrintLast Go.Proofs.YtmjfenbbgfohlaaW.PrintMore
attribute [local go_sem] max2_int min2_int max_two min_two max_three min_three max_four min_four   -- for this text's walks alone
set_option linter.unusedVariables false
set_option linter.unusedSimpArgs false

attribute [local go_sem high] eqA34 eqA36
/-! ### trunnionlaw02_ShapeOpens: function 8 -/
def trunnionlaw02_ShapeOpens.f (k : Nat) (a0 : Int) (a1 : Int) : Option (Bool) := (trunnionlaw02_awake.f k).bind fun t360 => (if t360 = true then ((shape_Open.f k a0 a1).bind fun bt361 => ((trunnionref02_Known.f a0).bind fun t366 => (if t366 = true then ((trunnionref02_Open.f k a0 a1).bind fun bt369 => (if (bt361.1 == bt369.1 && (bt361.2.1 == bt369.2.1 && (bt361.2.2.1 == bt369.2.2.1 && (bt361.2.2.2 == bt369.2.2.2)))) = true then ((shape_Cut.f a0 a1).bind fun t374 => ((trunnionref02_Cut.f a0 a1).bind fun t375 => (if t374 = t375 then ((shape_IsNan.f k a0 a1).bind fun t376 => (some (t376 == (bt369.2.1 == 3)))) else (some false)))) else (some false))) else (if (!bt361.1 && (bt361.2.1 == 0 && (bt361.2.2.1 == 0 && (bt361.2.2.2 == 0)))) = true then ((shape_Cut.f a0 a1).bind fun t367 => (if t367 = 0 then ((shape_IsNan.f k a0 a1).bind fun t368 => (some (!t368))) else (some false))) else (some false))))) else (some false))
theorem trunnionlaw02_ShapeOpens.mono : ∀ a0 a1 k, LeO (trunnionlaw02_ShapeOpens.f k a0 a1) (trunnionlaw02_ShapeOpens.f (k + 1) a0 a1) := by
  intro a0 a1 k
  unfold trunnionlaw02_ShapeOpens.f
  repeat' first
      | (with_reducible exact shape_IsNan.mono _ _ _)
      | (with_reducible exact shape_Open.mono _ _ _)
      | (with_reducible exact trunnionlaw02_awake.mono _)
      | (with_reducible exact trunnionref02_Open.mono _ _ _)
      | (with_reducible exact LeO.refl _)
      | (with_reducible exact LeO.none _)
      | (with_reducible refine LeO.ite ?_ ?_)
      | (with_reducible refine LeO.bind ?_ (fun _ => ?_))
      | exact shape_IsNan.mono _ _ _
      | exact shape_Open.mono _ _ _
      | exact trunnionlaw02_awake.mono _
      | exact trunnionref02_Open.mono _ _ _
      | exact LeO.none _
      | refine LeO.ite ?_ ?_
      | refine LeO.bind ?_ (fun _ => ?_)
def trunnionlaw02_ShapeOpens.T7 : Bool × List (List Nat × List Nat) := (true, [([], []), ([], []), ([0, 1], [0, 1]), ([2], [2]), ([3], [3]), ([3], [3]), ([4, 5, 3, 3], [3, 4, 5]), ([3], [3]), ([3], [3]), ([7, 8, 6, 3], [3, 7, 8]), ([6, 9, 3], [3, 6, 9]), ([3, 10], [3, 10]), ([11, 9], [11]), ([12], [12]), ([12], [12]), ([13, 14, 12, 12], [12, 13, 14]), ([12], [12]), ([16, 12], [12, 16]), ([17, 12], [12, 17]), ([15, 18, 12], [12, 15, 18]), ([12, 19], [12, 19]), ([20, 15, 0, 1, 2, 3, 4, 5, 6, 7, 8, 9, 10, 11, 12, 13, 14, 15, 16, 17, 18, 19, 20], [20])])
def trunnionlaw02_ShapeOpens.B7 : List Nat := [0, 0, 3, 7, 15, 15, 63, 15, 15, 511, 1023, 2047, 4095, 8191, 8191, 32767, 8191, 73727, 204799, 524287, 1048575, 2097151]
theorem trunnionlaw02_ShapeOpens.tab7 : rtab .any (opsOf Try.f8 7) = trunnionlaw02_ShapeOpens.T7 := by kernel_rfl
theorem trunnionlaw02_ShapeOpens.bits7 : waitsOk trunnionlaw02_ShapeOpens.T7.2 trunnionlaw02_ShapeOpens.B7 = true := by kernel_rfl
set_option maxHeartbeats 8000000 in
set_option maxRecDepth 100000 in
theorem trunnionlaw02_ShapeOpens.calls (k : Nat) (a0 : Int) (a1 : Int) (r : Bool) (w : World) (h : trunnionlaw02_ShapeOpens.f k a0 a1 = some r) :
    Calls Try.prog 8 #[.int .i64 a0, .int .u64 a1] w fun e w' => e = .returned (.bool r) ∧ Below w.heap.size w w' := by
  have hu34 := Try.underlying34
  have hu36 := Try.underlying36
  have HB := Aside0.mk (Below.refl w.heap.size w)
  have H : ((trunnionlaw02_awake.f k).bind fun t360 => (if t360 = true then ((shape_Open.f k a0 a1).bind fun bt361 => ((trunnionref02_Known.f a0).bind fun t366 => (if t366 = true then ((trunnionref02_Open.f k a0 a1).bind fun bt369 => (if (bt361.1 == bt369.1 && (bt361.2.1 == bt369.2.1 && (bt361.2.2.1 == bt369.2.2.1 && (bt361.2.2.2 == bt369.2.2.2)))) = true then ((shape_Cut.f a0 a1).bind fun t374 => ((trunnionref02_Cut.f a0 a1).bind fun t375 => (if t374 = t375 then ((shape_IsNan.f k a0 a1).bind fun t376 => (some (t376 == (bt369.2.1 == 3)))) else (some false)))) else (some false))) else (if (!bt361.1 && (bt361.2.1 == 0 && (bt361.2.2.1 == 0 && (bt361.2.2.2 == 0)))) = true then ((shape_Cut.f a0 a1).bind fun t367 => (if t367 = 0 then ((shape_IsNan.f k a0 a1).bind fun t368 => (some (!t368))) else (some false))) else (some false))))) else (some false))) = some r := h
  clear h
  replace H := Option.bind_eq_some_iff.mp H
  obtain ⟨t360, A30, H⟩ := H
  replace H : (if t360 = true then ((shape_Open.f k a0 a1).bind fun bt361 => ((trunnionref02_Known.f a0).bind fun t366 => (if t366 = true then ((trunnionref02_Open.f k a0 a1).bind fun bt369 => (if (bt361.1 == bt369.1 && (bt361.2.1 == bt369.2.1 && (bt361.2.2.1 == bt369.2.2.1 && (bt361.2.2.2 == bt369.2.2.2)))) = true then ((shape_Cut.f a0 a1).bind fun t374 => ((trunnionref02_Cut.f a0 a1).bind fun t375 => (if t374 = t375 then ((shape_IsNan.f k a0 a1).bind fun t376 => (some (t376 == (bt369.2.1 == 3)))) else (some false)))) else (some false))) else (if (!bt361.1 && (bt361.2.1 == 0 && (bt361.2.2.1 == 0 && (bt361.2.2.2 == 0)))) = true then ((shape_Cut.f a0 a1).bind fun t367 => (if t367 = 0 then ((shape_IsNan.f k a0 a1).bind fun t368 => (some (!t368))) else (some false))) else (some false))))) else (some false)) = some r := H
  have A3 := Aside0.mk A30
  clear A30
  by_cases c4 : t360 = true
  · subst c4
    have H1 : ((shape_Open.f k a0 a1).bind fun bt361 => ((trunnionref02_Known.f a0).bind fun t366 => (if t366 = true then ((trunnionref02_Open.f k a0 a1).bind fun bt369 => (if (bt361.1 == bt369.1 && (bt361.2.1 == bt369.2.1 && (bt361.2.2.1 == bt369.2.2.1 && (bt361.2.2.2 == bt369.2.2.2)))) = true then ((shape_Cut.f a0 a1).bind fun t374 => ((trunnionref02_Cut.f a0 a1).bind fun t375 => (if t374 = t375 then ((shape_IsNan.f k a0 a1).bind fun t376 => (some (t376 == (bt369.2.1 == 3)))) else (some false)))) else (some false))) else (if (!bt361.1 && (bt361.2.1 == 0 && (bt361.2.2.1 == 0 && (bt361.2.2.2 == 0)))) = true then ((shape_Cut.f a0 a1).bind fun t367 => (if t367 = 0 then ((shape_IsNan.f k a0 a1).bind fun t368 => (some (!t368))) else (some false))) else (some false))))) = some r := by rw [if_pos rfl] at H; exact H
    clear H
    have H := H1
    clear H1
    replace H := Option.bind_eq_some_iff.mp H
    obtain ⟨⟨t361, t362, t363, t364⟩, A50, H⟩ := H
    replace H : ((trunnionref02_Known.f a0).bind fun t366 => (if t366 = true then ((trunnionref02_Open.f k a0 a1).bind fun bt369 => (if (t361 == bt369.1 && (t362 == bt369.2.1 && (t363 == bt369.2.2.1 && (t364 == bt369.2.2.2)))) = true then ((shape_Cut.f a0 a1).bind fun t374 => ((trunnionref02_Cut.f a0 a1).bind fun t375 => (if t374 = t375 then ((shape_IsNan.f k a0 a1).bind fun t376 => (some (t376 == (bt369.2.1 == 3)))) else (some false)))) else (some false))) else (if (!t361 && (t362 == 0 && (t363 == 0 && (t364 == 0)))) = true then ((shape_Cut.f a0 a1).bind fun t367 => (if t367 = 0 then ((shape_IsNan.f k a0 a1).bind fun t368 => (some (!t368))) else (some false))) else (some false)))) = some r := H
    have A5 := Aside0.mk A50
    clear A50
    replace H := Option.bind_eq_some_iff.mp H
    obtain ⟨t366, A60, H⟩ := H
    replace H : (if t366 = true then ((trunnionref02_Open.f k a0 a1).bind fun bt369 => (if (t361 == bt369.1 && (t362 == bt369.2.1 && (t363 == bt369.2.2.1 && (t364 == bt369.2.2.2)))) = true then ((shape_Cut.f a0 a1).bind fun t374 => ((trunnionref02_Cut.f a0 a1).bind fun t375 => (if t374 = t375 then ((shape_IsNan.f k a0 a1).bind fun t376 => (some (t376 == (bt369.2.1 == 3)))) else (some false)))) else (some false))) else (if (!t361 && (t362 == 0 && (t363 == 0 && (t364 == 0)))) = true then ((shape_Cut.f a0 a1).bind fun t367 => (if t367 = 0 then ((shape_IsNan.f k a0 a1).bind fun t368 => (some (!t368))) else (some false))) else (some false))) = some r := H
    have A6 := Aside0.mk A60
    clear A60
    by_cases c7 : t366 = true
    · subst c7
      have H1 : ((trunnionref02_Open.f k a0 a1).bind fun bt369 => (if (t361 == bt369.1 && (t362 == bt369.2.1 && (t363 == bt369.2.2.1 && (t364 == bt369.2.2.2)))) = true then ((shape_Cut.f a0 a1).bind fun t374 => ((trunnionref02_Cut.f a0 a1).bind fun t375 => (if t374 = t375 then ((shape_IsNan.f k a0 a1).bind fun t376 => (some (t376 == (bt369.2.1 == 3)))) else (some false)))) else (some false))) = some r := by rw [if_pos rfl] at H; exact H
      clear H
      have H := H1
      clear H1
      replace H := Option.bind_eq_some_iff.mp H
      obtain ⟨⟨t369, t370, t371, t372⟩, A80, H⟩ := H
      replace H : (if (t361 == t369 && (t362 == t370 && (t363 == t371 && (t364 == t372)))) = true then ((shape_Cut.f a0 a1).bind fun t374 => ((trunnionref02_Cut.f a0 a1).bind fun t375 => (if t374 = t375 then ((shape_IsNan.f k a0 a1).bind fun t376 => (some (t376 == (t370 == 3)))) else (some false)))) else (some false)) = some r := H
      have A8 := Aside0.mk A80
      clear A80
      by_cases c9 : (t361 == t369 && (t362 == t370 && (t363 == t371 && (t364 == t372)))) = true
      · rw [if_pos c9] at H
        have c9b0 : (t361 == t369 && (t362 == t370 && (t363 == t371 && (t364 == t372)))) = true := c9
        (try (have c9b1 : decide (t361 = t369 && (t362 == t370 && (t363 == t371 && (t364 == t372)))) = true := by simpa using c9))
        (try (have c9b2 : (t361 == t369 && (t362 == t370 && (t363 == t371 && (t364 == t372)))) = true := by simpa using c9))
        clear c9
        replace H := Option.bind_eq_some_iff.mp H
        obtain ⟨t374, A100, H⟩ := H
        replace H : ((trunnionref02_Cut.f a0 a1).bind fun t375 => (if t374 = t375 then ((shape_IsNan.f k a0 a1).bind fun t376 => (some (t376 == (t370 == 3)))) else (some false))) = some r := H
        have A10 := Aside0.mk A100
        clear A100
        replace H := Option.bind_eq_some_iff.mp H
        obtain ⟨t375, A110, H⟩ := H
        replace H : (if t374 = t375 then ((shape_IsNan.f k a0 a1).bind fun t376 => (some (t376 == (t370 == 3)))) else (some false)) = some r := H
        have A11 := Aside0.mk A110
        clear A110
        by_cases c12 : t374 = t375
        · rw [if_pos c12] at H
          have c12b0 : (t374 == t375) = true := beq_iff_eq.mpr c12
          have c12b1 : (t374 != t375) = false := bne_eq_false_iff_eq.mpr c12
          clear c12
          replace H := Option.bind_eq_some_iff.mp H
          obtain ⟨t376, A130, H⟩ := H
          replace H : (some (t376 == (t370 == 3))) = some r := H
          have A13 := Aside0.mk A130
          clear A130
          obtain rfl := Option.some.inj H
          go_enter Try.func8, Try.ntmps8
          try go_wp2_with (first | ((with_reducible refine gate_callee (f := 40) rfl ?_); refine goesL_ (some 7) rfl rfl Try.func40 (by kernel_rfl) rfl #[] rfl (by (try simp only [List.map_toArray, List.map_cons, List.map_nil]); first | done | rfl | (simp only [List.length_drop, List.length_take]; rfl)) ?_; (with_reducible refine (trunnionlaw02_awake.calls k  true _ A3.out).mono ?_); rintro e w14 ⟨rfl, hb⟩; refine ⟨_, rfl, ?_⟩; have n0_ := Aside0.mk (below_step (by repeat (first | (with_reducible first | exact HB.out | apply below_alloc | apply pw_below_drewN | apply below_drew1) | exact HB.out)) hb); clear HB; have HB := n0_; clear n0_; (try clear hb); (try clear hb2); (try clear hk); (try clear hi)) | ((with_reducible refine gate_callee (f := 41) rfl ?_); refine goesL_ (some 11) rfl rfl Try.func41 (by kernel_rfl) rfl #[.int .i64 a0, .int .u64 a1] rfl (by (try simp only [List.map_toArray, List.map_cons, List.map_nil]); first | done | rfl | (simp only [List.length_drop, List.length_take]; rfl)) ?_; (with_reducible refine (shape_Open.calls k a0 a1 t361 t362 t363 t364 _ A5.out).mono ?_); rintro e w15 ⟨rfl, hb⟩; refine ⟨_, rfl, ?_⟩; have n0_ := Aside0.mk (below_step (by repeat (first | (with_reducible first | exact HB.out | apply below_alloc | apply pw_below_drewN | apply below_drew1) | exact HB.out)) hb); clear HB; have HB := n0_; clear n0_; (try clear hb); (try clear hb2); (try clear hk); (try clear hi)) | ((with_reducible refine gate_dst (N := 5) rfl ?_); refine box_event ?hg (N := 5) ?hd (cs := #[.bool false, .int .i64 0, .int .i64 0, .int .u64 0]) (t := 34) ?hr ?_; (case hd => rfl); (case hg => rfl); (case hr => first | (go_simp; done) | (go_simp; rfl)); intro gb365 hg w16 hbox hb; have n0_ := Aside0.mk (below_step (by repeat (first | (with_reducible first | exact HB.out | apply below_alloc | apply pw_below_drewN | apply below_drew1) | exact HB.out)) hb); have n1_ := Aside0.mk (hbox); have n2_ := Aside0.mk ((by rw [hg]; exact (below_size (by repeat (first | (with_reducible first | exact HB.out | apply below_alloc | apply pw_below_drewN | apply below_drew1) | exact HB.out))) : w.heap.size ≤ gb365)); have n3_ := Aside0.mk ((by rw [hg]; exact (below_size (by repeat (first | (with_reducible first | exact HB.out | apply below_alloc | apply pw_below_drewN | apply below_drew1) | exact HB.out))) : w.heap.size ≤ gb365)); clear HB; have HB := n0_; have BK365 := n1_; have GW365 := n2_; have GE365 := n3_; clear n0_ n1_ n2_ n3_; clear hb hbox hg; have hcz17_0 : w16.cell? ⟨gb365, 0, none⟩ = some (.bool false) := (blk_cell BK365.out 0).trans rfl; have hcz17_1 : w16.cell? ⟨gb365, 1, none⟩ = some (.int .i64 0) := (blk_cell BK365.out 1).trans rfl; have hcz17_2 : w16.cell? ⟨gb365, 2, none⟩ = some (.int .i64 0) := (blk_cell BK365.out 2).trans rfl; have hcz17_3 : w16.cell? ⟨gb365, 3, none⟩ = some (.int .u64 0) := (blk_cell BK365.out 3).trans rfl; have hfz17_0 := blk_frozen BK365.out 0; have hfz17_1 := blk_frozen BK365.out 1; have hfz17_2 := blk_frozen BK365.out 2; have hfz17_3 := blk_frozen BK365.out 3) | ((with_reducible refine gate_callee (f := 29) rfl ?_); refine goesL_ (some 13) rfl rfl Try.func29 (by kernel_rfl) rfl #[.int .i64 a0] rfl (by (try simp only [List.map_toArray, List.map_cons, List.map_nil]); first | done | rfl | (simp only [List.length_drop, List.length_take]; rfl)) ?_; (with_reducible refine (trunnionref02_Known.calls a0 true _ A6.out).mono ?_); rintro e w' ⟨rfl, ⟨nd, rfl⟩⟩; refine ⟨_, rfl, ?_⟩) | ((with_reducible refine gate_callee (f := 44) rfl ?_); refine goesL_ (some 32) rfl rfl Try.func44 (by kernel_rfl) rfl #[.int .i64 a0, .int .u64 a1] rfl (by (try simp only [List.map_toArray, List.map_cons, List.map_nil]); first | done | rfl | (simp only [List.length_drop, List.length_take]; rfl)) ?_; (with_reducible refine (trunnionref02_Open.calls k a0 a1 t369 t370 t371 t372 _ A8.out).mono ?_); rintro e w18 ⟨rfl, hb⟩; refine ⟨_, rfl, ?_⟩; have n0_ := Aside0.mk (blk_below (g := gb365) (o := .cells #[.bool t361, .int .i64 t362, .int .i64 t363, .int .u64 t364] 34 (0, 0)) (by (with_reducible repeat (first | refine blk_drewN ?_ _ | refine blk_drew ?_ | refine blk_alloc ?_ _)); refine blk_put (cs := #[.bool t361, .int .i64 t362, .int .i64 t363, .int .u64 0]) ?_ 3 _ rfl; (with_reducible repeat (first | refine blk_drewN ?_ _ | refine blk_drew ?_ | refine blk_alloc ?_ _)); refine blk_put (cs := #[.bool t361, .int .i64 t362, .int .i64 0, .int .u64 0]) ?_ 2 _ rfl; (with_reducible repeat (first | refine blk_drewN ?_ _ | refine blk_drew ?_ | refine blk_alloc ?_ _)); refine blk_put (cs := #[.bool t361, .int .i64 0, .int .i64 0, .int .u64 0]) ?_ 1 _ rfl; (with_reducible repeat (first | refine blk_drewN ?_ _ | refine blk_drew ?_ | refine blk_alloc ?_ _)); refine blk_put (cs := #[.bool false, .int .i64 0, .int .i64 0, .int .u64 0]) ?_ 0 _ rfl; (with_reducible repeat (first | refine blk_drewN ?_ _ | refine blk_drew ?_ | refine blk_alloc ?_ _)); exact BK365.out) hb); have n1_ := Aside0.mk (below_step (by repeat (first | (with_reducible first | exact HB.out | apply below_alloc | apply pw_below_drewN | apply below_drew1 | refine below_set ?_ GE365.out) | exact HB.out)) hb); clear BK365; clear HB; have BK365 := n0_; have HB := n1_; clear n0_ n1_; (try clear hb); (try clear hb2); (try clear hk); (try clear hi)) | ((with_reducible refine gate_dst (N := 6) rfl ?_); refine box_event ?hg (N := 6) ?hd (cs := #[.bool false, .int .i64 0, .int .i64 0, .int .u64 0]) (t := 36) ?hr ?_; (case hd => rfl); (case hg => rfl); (case hr => first | (go_simp; done) | (go_simp; rfl)); intro gb373 hg w19 hbox hb; have n0_ := Aside0.mk (blk_below (g := gb365) (o := .cells #[.bool t361, .int .i64 t362, .int .i64 t363, .int .u64 t364] 34 (0, 0)) (by (with_reducible repeat (first | refine blk_drewN ?_ _ | refine blk_drew ?_ | refine blk_alloc ?_ _)); exact BK365.out) hb); have n1_ := Aside0.mk (below_step (by repeat (first | (with_reducible first | exact HB.out | apply below_alloc | apply pw_below_drewN | apply below_drew1 | refine below_set ?_ GE365.out) | exact HB.out)) hb); have n2_ := Aside0.mk (hbox); have n3_ := Aside0.mk ((by rw [hg]; exact (below_size (by repeat (first | (with_reducible first | exact HB.out | apply below_alloc | apply pw_below_drewN | apply below_drew1 | refine below_set ?_ GE365.out) | exact HB.out))) : w.heap.size ≤ gb373)); have n4_ := Aside0.mk ((by rw [hg]; exact (below_size (by repeat (first | (with_reducible first | exact HB.out | apply below_alloc | apply pw_below_drewN | apply below_drew1 | refine below_set ?_ GE365.out) | exact HB.out))) : w.heap.size ≤ gb373)); have n5_ := Aside0.mk ((by rw [hg]; exact Nat.ne_of_lt (blk_lt (g := gb365) (o := .cells #[.bool t361, .int .i64 t362, .int .i64 t363, .int .u64 t364] 34 (0, 0)) (by (with_reducible repeat (first | refine blk_drewN ?_ _ | refine blk_drew ?_ | refine blk_alloc ?_ _)); exact BK365.out)) : gb365 ≠ gb373)); have n6_ := Aside0.mk ((by rw [hg]; exact Nat.ne_of_gt (blk_lt (g := gb365) (o := .cells #[.bool t361, .int .i64 t362, .int .i64 t363, .int .u64 t364] 34 (0, 0)) (by (with_reducible repeat (first | refine blk_drewN ?_ _ | refine blk_drew ?_ | refine blk_alloc ?_ _)); exact BK365.out)) : gb373 ≠ gb365)); clear BK365; clear HB; have BK365 := n0_; have HB := n1_; have BK373 := n2_; have GW373 := n3_; have GE373 := n4_; have NB365_373 := n5_; have NB373_365 := n6_; clear n0_ n1_ n2_ n3_ n4_ n5_ n6_; clear hb hbox hg; have hnb20 := NB373_365.out; have hnc20 := NB365_373.out; have hcz21_0 : w19.cell? ⟨gb373, 0, none⟩ = some (.bool false) := (blk_cell BK373.out 0).trans rfl; have hcz21_1 : w19.cell? ⟨gb373, 1, none⟩ = some (.int .i64 0) := (blk_cell BK373.out 1).trans rfl; have hcz21_2 : w19.cell? ⟨gb373, 2, none⟩ = some (.int .i64 0) := (blk_cell BK373.out 2).trans rfl; have hcz21_3 : w19.cell? ⟨gb373, 3, none⟩ = some (.int .u64 0) := (blk_cell BK373.out 3).trans rfl; have hfz21_0 := blk_frozen BK373.out 0; have hfz21_1 := blk_frozen BK373.out 1; have hfz21_2 := blk_frozen BK373.out 2; have hfz21_3 := blk_frozen BK373.out 3))
          have n0_ : Aside0 (((((w19.setCell ⟨gb373, 0, none⟩ (.bool t369)).setCell ⟨gb373, 1, none⟩ (.int .i64 t370)).setCell ⟨gb373, 2, none⟩ (.int .i64 t371)).setCell ⟨gb373, 3, none⟩ (.int .u64 t372)).heap[gb365]? = some (.cells #[.bool t361, .int .i64 t362, .int .i64 t363, .int .u64 t364] 34 (0, 0))) := ⟨by (with_reducible repeat (first | refine blk_drewN ?_ _ | refine blk_drew ?_ | refine blk_alloc ?_ _)); refine blk_far ?_ NB365_373.out _; (with_reducible repeat (first | refine blk_drewN ?_ _ | refine blk_drew ?_ | refine blk_alloc ?_ _)); refine blk_far ?_ NB365_373.out _; (with_reducible repeat (first | refine blk_drewN ?_ _ | refine blk_drew ?_ | refine blk_alloc ?_ _)); refine blk_far ?_ NB365_373.out _; (with_reducible repeat (first | refine blk_drewN ?_ _ | refine blk_drew ?_ | refine blk_alloc ?_ _)); refine blk_far ?_ NB365_373.out _; (with_reducible repeat (first | refine blk_drewN ?_ _ | refine blk_drew ?_ | refine blk_alloc ?_ _)); exact BK365.out⟩
          have n1_ : Aside0 (((((w19.setCell ⟨gb373, 0, none⟩ (.bool t369)).setCell ⟨gb373, 1, none⟩ (.int .i64 t370)).setCell ⟨gb373, 2, none⟩ (.int .i64 t371)).setCell ⟨gb373, 3, none⟩ (.int .u64 t372)).heap[gb373]? = some (.cells #[.bool t369, .int .i64 t370, .int .i64 t371, .int .u64 t372] 36 (0, 0))) := ⟨by (with_reducible repeat (first | refine blk_drewN ?_ _ | refine blk_drew ?_ | refine blk_alloc ?_ _)); refine blk_put (cs := #[.bool t369, .int .i64 t370, .int .i64 t371, .int .u64 0]) ?_ 3 _ rfl; (with_reducible repeat (first | refine blk_drewN ?_ _ | refine blk_drew ?_ | refine blk_alloc ?_ _)); refine blk_put (cs := #[.bool t369, .int .i64 t370, .int .i64 0, .int .u64 0]) ?_ 2 _ rfl; (with_reducible repeat (first | refine blk_drewN ?_ _ | refine blk_drew ?_ | refine blk_alloc ?_ _)); refine blk_put (cs := #[.bool t369, .int .i64 0, .int .i64 0, .int .u64 0]) ?_ 1 _ rfl; (with_reducible repeat (first | refine blk_drewN ?_ _ | refine blk_drew ?_ | refine blk_alloc ?_ _)); refine blk_put (cs := #[.bool false, .int .i64 0, .int .i64 0, .int .u64 0]) ?_ 0 _ rfl; (with_reducible repeat (first | refine blk_drewN ?_ _ | refine blk_drew ?_ | refine blk_alloc ?_ _)); exact BK373.out⟩
          have n2_ : Aside0 (Below w.heap.size w ((((w19.setCell ⟨gb373, 0, none⟩ (.bool t369)).setCell ⟨gb373, 1, none⟩ (.int .i64 t370)).setCell ⟨gb373, 2, none⟩ (.int .i64 t371)).setCell ⟨gb373, 3, none⟩ (.int .u64 t372))) := ⟨by repeat (first | (with_reducible first | exact HB.out | apply below_alloc | apply pw_below_drewN | apply below_drew1 | refine below_set ?_ GE365.out | refine below_set ?_ GE373.out) | exact HB.out)⟩
          (try clear BK365)
          (try clear BK373)
          (try clear HB)
          generalize ((((w19.setCell ⟨gb373, 0, none⟩ (.bool t369)).setCell ⟨gb373, 1, none⟩ (.int .i64 t370)).setCell ⟨gb373, 2, none⟩ (.int .i64 t371)).setCell ⟨gb373, 3, none⟩ (.int .u64 t372)) = w22 at n0_ n1_ n2_ ⊢
          have BK365 := n0_
          have BK373 := n1_
          have HB := n2_
          clear n0_ n1_ n2_
          have n0_ := Aside0.mk (blk_drew BK365.out)
          have n1_ := Aside0.mk (blk_drew BK373.out)
          have n2_ := Aside0.mk (below_drew1 HB.out)
          clear BK365
          clear BK373
          clear HB
          have BK365 := n0_
          have BK373 := n1_
          have HB := n2_
          clear n0_ n1_ n2_
          refine start_ (n := 22) (S := fun w' => w'.cell? ⟨gb365, 0, none⟩ = some (.bool t361) ∧ w'.cell? ⟨gb365, 1, none⟩ = some (.int .i64 t362) ∧ w'.cell? ⟨gb365, 2, none⟩ = some (.int .i64 t363) ∧ w'.cell? ⟨gb365, 3, none⟩ = some (.int .u64 t364) ∧ w'.cell? ⟨gb373, 0, none⟩ = some (.bool t369) ∧ w'.cell? ⟨gb373, 1, none⟩ = some (.int .i64 t370) ∧ w'.cell? ⟨gb373, 2, none⟩ = some (.int .i64 t371) ∧ w'.cell? ⟨gb373, 3, none⟩ = some (.int .u64 t372)) (ds := []) #[false, false, false, false, false, false, false, false, false, false, false, false, false, false, false, false, false, false, false, false, false, false] (by kernel_rfl) rfl rfl ⟨(blk_cell BK365.out 0).trans rfl, (blk_cell BK365.out 1).trans rfl, (blk_cell BK365.out 2).trans rfl, (blk_cell BK365.out 3).trans rfl, (blk_cell BK373.out 0).trans rfl, (blk_cell BK373.out 1).trans rfl, (blk_cell BK373.out 2).trans rfl, (blk_cell BK373.out 3).trans rfl⟩ (fun hHeld => ?_); refine with_tabW trunnionlaw02_ShapeOpens.tab7 trunnionlaw02_ShapeOpens.bits7 (fun HT_ HW_ => ?_)
          generalize w22.drew = w23 at BK365 BK373 HB hHeld ⊢
          refine take_ (i := 0) (N := some 33) (v := ?_) (a' := ?_) #[true, false, false, false, false, false, false, false, false, false, false, false, false, false, false, false, false, false, false, false, false, false] rfl rfl (take_ofW HT_.out HW_.out (by kernel_rfl)) (fun _ _ _ h => h) (Or.inl ⟨by rfl, ?_⟩) hHeld ?_ ?_
          rotate_left
          · rintro w' ⟨s0, s1, s2, s3, s4, s5, s6, s7⟩
            go_simp
            with_reducible rfl
          rotate_left
          · simp only [Act.put, List.setIfInBounds_toArray, List.set_cons_zero, List.set_cons_succ, i64_w, i32_w]
            rfl
          refine take_ (i := 1) (N := some 34) (v := ?_) (a' := ?_) #[true, true, false, false, false, false, false, false, false, false, false, false, false, false, false, false, false, false, false, false, false, false] rfl rfl (take_ofW HT_.out HW_.out (by kernel_rfl)) (fun _ _ _ h => h) (Or.inl ⟨by rfl, ?_⟩) hHeld ?_ ?_
          rotate_left
          · rintro w' ⟨s0, s1, s2, s3, s4, s5, s6, s7⟩
            go_simp
            with_reducible rfl
          rotate_left
          · simp only [Act.put, List.setIfInBounds_toArray, List.set_cons_zero, List.set_cons_succ, i64_w, i32_w]
            rfl
          refine pure_ (i := 2) (N := some 35) (v := ?_) (a' := ?_) #[true, true, true, false, false, false, false, false, false, false, false, false, false, false, false, false, false, false, false, false, false, false] rfl rfl (any_of HT_.out (by kernel_rfl)) (fun _ _ _ h => h) (Or.inl ⟨by rfl, ?_⟩) ?_ ?_
          rotate_left
          · intro w'
            go_simp
            with_reducible rfl
          rotate_left
          · simp only [Act.put, List.setIfInBounds_toArray, List.set_cons_zero, List.set_cons_succ, i64_w, i32_w]
            rfl
          refine pure_ (i := 3) (N := some 36) (v := ?_) (a' := ?_) #[true, true, true, true, false, false, false, false, false, false, false, false, false, false, false, false, false, false, false, false, false, false] rfl rfl (any_of HT_.out (by kernel_rfl)) (fun _ _ _ h => h) (Or.inl ⟨by rfl, ?_⟩) ?_ ?_
          rotate_left
          · intro w'
            go_simp
            with_reducible rfl
          rotate_left
          · simp only [Act.put, List.setIfInBounds_toArray, List.set_cons_zero, List.set_cons_succ, i64_w, i32_w]
            rfl
          refine pure_ (i := 4) (N := some 37) (v := ?_) (a' := ?_) #[true, true, true, true, true, false, false, false, false, false, false, false, false, false, false, false, false, false, false, false, false, false] rfl rfl (any_of HT_.out (by kernel_rfl)) (fun _ _ _ h => h) (Or.inl ⟨by rfl, ?_⟩) ?_ ?_
          rotate_left
          · intro w'
            go_simp
            with_reducible rfl
          rotate_left
          · simp only [Act.put, List.setIfInBounds_toArray, List.set_cons_zero, List.set_cons_succ, i64_w, i32_w]
            rfl
          refine pure_ (i := 5) (N := some 38) (v := ?_) (a' := ?_) #[true, true, true, true, true, true, false, false, false, false, false, false, false, false, false, false, false, false, false, false, false, false] rfl rfl (any_of HT_.out (by kernel_rfl)) (fun _ _ _ h => h) (Or.inl ⟨by rfl, ?_⟩) ?_ ?_
          rotate_left
          · intro w'
            go_simp
            with_reducible rfl
          rotate_left
          · simp only [Act.put, List.setIfInBounds_toArray, List.set_cons_zero, List.set_cons_succ, i64_w, i32_w]
            rfl
          refine pure_ (i := 7) (N := some 40) (v := ?_) (a' := ?_) #[true, true, true, true, true, true, false, true, false, false, false, false, false, false, false, false, false, false, false, false, false, false] rfl rfl (any_of HT_.out (by kernel_rfl)) (fun _ _ _ h => h) (Or.inl ⟨by rfl, ?_⟩) ?_ ?_
          rotate_left
          · intro w'
            go_simp
            with_reducible rfl
          rotate_left
          · simp only [Act.put, List.setIfInBounds_toArray, List.set_cons_zero, List.set_cons_succ, i64_w, i32_w]
            rfl
          refine pure_ (i := 8) (N := some 41) (v := ?_) (a' := ?_) #[true, true, true, true, true, true, false, true, true, false, false, false, false, false, false, false, false, false, false, false, false, false] rfl rfl (any_of HT_.out (by kernel_rfl)) (fun _ _ _ h => h) (Or.inl ⟨by rfl, ?_⟩) ?_ ?_
          rotate_left
          · intro w'
            go_simp
            with_reducible rfl
          rotate_left
          · simp only [Act.put, List.setIfInBounds_toArray, List.set_cons_zero, List.set_cons_succ, i64_w, i32_w]
            rfl
          refine one_ (i := 6) (N := some 39) #[true, true, true, true, true, true, true, true, true, false, false, false, false, false, false, false, false, false, false, false, false, false] rfl rfl (one_of HT_.out (by kernel_rfl)) (by decide) (fun K hK => ?_)
          refine goes_ Try.func42 (by kernel_rfl) rfl #[.int .i64 a0, .int .u64 a1] (by rfl) rfl rfl (by (try simp only [List.map_toArray, List.map_cons, List.map_nil]); first | done | rfl | (simp only [List.length_drop, List.length_take]; rfl)) ?_
          with_reducible refine (shape_Cut.calls a0 a1 t374 _ A10.out).mono ?_
          rintro e w' ⟨rfl, ⟨nd, rfl⟩⟩
          refine ⟨_, rfl, ?_⟩
          refine hK.out _ _ ⟨(blk_cell BK365.out 0).trans rfl, (blk_cell BK365.out 1).trans rfl, (blk_cell BK365.out 2).trans rfl, (blk_cell BK365.out 3).trans rfl, (blk_cell BK373.out 0).trans rfl, (blk_cell BK373.out 1).trans rfl, (blk_cell BK373.out 2).trans rfl, (blk_cell BK373.out 3).trans rfl⟩ (fun hHeld => ?_)
          clear hK K
          refine norm_ (a' := ?_) ?_ ?_
          rotate_left
          · show Act.put _ (some 39) _ = _
            simp only [Act.put, List.setIfInBounds_toArray, List.set_cons_zero, List.set_cons_succ, i64_w, i32_w]
            rfl
          refine one_ (i := 9) (N := some 42) #[true, true, true, true, true, true, true, true, true, true, false, false, false, false, false, false, false, false, false, false, false, false] rfl rfl (one_of HT_.out (by kernel_rfl)) (by decide) (fun K hK => ?_)
          refine goes_ Try.func45 (by kernel_rfl) rfl #[.int .i64 a0, .int .u64 a1] (by rfl) rfl rfl (by (try simp only [List.map_toArray, List.map_cons, List.map_nil]); first | done | rfl | (simp only [List.length_drop, List.length_take]; rfl)) ?_
          with_reducible refine (trunnionref02_Cut.calls a0 a1 t375 _ A11.out).mono ?_
          rintro e w' ⟨rfl, ⟨nd, rfl⟩⟩
          refine ⟨_, rfl, ?_⟩
          refine hK.out _ _ ⟨(blk_cell BK365.out 0).trans rfl, (blk_cell BK365.out 1).trans rfl, (blk_cell BK365.out 2).trans rfl, (blk_cell BK365.out 3).trans rfl, (blk_cell BK373.out 0).trans rfl, (blk_cell BK373.out 1).trans rfl, (blk_cell BK373.out 2).trans rfl, (blk_cell BK373.out 3).trans rfl⟩ (fun hHeld => ?_)
          clear hK K
          refine norm_ (a' := ?_) ?_ ?_
          rotate_left
          · show Act.put _ (some 42) _ = _
            simp only [Act.put, List.setIfInBounds_toArray, List.set_cons_zero, List.set_cons_succ, i64_w, i32_w]
            rfl
          refine pure_ (i := 10) (N := some 43) (v := ?_) (a' := ?_) #[true, true, true, true, true, true, true, true, true, true, true, false, false, false, false, false, false, false, false, false, false, false] rfl rfl (any_of HT_.out (by kernel_rfl)) (fun _ _ _ h => h) (Or.inl ⟨by rfl, ?_⟩) ?_ ?_
          rotate_left
          · intro w'
            go_simp
            with_reducible rfl
          rotate_left
          · simp only [Act.put, List.setIfInBounds_toArray, List.set_cons_zero, List.set_cons_succ, i64_w, i32_w]
            rfl
          refine pure_ (i := 11) (N := some 44) (v := ?_) (a' := ?_) #[true, true, true, true, true, true, true, true, true, true, true, true, false, false, false, false, false, false, false, false, false, false] rfl rfl (any_of HT_.out (by kernel_rfl)) (fun _ _ _ h => h) (Or.inl ⟨by rfl, ?_⟩) ?_ ?_
          rotate_left
          · intro w'
            go_simp
            with_reducible rfl
          rotate_left
          · simp only [Act.put, List.setIfInBounds_toArray, List.set_cons_zero, List.set_cons_succ, i64_w, i32_w]
            rfl
          refine pure_ (i := 12) (N := some 45) (v := ?_) (a' := ?_) #[true, true, true, true, true, true, true, true, true, true, true, true, true, false, false, false, false, false, false, false, false, false] rfl rfl (any_of HT_.out (by kernel_rfl)) (fun _ _ _ h => h) (Or.inl ⟨by rfl, ?_⟩) ?_ ?_
          rotate_left
          · intro w'
            go_simp
            with_reducible rfl
          rotate_left
          · simp only [Act.put, List.setIfInBounds_toArray, List.set_cons_zero, List.set_cons_succ, i64_w, i32_w]
            rfl
          refine pure_ (i := 13) (N := some 46) (v := ?_) (a' := ?_) #[true, true, true, true, true, true, true, true, true, true, true, true, true, true, false, false, false, false, false, false, false, false] rfl rfl (any_of HT_.out (by kernel_rfl)) (fun _ _ _ h => h) (Or.inl ⟨by rfl, ?_⟩) ?_ ?_
          rotate_left
          · intro w'
            go_simp
            with_reducible rfl
          rotate_left
          · simp only [Act.put, List.setIfInBounds_toArray, List.set_cons_zero, List.set_cons_succ, i64_w, i32_w]
            rfl
          refine pure_ (i := 14) (N := some 47) (v := ?_) (a' := ?_) #[true, true, true, true, true, true, true, true, true, true, true, true, true, true, true, false, false, false, false, false, false, false] rfl rfl (any_of HT_.out (by kernel_rfl)) (fun _ _ _ h => h) (Or.inl ⟨by rfl, ?_⟩) ?_ ?_
          rotate_left
          · intro w'
            go_simp
            with_reducible rfl
          rotate_left
          · simp only [Act.put, List.setIfInBounds_toArray, List.set_cons_zero, List.set_cons_succ, i64_w, i32_w]
            rfl
          refine pure_ (i := 16) (N := some 49) (v := ?_) (a' := ?_) #[true, true, true, true, true, true, true, true, true, true, true, true, true, true, true, false, true, false, false, false, false, false] rfl rfl (any_of HT_.out (by kernel_rfl)) (fun _ _ _ h => h) (Or.inl ⟨by rfl, ?_⟩) ?_ ?_
          rotate_left
          · intro w'
            go_simp
            with_reducible rfl
          rotate_left
          · simp only [Act.put, List.setIfInBounds_toArray, List.set_cons_zero, List.set_cons_succ, i64_w, i32_w]
            rfl
          refine take_ (i := 17) (N := some 50) (v := ?_) (a' := ?_) #[true, true, true, true, true, true, true, true, true, true, true, true, true, true, true, false, true, true, false, false, false, false] rfl rfl (take_ofW HT_.out HW_.out (by kernel_rfl)) (fun _ _ _ h => h) (Or.inl ⟨by rfl, ?_⟩) hHeld ?_ ?_
          rotate_left
          · rintro w' ⟨s0, s1, s2, s3, s4, s5, s6, s7⟩
            go_simp
            with_reducible rfl
          rotate_left
          · simp only [Act.put, List.setIfInBounds_toArray, List.set_cons_zero, List.set_cons_succ, i64_w, i32_w]
            rfl
          refine pure_ (i := 18) (N := some 51) (v := ?_) (a' := ?_) #[true, true, true, true, true, true, true, true, true, true, true, true, true, true, true, false, true, true, true, false, false, false] rfl rfl (any_of HT_.out (by kernel_rfl)) (fun _ _ _ h => h) (Or.inl ⟨by rfl, ?_⟩) ?_ ?_
          rotate_left
          · intro w'
            go_simp
            with_reducible rfl
          rotate_left
          · simp only [Act.put, List.setIfInBounds_toArray, List.set_cons_zero, List.set_cons_succ, i64_w, i32_w]
            rfl
          refine one_ (i := 15) (N := some 48) #[true, true, true, true, true, true, true, true, true, true, true, true, true, true, true, true, true, true, true, false, false, false] rfl rfl (one_of HT_.out (by kernel_rfl)) (by decide) (fun K hK => ?_)
          refine goes_ Try.func43 (by kernel_rfl) rfl #[.int .i64 a0, .int .u64 a1] (by rfl) rfl rfl (by (try simp only [List.map_toArray, List.map_cons, List.map_nil]); first | done | rfl | (simp only [List.length_drop, List.length_take]; rfl)) ?_
          with_reducible refine (shape_IsNan.calls k a0 a1 t376 _ A13.out).mono ?_
          rintro e w24 ⟨rfl, hb⟩
          refine ⟨_, rfl, ?_⟩
          have n0_ := Aside0.mk (blk_below (g := gb365) (o := .cells #[.bool t361, .int .i64 t362, .int .i64 t363, .int .u64 t364] 34 (0, 0)) (by (with_reducible repeat (first | refine blk_drewN ?_ _ | refine blk_drew ?_ | refine blk_alloc ?_ _)); exact BK365.out) hb)
          have n1_ := Aside0.mk (blk_below (g := gb373) (o := .cells #[.bool t369, .int .i64 t370, .int .i64 t371, .int .u64 t372] 36 (0, 0)) (by (with_reducible repeat (first | refine blk_drewN ?_ _ | refine blk_drew ?_ | refine blk_alloc ?_ _)); exact BK373.out) hb)
          have n2_ := Aside0.mk (below_step (by repeat (first | (with_reducible first | exact HB.out | apply below_alloc | apply pw_below_drewN | apply below_drew1 | refine below_set ?_ GE365.out | refine below_set ?_ GE373.out) | exact HB.out)) hb)
          clear BK365
          clear BK373
          clear HB
          have BK365 := n0_
          have BK373 := n1_
          have HB := n2_
          clear n0_ n1_ n2_
          (try clear hb)
          (try clear hb2)
          (try clear hk)
          (try clear hi)
          refine hK.out _ _ ⟨(blk_cell BK365.out 0).trans rfl, (blk_cell BK365.out 1).trans rfl, (blk_cell BK365.out 2).trans rfl, (blk_cell BK365.out 3).trans rfl, (blk_cell BK373.out 0).trans rfl, (blk_cell BK373.out 1).trans rfl, (blk_cell BK373.out 2).trans rfl, (blk_cell BK373.out 3).trans rfl⟩ (fun hHeld => ?_)
          clear hK K
          refine norm_ (a' := ?_) ?_ ?_
          rotate_left
          · show Act.put _ (some 48) _ = _
            simp only [Act.put, List.setIfInBounds_toArray, List.set_cons_zero, List.set_cons_succ, i64_w, i32_w]
            rfl
          refine pure_ (i := 19) (N := some 52) (v := ?_) (a' := ?_) #[true, true, true, true, true, true, true, true, true, true, true, true, true, true, true, true, true, true, true, true, false, false] rfl rfl (any_of HT_.out (by kernel_rfl)) (fun _ _ _ h => h) (Or.inl ⟨by rfl, ?_⟩) ?_ ?_
          rotate_left
          · intro w'
            go_simp
            with_reducible rfl
          rotate_left
          · simp only [Act.put, List.setIfInBounds_toArray, List.set_cons_zero, List.set_cons_succ, i64_w, i32_w]
            rfl
          refine pure_ (i := 20) (N := some 53) (v := ?_) (a' := ?_) #[true, true, true, true, true, true, true, true, true, true, true, true, true, true, true, true, true, true, true, true, true, false] rfl rfl (any_of HT_.out (by kernel_rfl)) (fun _ _ _ h => h) (Or.inl ⟨by rfl, ?_⟩) ?_ ?_
          rotate_left
          · intro w'
            go_simp
            with_reducible rfl
          rotate_left
          · simp only [Act.put, List.setIfInBounds_toArray, List.set_cons_zero, List.set_cons_succ, i64_w, i32_w]
            rfl
          refine pure_ (i := 21) (N := some 4) (v := ?_) (a' := ?_) #[true, true, true, true, true, true, true, true, true, true, true, true, true, true, true, true, true, true, true, true, true, true] rfl rfl (any_of HT_.out (by kernel_rfl)) (fun _ _ _ h => h) (Or.inl ⟨by rfl, ?_⟩) ?_ ?_
          rotate_left
          · intro w'
            go_simp
            with_reducible rfl
          rotate_left
          · simp only [Act.put, List.setIfInBounds_toArray, List.set_cons_zero, List.set_cons_succ, i64_w, i32_w]
            rfl
          refine done_ (done_of HT_.out (by kernel_rfl)) ?_
          try go_wp2
          go_ret
          exact ⟨by first | rfl | (simp [errW_none, errW_some] <;> rfl) | (simp [*, errW_none, errW_some] <;> rfl), by repeat (first | (with_reducible first | exact HB.out | apply below_alloc | apply pw_below_drewN | apply below_drew1 | refine below_set ?_ GE365.out | refine below_set ?_ GE373.out) | exact HB.out)⟩
        · rw [if_neg c12] at H
          have c12b0 : (t374 == t375) = false := beq_eq_false_iff_ne.mpr c12
          have c12b1 : (t374 != t375) = true := bne_iff_ne.mpr c12
          obtain rfl := Option.some.inj H
          go_enter Try.func8, Try.ntmps8
          try go_wp2_with (first | ((with_reducible refine gate_callee (f := 40) rfl ?_); refine goesL_ (some 7) rfl rfl Try.func40 (by kernel_rfl) rfl #[] rfl (by (try simp only [List.map_toArray, List.map_cons, List.map_nil]); first | done | rfl | (simp only [List.length_drop, List.length_take]; rfl)) ?_; (with_reducible refine (trunnionlaw02_awake.calls k  true _ A3.out).mono ?_); rintro e w25 ⟨rfl, hb⟩; refine ⟨_, rfl, ?_⟩; have n0_ := Aside0.mk (below_step (by repeat (first | (with_reducible first | exact HB.out | apply below_alloc | apply pw_below_drewN | apply below_drew1) | exact HB.out)) hb); clear HB; have HB := n0_; clear n0_; (try clear hb); (try clear hb2); (try clear hk); (try clear hi)) | ((with_reducible refine gate_callee (f := 41) rfl ?_); refine goesL_ (some 11) rfl rfl Try.func41 (by kernel_rfl) rfl #[.int .i64 a0, .int .u64 a1] rfl (by (try simp only [List.map_toArray, List.map_cons, List.map_nil]); first | done | rfl | (simp only [List.length_drop, List.length_take]; rfl)) ?_; (with_reducible refine (shape_Open.calls k a0 a1 t361 t362 t363 t364 _ A5.out).mono ?_); rintro e w26 ⟨rfl, hb⟩; refine ⟨_, rfl, ?_⟩; have n0_ := Aside0.mk (below_step (by repeat (first | (with_reducible first | exact HB.out | apply below_alloc | apply pw_below_drewN | apply below_drew1) | exact HB.out)) hb); clear HB; have HB := n0_; clear n0_; (try clear hb); (try clear hb2); (try clear hk); (try clear hi)) | ((with_reducible refine gate_dst (N := 5) rfl ?_); refine box_event ?hg (N := 5) ?hd (cs := #[.bool false, .int .i64 0, .int .i64 0, .int .u64 0]) (t := 34) ?hr ?_; (case hd => rfl); (case hg => rfl); (case hr => first | (go_simp; done) | (go_simp; rfl)); intro gb365 hg w27 hbox hb; have n0_ := Aside0.mk (below_step (by repeat (first | (with_reducible first | exact HB.out | apply below_alloc | apply pw_below_drewN | apply below_drew1) | exact HB.out)) hb); have n1_ := Aside0.mk (hbox); have n2_ := Aside0.mk ((by rw [hg]; exact (below_size (by repeat (first | (with_reducible first | exact HB.out | apply below_alloc | apply pw_below_drewN | apply below_drew1) | exact HB.out))) : w.heap.size ≤ gb365)); have n3_ := Aside0.mk ((by rw [hg]; exact (below_size (by repeat (first | (with_reducible first | exact HB.out | apply below_alloc | apply pw_below_drewN | apply below_drew1) | exact HB.out))) : w.heap.size ≤ gb365)); clear HB; have HB := n0_; have BK365 := n1_; have GW365 := n2_; have GE365 := n3_; clear n0_ n1_ n2_ n3_; clear hb hbox hg; have hcz28_0 : w27.cell? ⟨gb365, 0, none⟩ = some (.bool false) := (blk_cell BK365.out 0).trans rfl; have hcz28_1 : w27.cell? ⟨gb365, 1, none⟩ = some (.int .i64 0) := (blk_cell BK365.out 1).trans rfl; have hcz28_2 : w27.cell? ⟨gb365, 2, none⟩ = some (.int .i64 0) := (blk_cell BK365.out 2).trans rfl; have hcz28_3 : w27.cell? ⟨gb365, 3, none⟩ = some (.int .u64 0) := (blk_cell BK365.out 3).trans rfl; have hfz28_0 := blk_frozen BK365.out 0; have hfz28_1 := blk_frozen BK365.out 1; have hfz28_2 := blk_frozen BK365.out 2; have hfz28_3 := blk_frozen BK365.out 3) | ((with_reducible refine gate_callee (f := 29) rfl ?_); refine goesL_ (some 13) rfl rfl Try.func29 (by kernel_rfl) rfl #[.int .i64 a0] rfl (by (try simp only [List.map_toArray, List.map_cons, List.map_nil]); first | done | rfl | (simp only [List.length_drop, List.length_take]; rfl)) ?_; (with_reducible refine (trunnionref02_Known.calls a0 true _ A6.out).mono ?_); rintro e w' ⟨rfl, ⟨nd, rfl⟩⟩; refine ⟨_, rfl, ?_⟩) | ((with_reducible refine gate_callee (f := 44) rfl ?_); refine goesL_ (some 32) rfl rfl Try.func44 (by kernel_rfl) rfl #[.int .i64 a0, .int .u64 a1] rfl (by (try simp only [List.map_toArray, List.map_cons, List.map_nil]); first | done | rfl | (simp only [List.length_drop, List.length_take]; rfl)) ?_; (with_reducible refine (trunnionref02_Open.calls k a0 a1 t369 t370 t371 t372 _ A8.out).mono ?_); rintro e w29 ⟨rfl, hb⟩; refine ⟨_, rfl, ?_⟩; have n0_ := Aside0.mk (blk_below (g := gb365) (o := .cells #[.bool t361, .int .i64 t362, .int .i64 t363, .int .u64 t364] 34 (0, 0)) (by (with_reducible repeat (first | refine blk_drewN ?_ _ | refine blk_drew ?_ | refine blk_alloc ?_ _)); refine blk_put (cs := #[.bool t361, .int .i64 t362, .int .i64 t363, .int .u64 0]) ?_ 3 _ rfl; (with_reducible repeat (first | refine blk_drewN ?_ _ | refine blk_drew ?_ | refine blk_alloc ?_ _)); refine blk_put (cs := #[.bool t361, .int .i64 t362, .int .i64 0, .int .u64 0]) ?_ 2 _ rfl; (with_reducible repeat (first | refine blk_drewN ?_ _ | refine blk_drew ?_ | refine blk_alloc ?_ _)); refine blk_put (cs := #[.bool t361, .int .i64 0, .int .i64 0, .int .u64 0]) ?_ 1 _ rfl; (with_reducible repeat (first | refine blk_drewN ?_ _ | refine blk_drew ?_ | refine blk_alloc ?_ _)); refine blk_put (cs := #[.bool false, .int .i64 0, .int .i64 0, .int .u64 0]) ?_ 0 _ rfl; (with_reducible repeat (first | refine blk_drewN ?_ _ | refine blk_drew ?_ | refine blk_alloc ?_ _)); exact BK365.out) hb); have n1_ := Aside0.mk (below_step (by repeat (first | (with_reducible first | exact HB.out | apply below_alloc | apply pw_below_drewN | apply below_drew1 | refine below_set ?_ GE365.out) | exact HB.out)) hb); clear BK365; clear HB; have BK365 := n0_; have HB := n1_; clear n0_ n1_; (try clear hb); (try clear hb2); (try clear hk); (try clear hi)) | ((with_reducible refine gate_dst (N := 6) rfl ?_); refine box_event ?hg (N := 6) ?hd (cs := #[.bool false, .int .i64 0, .int .i64 0, .int .u64 0]) (t := 36) ?hr ?_; (case hd => rfl); (case hg => rfl); (case hr => first | (go_simp; done) | (go_simp; rfl)); intro gb373 hg w30 hbox hb; have n0_ := Aside0.mk (blk_below (g := gb365) (o := .cells #[.bool t361, .int .i64 t362, .int .i64 t363, .int .u64 t364] 34 (0, 0)) (by (with_reducible repeat (first | refine blk_drewN ?_ _ | refine blk_drew ?_ | refine blk_alloc ?_ _)); exact BK365.out) hb); have n1_ := Aside0.mk (below_step (by repeat (first | (with_reducible first | exact HB.out | apply below_alloc | apply pw_below_drewN | apply below_drew1 | refine below_set ?_ GE365.out) | exact HB.out)) hb); have n2_ := Aside0.mk (hbox); have n3_ := Aside0.mk ((by rw [hg]; exact (below_size (by repeat (first | (with_reducible first | exact HB.out | apply below_alloc | apply pw_below_drewN | apply below_drew1 | refine below_set ?_ GE365.out) | exact HB.out))) : w.heap.size ≤ gb373)); have n4_ := Aside0.mk ((by rw [hg]; exact (below_size (by repeat (first | (with_reducible first | exact HB.out | apply below_alloc | apply pw_below_drewN | apply below_drew1 | refine below_set ?_ GE365.out) | exact HB.out))) : w.heap.size ≤ gb373)); have n5_ := Aside0.mk ((by rw [hg]; exact Nat.ne_of_lt (blk_lt (g := gb365) (o := .cells #[.bool t361, .int .i64 t362, .int .i64 t363, .int .u64 t364] 34 (0, 0)) (by (with_reducible repeat (first | refine blk_drewN ?_ _ | refine blk_drew ?_ | refine blk_alloc ?_ _)); exact BK365.out)) : gb365 ≠ gb373)); have n6_ := Aside0.mk ((by rw [hg]; exact Nat.ne_of_gt (blk_lt (g := gb365) (o := .cells #[.bool t361, .int .i64 t362, .int .i64 t363, .int .u64 t364] 34 (0, 0)) (by (with_reducible repeat (first | refine blk_drewN ?_ _ | refine blk_drew ?_ | refine blk_alloc ?_ _)); exact BK365.out)) : gb373 ≠ gb365)); clear BK365; clear HB; have BK365 := n0_; have HB := n1_; have BK373 := n2_; have GW373 := n3_; have GE373 := n4_; have NB365_373 := n5_; have NB373_365 := n6_; clear n0_ n1_ n2_ n3_ n4_ n5_ n6_; clear hb hbox hg; have hnb31 := NB373_365.out; have hnc31 := NB365_373.out; have hcz32_0 : w30.cell? ⟨gb373, 0, none⟩ = some (.bool false) := (blk_cell BK373.out 0).trans rfl; have hcz32_1 : w30.cell? ⟨gb373, 1, none⟩ = some (.int .i64 0) := (blk_cell BK373.out 1).trans rfl; have hcz32_2 : w30.cell? ⟨gb373, 2, none⟩ = some (.int .i64 0) := (blk_cell BK373.out 2).trans rfl; have hcz32_3 : w30.cell? ⟨gb373, 3, none⟩ = some (.int .u64 0) := (blk_cell BK373.out 3).trans rfl; have hfz32_0 := blk_frozen BK373.out 0; have hfz32_1 := blk_frozen BK373.out 1; have hfz32_2 := blk_frozen BK373.out 2; have hfz32_3 := blk_frozen BK373.out 3))
          have n0_ : Aside0 (((((w30.setCell ⟨gb373, 0, none⟩ (.bool t369)).setCell ⟨gb373, 1, none⟩ (.int .i64 t370)).setCell ⟨gb373, 2, none⟩ (.int .i64 t371)).setCell ⟨gb373, 3, none⟩ (.int .u64 t372)).heap[gb365]? = some (.cells #[.bool t361, .int .i64 t362, .int .i64 t363, .int .u64 t364] 34 (0, 0))) := ⟨by (with_reducible repeat (first | refine blk_drewN ?_ _ | refine blk_drew ?_ | refine blk_alloc ?_ _)); refine blk_far ?_ NB365_373.out _; (with_reducible repeat (first | refine blk_drewN ?_ _ | refine blk_drew ?_ | refine blk_alloc ?_ _)); refine blk_far ?_ NB365_373.out _; (with_reducible repeat (first | refine blk_drewN ?_ _ | refine blk_drew ?_ | refine blk_alloc ?_ _)); refine blk_far ?_ NB365_373.out _; (with_reducible repeat (first | refine blk_drewN ?_ _ | refine blk_drew ?_ | refine blk_alloc ?_ _)); refine blk_far ?_ NB365_373.out _; (with_reducible repeat (first | refine blk_drewN ?_ _ | refine blk_drew ?_ | refine blk_alloc ?_ _)); exact BK365.out⟩
          have n1_ : Aside0 (((((w30.setCell ⟨gb373, 0, none⟩ (.bool t369)).setCell ⟨gb373, 1, none⟩ (.int .i64 t370)).setCell ⟨gb373, 2, none⟩ (.int .i64 t371)).setCell ⟨gb373, 3, none⟩ (.int .u64 t372)).heap[gb373]? = some (.cells #[.bool t369, .int .i64 t370, .int .i64 t371, .int .u64 t372] 36 (0, 0))) := ⟨by (with_reducible repeat (first | refine blk_drewN ?_ _ | refine blk_drew ?_ | refine blk_alloc ?_ _)); refine blk_put (cs := #[.bool t369, .int .i64 t370, .int .i64 t371, .int .u64 0]) ?_ 3 _ rfl; (with_reducible repeat (first | refine blk_drewN ?_ _ | refine blk_drew ?_ | refine blk_alloc ?_ _)); refine blk_put (cs := #[.bool t369, .int .i64 t370, .int .i64 0, .int .u64 0]) ?_ 2 _ rfl; (with_reducible repeat (first | refine blk_drewN ?_ _ | refine blk_drew ?_ | refine blk_alloc ?_ _)); refine blk_put (cs := #[.bool t369, .int .i64 0, .int .i64 0, .int .u64 0]) ?_ 1 _ rfl; (with_reducible repeat (first | refine blk_drewN ?_ _ | refine blk_drew ?_ | refine blk_alloc ?_ _)); refine blk_put (cs := #[.bool false, .int .i64 0, .int .i64 0, .int .u64 0]) ?_ 0 _ rfl; (with_reducible repeat (first | refine blk_drewN ?_ _ | refine blk_drew ?_ | refine blk_alloc ?_ _)); exact BK373.out⟩
          have n2_ : Aside0 (Below w.heap.size w ((((w30.setCell ⟨gb373, 0, none⟩ (.bool t369)).setCell ⟨gb373, 1, none⟩ (.int .i64 t370)).setCell ⟨gb373, 2, none⟩ (.int .i64 t371)).setCell ⟨gb373, 3, none⟩ (.int .u64 t372))) := ⟨by repeat (first | (with_reducible first | exact HB.out | apply below_alloc | apply pw_below_drewN | apply below_drew1 | refine below_set ?_ GE365.out | refine below_set ?_ GE373.out) | exact HB.out)⟩
          (try clear BK365)
          (try clear BK373)
          (try clear HB)
          generalize ((((w30.setCell ⟨gb373, 0, none⟩ (.bool t369)).setCell ⟨gb373, 1, none⟩ (.int .i64 t370)).setCell ⟨gb373, 2, none⟩ (.int .i64 t371)).setCell ⟨gb373, 3, none⟩ (.int .u64 t372)) = w33 at n0_ n1_ n2_ ⊢
          have BK365 := n0_
          have BK373 := n1_
          have HB := n2_
          clear n0_ n1_ n2_
          have n0_ := Aside0.mk (blk_drew BK365.out)
          have n1_ := Aside0.mk (blk_drew BK373.out)
          have n2_ := Aside0.mk (below_drew1 HB.out)
          clear BK365
          clear BK373
          clear HB
          have BK365 := n0_
          have BK373 := n1_
          have HB := n2_
          clear n0_ n1_ n2_
          refine start_ (n := 22) (S := fun w' => w'.cell? ⟨gb365, 0, none⟩ = some (.bool t361) ∧ w'.cell? ⟨gb365, 1, none⟩ = some (.int .i64 t362) ∧ w'.cell? ⟨gb365, 2, none⟩ = some (.int .i64 t363) ∧ w'.cell? ⟨gb365, 3, none⟩ = some (.int .u64 t364) ∧ w'.cell? ⟨gb373, 0, none⟩ = some (.bool t369) ∧ w'.cell? ⟨gb373, 1, none⟩ = some (.int .i64 t370) ∧ w'.cell? ⟨gb373, 2, none⟩ = some (.int .i64 t371) ∧ w'.cell? ⟨gb373, 3, none⟩ = some (.int .u64 t372)) (ds := []) #[false, false, false, false, false, false, false, false, false, false, false, false, false, false, false, false, false, false, false, false, false, false] (by kernel_rfl) rfl rfl ⟨(blk_cell BK365.out 0).trans rfl, (blk_cell BK365.out 1).trans rfl, (blk_cell BK365.out 2).trans rfl, (blk_cell BK365.out 3).trans rfl, (blk_cell BK373.out 0).trans rfl, (blk_cell BK373.out 1).trans rfl, (blk_cell BK373.out 2).trans rfl, (blk_cell BK373.out 3).trans rfl⟩ (fun hHeld => ?_); refine with_tabW trunnionlaw02_ShapeOpens.tab7 trunnionlaw02_ShapeOpens.bits7 (fun HT_ HW_ => ?_)
          generalize w33.drew = w34 at BK365 BK373 HB hHeld ⊢
          refine take_ (i := 0) (N := some 33) (v := ?_) (a' := ?_) #[true, false, false, false, false, false, false, false, false, false, false, false, false, false, false, false, false, false, false, false, false, false] rfl rfl (take_ofW HT_.out HW_.out (by kernel_rfl)) (fun _ _ _ h => h) (Or.inl ⟨by rfl, ?_⟩) hHeld ?_ ?_
          rotate_left
          · rintro w' ⟨s0, s1, s2, s3, s4, s5, s6, s7⟩
            go_simp
            with_reducible rfl
          rotate_left
          · simp only [Act.put, List.setIfInBounds_toArray, List.set_cons_zero, List.set_cons_succ, i64_w, i32_w]
            rfl
          refine take_ (i := 1) (N := some 34) (v := ?_) (a' := ?_) #[true, true, false, false, false, false, false, false, false, false, false, false, false, false, false, false, false, false, false, false, false, false] rfl rfl (take_ofW HT_.out HW_.out (by kernel_rfl)) (fun _ _ _ h => h) (Or.inl ⟨by rfl, ?_⟩) hHeld ?_ ?_
          rotate_left
          · rintro w' ⟨s0, s1, s2, s3, s4, s5, s6, s7⟩
            go_simp
            with_reducible rfl
          rotate_left
          · simp only [Act.put, List.setIfInBounds_toArray, List.set_cons_zero, List.set_cons_succ, i64_w, i32_w]
            rfl
          refine pure_ (i := 2) (N := some 35) (v := ?_) (a' := ?_) #[true, true, true, false, false, false, false, false, false, false, false, false, false, false, false, false, false, false, false, false, false, false] rfl rfl (any_of HT_.out (by kernel_rfl)) (fun _ _ _ h => h) (Or.inl ⟨by rfl, ?_⟩) ?_ ?_
          rotate_left
          · intro w'
            go_simp
            with_reducible rfl
          rotate_left
          · simp only [Act.put, List.setIfInBounds_toArray, List.set_cons_zero, List.set_cons_succ, i64_w, i32_w]
            rfl
          refine pure_ (i := 3) (N := some 36) (v := ?_) (a' := ?_) #[true, true, true, true, false, false, false, false, false, false, false, false, false, false, false, false, false, false, false, false, false, false] rfl rfl (any_of HT_.out (by kernel_rfl)) (fun _ _ _ h => h) (Or.inl ⟨by rfl, ?_⟩) ?_ ?_
          rotate_left
          · intro w'
            go_simp
            with_reducible rfl
          rotate_left
          · simp only [Act.put, List.setIfInBounds_toArray, List.set_cons_zero, List.set_cons_succ, i64_w, i32_w]
            rfl
          refine pure_ (i := 4) (N := some 37) (v := ?_) (a' := ?_) #[true, true, true, true, true, false, false, false, false, false, false, false, false, false, false, false, false, false, false, false, false, false] rfl rfl (any_of HT_.out (by kernel_rfl)) (fun _ _ _ h => h) (Or.inl ⟨by rfl, ?_⟩) ?_ ?_
          rotate_left
          · intro w'
            go_simp
            with_reducible rfl
          rotate_left
          · simp only [Act.put, List.setIfInBounds_toArray, List.set_cons_zero, List.set_cons_succ, i64_w, i32_w]
            rfl
          refine pure_ (i := 5) (N := some 38) (v := ?_) (a' := ?_) #[true, true, true, true, true, true, false, false, false, false, false, false, false, false, false, false, false, false, false, false, false, false] rfl rfl (any_of HT_.out (by kernel_rfl)) (fun _ _ _ h => h) (Or.inl ⟨by rfl, ?_⟩) ?_ ?_
          rotate_left
          · intro w'
            go_simp
            with_reducible rfl
          rotate_left
          · simp only [Act.put, List.setIfInBounds_toArray, List.set_cons_zero, List.set_cons_succ, i64_w, i32_w]
            rfl
          refine pure_ (i := 7) (N := some 40) (v := ?_) (a' := ?_) #[true, true, true, true, true, true, false, true, false, false, false, false, false, false, false, false, false, false, false, false, false, false] rfl rfl (any_of HT_.out (by kernel_rfl)) (fun _ _ _ h => h) (Or.inl ⟨by rfl, ?_⟩) ?_ ?_
          rotate_left
          · intro w'
            go_simp
            with_reducible rfl
          rotate_left
          · simp only [Act.put, List.setIfInBounds_toArray, List.set_cons_zero, List.set_cons_succ, i64_w, i32_w]
            rfl
          refine pure_ (i := 8) (N := some 41) (v := ?_) (a' := ?_) #[true, true, true, true, true, true, false, true, true, false, false, false, false, false, false, false, false, false, false, false, false, false] rfl rfl (any_of HT_.out (by kernel_rfl)) (fun _ _ _ h => h) (Or.inl ⟨by rfl, ?_⟩) ?_ ?_
          rotate_left
          · intro w'
            go_simp
            with_reducible rfl
          rotate_left
          · simp only [Act.put, List.setIfInBounds_toArray, List.set_cons_zero, List.set_cons_succ, i64_w, i32_w]
            rfl
          refine one_ (i := 6) (N := some 39) #[true, true, true, true, true, true, true, true, true, false, false, false, false, false, false, false, false, false, false, false, false, false] rfl rfl (one_of HT_.out (by kernel_rfl)) (by decide) (fun K hK => ?_)
          refine goes_ Try.func42 (by kernel_rfl) rfl #[.int .i64 a0, .int .u64 a1] (by rfl) rfl rfl (by (try simp only [List.map_toArray, List.map_cons, List.map_nil]); first | done | rfl | (simp only [List.length_drop, List.length_take]; rfl)) ?_
          with_reducible refine (shape_Cut.calls a0 a1 t374 _ A10.out).mono ?_
          rintro e w' ⟨rfl, ⟨nd, rfl⟩⟩
          refine ⟨_, rfl, ?_⟩
          refine hK.out _ _ ⟨(blk_cell BK365.out 0).trans rfl, (blk_cell BK365.out 1).trans rfl, (blk_cell BK365.out 2).trans rfl, (blk_cell BK365.out 3).trans rfl, (blk_cell BK373.out 0).trans rfl, (blk_cell BK373.out 1).trans rfl, (blk_cell BK373.out 2).trans rfl, (blk_cell BK373.out 3).trans rfl⟩ (fun hHeld => ?_)
          clear hK K
          refine norm_ (a' := ?_) ?_ ?_
          rotate_left
          · show Act.put _ (some 39) _ = _
            simp only [Act.put, List.setIfInBounds_toArray, List.set_cons_zero, List.set_cons_succ, i64_w, i32_w]
            rfl
          refine one_ (i := 9) (N := some 42) #[true, true, true, true, true, true, true, true, true, true, false, false, false, false, false, false, false, false, false, false, false, false] rfl rfl (one_of HT_.out (by kernel_rfl)) (by decide) (fun K hK => ?_)
          refine goes_ Try.func45 (by kernel_rfl) rfl #[.int .i64 a0, .int .u64 a1] (by rfl) rfl rfl (by (try simp only [List.map_toArray, List.map_cons, List.map_nil]); first | done | rfl | (simp only [List.length_drop, List.length_take]; rfl)) ?_
          with_reducible refine (trunnionref02_Cut.calls a0 a1 t375 _ A11.out).mono ?_
          rintro e w' ⟨rfl, ⟨nd, rfl⟩⟩
          refine ⟨_, rfl, ?_⟩
          refine hK.out _ _ ⟨(blk_cell BK365.out 0).trans rfl, (blk_cell BK365.out 1).trans rfl, (blk_cell BK365.out 2).trans rfl, (blk_cell BK365.out 3).trans rfl, (blk_cell BK373.out 0).trans rfl, (blk_cell BK373.out 1).trans rfl, (blk_cell BK373.out 2).trans rfl, (blk_cell BK373.out 3).trans rfl⟩ (fun hHeld => ?_)
          clear hK K
          refine norm_ (a' := ?_) ?_ ?_
          rotate_left
          · show Act.put _ (some 42) _ = _
            simp only [Act.put, List.setIfInBounds_toArray, List.set_cons_zero, List.set_cons_succ, i64_w, i32_w]
            rfl
          refine pure_ (i := 10) (N := some 43) (v := ?_) (a' := ?_) #[true, true, true, true, true, true, true, true, true, true, true, false, false, false, false, false, false, false, false, false, false, false] rfl rfl (any_of HT_.out (by kernel_rfl)) (fun _ _ _ h => h) (Or.inl ⟨by rfl, ?_⟩) ?_ ?_
          rotate_left
          · intro w'
            go_simp
            with_reducible rfl
          rotate_left
          · simp only [Act.put, List.setIfInBounds_toArray, List.set_cons_zero, List.set_cons_succ, i64_w, i32_w]
            rfl
          refine pure_ (i := 11) (N := some 44) (v := ?_) (a' := ?_) #[true, true, true, true, true, true, true, true, true, true, true, true, false, false, false, false, false, false, false, false, false, false] rfl rfl (any_of HT_.out (by kernel_rfl)) (fun _ _ _ h => h) (Or.inl ⟨by rfl, ?_⟩) ?_ ?_
          rotate_left
          · intro w'
            go_simp
            with_reducible rfl
          rotate_left
          · simp only [Act.put, List.setIfInBounds_toArray, List.set_cons_zero, List.set_cons_succ, i64_w, i32_w]
            rfl
          refine pure_ (i := 12) (N := some 45) (v := ?_) (a' := ?_) #[true, true, true, true, true, true, true, true, true, true, true, true, true, false, false, false, false, false, false, false, false, false] rfl rfl (any_of HT_.out (by kernel_rfl)) (fun _ _ _ h => h) (Or.inl ⟨by rfl, ?_⟩) ?_ ?_
          rotate_left
          · intro w'
            go_simp
            with_reducible rfl
          rotate_left
          · simp only [Act.put, List.setIfInBounds_toArray, List.set_cons_zero, List.set_cons_succ, i64_w, i32_w]
            rfl
          refine pure_ (i := 13) (N := some 46) (v := undef) (a' := ?_) #[true, true, true, true, true, true, true, true, true, true, true, true, true, true, false, false, false, false, false, false, false, false] rfl rfl (any_of HT_.out (by kernel_rfl)) (fun _ _ _ h => h) (Or.inr ⟨by rfl, rfl⟩) ?_ ?_
          rotate_left
          · simp only [Act.put, List.setIfInBounds_toArray, List.set_cons_zero, List.set_cons_succ, i64_w, i32_w]
            rfl
          refine pure_ (i := 14) (N := some 47) (v := undef) (a' := ?_) #[true, true, true, true, true, true, true, true, true, true, true, true, true, true, true, false, false, false, false, false, false, false] rfl rfl (any_of HT_.out (by kernel_rfl)) (fun _ _ _ h => h) (Or.inr ⟨by rfl, rfl⟩) ?_ ?_
          rotate_left
          · simp only [Act.put, List.setIfInBounds_toArray, List.set_cons_zero, List.set_cons_succ, i64_w, i32_w]
            rfl
          refine pure_ (i := 15) (N := some 48) (v := undef) (a' := ?_) #[true, true, true, true, true, true, true, true, true, true, true, true, true, true, true, true, false, false, false, false, false, false] rfl rfl (any_of HT_.out (by kernel_rfl)) (fun _ _ _ h => h) (Or.inr ⟨by rfl, rfl⟩) ?_ ?_
          rotate_left
          · simp only [Act.put, List.setIfInBounds_toArray, List.set_cons_zero, List.set_cons_succ, i64_w, i32_w]
            rfl
          refine pure_ (i := 16) (N := some 49) (v := undef) (a' := ?_) #[true, true, true, true, true, true, true, true, true, true, true, true, true, true, true, true, true, false, false, false, false, false] rfl rfl (any_of HT_.out (by kernel_rfl)) (fun _ _ _ h => h) (Or.inr ⟨by rfl, rfl⟩) ?_ ?_
          rotate_left
          · simp only [Act.put, List.setIfInBounds_toArray, List.set_cons_zero, List.set_cons_succ, i64_w, i32_w]
            rfl
          refine pure_ (i := 17) (N := some 50) (v := undef) (a' := ?_) #[true, true, true, true, true, true, true, true, true, true, true, true, true, true, true, true, true, true, false, false, false, false] rfl rfl (any_of HT_.out (by kernel_rfl)) (fun _ _ _ h => h) (Or.inr ⟨by rfl, rfl⟩) ?_ ?_
          rotate_left
          · simp only [Act.put, List.setIfInBounds_toArray, List.set_cons_zero, List.set_cons_succ, i64_w, i32_w]
            rfl
          refine pure_ (i := 18) (N := some 51) (v := undef) (a' := ?_) #[true, true, true, true, true, true, true, true, true, true, true, true, true, true, true, true, true, true, true, false, false, false] rfl rfl (any_of HT_.out (by kernel_rfl)) (fun _ _ _ h => h) (Or.inr ⟨by rfl, rfl⟩) ?_ ?_
          rotate_left
          · simp only [Act.put, List.setIfInBounds_toArray, List.set_cons_zero, List.set_cons_succ, i64_w, i32_w]
            rfl
          refine pure_ (i := 19) (N := some 52) (v := undef) (a' := ?_) #[true, true, true, true, true, true, true, true, true, true, true, true, true, true, true, true, true, true, true, true, false, false] rfl rfl (any_of HT_.out (by kernel_rfl)) (fun _ _ _ h => h) (Or.inr ⟨by rfl, rfl⟩) ?_ ?_
          rotate_left
          · simp only [Act.put, List.setIfInBounds_toArray, List.set_cons_zero, List.set_cons_succ, i64_w, i32_w]
            rfl
          refine pure_ (i := 20) (N := some 53) (v := ?_) (a' := ?_) #[true, true, true, true, true, true, true, true, true, true, true, true, true, true, true, true, true, true, true, true, true, false] rfl rfl (any_of HT_.out (by kernel_rfl)) (fun _ _ _ h => h) (Or.inl ⟨by rfl, ?_⟩) ?_ ?_
          rotate_left
          · intro w'
            go_simp
            with_reducible rfl
          rotate_left
          · simp only [Act.put, List.setIfInBounds_toArray, List.set_cons_zero, List.set_cons_succ, i64_w, i32_w]
            rfl
          refine pure_ (i := 21) (N := some 4) (v := ?_) (a' := ?_) #[true, true, true, true, true, true, true, true, true, true, true, true, true, true, true, true, true, true, true, true, true, true] rfl rfl (any_of HT_.out (by kernel_rfl)) (fun _ _ _ h => h) (Or.inl ⟨by rfl, ?_⟩) ?_ ?_
          rotate_left
          · intro w'
            go_simp
            with_reducible rfl
          rotate_left
          · simp only [Act.put, List.setIfInBounds_toArray, List.set_cons_zero, List.set_cons_succ, i64_w, i32_w]
            rfl
          refine done_ (done_of HT_.out (by kernel_rfl)) ?_
          try go_wp2
          go_ret
          exact ⟨by first | rfl | (simp [errW_none, errW_some] <;> rfl) | (simp [*, errW_none, errW_some] <;> rfl), by repeat (first | (with_reducible first | exact HB.out | apply below_alloc | apply pw_below_drewN | apply below_drew1 | refine below_set ?_ GE365.out | refine below_set ?_ GE373.out) | exact HB.out)⟩
      · rw [if_neg c9] at H
        have c9b0 : (t361 == t369 && (t362 == t370 && (t363 == t371 && (t364 == t372)))) = false := by simpa using c9
        (try (have c9b1 : decide (t361 = t369 && (t362 == t370 && (t363 == t371 && (t364 == t372)))) = false := by simpa using c9))
        (try (have c9b2 : (t361 == t369 && (t362 == t370 && (t363 == t371 && (t364 == t372)))) = false := by simpa using c9))
        (try (have c9b3 : ¬ (t361 = t369 && (t362 == t370 && (t363 == t371 && (t364 == t372)))) := by simpa using c9))
        clear c9
        obtain rfl := Option.some.inj H
        go_enter Try.func8, Try.ntmps8
        try go_wp2_with (first | ((with_reducible refine gate_callee (f := 40) rfl ?_); refine goesL_ (some 7) rfl rfl Try.func40 (by kernel_rfl) rfl #[] rfl (by (try simp only [List.map_toArray, List.map_cons, List.map_nil]); first | done | rfl | (simp only [List.length_drop, List.length_take]; rfl)) ?_; (with_reducible refine (trunnionlaw02_awake.calls k  true _ A3.out).mono ?_); rintro e w35 ⟨rfl, hb⟩; refine ⟨_, rfl, ?_⟩; have n0_ := Aside0.mk (below_step (by repeat (first | (with_reducible first | exact HB.out | apply below_alloc | apply pw_below_drewN | apply below_drew1) | exact HB.out)) hb); clear HB; have HB := n0_; clear n0_; (try clear hb); (try clear hb2); (try clear hk); (try clear hi)) | ((with_reducible refine gate_callee (f := 41) rfl ?_); refine goesL_ (some 11) rfl rfl Try.func41 (by kernel_rfl) rfl #[.int .i64 a0, .int .u64 a1] rfl (by (try simp only [List.map_toArray, List.map_cons, List.map_nil]); first | done | rfl | (simp only [List.length_drop, List.length_take]; rfl)) ?_; (with_reducible refine (shape_Open.calls k a0 a1 t361 t362 t363 t364 _ A5.out).mono ?_); rintro e w36 ⟨rfl, hb⟩; refine ⟨_, rfl, ?_⟩; have n0_ := Aside0.mk (below_step (by repeat (first | (with_reducible first | exact HB.out | apply below_alloc | apply pw_below_drewN | apply below_drew1) | exact HB.out)) hb); clear HB; have HB := n0_; clear n0_; (try clear hb); (try clear hb2); (try clear hk); (try clear hi)) | ((with_reducible refine gate_dst (N := 5) rfl ?_); refine box_event ?hg (N := 5) ?hd (cs := #[.bool false, .int .i64 0, .int .i64 0, .int .u64 0]) (t := 34) ?hr ?_; (case hd => rfl); (case hg => rfl); (case hr => first | (go_simp; done) | (go_simp; rfl)); intro gb365 hg w37 hbox hb; have n0_ := Aside0.mk (below_step (by repeat (first | (with_reducible first | exact HB.out | apply below_alloc | apply pw_below_drewN | apply below_drew1) | exact HB.out)) hb); have n1_ := Aside0.mk (hbox); have n2_ := Aside0.mk ((by rw [hg]; exact (below_size (by repeat (first | (with_reducible first | exact HB.out | apply below_alloc | apply pw_below_drewN | apply below_drew1) | exact HB.out))) : w.heap.size ≤ gb365)); have n3_ := Aside0.mk ((by rw [hg]; exact (below_size (by repeat (first | (with_reducible first | exact HB.out | apply below_alloc | apply pw_below_drewN | apply below_drew1) | exact HB.out))) : w.heap.size ≤ gb365)); clear HB; have HB := n0_; have BK365 := n1_; have GW365 := n2_; have GE365 := n3_; clear n0_ n1_ n2_ n3_; clear hb hbox hg; have hcz38_0 : w37.cell? ⟨gb365, 0, none⟩ = some (.bool false) := (blk_cell BK365.out 0).trans rfl; have hcz38_1 : w37.cell? ⟨gb365, 1, none⟩ = some (.int .i64 0) := (blk_cell BK365.out 1).trans rfl; have hcz38_2 : w37.cell? ⟨gb365, 2, none⟩ = some (.int .i64 0) := (blk_cell BK365.out 2).trans rfl; have hcz38_3 : w37.cell? ⟨gb365, 3, none⟩ = some (.int .u64 0) := (blk_cell BK365.out 3).trans rfl; have hfz38_0 := blk_frozen BK365.out 0; have hfz38_1 := blk_frozen BK365.out 1; have hfz38_2 := blk_frozen BK365.out 2; have hfz38_3 := blk_frozen BK365.out 3) | ((with_reducible refine gate_callee (f := 29) rfl ?_); refine goesL_ (some 13) rfl rfl Try.func29 (by kernel_rfl) rfl #[.int .i64 a0] rfl (by (try simp only [List.map_toArray, List.map_cons, List.map_nil]); first | done | rfl | (simp only [List.length_drop, List.length_take]; rfl)) ?_; (with_reducible refine (trunnionref02_Known.calls a0 true _ A6.out).mono ?_); rintro e w' ⟨rfl, ⟨nd, rfl⟩⟩; refine ⟨_, rfl, ?_⟩) | ((with_reducible refine gate_callee (f := 44) rfl ?_); refine goesL_ (some 32) rfl rfl Try.func44 (by kernel_rfl) rfl #[.int .i64 a0, .int .u64 a1] rfl (by (try simp only [List.map_toArray, List.map_cons, List.map_nil]); first | done | rfl | (simp only [List.length_drop, List.length_take]; rfl)) ?_; (with_reducible refine (trunnionref02_Open.calls k a0 a1 t369 t370 t371 t372 _ A8.out).mono ?_); rintro e w39 ⟨rfl, hb⟩; refine ⟨_, rfl, ?_⟩; have n0_ := Aside0.mk (blk_below (g := gb365) (o := .cells #[.bool t361, .int .i64 t362, .int .i64 t363, .int .u64 t364] 34 (0, 0)) (by (with_reducible repeat (first | refine blk_drewN ?_ _ | refine blk_drew ?_ | refine blk_alloc ?_ _)); refine blk_put (cs := #[.bool t361, .int .i64 t362, .int .i64 t363, .int .u64 0]) ?_ 3 _ rfl; (with_reducible repeat (first | refine blk_drewN ?_ _ | refine blk_drew ?_ | refine blk_alloc ?_ _)); refine blk_put (cs := #[.bool t361, .int .i64 t362, .int .i64 0, .int .u64 0]) ?_ 2 _ rfl; (with_reducible repeat (first | refine blk_drewN ?_ _ | refine blk_drew ?_ | refine blk_alloc ?_ _)); refine blk_put (cs := #[.bool t361, .int .i64 0, .int .i64 0, .int .u64 0]) ?_ 1 _ rfl; (with_reducible repeat (first | refine blk_drewN ?_ _ | refine blk_drew ?_ | refine blk_alloc ?_ _)); refine blk_put (cs := #[.bool false, .int .i64 0, .int .i64 0, .int .u64 0]) ?_ 0 _ rfl; (with_reducible repeat (first | refine blk_drewN ?_ _ | refine blk_drew ?_ | refine blk_alloc ?_ _)); exact BK365.out) hb); have n1_ := Aside0.mk (below_step (by repeat (first | (with_reducible first | exact HB.out | apply below_alloc | apply pw_below_drewN | apply below_drew1 | refine below_set ?_ GE365.out) | exact HB.out)) hb); clear BK365; clear HB; have BK365 := n0_; have HB := n1_; clear n0_ n1_; (try clear hb); (try clear hb2); (try clear hk); (try clear hi)) | ((with_reducible refine gate_dst (N := 6) rfl ?_); refine box_event ?hg (N := 6) ?hd (cs := #[.bool false, .int .i64 0, .int .i64 0, .int .u64 0]) (t := 36) ?hr ?_; (case hd => rfl); (case hg => rfl); (case hr => first | (go_simp; done) | (go_simp; rfl)); intro gb373 hg w40 hbox hb; have n0_ := Aside0.mk (blk_below (g := gb365) (o := .cells #[.bool t361, .int .i64 t362, .int .i64 t363, .int .u64 t364] 34 (0, 0)) (by (with_reducible repeat (first | refine blk_drewN ?_ _ | refine blk_drew ?_ | refine blk_alloc ?_ _)); exact BK365.out) hb); have n1_ := Aside0.mk (below_step (by repeat (first | (with_reducible first | exact HB.out | apply below_alloc | apply pw_below_drewN | apply below_drew1 | refine below_set ?_ GE365.out) | exact HB.out)) hb); have n2_ := Aside0.mk (hbox); have n3_ := Aside0.mk ((by rw [hg]; exact (below_size (by repeat (first | (with_reducible first | exact HB.out | apply below_alloc | apply pw_below_drewN | apply below_drew1 | refine below_set ?_ GE365.out) | exact HB.out))) : w.heap.size ≤ gb373)); have n4_ := Aside0.mk ((by rw [hg]; exact (below_size (by repeat (first | (with_reducible first | exact HB.out | apply below_alloc | apply pw_below_drewN | apply below_drew1 | refine below_set ?_ GE365.out) | exact HB.out))) : w.heap.size ≤ gb373)); have n5_ := Aside0.mk ((by rw [hg]; exact Nat.ne_of_lt (blk_lt (g := gb365) (o := .cells #[.bool t361, .int .i64 t362, .int .i64 t363, .int .u64 t364] 34 (0, 0)) (by (with_reducible repeat (first | refine blk_drewN ?_ _ | refine blk_drew ?_ | refine blk_alloc ?_ _)); exact BK365.out)) : gb365 ≠ gb373)); have n6_ := Aside0.mk ((by rw [hg]; exact Nat.ne_of_gt (blk_lt (g := gb365) (o := .cells #[.bool t361, .int .i64 t362, .int .i64 t363, .int .u64 t364] 34 (0, 0)) (by (with_reducible repeat (first | refine blk_drewN ?_ _ | refine blk_drew ?_ | refine blk_alloc ?_ _)); exact BK365.out)) : gb373 ≠ gb365)); clear BK365; clear HB; have BK365 := n0_; have HB := n1_; have BK373 := n2_; have GW373 := n3_; have GE373 := n4_; have NB365_373 := n5_; have NB373_365 := n6_; clear n0_ n1_ n2_ n3_ n4_ n5_ n6_; clear hb hbox hg; have hnb41 := NB373_365.out; have hnc41 := NB365_373.out; have hcz42_0 : w40.cell? ⟨gb373, 0, none⟩ = some (.bool false) := (blk_cell BK373.out 0).trans rfl; have hcz42_1 : w40.cell? ⟨gb373, 1, none⟩ = some (.int .i64 0) := (blk_cell BK373.out 1).trans rfl; have hcz42_2 : w40.cell? ⟨gb373, 2, none⟩ = some (.int .i64 0) := (blk_cell BK373.out 2).trans rfl; have hcz42_3 : w40.cell? ⟨gb373, 3, none⟩ = some (.int .u64 0) := (blk_cell BK373.out 3).trans rfl; have hfz42_0 := blk_frozen BK373.out 0; have hfz42_1 := blk_frozen BK373.out 1; have hfz42_2 := blk_frozen BK373.out 2; have hfz42_3 := blk_frozen BK373.out 3))
        have n0_ : Aside0 (((((w40.setCell ⟨gb373, 0, none⟩ (.bool t369)).setCell ⟨gb373, 1, none⟩ (.int .i64 t370)).setCell ⟨gb373, 2, none⟩ (.int .i64 t371)).setCell ⟨gb373, 3, none⟩ (.int .u64 t372)).heap[gb365]? = some (.cells #[.bool t361, .int .i64 t362, .int .i64 t363, .int .u64 t364] 34 (0, 0))) := ⟨by (with_reducible repeat (first | refine blk_drewN ?_ _ | refine blk_drew ?_ | refine blk_alloc ?_ _)); refine blk_far ?_ NB365_373.out _; (with_reducible repeat (first | refine blk_drewN ?_ _ | refine blk_drew ?_ | refine blk_alloc ?_ _)); refine blk_far ?_ NB365_373.out _; (with_reducible repeat (first | refine blk_drewN ?_ _ | refine blk_drew ?_ | refine blk_alloc ?_ _)); refine blk_far ?_ NB365_373.out _; (with_reducible repeat (first | refine blk_drewN ?_ _ | refine blk_drew ?_ | refine blk_alloc ?_ _)); refine blk_far ?_ NB365_373.out _; (with_reducible repeat (first | refine blk_drewN ?_ _ | refine blk_drew ?_ | refine blk_alloc ?_ _)); exact BK365.out⟩
        have n1_ : Aside0 (((((w40.setCell ⟨gb373, 0, none⟩ (.bool t369)).setCell ⟨gb373, 1, none⟩ (.int .i64 t370)).setCell ⟨gb373, 2, none⟩ (.int .i64 t371)).setCell ⟨gb373, 3, none⟩ (.int .u64 t372)).heap[gb373]? = some (.cells #[.bool t369, .int .i64 t370, .int .i64 t371, .int .u64 t372] 36 (0, 0))) := ⟨by (with_reducible repeat (first | refine blk_drewN ?_ _ | refine blk_drew ?_ | refine blk_alloc ?_ _)); refine blk_put (cs := #[.bool t369, .int .i64 t370, .int .i64 t371, .int .u64 0]) ?_ 3 _ rfl; (with_reducible repeat (first | refine blk_drewN ?_ _ | refine blk_drew ?_ | refine blk_alloc ?_ _)); refine blk_put (cs := #[.bool t369, .int .i64 t370, .int .i64 0, .int .u64 0]) ?_ 2 _ rfl; (with_reducible repeat (first | refine blk_drewN ?_ _ | refine blk_drew ?_ | refine blk_alloc ?_ _)); refine blk_put (cs := #[.bool t369, .int .i64 0, .int .i64 0, .int .u64 0]) ?_ 1 _ rfl; (with_reducible repeat (first | refine blk_drewN ?_ _ | refine blk_drew ?_ | refine blk_alloc ?_ _)); refine blk_put (cs := #[.bool false, .int .i64 0, .int .i64 0, .int .u64 0]) ?_ 0 _ rfl; (with_reducible repeat (first | refine blk_drewN ?_ _ | refine blk_drew ?_ | refine blk_alloc ?_ _)); exact BK373.out⟩
        have n2_ : Aside0 (Below w.heap.size w ((((w40.setCell ⟨gb373, 0, none⟩ (.bool t369)).setCell ⟨gb373, 1, none⟩ (.int .i64 t370)).setCell ⟨gb373, 2, none⟩ (.int .i64 t371)).setCell ⟨gb373, 3, none⟩ (.int .u64 t372))) := ⟨by repeat (first | (with_reducible first | exact HB.out | apply below_alloc | apply pw_below_drewN | apply below_drew1 | refine below_set ?_ GE365.out | refine below_set ?_ GE373.out) | exact HB.out)⟩
        (try clear BK365)
        (try clear BK373)
        (try clear HB)
        generalize ((((w40.setCell ⟨gb373, 0, none⟩ (.bool t369)).setCell ⟨gb373, 1, none⟩ (.int .i64 t370)).setCell ⟨gb373, 2, none⟩ (.int .i64 t371)).setCell ⟨gb373, 3, none⟩ (.int .u64 t372)) = w43 at n0_ n1_ n2_ ⊢
        have BK365 := n0_
        have BK373 := n1_
        have HB := n2_
        clear n0_ n1_ n2_
        have n0_ := Aside0.mk (blk_drew BK365.out)
        have n1_ := Aside0.mk (blk_drew BK373.out)
        have n2_ := Aside0.mk (below_drew1 HB.out)
        clear BK365
        clear BK373
        clear HB
        have BK365 := n0_
        have BK373 := n1_
        have HB := n2_
        clear n0_ n1_ n2_
        refine start_ (n := 22) (S := fun w' => w'.cell? ⟨gb365, 0, none⟩ = some (.bool t361) ∧ w'.cell? ⟨gb365, 1, none⟩ = some (.int .i64 t362) ∧ w'.cell? ⟨gb365, 2, none⟩ = some (.int .i64 t363) ∧ w'.cell? ⟨gb365, 3, none⟩ = some (.int .u64 t364) ∧ w'.cell? ⟨gb373, 0, none⟩ = some (.bool t369) ∧ w'.cell? ⟨gb373, 1, none⟩ = some (.int .i64 t370) ∧ w'.cell? ⟨gb373, 2, none⟩ = some (.int .i64 t371) ∧ w'.cell? ⟨gb373, 3, none⟩ = some (.int .u64 t372)) (ds := []) #[false, false, false, false, false, false, false, false, false, false, false, false, false, false, false, false, false, false, false, false, false, false] (by kernel_rfl) rfl rfl ⟨(blk_cell BK365.out 0).trans rfl, (blk_cell BK365.out 1).trans rfl, (blk_cell BK365.out 2).trans rfl, (blk_cell BK365.out 3).trans rfl, (blk_cell BK373.out 0).trans rfl, (blk_cell BK373.out 1).trans rfl, (blk_cell BK373.out 2).trans rfl, (blk_cell BK373.out 3).trans rfl⟩ (fun hHeld => ?_); refine with_tabW trunnionlaw02_ShapeOpens.tab7 trunnionlaw02_ShapeOpens.bits7 (fun HT_ HW_ => ?_)
        generalize w43.drew = w44 at BK365 BK373 HB hHeld ⊢
        refine take_ (i := 0) (N := some 33) (v := ?_) (a' := ?_) #[true, false, false, false, false, false, false, false, false, false, false, false, false, false, false, false, false, false, false, false, false, false] rfl rfl (take_ofW HT_.out HW_.out (by kernel_rfl)) (fun _ _ _ h => h) (Or.inl ⟨by rfl, ?_⟩) hHeld ?_ ?_
        rotate_left
        · rintro w' ⟨s0, s1, s2, s3, s4, s5, s6, s7⟩
          go_simp
          with_reducible rfl
        rotate_left
        · simp only [Act.put, List.setIfInBounds_toArray, List.set_cons_zero, List.set_cons_succ, i64_w, i32_w]
          rfl
        refine take_ (i := 1) (N := some 34) (v := ?_) (a' := ?_) #[true, true, false, false, false, false, false, false, false, false, false, false, false, false, false, false, false, false, false, false, false, false] rfl rfl (take_ofW HT_.out HW_.out (by kernel_rfl)) (fun _ _ _ h => h) (Or.inl ⟨by rfl, ?_⟩) hHeld ?_ ?_
        rotate_left
        · rintro w' ⟨s0, s1, s2, s3, s4, s5, s6, s7⟩
          go_simp
          with_reducible rfl
        rotate_left
        · simp only [Act.put, List.setIfInBounds_toArray, List.set_cons_zero, List.set_cons_succ, i64_w, i32_w]
          rfl
        refine pure_ (i := 2) (N := some 35) (v := ?_) (a' := ?_) #[true, true, true, false, false, false, false, false, false, false, false, false, false, false, false, false, false, false, false, false, false, false] rfl rfl (any_of HT_.out (by kernel_rfl)) (fun _ _ _ h => h) (Or.inl ⟨by rfl, ?_⟩) ?_ ?_
        rotate_left
        · intro w'
          go_simp
          with_reducible rfl
        rotate_left
        · simp only [Act.put, List.setIfInBounds_toArray, List.set_cons_zero, List.set_cons_succ, i64_w, i32_w]
          rfl
        refine pure_ (i := 3) (N := some 36) (v := ?_) (a' := ?_) #[true, true, true, true, false, false, false, false, false, false, false, false, false, false, false, false, false, false, false, false, false, false] rfl rfl (any_of HT_.out (by kernel_rfl)) (fun _ _ _ h => h) (Or.inl ⟨by rfl, ?_⟩) ?_ ?_
        rotate_left
        · intro w'
          go_simp
          with_reducible rfl
        rotate_left
        · simp only [Act.put, List.setIfInBounds_toArray, List.set_cons_zero, List.set_cons_succ, i64_w, i32_w]
          rfl
        refine pure_ (i := 4) (N := some 37) (v := undef) (a' := ?_) #[true, true, true, true, true, false, false, false, false, false, false, false, false, false, false, false, false, false, false, false, false, false] rfl rfl (any_of HT_.out (by kernel_rfl)) (fun _ _ _ h => h) (Or.inr ⟨by rfl, rfl⟩) ?_ ?_
        rotate_left
        · simp only [Act.put, List.setIfInBounds_toArray, List.set_cons_zero, List.set_cons_succ, i64_w, i32_w]
          rfl
        refine pure_ (i := 5) (N := some 38) (v := undef) (a' := ?_) #[true, true, true, true, true, true, false, false, false, false, false, false, false, false, false, false, false, false, false, false, false, false] rfl rfl (any_of HT_.out (by kernel_rfl)) (fun _ _ _ h => h) (Or.inr ⟨by rfl, rfl⟩) ?_ ?_
        rotate_left
        · simp only [Act.put, List.setIfInBounds_toArray, List.set_cons_zero, List.set_cons_succ, i64_w, i32_w]
          rfl
        refine pure_ (i := 6) (N := some 39) (v := undef) (a' := ?_) #[true, true, true, true, true, true, true, false, false, false, false, false, false, false, false, false, false, false, false, false, false, false] rfl rfl (any_of HT_.out (by kernel_rfl)) (fun _ _ _ h => h) (Or.inr ⟨by rfl, rfl⟩) ?_ ?_
        rotate_left
        · simp only [Act.put, List.setIfInBounds_toArray, List.set_cons_zero, List.set_cons_succ, i64_w, i32_w]
          rfl
        refine pure_ (i := 7) (N := some 40) (v := undef) (a' := ?_) #[true, true, true, true, true, true, true, true, false, false, false, false, false, false, false, false, false, false, false, false, false, false] rfl rfl (any_of HT_.out (by kernel_rfl)) (fun _ _ _ h => h) (Or.inr ⟨by rfl, rfl⟩) ?_ ?_
        rotate_left
        · simp only [Act.put, List.setIfInBounds_toArray, List.set_cons_zero, List.set_cons_succ, i64_w, i32_w]
          rfl
        refine pure_ (i := 8) (N := some 41) (v := undef) (a' := ?_) #[true, true, true, true, true, true, true, true, true, false, false, false, false, false, false, false, false, false, false, false, false, false] rfl rfl (any_of HT_.out (by kernel_rfl)) (fun _ _ _ h => h) (Or.inr ⟨by rfl, rfl⟩) ?_ ?_
        rotate_left
        · simp only [Act.put, List.setIfInBounds_toArray, List.set_cons_zero, List.set_cons_succ, i64_w, i32_w]
          rfl
        refine pure_ (i := 9) (N := some 42) (v := undef) (a' := ?_) #[true, true, true, true, true, true, true, true, true, true, false, false, false, false, false, false, false, false, false, false, false, false] rfl rfl (any_of HT_.out (by kernel_rfl)) (fun _ _ _ h => h) (Or.inr ⟨by rfl, rfl⟩) ?_ ?_
        rotate_left
        · simp only [Act.put, List.setIfInBounds_toArray, List.set_cons_zero, List.set_cons_succ, i64_w, i32_w]
          rfl
        refine pure_ (i := 10) (N := some 43) (v := undef) (a' := ?_) #[true, true, true, true, true, true, true, true, true, true, true, false, false, false, false, false, false, false, false, false, false, false] rfl rfl (any_of HT_.out (by kernel_rfl)) (fun _ _ _ h => h) (Or.inr ⟨by rfl, rfl⟩) ?_ ?_
        rotate_left
        · simp only [Act.put, List.setIfInBounds_toArray, List.set_cons_zero, List.set_cons_succ, i64_w, i32_w]
          rfl
        refine pure_ (i := 11) (N := some 44) (v := ?_) (a' := ?_) #[true, true, true, true, true, true, true, true, true, true, true, true, false, false, false, false, false, false, false, false, false, false] rfl rfl (any_of HT_.out (by kernel_rfl)) (fun _ _ _ h => h) (Or.inl ⟨by rfl, ?_⟩) ?_ ?_
        rotate_left
        · intro w'
          go_simp
          with_reducible rfl
        rotate_left
        · simp only [Act.put, List.setIfInBounds_toArray, List.set_cons_zero, List.set_cons_succ, i64_w, i32_w]
          rfl
        refine pure_ (i := 12) (N := some 45) (v := ?_) (a' := ?_) #[true, true, true, true, true, true, true, true, true, true, true, true, true, false, false, false, false, false, false, false, false, false] rfl rfl (any_of HT_.out (by kernel_rfl)) (fun _ _ _ h => h) (Or.inl ⟨by rfl, ?_⟩) ?_ ?_
        rotate_left
        · intro w'
          go_simp
          with_reducible rfl
        rotate_left
        · simp only [Act.put, List.setIfInBounds_toArray, List.set_cons_zero, List.set_cons_succ, i64_w, i32_w]
          rfl
        refine pure_ (i := 13) (N := some 46) (v := undef) (a' := ?_) #[true, true, true, true, true, true, true, true, true, true, true, true, true, true, false, false, false, false, false, false, false, false] rfl rfl (any_of HT_.out (by kernel_rfl)) (fun _ _ _ h => h) (Or.inr ⟨by rfl, rfl⟩) ?_ ?_
        rotate_left
        · simp only [Act.put, List.setIfInBounds_toArray, List.set_cons_zero, List.set_cons_succ, i64_w, i32_w]
          rfl
        refine pure_ (i := 14) (N := some 47) (v := undef) (a' := ?_) #[true, true, true, true, true, true, true, true, true, true, true, true, true, true, true, false, false, false, false, false, false, false] rfl rfl (any_of HT_.out (by kernel_rfl)) (fun _ _ _ h => h) (Or.inr ⟨by rfl, rfl⟩) ?_ ?_
        rotate_left
        · simp only [Act.put, List.setIfInBounds_toArray, List.set_cons_zero, List.set_cons_succ, i64_w, i32_w]
          rfl
        refine pure_ (i := 15) (N := some 48) (v := undef) (a' := ?_) #[true, true, true, true, true, true, true, true, true, true, true, true, true, true, true, true, false, false, false, false, false, false] rfl rfl (any_of HT_.out (by kernel_rfl)) (fun _ _ _ h => h) (Or.inr ⟨by rfl, rfl⟩) ?_ ?_
        rotate_left
        · simp only [Act.put, List.setIfInBounds_toArray, List.set_cons_zero, List.set_cons_succ, i64_w, i32_w]
          rfl
        refine pure_ (i := 16) (N := some 49) (v := undef) (a' := ?_) #[true, true, true, true, true, true, true, true, true, true, true, true, true, true, true, true, true, false, false, false, false, false] rfl rfl (any_of HT_.out (by kernel_rfl)) (fun _ _ _ h => h) (Or.inr ⟨by rfl, rfl⟩) ?_ ?_
        rotate_left
        · simp only [Act.put, List.setIfInBounds_toArray, List.set_cons_zero, List.set_cons_succ, i64_w, i32_w]
          rfl
        refine pure_ (i := 17) (N := some 50) (v := undef) (a' := ?_) #[true, true, true, true, true, true, true, true, true, true, true, true, true, true, true, true, true, true, false, false, false, false] rfl rfl (any_of HT_.out (by kernel_rfl)) (fun _ _ _ h => h) (Or.inr ⟨by rfl, rfl⟩) ?_ ?_
        rotate_left
        · simp only [Act.put, List.setIfInBounds_toArray, List.set_cons_zero, List.set_cons_succ, i64_w, i32_w]
          rfl
        refine pure_ (i := 18) (N := some 51) (v := undef) (a' := ?_) #[true, true, true, true, true, true, true, true, true, true, true, true, true, true, true, true, true, true, true, false, false, false] rfl rfl (any_of HT_.out (by kernel_rfl)) (fun _ _ _ h => h) (Or.inr ⟨by rfl, rfl⟩) ?_ ?_
        rotate_left
        · simp only [Act.put, List.setIfInBounds_toArray, List.set_cons_zero, List.set_cons_succ, i64_w, i32_w]
          rfl
        refine pure_ (i := 19) (N := some 52) (v := undef) (a' := ?_) #[true, true, true, true, true, true, true, true, true, true, true, true, true, true, true, true, true, true, true, true, false, false] rfl rfl (any_of HT_.out (by kernel_rfl)) (fun _ _ _ h => h) (Or.inr ⟨by rfl, rfl⟩) ?_ ?_
        rotate_left
        · simp only [Act.put, List.setIfInBounds_toArray, List.set_cons_zero, List.set_cons_succ, i64_w, i32_w]
          rfl
        refine pure_ (i := 20) (N := some 53) (v := ?_) (a' := ?_) #[true, true, true, true, true, true, true, true, true, true, true, true, true, true, true, true, true, true, true, true, true, false] rfl rfl (any_of HT_.out (by kernel_rfl)) (fun _ _ _ h => h) (Or.inl ⟨by rfl, ?_⟩) ?_ ?_
        rotate_left
        · intro w'
          go_simp
          with_reducible rfl
        rotate_left
        · simp only [Act.put, List.setIfInBounds_toArray, List.set_cons_zero, List.set_cons_succ, i64_w, i32_w]
          rfl
        refine pure_ (i := 21) (N := some 4) (v := ?_) (a' := ?_) #[true, true, true, true, true, true, true, true, true, true, true, true, true, true, true, true, true, true, true, true, true, true] rfl rfl (any_of HT_.out (by kernel_rfl)) (fun _ _ _ h => h) (Or.inl ⟨by rfl, ?_⟩) ?_ ?_
        rotate_left
        · intro w'
          go_simp
          with_reducible rfl
        rotate_left
        · simp only [Act.put, List.setIfInBounds_toArray, List.set_cons_zero, List.set_cons_succ, i64_w, i32_w]
          rfl
        refine done_ (done_of HT_.out (by kernel_rfl)) ?_
        try go_wp2
        go_ret
        exact ⟨by first | rfl | (simp [errW_none, errW_some] <;> rfl) | (simp [*, errW_none, errW_some] <;> rfl), by repeat (first | (with_reducible first | exact HB.out | apply below_alloc | apply pw_below_drewN | apply below_drew1 | refine below_set ?_ GE365.out | refine below_set ?_ GE373.out) | exact HB.out)⟩
    · replace c7 := Bool.eq_false_iff.mpr c7
      subst c7
      have H1 : (if (!t361 && (t362 == 0 && (t363 == 0 && (t364 == 0)))) = true then ((shape_Cut.f a0 a1).bind fun t367 => (if t367 = 0 then ((shape_IsNan.f k a0 a1).bind fun t368 => (some (!t368))) else (some false))) else (some false)) = some r := by rw [if_neg (show ¬ (false = true) by decide)] at H; exact H
      clear H
      have H := H1
      clear H1
      by_cases c45 : (!t361 && (t362 == 0 && (t363 == 0 && (t364 == 0)))) = true
      · rw [if_pos c45] at H
        have c45b0 : (!t361 && (t362 == 0 && (t363 == 0 && (t364 == 0)))) = true := c45
        clear c45
        replace H := Option.bind_eq_some_iff.mp H
        obtain ⟨t367, A460, H⟩ := H
        replace H : (if t367 = 0 then ((shape_IsNan.f k a0 a1).bind fun t368 => (some (!t368))) else (some false)) = some r := H
        have A46 := Aside0.mk A460
        clear A460
        by_cases c47 : t367 = 0
        · rw [if_pos c47] at H
          have c47b0 : (t367 == 0) = true := beq_iff_eq.mpr c47
          have c47b1 : (t367 != 0) = false := bne_eq_false_iff_eq.mpr c47
          clear c47
          replace H := Option.bind_eq_some_iff.mp H
          obtain ⟨t368, A480, H⟩ := H
          replace H : (some (!t368)) = some r := H
          have A48 := Aside0.mk A480
          clear A480
          obtain rfl := Option.some.inj H
          go_enter Try.func8, Try.ntmps8
          go_wp2_with (first | ((with_reducible refine gate_callee (f := 40) rfl ?_); refine goesL_ (some 7) rfl rfl Try.func40 (by kernel_rfl) rfl #[] rfl (by (try simp only [List.map_toArray, List.map_cons, List.map_nil]); first | done | rfl | (simp only [List.length_drop, List.length_take]; rfl)) ?_; (with_reducible refine (trunnionlaw02_awake.calls k  true _ A3.out).mono ?_); rintro e w49 ⟨rfl, hb⟩; refine ⟨_, rfl, ?_⟩; have n0_ := Aside0.mk (below_step (by repeat (first | (with_reducible first | exact HB.out | apply below_alloc | apply pw_below_drewN | apply below_drew1) | exact HB.out)) hb); clear HB; have HB := n0_; clear n0_; (try clear hb); (try clear hb2); (try clear hk); (try clear hi)) | ((with_reducible refine gate_callee (f := 41) rfl ?_); refine goesL_ (some 11) rfl rfl Try.func41 (by kernel_rfl) rfl #[.int .i64 a0, .int .u64 a1] rfl (by (try simp only [List.map_toArray, List.map_cons, List.map_nil]); first | done | rfl | (simp only [List.length_drop, List.length_take]; rfl)) ?_; (with_reducible refine (shape_Open.calls k a0 a1 t361 t362 t363 t364 _ A5.out).mono ?_); rintro e w50 ⟨rfl, hb⟩; refine ⟨_, rfl, ?_⟩; have n0_ := Aside0.mk (below_step (by repeat (first | (with_reducible first | exact HB.out | apply below_alloc | apply pw_below_drewN | apply below_drew1) | exact HB.out)) hb); clear HB; have HB := n0_; clear n0_; (try clear hb); (try clear hb2); (try clear hk); (try clear hi)) | ((with_reducible refine gate_dst (N := 5) rfl ?_); refine box_event ?hg (N := 5) ?hd (cs := #[.bool false, .int .i64 0, .int .i64 0, .int .u64 0]) (t := 34) ?hr ?_; (case hd => rfl); (case hg => rfl); (case hr => first | (go_simp; done) | (go_simp; rfl)); intro gb365 hg w51 hbox hb; have n0_ := Aside0.mk (below_step (by repeat (first | (with_reducible first | exact HB.out | apply below_alloc | apply pw_below_drewN | apply below_drew1) | exact HB.out)) hb); have n1_ := Aside0.mk (hbox); have n2_ := Aside0.mk ((by rw [hg]; exact (below_size (by repeat (first | (with_reducible first | exact HB.out | apply below_alloc | apply pw_below_drewN | apply below_drew1) | exact HB.out))) : w.heap.size ≤ gb365)); have n3_ := Aside0.mk ((by rw [hg]; exact (below_size (by repeat (first | (with_reducible first | exact HB.out | apply below_alloc | apply pw_below_drewN | apply below_drew1) | exact HB.out))) : w.heap.size ≤ gb365)); clear HB; have HB := n0_; have BK365 := n1_; have GW365 := n2_; have GE365 := n3_; clear n0_ n1_ n2_ n3_; clear hb hbox hg; have hcz52_0 : w51.cell? ⟨gb365, 0, none⟩ = some (.bool false) := (blk_cell BK365.out 0).trans rfl; have hcz52_1 : w51.cell? ⟨gb365, 1, none⟩ = some (.int .i64 0) := (blk_cell BK365.out 1).trans rfl; have hcz52_2 : w51.cell? ⟨gb365, 2, none⟩ = some (.int .i64 0) := (blk_cell BK365.out 2).trans rfl; have hcz52_3 : w51.cell? ⟨gb365, 3, none⟩ = some (.int .u64 0) := (blk_cell BK365.out 3).trans rfl; have hfz52_0 := blk_frozen BK365.out 0; have hfz52_1 := blk_frozen BK365.out 1; have hfz52_2 := blk_frozen BK365.out 2; have hfz52_3 := blk_frozen BK365.out 3) | ((with_reducible refine gate_callee (f := 29) rfl ?_); refine goesL_ (some 13) rfl rfl Try.func29 (by kernel_rfl) rfl #[.int .i64 a0] rfl (by (try simp only [List.map_toArray, List.map_cons, List.map_nil]); first | done | rfl | (simp only [List.length_drop, List.length_take]; rfl)) ?_; (with_reducible refine (trunnionref02_Known.calls a0 false _ A6.out).mono ?_); rintro e w' ⟨rfl, ⟨nd, rfl⟩⟩; refine ⟨_, rfl, ?_⟩) | (go_at_call 42; (with_reducible refine (shape_Cut.calls a0 a1 t367 _ A46.out).mono ?_); rintro e w' ⟨rfl, ⟨nd, rfl⟩⟩) | (go_at_call 43; (with_reducible refine (shape_IsNan.calls k a0 a1 t368 _ A48.out).mono ?_); rintro e w53 ⟨rfl, hb⟩; have n0_ := Aside0.mk (blk_below (g := gb365) (o := .cells #[.bool t361, .int .i64 t362, .int .i64 t363, .int .u64 t364] 34 (0, 0)) (by (with_reducible repeat (first | refine blk_drewN ?_ _ | refine blk_drew ?_ | refine blk_alloc ?_ _)); refine blk_put (cs := #[.bool t361, .int .i64 t362, .int .i64 t363, .int .u64 0]) ?_ 3 _ rfl; (with_reducible repeat (first | refine blk_drewN ?_ _ | refine blk_drew ?_ | refine blk_alloc ?_ _)); refine blk_put (cs := #[.bool t361, .int .i64 t362, .int .i64 0, .int .u64 0]) ?_ 2 _ rfl; (with_reducible repeat (first | refine blk_drewN ?_ _ | refine blk_drew ?_ | refine blk_alloc ?_ _)); refine blk_put (cs := #[.bool t361, .int .i64 0, .int .i64 0, .int .u64 0]) ?_ 1 _ rfl; (with_reducible repeat (first | refine blk_drewN ?_ _ | refine blk_drew ?_ | refine blk_alloc ?_ _)); refine blk_put (cs := #[.bool false, .int .i64 0, .int .i64 0, .int .u64 0]) ?_ 0 _ rfl; (with_reducible repeat (first | refine blk_drewN ?_ _ | refine blk_drew ?_ | refine blk_alloc ?_ _)); exact BK365.out) hb); have n1_ := Aside0.mk (below_step (by repeat (first | (with_reducible first | exact HB.out | apply below_alloc | apply pw_below_drewN | apply below_drew1 | refine below_set ?_ GE365.out) | exact HB.out)) hb); clear BK365; clear HB; have BK365 := n0_; have HB := n1_; clear n0_ n1_; (try clear hb); (try clear hb2); (try clear hk); (try clear hi)))
          go_ret
          exact ⟨by first | rfl | (simp [errW_none, errW_some] <;> rfl) | (simp [*, errW_none, errW_some] <;> rfl), by repeat (first | (with_reducible first | exact HB.out | apply below_alloc | apply pw_below_drewN | apply below_drew1 | refine below_set ?_ GE365.out) | exact HB.out)⟩
        · rw [if_neg c47] at H
          have c47b0 : (t367 == 0) = false := beq_eq_false_iff_ne.mpr c47
          have c47b1 : (t367 != 0) = true := bne_iff_ne.mpr c47
          obtain rfl := Option.some.inj H
          go_enter Try.func8, Try.ntmps8
          go_wp2_with (first | ((with_reducible refine gate_callee (f := 40) rfl ?_); refine goesL_ (some 7) rfl rfl Try.func40 (by kernel_rfl) rfl #[] rfl (by (try simp only [List.map_toArray, List.map_cons, List.map_nil]); first | done | rfl | (simp only [List.length_drop, List.length_take]; rfl)) ?_; (with_reducible refine (trunnionlaw02_awake.calls k  true _ A3.out).mono ?_); rintro e w54 ⟨rfl, hb⟩; refine ⟨_, rfl, ?_⟩; have n0_ := Aside0.mk (below_step (by repeat (first | (with_reducible first | exact HB.out | apply below_alloc | apply pw_below_drewN | apply below_drew1) | exact HB.out)) hb); clear HB; have HB := n0_; clear n0_; (try clear hb); (try clear hb2); (try clear hk); (try clear hi)) | ((with_reducible refine gate_callee (f := 41) rfl ?_); refine goesL_ (some 11) rfl rfl Try.func41 (by kernel_rfl) rfl #[.int .i64 a0, .int .u64 a1] rfl (by (try simp only [List.map_toArray, List.map_cons, List.map_nil]); first | done | rfl | (simp only [List.length_drop, List.length_take]; rfl)) ?_; (with_reducible refine (shape_Open.calls k a0 a1 t361 t362 t363 t364 _ A5.out).mono ?_); rintro e w55 ⟨rfl, hb⟩; refine ⟨_, rfl, ?_⟩; have n0_ := Aside0.mk (below_step (by repeat (first | (with_reducible first | exact HB.out | apply below_alloc | apply pw_below_drewN | apply below_drew1) | exact HB.out)) hb); clear HB; have HB := n0_; clear n0_; (try clear hb); (try clear hb2); (try clear hk); (try clear hi)) | ((with_reducible refine gate_dst (N := 5) rfl ?_); refine box_event ?hg (N := 5) ?hd (cs := #[.bool false, .int .i64 0, .int .i64 0, .int .u64 0]) (t := 34) ?hr ?_; (case hd => rfl); (case hg => rfl); (case hr => first | (go_simp; done) | (go_simp; rfl)); intro gb365 hg w56 hbox hb; have n0_ := Aside0.mk (below_step (by repeat (first | (with_reducible first | exact HB.out | apply below_alloc | apply pw_below_drewN | apply below_drew1) | exact HB.out)) hb); have n1_ := Aside0.mk (hbox); have n2_ := Aside0.mk ((by rw [hg]; exact (below_size (by repeat (first | (with_reducible first | exact HB.out | apply below_alloc | apply pw_below_drewN | apply below_drew1) | exact HB.out))) : w.heap.size ≤ gb365)); have n3_ := Aside0.mk ((by rw [hg]; exact (below_size (by repeat (first | (with_reducible first | exact HB.out | apply below_alloc | apply pw_below_drewN | apply below_drew1) | exact HB.out))) : w.heap.size ≤ gb365)); clear HB; have HB := n0_; have BK365 := n1_; have GW365 := n2_; have GE365 := n3_; clear n0_ n1_ n2_ n3_; clear hb hbox hg; have hcz57_0 : w56.cell? ⟨gb365, 0, none⟩ = some (.bool false) := (blk_cell BK365.out 0).trans rfl; have hcz57_1 : w56.cell? ⟨gb365, 1, none⟩ = some (.int .i64 0) := (blk_cell BK365.out 1).trans rfl; have hcz57_2 : w56.cell? ⟨gb365, 2, none⟩ = some (.int .i64 0) := (blk_cell BK365.out 2).trans rfl; have hcz57_3 : w56.cell? ⟨gb365, 3, none⟩ = some (.int .u64 0) := (blk_cell BK365.out 3).trans rfl; have hfz57_0 := blk_frozen BK365.out 0; have hfz57_1 := blk_frozen BK365.out 1; have hfz57_2 := blk_frozen BK365.out 2; have hfz57_3 := blk_frozen BK365.out 3) | ((with_reducible refine gate_callee (f := 29) rfl ?_); refine goesL_ (some 13) rfl rfl Try.func29 (by kernel_rfl) rfl #[.int .i64 a0] rfl (by (try simp only [List.map_toArray, List.map_cons, List.map_nil]); first | done | rfl | (simp only [List.length_drop, List.length_take]; rfl)) ?_; (with_reducible refine (trunnionref02_Known.calls a0 false _ A6.out).mono ?_); rintro e w' ⟨rfl, ⟨nd, rfl⟩⟩; refine ⟨_, rfl, ?_⟩) | (go_at_call 42; (with_reducible refine (shape_Cut.calls a0 a1 t367 _ A46.out).mono ?_); rintro e w' ⟨rfl, ⟨nd, rfl⟩⟩))
          go_ret
          exact ⟨by first | rfl | (simp [errW_none, errW_some] <;> rfl) | (simp [*, errW_none, errW_some] <;> rfl), by repeat (first | (with_reducible first | exact HB.out | apply below_alloc | apply pw_below_drewN | apply below_drew1 | refine below_set ?_ GE365.out) | exact HB.out)⟩
      · rw [if_neg c45] at H
        have c45b0 : (!t361 && (t362 == 0 && (t363 == 0 && (t364 == 0)))) = false := by simpa using c45
        clear c45
        obtain rfl := Option.some.inj H
        go_enter Try.func8, Try.ntmps8
        go_wp2_with (first | ((with_reducible refine gate_callee (f := 40) rfl ?_); refine goesL_ (some 7) rfl rfl Try.func40 (by kernel_rfl) rfl #[] rfl (by (try simp only [List.map_toArray, List.map_cons, List.map_nil]); first | done | rfl | (simp only [List.length_drop, List.length_take]; rfl)) ?_; (with_reducible refine (trunnionlaw02_awake.calls k  true _ A3.out).mono ?_); rintro e w58 ⟨rfl, hb⟩; refine ⟨_, rfl, ?_⟩; have n0_ := Aside0.mk (below_step (by repeat (first | (with_reducible first | exact HB.out | apply below_alloc | apply pw_below_drewN | apply below_drew1) | exact HB.out)) hb); clear HB; have HB := n0_; clear n0_; (try clear hb); (try clear hb2); (try clear hk); (try clear hi)) | ((with_reducible refine gate_callee (f := 41) rfl ?_); refine goesL_ (some 11) rfl rfl Try.func41 (by kernel_rfl) rfl #[.int .i64 a0, .int .u64 a1] rfl (by (try simp only [List.map_toArray, List.map_cons, List.map_nil]); first | done | rfl | (simp only [List.length_drop, List.length_take]; rfl)) ?_; (with_reducible refine (shape_Open.calls k a0 a1 t361 t362 t363 t364 _ A5.out).mono ?_); rintro e w59 ⟨rfl, hb⟩; refine ⟨_, rfl, ?_⟩; have n0_ := Aside0.mk (below_step (by repeat (first | (with_reducible first | exact HB.out | apply below_alloc | apply pw_below_drewN | apply below_drew1) | exact HB.out)) hb); clear HB; have HB := n0_; clear n0_; (try clear hb); (try clear hb2); (try clear hk); (try clear hi)) | ((with_reducible refine gate_dst (N := 5) rfl ?_); refine box_event ?hg (N := 5) ?hd (cs := #[.bool false, .int .i64 0, .int .i64 0, .int .u64 0]) (t := 34) ?hr ?_; (case hd => rfl); (case hg => rfl); (case hr => first | (go_simp; done) | (go_simp; rfl)); intro gb365 hg w60 hbox hb; have n0_ := Aside0.mk (below_step (by repeat (first | (with_reducible first | exact HB.out | apply below_alloc | apply pw_below_drewN | apply below_drew1) | exact HB.out)) hb); have n1_ := Aside0.mk (hbox); have n2_ := Aside0.mk ((by rw [hg]; exact (below_size (by repeat (first | (with_reducible first | exact HB.out | apply below_alloc | apply pw_below_drewN | apply below_drew1) | exact HB.out))) : w.heap.size ≤ gb365)); have n3_ := Aside0.mk ((by rw [hg]; exact (below_size (by repeat (first | (with_reducible first | exact HB.out | apply below_alloc | apply pw_below_drewN | apply below_drew1) | exact HB.out))) : w.heap.size ≤ gb365)); clear HB; have HB := n0_; have BK365 := n1_; have GW365 := n2_; have GE365 := n3_; clear n0_ n1_ n2_ n3_; clear hb hbox hg; have hcz61_0 : w60.cell? ⟨gb365, 0, none⟩ = some (.bool false) := (blk_cell BK365.out 0).trans rfl; have hcz61_1 : w60.cell? ⟨gb365, 1, none⟩ = some (.int .i64 0) := (blk_cell BK365.out 1).trans rfl; have hcz61_2 : w60.cell? ⟨gb365, 2, none⟩ = some (.int .i64 0) := (blk_cell BK365.out 2).trans rfl; have hcz61_3 : w60.cell? ⟨gb365, 3, none⟩ = some (.int .u64 0) := (blk_cell BK365.out 3).trans rfl; have hfz61_0 := blk_frozen BK365.out 0; have hfz61_1 := blk_frozen BK365.out 1; have hfz61_2 := blk_frozen BK365.out 2; have hfz61_3 := blk_frozen BK365.out 3) | ((with_reducible refine gate_callee (f := 29) rfl ?_); refine goesL_ (some 13) rfl rfl Try.func29 (by kernel_rfl) rfl #[.int .i64 a0] rfl (by (try simp only [List.map_toArray, List.map_cons, List.map_nil]); first | done | rfl | (simp only [List.length_drop, List.length_take]; rfl)) ?_; (with_reducible refine (trunnionref02_Known.calls a0 false _ A6.out).mono ?_); rintro e w' ⟨rfl, ⟨nd, rfl⟩⟩; refine ⟨_, rfl, ?_⟩))
        go_ret
        exact ⟨by first | rfl | (simp [errW_none, errW_some] <;> rfl) | (simp [*, errW_none, errW_some] <;> rfl), by repeat (first | (with_reducible first | exact HB.out | apply below_alloc | apply pw_below_drewN | apply below_drew1 | refine below_set ?_ GE365.out) | exact HB.out)⟩
  · replace c4 := Bool.eq_false_iff.mpr c4
    subst c4
    have H1 : (some false) = some r := by rw [if_neg (show ¬ (false = true) by decide)] at H; exact H
    clear H
    have H := H1
    clear H1
    obtain rfl := Option.some.inj H
    go_enter Try.func8, Try.ntmps8
    go_wp2_with (first | ((with_reducible refine gate_callee (f := 40) rfl ?_); refine goesL_ (some 7) rfl rfl Try.func40 (by kernel_rfl) rfl #[] rfl (by (try simp only [List.map_toArray, List.map_cons, List.map_nil]); first | done | rfl | (simp only [List.length_drop, List.length_take]; rfl)) ?_; (with_reducible refine (trunnionlaw02_awake.calls k  false _ A3.out).mono ?_); rintro e w62 ⟨rfl, hb⟩; refine ⟨_, rfl, ?_⟩; have n0_ := Aside0.mk (below_step (by repeat (first | (with_reducible first | exact HB.out | apply below_alloc | apply pw_below_drewN | apply below_drew1) | exact HB.out)) hb); clear HB; have HB := n0_; clear n0_; (try clear hb); (try clear hb2); (try clear hk); (try clear hi)))
    go_ret
    exact ⟨by first | rfl | (simp [errW_none, errW_some] <;> rfl) | (simp [*, errW_none, errW_some] <;> rfl), by repeat (first | (with_reducible first | exact HB.out | apply below_alloc | apply pw_below_drewN | apply below_drew1) | exact HB.out)⟩

/-- THE ONE PURE STATEMENT of trunnionlaw02_ShapeOpens: yours. -/
def trunnionlaw02_ShapeOpens.Pure : Prop := ∀ (a0 : Int) (a1 : Int), (Lit.int .i64 a0).wf = true → (Lit.int .u64 a1).wf = true → ∃ k, trunnionlaw02_ShapeOpens.f k a0 a1 = some true
theorem trunnionlaw02_ShapeOpens.walk (P : trunnionlaw02_ShapeOpens.Pure) (a0 : Int) (a1 : Int) (w : World) (w0 : (Lit.int .i64 a0).wf = true) (w1 : (Lit.int .u64 a1).wf = true) :
    Calls Try.prog 8 #[.int .i64 a0, .int .u64 a1] w fun e w' => e = .returned (.bool true) ∧ Below w.heap.size w w' := by
  obtain ⟨k, h⟩ := P a0 a1 w0 w1
  refine (trunnionlaw02_ShapeOpens.calls k a0 a1 true w h).mono ?_
  rintro e w' ⟨rfl, hd⟩
  exact ⟨rfl, hd⟩

end Go.Proofs.Ytmjfenbbgfohlaa.PA

namespace Bit
theorem or_pow (x c k : Nat) (hx : x < 2 ^ k) : x ||| c * 2 ^ k = x + c * 2 ^ k := by
  rw [Nat.mul_comm, Nat.or_comm, ← Nat.two_pow_add_eq_or_of_lt hx, Nat.add_comm]
theorem and_low (a k : Nat) : a &&& (2 ^ k - 1) = a % 2 ^ k := Nat.and_two_pow_sub_one_eq_mod a k
end Bit

set_option linter.unusedVariables false
set_option linter.unusedSimpArgs false
namespace Go.Proofs.Ytmjfenbbgfohlaa.Th
open Go.RowKit Go.Proofs.YtmjfenbbgfohlaaW.PrintWords Go.Proofs.YtmjfenbbgfohlaaW.PrintLast Go.Proofs.YtmjfenbbgfohlaaW.PrintMore Go.Proofs.Ytmjfenbbgfohlaa.PA Bit
theorem wf_u64 {a : Int} (h : (Lit.int .u64 a).wf = true) : 0 ≤ a ∧ a < 18446744073709551616 := by
  simp [Lit.wf, IntKind.min, IntKind.max, IntKind.signed, IntKind.bits] at h; omega
/-! ### shape.Cut, sign -/
/-- a width's greatest power -/
def cutN (w : Int) (a : Nat) : Nat := if w = 32 then a % 4294967296 else if w = 64 then a else 0
theorem shCut (w : Int) (a : Nat) (ha : a < 18446744073709551616) : shape_Cut.f w a = some ((cutN w a : Nat) : Int) := by
  unfold shape_Cut.f cutN
  by_cases h : w = 32
  · rw [if_pos h, if_pos h, show (4294967295 : Int) = ((4294967295 : Nat) : Int) from rfl, u64_and_nat a _ ha (by decide)]
    rw [show (4294967295 : Nat) = 2 ^ 32 - 1 by decide, and_low]
  · rw [if_neg h, if_neg h]
    by_cases h2 : w = 64
    · rw [if_pos h2, if_pos h2]
    · rw [if_neg h2, if_neg h2]; rfl
theorem r2Cut (w : Int) (a : Nat) (hw : w = 32 ∨ w = 64) : trunnionref02_Cut.f w a = some ((cutN w a : Nat) : Int) := by
  unfold trunnionref02_Cut.f cutN
  rcases hw with rfl | rfl
  · rw [if_pos rfl, if_pos rfl, Int.tmod_eq_emod_of_nonneg (by omega)]; congr 1
  · rw [if_neg (by decide), if_neg (by decide), if_pos rfl]
def sb (w : Int) : Nat := if w = 32 then 2147483648 else 9223372036854775808
/-- has it a sign -/
def sgB (w : Int) (a : Nat) : Bool := decide (a / sb w % 2 = 1)
/-- without a sign -/
def magN (w : Int) (a : Nat) : Nat := a % sb w
theorem cutN_eq (w : Int) (hw : w = 32 ∨ w = 64) (a : Nat) (ha : a < 18446744073709551616) : cutN w a = magN w a + (if sgB w a then sb w else 0) := by
  unfold magN sgB
  rcases hw with rfl | rfl
  · simp only [cutN, sb, if_true, decide_eq_true_eq]; split <;> omega
  · simp only [cutN, sb, show ¬ ((64 : Int) = 32) by decide, if_false, if_true, decide_eq_true_eq]; split <;> omega
theorem magN_lt (w : Int) (hw : w = 32 ∨ w = 64) (a : Nat) : magN w a < sb w := by
  unfold magN sb; rcases hw with rfl | rfl <;> exact Nat.mod_lt _ (by decide)
/-- with a sign, or without -/
def mkN (w : Int) (m : Nat) (s : Bool) : Nat := m + if s then sb w else 0
theorem sg_mk (w : Int) (hw : w = 32 ∨ w = 64) (m : Nat) (s : Bool) (h : m < sb w) : sgB w (mkN w m s) = s := by
  unfold sgB mkN; revert h; unfold sb; rcases hw with rfl | rfl <;> cases s <;> simp <;> omega
/-! ### the document's -/
theorem known_f (w : Int) : trunnionref02_Known.f w = some (decide (w = 32 ∨ w = 64)) := by
  unfold trunnionref02_Known.f
  by_cases h : w = 32
  · rw [if_pos h]; simp [h]
  · rw [if_neg h]; congr 1; by_cases h2 : w = 64 <;> simp [h, h2]
theorem Ev.pos {α : Type} {c : Prop} [Decidable c] {f g : Nat → Option α} {r : α} (h : c) (k : Ev f r) : Ev (fun n => if c then f n else g n) r := Ev.congr (fun _ => if_pos h) k
theorem Ev.neg {α : Type} {c : Prop} [Decidable c] {f g : Nat → Option α} {r : α} (h : ¬ c) (k : Ev g r) : Ev (fun n => if c then f n else g n) r := Ev.congr (fun _ => if_neg h) k
theorem Ev.bs {α β : Type} {g : Option α} {a : α} {f : Nat → α → Option β} {r : β} (h : g = some a) (k : Ev (fun n => f n a) r) : Ev (fun n => g.bind (f n)) r := by subst h; exact k
theorem Ev.out {α : Type} {r s : α} (h : r = s) : Ev (fun _ => some r) s := by subst h; exact Ev.now _
theorem u64_id {n : Int} (h : 0 ≤ n) (h2 : n < 18446744073709551616) : IntKind.u64.wrap n = n := by rw [IntKind.wrap_u64]; omega
theorem w64_id {n : Int} (h : -9223372036854775808 ≤ n) (h2 : n < 9223372036854775808) : wrap64 n = n := by unfold wrap64; omega
theorem two_loop (n : Nat) (hn : n < 64) (d : Nat) : ∀ i : Nat, i ≤ n → n - i = d → Ev (fun k => trunnionref02_Two.l0 k n (2 ^ i : Nat) i) ((2 ^ n : Nat) : Int) := by
  induction d with
  | zero =>
    intro i hi hd
    obtain rfl : i = n := by omega
    refine Ev.step (fun _ => trunnionref02_Two.l0.eq_2 ..) ?_
    exact Ev.neg (by omega) (Ev.out rfl)
  | succ d ih =>
    intro i hi hd
    refine Ev.step (fun _ => trunnionref02_Two.l0.eq_2 ..) ?_
    refine Ev.pos (by omega) ?_
    have h := ih (i + 1) (by omega) (by omega)
    have hp : 2 ^ i ≤ 4611686018427387904 * 2 := by
      have : 2 ^ i ≤ 2 ^ 63 := Nat.pow_le_pow_right (by decide) (by omega)
      simpa using this
    have hp2 : 2 ^ (i + 1) ≤ 9223372036854775808 := by
      have : 2 ^ (i + 1) ≤ 2 ^ 63 := Nat.pow_le_pow_right (by decide) (by omega)
      simpa using this
    rw [Nat.pow_succ] at h hp2
    generalize 2 ^ i = P at *
    rw [u64_id (by omega) (by omega), w64_id (by omega) (by omega), show (2 : Int) * (P : Int) = ((P * 2 : Nat) : Int) by omega, show (i : Int) + 1 = ((i + 1 : Nat) : Int) by omega]
    exact h
theorem two_f (n : Nat) (hn : n < 64) : Ev (fun k => trunnionref02_Two.f k n) ((2 ^ n : Nat) : Int) := two_loop n hn _ 0 (by omega) rfl
theorem twoS (w : Int) (hw : w = 32 ∨ w = 64) : Ev (fun k => trunnionref02_Two.f k (wrap64 (w - 1))) ((sb w : Nat) : Int) := by
  rcases hw with rfl | rfl
  · rw [show wrap64 (32 - 1) = ((31 : Nat) : Int) by decide +kernel]; exact two_f 31 (by decide)
  · rw [show wrap64 (64 - 1) = ((63 : Nat) : Int) by decide +kernel]; exact two_f 63 (by decide)
theorem r2Neg (w : Int) (hw : w = 32 ∨ w = 64) (a : Nat) (ha : a < 18446744073709551616) : Ev (fun k => trunnionref02_Neg.f k w a) (sgB w a) := by
  unfold trunnionref02_Neg.f
  refine Ev.bs (r2Cut w a hw) (Ev.bind (twoS w hw) ?_)
  have hs : 0 < sb w := by unfold sb; split <;> decide
  refine Ev.neg (by omega) (Ev.out ?_)
  have hm := magN_lt w hw a
  rw [Int.tdiv_eq_ediv_of_nonneg (by omega), ← Int.natCast_ediv, cutN_eq w hw a ha]
  cases sgB w a
  · simp only [Bool.false_eq_true, if_false, Nat.add_zero]
    rw [Nat.div_eq_of_lt hm]; decide
  · simp only [if_true]
    rw [Nat.add_div_right _ hs, Nat.div_eq_of_lt hm]; decide
end Go.Proofs.Ytmjfenbbgfohlaa.Th

namespace Flo

/-! ### powers of two -/
def tw (k : Int) : Rat := (2 : Rat) ^ k
theorem tw_pos (k : Int) : 0 < tw k := Rat.zpow_pos (by decide)
theorem tw_add (a b : Int) : tw (a + b) = tw a * tw b := Rat.zpow_add (by decide) a b
theorem tw_one : tw 1 = 2 := Rat.zpow_one ..
theorem tw_succ (a : Int) : tw (a + 1) = 2 * tw a := by rw [tw_add, tw_one, Rat.mul_comm]
theorem tw_pred (a : Int) : tw a = 2 * tw (a - 1) := by
  have := tw_succ (a - 1); rwa [Int.sub_add_cancel] at this
theorem tw_nat (n : Nat) : tw n = ((2 ^ n : Nat) : Rat) := by
  unfold tw; rw [Rat.zpow_natCast]; simp
theorem mul_lt {a b t : Rat} (h : a < b) (ht : 0 < t) : a * t < b * t := Rat.mul_lt_mul_of_pos_right h ht
theorem lt_of_mul {a b t : Rat} (h : a * t < b * t) (ht : 0 < t) : a < b := Rat.lt_of_mul_lt_mul_right h (Rat.le_of_lt ht)
theorem le_of_mul {a b t : Rat} (h : a * t ≤ b * t) (ht : 0 < t) : a ≤ b := Rat.le_of_mul_le_mul_right h ht
theorem nat_lt {a b : Nat} : ((a : Nat) : Rat) < (b : Rat) ↔ a < b := Rat.natCast_lt_natCast
theorem nat_le {a b : Nat} : ((a : Nat) : Rat) ≤ (b : Rat) ↔ a ≤ b := Rat.natCast_le_natCast

/-! ### formats -/
structure Fmt where
  f : Nat
  low : Int
  top : Nat
  hf : 1 ≤ f
  ht : 2 ≤ top
namespace Fmt
variable (F : Fmt)
def inf : Nat := F.top * 2 ^ F.f
def sg (m : Nat) : Nat := if m < 2 ^ F.f then m else 2 ^ F.f + m % 2 ^ F.f
def ex (m : Nat) : Int := if m < 2 ^ F.f then F.low else (m / 2 ^ F.f : Nat) - 1 + F.low
def val (m : Nat) : Rat := (F.sg m : Rat) * tw (F.ex m)
def mid (m : Nat) : Rat := ((2 * F.sg m + 1 : Nat) : Rat) * tw (F.ex m - 1)
theorem pow_pos : 0 < 2 ^ F.f := Nat.pow_pos (by decide)
/-- the bits of a power and a number of so many of it -/
theorem sg_mk (q n : Nat) (h : n < 2 ^ (F.f + 1)) (hq : 0 < q → 2 ^ F.f ≤ n) : F.sg (q * 2 ^ F.f + n) = n ∧ F.ex (q * 2 ^ F.f + n) = q + F.low := by
  have hp := F.pow_pos
  rw [Nat.pow_succ] at h
  unfold sg ex
  by_cases h1 : n < 2 ^ F.f
  · have : q = 0 := by
      rcases Nat.eq_zero_or_pos q with h | h
      · exact h
      · have := hq h; omega
    subst this
    simp [h1]
  · have e : q * 2 ^ F.f + n = (n - 2 ^ F.f) + 2 ^ F.f * (q + 1) := by
      rw [Nat.mul_add, Nat.mul_comm q]; omega
    have h2 : ¬ (q * 2 ^ F.f + n < 2 ^ F.f) := by
      have := Nat.zero_le (q * 2 ^ F.f); omega
    rw [if_neg h2, if_neg h2, e, Nat.add_mul_mod_self_left, Nat.add_mul_div_left _ _ hp, Nat.mod_eq_of_lt (by omega), Nat.div_eq_of_lt (by omega)]
    constructor
    · omega
    · omega
theorem sg_ex (m : Nat) : ∃ q n, m = q * 2 ^ F.f + n ∧ n < 2 ^ (F.f + 1) ∧ (0 < q → 2 ^ F.f ≤ n) ∧ F.sg m = n ∧ F.ex m = q + F.low := by
  have hp := F.pow_pos
  by_cases h : m < 2 ^ F.f
  · refine ⟨0, m, by simp, by rw [Nat.pow_succ]; omega, by simp, ?_, ?_⟩ <;> simp [sg, ex, h]
  · have h3 := Nat.div_add_mod m (2 ^ F.f)
    have h4 : 1 ≤ m / 2 ^ F.f := (Nat.le_div_iff_mul_le hp).2 (by omega)
    have h5 := Nat.mod_lt m hp
    have h6 : m = (m / 2 ^ F.f - 1) * 2 ^ F.f + (2 ^ F.f + m % 2 ^ F.f) := by
      rw [Nat.sub_mul, Nat.one_mul, Nat.mul_comm (m / 2 ^ F.f)]
      have : 2 ^ F.f ≤ 2 ^ F.f * (m / 2 ^ F.f) := Nat.le_mul_of_pos_right _ h4
      omega
    have h7 : 2 ^ F.f + m % 2 ^ F.f < 2 ^ (F.f + 1) := by rw [Nat.pow_succ]; omega
    have := F.sg_mk (m / 2 ^ F.f - 1) (2 ^ F.f + m % 2 ^ F.f) h7 (by omega)
    rw [← h6] at this
    exact ⟨_, _, h6, h7, by omega, this.1, this.2⟩
theorem val_succ (m : Nat) : F.val (m + 1) = F.val m + tw (F.ex m) := by
  obtain ⟨q, n, e, hn, hq, h1, h2⟩ := F.sg_ex m
  have hp := F.pow_pos
  by_cases h : n + 1 < 2 ^ (F.f + 1)
  · obtain ⟨h3, h4⟩ := F.sg_mk q (n + 1) h (fun h => by have := hq h; omega)
    unfold val
    rw [h1, h2, e, Nat.add_assoc, h3, h4]
    push_cast
    grind
  · have hn1 : n + 1 = 2 ^ F.f + 2 ^ F.f := by rw [Nat.pow_succ] at h hn; omega
    have e2 : m + 1 = (q + 1) * 2 ^ F.f + 2 ^ F.f := by rw [e, Nat.add_mul]; omega
    obtain ⟨h3, h4⟩ := F.sg_mk (q + 1) (2 ^ F.f) (by rw [Nat.pow_succ]; omega) (fun _ => Nat.le_refl _)
    unfold val
    rw [h1, h2, e2, h3, h4]
    have : (((q + 1 : Nat) : Int) + F.low) = (q + F.low) + 1 := by omega
    rw [this, tw_succ]
    have h5 : ((n : Nat) : Rat) + 1 = ((2 ^ F.f : Nat) : Rat) + ((2 ^ F.f : Nat) : Rat) := by exact_mod_cast hn1
    grind
theorem mid_eq (m : Nat) : F.mid m = F.val m + tw (F.ex m - 1) := by
  unfold mid val
  rw [tw_pred (F.ex m)]
  push_cast
  grind
theorem mid_lt_succ (m : Nat) : F.mid m < F.val (m + 1) := by
  rw [mid_eq, val_succ, tw_pred (F.ex m)]
  have := tw_pos (F.ex m - 1)
  grind
theorem lt_mid (m : Nat) : F.val m < F.mid m := by
  rw [mid_eq]
  have := tw_pos (F.ex m - 1)
  grind
theorem val_lt_succ (m : Nat) : F.val m < F.val (m + 1) := by
  rw [val_succ]
  have := tw_pos (F.ex m)
  grind
theorem val_mono {a b : Nat} (h : a ≤ b) : F.val a ≤ F.val b := by
  induction b with
  | zero => obtain rfl : a = 0 := by omega
            exact Rat.le_refl
  | succ b ih =>
    rcases Nat.lt_or_ge b a with h1 | h1
    · obtain rfl : a = b + 1 := by omega
      exact Rat.le_refl
    · have := ih h1
      have := F.val_lt_succ b
      grind
theorem mid_lt {a b : Nat} (h : a < b) : F.mid a < F.mid b := by
  have h1 := F.mid_lt_succ a
  have h2 := F.val_mono (show a + 1 ≤ b by omega)
  have h3 := F.lt_mid b
  grind
/-! ### rounding: what is above a middle -/
def Up (x : Rat) (m : Nat) : Prop := F.mid m < x ∨ F.mid m = x ∧ m % 2 = 1
def Rnd (U : Nat → Prop) (r : Nat) : Prop := r ≤ F.inf ∧ (∀ m, m < r → U m) ∧ (r < F.inf → ¬ U r)
theorem Rnd.exact {m : Nat} (h : m ≤ F.inf) : F.Rnd (F.Up (F.val m)) m := by
  refine ⟨h, fun k hk => .inl ?_, fun _ u => ?_⟩
  · have h1 := F.mid_lt_succ k
    have h2 := F.val_mono (show k + 1 ≤ m by omega)
    grind
  · have h1 := F.lt_mid m
    rcases u with u | ⟨u, _⟩ <;> grind
/-- The one rule by which all are rounded: to n times 2^(low + q), if that is where its last bit stands. -/
theorem Rnd.make {x : Rat} {q n : Nat} (hx : x < tw (q + F.low + F.f + 1)) (hq : 0 < q → tw (q + F.low + F.f) ≤ x)
    (hd : 0 < n → ((2 * n - 1 : Nat) : Rat) * tw (q + F.low - 1) < x ∨ ((2 * n - 1 : Nat) : Rat) * tw (q + F.low - 1) = x ∧ n % 2 = 0)
    (hu : x < ((2 * n + 1 : Nat) : Rat) * tw (q + F.low - 1) ∨ x = ((2 * n + 1 : Nat) : Rat) * tw (q + F.low - 1) ∧ n % 2 = 0) :
    F.Rnd (F.Up x) (min F.inf (q * 2 ^ F.f + n)) := by
  have hp := F.pow_pos
  have T := tw_pos (q + F.low - 1)
  -- n is at most 2^(f+1), and at least 2^f where q is not 0
  have e1 : tw (q + F.low + F.f + 1) = ((2 ^ (F.f + 2) : Nat) : Rat) * tw (q + F.low - 1) := by
    rw [← tw_nat, ← tw_add]; congr 1; omega
  have e2 : tw (q + F.low + F.f) = ((2 ^ (F.f + 1) : Nat) : Rat) * tw (q + F.low - 1) := by
    rw [← tw_nat, ← tw_add]; congr 1; omega
  have hn : n ≤ 2 ^ (F.f + 1) := by
    rcases Nat.eq_zero_or_pos n with h | h
    · omega
    · have h1 : ((2 * n - 1 : Nat) : Rat) * tw (q + F.low - 1) < ((2 ^ (F.f + 2) : Nat) : Rat) * tw (q + F.low - 1) := by
        rw [← e1]
        rcases hd h with h | ⟨h, _⟩ <;> grind
      have h2 := nat_lt.1 (lt_of_mul h1 T)
      rw [Nat.pow_succ] at h2
      omega
  have hl : 0 < q → 2 ^ F.f ≤ n := by
    intro h
    have h1 := hq h
    have h2 : ((2 ^ (F.f + 1) : Nat) : Rat) * tw (q + F.low - 1) ≤ ((2 * n + 1 : Nat) : Rat) * tw (q + F.low - 1) := by
      rw [← e2]
      rcases hu with h | ⟨h, _⟩ <;> grind
    have h3 := nat_le.1 (le_of_mul h2 T)
    rw [Nat.pow_succ] at h3
    omega
  have par : (q * 2 ^ F.f + n) % 2 = n % 2 := by
    obtain ⟨g, hg⟩ : ∃ g, F.f = g + 1 := ⟨F.f - 1, by have := F.hf; omega⟩
    rw [hg, Nat.pow_succ, ← Nat.mul_assoc]; omega
  -- what is below the answer is above its middle
  have hbelow : ∀ m, m < q * 2 ^ F.f + n → F.Up x m := by
    intro m hm
    have hlast : F.Up x (q * 2 ^ F.f + n - 1) := by
      by_cases h : n ≤ 2 ^ F.f ∧ 0 < q
      · obtain ⟨h, h0⟩ := h
        have h1 : n = 2 ^ F.f := Nat.le_antisymm h (hl h0)
        have e3 : q * 2 ^ F.f + n - 1 = (q - 1) * 2 ^ F.f + (2 ^ (F.f + 1) - 1) := by
          rw [h1, Nat.pow_succ]
          have : q * 2 ^ F.f = (q - 1) * 2 ^ F.f + 2 ^ F.f := by rw [← Nat.succ_mul]; congr 1; omega
          omega
        obtain ⟨h3, h4⟩ := F.sg_mk (q - 1) (2 ^ (F.f + 1) - 1) (by have := Nat.pow_pos (n := F.f + 1) (show 0 < 2 by decide); omega) (by intro _; rw [Nat.pow_succ]; omega)
        refine .inl ?_
        unfold mid
        rw [e3, h3, h4]
        have h5 := hq h0
        have e4 : tw (q + F.low + F.f) = ((2 ^ (F.f + 2) : Nat) : Rat) * tw ((q - 1 : Nat) + F.low - 1) := by
          rw [← tw_nat, ← tw_add]; congr 1; omega
        have h6 : 2 * (2 ^ (F.f + 1) - 1) + 1 < 2 ^ (F.f + 2) := by
          have h7 : 2 ^ (F.f + 2) = 2 ^ (F.f + 1) * 2 := Nat.pow_succ ..
          have h8 := Nat.pow_pos (n := F.f + 1) (show 0 < 2 by decide)
          omega
        have h7 := mul_lt (nat_lt.2 h6) (tw_pos ((q - 1 : Nat) + F.low - 1))
        grind
      · have hn0 : 0 < n := by
          rcases Nat.eq_zero_or_pos n with h0 | h0
          · subst h0
            rcases Nat.eq_zero_or_pos q with h1 | h1
            · subst h1; omega
            · exact absurd ⟨by omega, h1⟩ h
          · exact h0
        have h1 : 0 < q → 2 ^ F.f ≤ n - 1 := by
          intro h0
          have := hl h0
          have : ¬ n ≤ 2 ^ F.f := fun h' => h ⟨h', h0⟩
          omega
        obtain ⟨h3, h4⟩ := F.sg_mk q (n - 1) (by omega) h1
        have e3 : q * 2 ^ F.f + n - 1 = q * 2 ^ F.f + (n - 1) := by omega
        have e4 : 2 * (n - 1) + 1 = 2 * n - 1 := by omega
        unfold Up mid
        rw [e3, h3, h4, e4]
        rcases hd hn0 with h5 | ⟨h5, h6⟩
        · exact .inl h5
        · refine .inr ⟨h5, ?_⟩
          rw [← e3]; omega
    rcases Nat.lt_or_ge m (q * 2 ^ F.f + n - 1) with h1 | h1
    · have h2 := F.mid_lt h1
      rcases hlast with h3 | ⟨h3, _⟩ <;> exact .inl (by grind)
    · obtain rfl : m = q * 2 ^ F.f + n - 1 := by omega
      exact hlast
  refine ⟨Nat.min_le_left _ _, fun m hm => hbelow m (by omega), fun h => ?_⟩
  have hm : min F.inf (q * 2 ^ F.f + n) = q * 2 ^ F.f + n := by omega
  rw [hm]
  by_cases h1 : n < 2 ^ (F.f + 1)
  · obtain ⟨h3, h4⟩ := F.sg_mk q n h1 hl
    unfold Up mid
    rw [h3, h4, par]
    rintro (h5 | ⟨h5, h6⟩) <;> rcases hu with h7 | ⟨h7, h8⟩
    · grind
    · grind
    · grind
    · omega
  · have h1 : n = 2 ^ (F.f + 1) := by omega
    have e3 : q * 2 ^ F.f + n = (q + 1) * 2 ^ F.f + 2 ^ F.f := by rw [h1, Nat.pow_succ, Nat.add_mul]; omega
    obtain ⟨h3, h4⟩ := F.sg_mk (q + 1) (2 ^ F.f) (by rw [Nat.pow_succ]; omega) (fun _ => Nat.le_refl _)
    have h9 := F.lt_mid (q * 2 ^ F.f + n)
    have h10 : F.val (q * 2 ^ F.f + n) = tw (q + F.low + F.f + 1) := by
      unfold val
      rw [e3, h3, h4, ← tw_nat, ← tw_add]; congr 1; omega
    rintro (h5 | ⟨h5, h6⟩) <;> grind
end Fmt
end Flo

set_option linter.unusedVariables false
set_option linter.unusedSimpArgs false
namespace Go.Proofs.Ytmjfenbbgfohlaa.Th
open Go.RowKit Go.Proofs.YtmjfenbbgfohlaaW.PrintWords Go.Proofs.YtmjfenbbgfohlaaW.PrintLast Go.Proofs.YtmjfenbbgfohlaaW.PrintMore Go.Proofs.Ytmjfenbbgfohlaa.PA Bit Flo
/-! ### the formats -/
def f32 : Fmt := ⟨23, -149, 255, by decide, by decide⟩
def f64 : Fmt := ⟨52, -1074, 2047, by decide, by decide⟩
def fmt (w : Int) : Fmt := if w = 32 then f32 else f64
/-- a float taken apart: its sign, kind, exponent, bits -/
def opn (w : Int) (a : Nat) : Bool × Int × Int × Int :=
  let F := fmt w
  let m := magN w a
  if m = 0 then (sgB w a, 0, 0, 0) else if m < F.inf then (sgB w a, 1, F.ex m, (F.sg m : Int)) else if m = F.inf then (sgB w a, 2, 0, 0) else (false, 3, 0, 0)

/-! ### width 32 -/
theorem ones32 : shape_format_ones.f 8 23 = some 255 := by decide +kernel
theorem low32 : shape_format_low.f 8 23 = some (-149) := by decide +kernel
theorem inf32 : f32.inf = 2139095040 := by decide
theorem sg32 (m : Nat) : f32.sg m = if m < 8388608 then m else 8388608 + m % 8388608 := by
  unfold Fmt.sg; rw [show (2 : Nat) ^ f32.f = 8388608 by decide]
theorem ex32 (m : Nat) : f32.ex m = if m < 8388608 then (-149 : Int) else ((m / 8388608 : Nat) : Int) - 1 + (-149) := by
  unfold Fmt.ex; rw [show (2 : Nat) ^ f32.f = 8388608 by decide]; rfl
theorem opn32 (a : Nat) : opn 32 a = if a % 2147483648 = 0 then (decide (a / 2147483648 % 2 = 1), 0, 0, 0) else if a % 2147483648 < 2139095040 then (decide (a / 2147483648 % 2 = 1), 1, (if a % 2147483648 < 8388608 then (-149 : Int) else ((a % 2147483648 / 8388608 : Nat) : Int) - 1 + (-149)), ((if a % 2147483648 < 8388608 then a % 2147483648 else 8388608 + a % 2147483648 % 8388608 : Nat) : Int))
    else if a % 2147483648 = 2139095040 then (decide (a / 2147483648 % 2 = 1), 2, 0, 0) else (false, 3, 0, 0) := by
  unfold opn
  simp only [show fmt 32 = f32 from rfl, inf32, sg32, ex32, magN, sgB, show sb 32 = 2147483648 by decide]
theorem split32 (a : Nat) (ha : a < 18446744073709551616) : shape_format_split.f 8 23 a = some (8, 23, decide (a / 2147483648 % 2 = 1), ((a / 8388608 % 256 : Nat) : Int), ((a % 8388608 : Nat) : Int)) := by
  unfold shape_format_split.f
  rw [show wrap64 (8 + 23) = 31 by decide +kernel, if_pos (by decide), if_pos (by decide), ones32, Option.bind_some]
  have e1 : shr .u64 (a : Int) 31 = ((a / 2147483648 : Nat) : Int) := by
    unfold shr; rw [show min (31 : Int).toNat IntKind.u64.bits = 31 by decide, show (2 : Int) ^ 31 = 2147483648 by decide]; omega
  have e2 : shr .u64 (a : Int) 23 = ((a / 8388608 : Nat) : Int) := by
    unfold shr; rw [show min (23 : Int).toNat IntKind.u64.bits = 23 by decide, show (2 : Int) ^ 23 = 8388608 by decide]; omega
  have e3 : IntKind.u64.wrap ((shl .u64 1 23) - 1) = ((8388607 : Nat) : Int) := by decide +kernel
  rw [e1, e2, e3, show (1 : Int) = ((1 : Nat) : Int) from rfl, show (255 : Int) = ((255 : Nat) : Int) from rfl,
    u64_and_nat _ 1 (by omega) (by decide), u64_and_nat _ 255 (by omega) (by decide), u64_and_nat a 8388607 ha (by decide)]
  have h1 := and_low (a / 2147483648) 1
  have h2 := and_low (a / 8388608) 8
  have h3 := and_low a 23
  rw [show (2 : Nat) ^ 1 - 1 = 1 by decide, show (2 : Nat) ^ 1 = 2 by decide] at h1
  rw [show (2 : Nat) ^ 8 - 1 = 255 by decide, show (2 : Nat) ^ 8 = 256 by decide] at h2
  rw [show (2 : Nat) ^ 23 - 1 = 8388607 by decide, show (2 : Nat) ^ 23 = 8388608 by decide] at h3
  rw [h1, h2, h3]
  have hb : ((((a / 2147483648 % 2 : Nat) : Int) == ((1 : Nat) : Int)) : Bool) = decide (a / 2147483648 % 2 = 1) := by
    rw [Bool.eq_iff_iff]; simp; omega
  rw [hb]
theorem open32 (a : Nat) (ha : a < 18446744073709551616) : Ev (fun k => shape_Open.f k 32 a) (opn 32 a) := by
  rw [opn32]
  unfold shape_Open.f
  refine Ev.bs (show shape_of.f 32 = some (8, 23, true) by decide) (Ev.pos rfl (Ev.bs (split32 a ha) (Ev.bs ones32 ?_)))
  simp only
  have hP : a % 2147483648 % 8388608 = a % 8388608 := by omega
  have hQ : a % 2147483648 / 8388608 = a / 8388608 % 256 := by omega
  have hT : a / 8388608 % 256 < 256 := Nat.mod_lt _ (by decide)
  have hE : a % 2147483648 = a / 8388608 % 256 * 8388608 + a % 8388608 := by omega
  rw [hP, hQ, hE]
  generalize a / 8388608 % 256 = e at *
  have hF : a % 8388608 < 8388608 := Nat.mod_lt _ (by decide)
  generalize a % 8388608 = fr at *
  generalize decide (a / 2147483648 % 2 = 1) = s
  by_cases h1 : e = 255
  · subst h1
    refine Ev.pos rfl ?_
    refine Ev.step (fun _ => shape_Open.j0.eq_2 ..) ?_
    by_cases h2 : fr = 0
    · subst h2
      refine Ev.neg (by decide) (Ev.bs ones32 (Ev.pos rfl (Ev.out ?_)))
      rw [if_neg (by omega), if_neg (by omega), if_pos (by omega)]
    · refine Ev.pos (by simp; omega) (Ev.out ?_)
      rw [if_neg (by omega), if_neg (by omega), if_neg (by omega)]
  · refine Ev.neg (by omega) ?_
    refine Ev.step (fun _ => shape_Open.j0.eq_2 ..) ?_
    refine Ev.neg (by decide) (Ev.bs ones32 (Ev.neg (by omega) ?_))
    by_cases h2 : e = 0
    · subst h2
      refine Ev.pos rfl (Ev.step (fun _ => shape_Open.j1.eq_2 ..) ?_)
      by_cases h3 : fr = 0
      · subst h3
        refine Ev.pos (by decide) (Ev.out ?_)
        rw [Nat.zero_mul, Nat.zero_add, if_pos rfl]
      · refine Ev.neg (by simp; omega) (Ev.pos rfl (Ev.bs low32 (Ev.out ?_)))
        rw [if_neg (by omega), if_pos (by omega), if_pos (by omega), if_pos (by omega)]
        simp
    · refine Ev.neg (by omega) (Ev.step (fun _ => shape_Open.j1.eq_2 ..) ?_)
      refine Ev.neg (by decide) (Ev.neg (by omega) (Ev.bs low32 (Ev.pos (by decide) (Ev.out ?_))))
      rw [if_neg (by omega), if_pos (by omega), if_neg (by omega), if_neg (by omega)]
      rw [w64_id (n := ((e : Nat) : Int)) (by omega) (by omega), w64_id (n := (-149 : Int) + _) (by omega) (by omega), w64_id (by omega) (by omega)]
      have e4 : shl .u64 1 23 = ((8388608 : Nat) : Int) := by decide +kernel
      rw [e4, u64_or_nat _ _ (by decide) (by omega)]
      have h4 := or_pow fr 1 23 (by rw [show (2 : Nat) ^ 23 = 8388608 by decide]; exact hF)
      rw [Nat.one_mul, show (2 : Nat) ^ 23 = 8388608 by decide, Nat.or_comm] at h4
      rw [h4, Nat.add_comm fr]
      congr 2
      congr 1
      omega

/-! ### width 64 -/
theorem ones64 : shape_format_ones.f 11 52 = some 2047 := by decide +kernel
theorem low64 : shape_format_low.f 11 52 = some (-1074) := by decide +kernel
theorem inf64 : f64.inf = 9218868437227405312 := by decide
theorem sg64 (m : Nat) : f64.sg m = if m < 4503599627370496 then m else 4503599627370496 + m % 4503599627370496 := by
  unfold Fmt.sg; rw [show (2 : Nat) ^ f64.f = 4503599627370496 by decide]
theorem ex64 (m : Nat) : f64.ex m = if m < 4503599627370496 then (-1074 : Int) else ((m / 4503599627370496 : Nat) : Int) - 1 + (-1074) := by
  unfold Fmt.ex; rw [show (2 : Nat) ^ f64.f = 4503599627370496 by decide]; rfl
theorem opn64 (a : Nat) : opn 64 a = if a % 9223372036854775808 = 0 then (decide (a / 9223372036854775808 % 2 = 1), 0, 0, 0) else if a % 9223372036854775808 < 9218868437227405312 then (decide (a / 9223372036854775808 % 2 = 1), 1, (if a % 9223372036854775808 < 4503599627370496 then (-1074 : Int) else ((a % 9223372036854775808 / 4503599627370496 : Nat) : Int) - 1 + (-1074)), ((if a % 9223372036854775808 < 4503599627370496 then a % 9223372036854775808 else 4503599627370496 + a % 9223372036854775808 % 4503599627370496 : Nat) : Int))
    else if a % 9223372036854775808 = 9218868437227405312 then (decide (a / 9223372036854775808 % 2 = 1), 2, 0, 0) else (false, 3, 0, 0) := by
  unfold opn
  simp only [show fmt 64 = f64 from rfl, inf64, sg64, ex64, magN, sgB, show sb 64 = 9223372036854775808 by decide]
theorem split64 (a : Nat) (ha : a < 18446744073709551616) : shape_format_split.f 11 52 a = some (11, 52, decide (a / 9223372036854775808 % 2 = 1), ((a / 4503599627370496 % 2048 : Nat) : Int), ((a % 4503599627370496 : Nat) : Int)) := by
  unfold shape_format_split.f
  rw [show wrap64 (11 + 52) = 63 by decide +kernel, if_pos (by decide), if_pos (by decide), ones64, Option.bind_some]
  have e1 : shr .u64 (a : Int) 63 = ((a / 9223372036854775808 : Nat) : Int) := by
    unfold shr; rw [show min (63 : Int).toNat IntKind.u64.bits = 63 by decide, show (2 : Int) ^ 63 = 9223372036854775808 by decide]; omega
  have e2 : shr .u64 (a : Int) 52 = ((a / 4503599627370496 : Nat) : Int) := by
    unfold shr; rw [show min (52 : Int).toNat IntKind.u64.bits = 52 by decide, show (2 : Int) ^ 52 = 4503599627370496 by decide]; omega
  have e3 : IntKind.u64.wrap ((shl .u64 1 52) - 1) = ((4503599627370495 : Nat) : Int) := by decide +kernel
  rw [e1, e2, e3, show (1 : Int) = ((1 : Nat) : Int) from rfl, show (2047 : Int) = ((2047 : Nat) : Int) from rfl,
    u64_and_nat _ 1 (by omega) (by decide), u64_and_nat _ 2047 (by omega) (by decide), u64_and_nat a 4503599627370495 ha (by decide)]
  have h1 := and_low (a / 9223372036854775808) 1
  have h2 := and_low (a / 4503599627370496) 11
  have h3 := and_low a 52
  rw [show (2 : Nat) ^ 1 - 1 = 1 by decide, show (2 : Nat) ^ 1 = 2 by decide] at h1
  rw [show (2 : Nat) ^ 11 - 1 = 2047 by decide, show (2 : Nat) ^ 11 = 2048 by decide] at h2
  rw [show (2 : Nat) ^ 52 - 1 = 4503599627370495 by decide, show (2 : Nat) ^ 52 = 4503599627370496 by decide] at h3
  rw [h1, h2, h3]
  have hb : ((((a / 9223372036854775808 % 2 : Nat) : Int) == ((1 : Nat) : Int)) : Bool) = decide (a / 9223372036854775808 % 2 = 1) := by
    rw [Bool.eq_iff_iff]; simp; omega
  rw [hb]
theorem open64 (a : Nat) (ha : a < 18446744073709551616) : Ev (fun k => shape_Open.f k 64 a) (opn 64 a) := by
  rw [opn64]
  unfold shape_Open.f
  refine Ev.bs (show shape_of.f 64 = some (11, 52, true) by decide) (Ev.pos rfl (Ev.bs (split64 a ha) (Ev.bs ones64 ?_)))
  simp only
  have hP : a % 9223372036854775808 % 4503599627370496 = a % 4503599627370496 := by omega
  have hQ : a % 9223372036854775808 / 4503599627370496 = a / 4503599627370496 % 2048 := by omega
  have hT : a / 4503599627370496 % 2048 < 2048 := Nat.mod_lt _ (by decide)
  have hE : a % 9223372036854775808 = a / 4503599627370496 % 2048 * 4503599627370496 + a % 4503599627370496 := by omega
  rw [hP, hQ, hE]
  generalize a / 4503599627370496 % 2048 = e at *
  have hF : a % 4503599627370496 < 4503599627370496 := Nat.mod_lt _ (by decide)
  generalize a % 4503599627370496 = fr at *
  generalize decide (a / 9223372036854775808 % 2 = 1) = s
  by_cases h1 : e = 2047
  · subst h1
    refine Ev.pos rfl ?_
    refine Ev.step (fun _ => shape_Open.j0.eq_2 ..) ?_
    by_cases h2 : fr = 0
    · subst h2
      refine Ev.neg (by decide) (Ev.bs ones64 (Ev.pos rfl (Ev.out ?_)))
      rw [if_neg (by omega), if_neg (by omega), if_pos (by omega)]
    · refine Ev.pos (by simp; omega) (Ev.out ?_)
      rw [if_neg (by omega), if_neg (by omega), if_neg (by omega)]
  · refine Ev.neg (by omega) ?_
    refine Ev.step (fun _ => shape_Open.j0.eq_2 ..) ?_
    refine Ev.neg (by decide) (Ev.bs ones64 (Ev.neg (by omega) ?_))
    by_cases h2 : e = 0
    · subst h2
      refine Ev.pos rfl (Ev.step (fun _ => shape_Open.j1.eq_2 ..) ?_)
      by_cases h3 : fr = 0
      · subst h3
        refine Ev.pos (by decide) (Ev.out ?_)
        rw [Nat.zero_mul, Nat.zero_add, if_pos rfl]
      · refine Ev.neg (by simp; omega) (Ev.pos rfl (Ev.bs low64 (Ev.out ?_)))
        rw [if_neg (by omega), if_pos (by omega), if_pos (by omega), if_pos (by omega)]
        simp
    · refine Ev.neg (by omega) (Ev.step (fun _ => shape_Open.j1.eq_2 ..) ?_)
      refine Ev.neg (by decide) (Ev.neg (by omega) (Ev.bs low64 (Ev.pos (by decide) (Ev.out ?_))))
      rw [if_neg (by omega), if_pos (by omega), if_neg (by omega), if_neg (by omega)]
      rw [w64_id (n := ((e : Nat) : Int)) (by omega) (by omega), w64_id (n := (-1074 : Int) + _) (by omega) (by omega), w64_id (by omega) (by omega)]
      have e4 : shl .u64 1 52 = ((4503599627370496 : Nat) : Int) := by decide +kernel
      rw [e4, u64_or_nat _ _ (by decide) (by omega)]
      have h4 := or_pow fr 1 52 (by rw [show (2 : Nat) ^ 52 = 4503599627370496 by decide]; exact hF)
      rw [Nat.one_mul, show (2 : Nat) ^ 52 = 4503599627370496 by decide, Nat.or_comm] at h4
      rw [h4, Nat.add_comm fr]
      congr 2
      congr 1
      omega

theorem openS (w : Int) (hw : w = 32 ∨ w = 64) (a : Nat) (ha : a < 18446744073709551616) : Ev (fun k => shape_Open.f k w a) (opn w a) := by
  rcases hw with rfl | rfl
  · exact open32 a ha
  · exact open64 a ha
end Go.Proofs.Ytmjfenbbgfohlaa.Th
