/- What the Go functions that the statement CastMakes reaches compute, and the mathematics on it, in the order in which one leans on the other; for every input. -/
import Derived.Test.YthdeeoallfbjmaaDoorVCastMakes1
import Derived.Test.YthdeeoallfbjmaaDoorMCastMakes0
import Derived.Test.YthdeeoallfbjmaaDoorMCastMakes7
import Derived.Test.YthdeeoallfbjmaaDoorMCastMakes3
import Derived.Deep.RegionHeld3
import Derived.Test.YthdeeoallfbjmaaDoorMCastMakes4
import Derived.Test.YthdeeoallfbjmaaDoorMCastMakes5
namespace Go.Proofs.YthdeeoallfbjmaaDoor.PA
open Go.RowKit Go.Proofs.YthdeeoallfbjmaaDoorW.PrintWords Go.Proofs.YthdeeoallfbjmaaDoorW.PrintLast Go.Proofs.YthdeeoallfbjmaaDoorW.PrintMore
attribute [local go_sem] max2_int min2_int max_two min_two max_three min_three max_four min_four   -- for this text's walks alone
set_option linter.unusedVariables false
set_option linter.unusedSimpArgs false
set_option maxHeartbeats 8000000
set_option maxRecDepth 100000
def r2_Open.f (k : Nat) (a0 : Int) (a1 : Int) : Option (Bool × Int × Int × Int) := (r2_Exp.f k a0 a1).bind fun t554 => ((r2_Frac.f k a0 a1).bind fun t555 => ((r2_Neg.f k a0 a1).bind fun t556 => ((r2_Top.f k a0).bind fun t557 => (if t554 = t557 then (if t555 = 0 then (some (t556, 2, 0, 0)) else (some (false, 3, 0, 0))) else (if t554 = 0 then (if t555 = 0 then (some (t556, 0, 0, 0)) else ((r2_B.f a0).bind fun t558 => ((r2_F.f a0).bind fun t559 => (some (t556, 1, wrap64 ((wrap64 (1 - t558)) - t559), t555))))) else ((r2_B.f a0).bind fun t560 => ((r2_F.f a0).bind fun t561 => ((r2_F.f a0).bind fun t562 => ((r2_Two.f k t562).bind fun t563 => (some (t556, 1, wrap64 ((wrap64 (t554 - t560)) - t561), IntKind.u64.wrap (t563 + t555))))))))))))
theorem r2_Open.mono : ∀ a0 a1 k, LeO (r2_Open.f k a0 a1) (r2_Open.f (k + 1) a0 a1) := by
 intro a0 a1 k
 unfold r2_Open.f
 repeat' first
   | (with_reducible exact r2_Exp.mono _ _ _)
   | (with_reducible exact r2_Frac.mono _ _ _)
   | (with_reducible exact r2_Neg.mono _ _ _)
   | (with_reducible exact r2_Top.mono _ _)
   | (with_reducible exact r2_Two.mono _ _)
   | (with_reducible exact LeO.refl _)
   | (with_reducible exact LeO.none _)
   | (with_reducible refine LeO.ite ?_ ?_)
   | (with_reducible refine LeO.bind ?_ (fun _ => ?_))
   | exact r2_Exp.mono _ _ _
   | exact r2_Frac.mono _ _ _
   | exact r2_Neg.mono _ _ _
   | exact r2_Top.mono _ _
   | exact r2_Two.mono _ _
   | exact LeO.none _
   | refine LeO.ite ?_ ?_
   | refine LeO.bind ?_ (fun _ => ?_)
theorem r2_Open.calls (k : Nat) (a0 : Int) (a1 : Int) (r1 : Bool) (r2 : Int) (r3 : Int) (r4 : Int) (w : World) (h : r2_Open.f k a0 a1 = some (r1, r2, r3, r4)) :
  Calls Tryd.prog 58 #[.int .i64 a0, .int .u64 a1] w fun e w' => e = .returned (.agg #[.bool r1, .int .i64 r2, .int .i64 r3, .int .u64 r4]) ∧ Below w.heap.size w w' := by
 have hu70 := Tryd.underlying70
 have HB := A_ (Below.refl w.heap.size w)
 have H : ((r2_Exp.f k a0 a1).bind fun t554 => ((r2_Frac.f k a0 a1).bind fun t555 => ((r2_Neg.f k a0 a1).bind fun t556 => ((r2_Top.f k a0).bind fun t557 => (if t554 = t557 then (if t555 = 0 then (some (t556, 2, 0, 0)) else (some (false, 3, 0, 0))) else (if t554 = 0 then (if t555 = 0 then (some (t556, 0, 0, 0)) else ((r2_B.f a0).bind fun t558 => ((r2_F.f a0).bind fun t559 => (some (t556, 1, wrap64 ((wrap64 (1 - t558)) - t559), t555))))) else ((r2_B.f a0).bind fun t560 => ((r2_F.f a0).bind fun t561 => ((r2_F.f a0).bind fun t562 => ((r2_Two.f k t562).bind fun t563 => (some (t556, 1, wrap64 ((wrap64 (t554 - t560)) - t561), IntKind.u64.wrap (t563 + t555))))))))))))) = some (r1, r2, r3, r4) := h
 clear h
 replace H := ob_ H
 obtain ⟨t554, A30, H⟩ := H
 replace H : ((r2_Frac.f k a0 a1).bind fun t555 => ((r2_Neg.f k a0 a1).bind fun t556 => ((r2_Top.f k a0).bind fun t557 => (if t554 = t557 then (if t555 = 0 then (some (t556, 2, 0, 0)) else (some (false, 3, 0, 0))) else (if t554 = 0 then (if t555 = 0 then (some (t556, 0, 0, 0)) else ((r2_B.f a0).bind fun t558 => ((r2_F.f a0).bind fun t559 => (some (t556, 1, wrap64 ((wrap64 (1 - t558)) - t559), t555))))) else ((r2_B.f a0).bind fun t560 => ((r2_F.f a0).bind fun t561 => ((r2_F.f a0).bind fun t562 => ((r2_Two.f k t562).bind fun t563 => (some (t556, 1, wrap64 ((wrap64 (t554 - t560)) - t561), IntKind.u64.wrap (t563 + t555)))))))))))) = some (r1, r2, r3, r4) := H
 have A3 := A_ A30;clear A30
 replace H := ob_ H
 obtain ⟨t555, A40, H⟩ := H
 replace H : ((r2_Neg.f k a0 a1).bind fun t556 => ((r2_Top.f k a0).bind fun t557 => (if t554 = t557 then (if t555 = 0 then (some (t556, 2, 0, 0)) else (some (false, 3, 0, 0))) else (if t554 = 0 then (if t555 = 0 then (some (t556, 0, 0, 0)) else ((r2_B.f a0).bind fun t558 => ((r2_F.f a0).bind fun t559 => (some (t556, 1, wrap64 ((wrap64 (1 - t558)) - t559), t555))))) else ((r2_B.f a0).bind fun t560 => ((r2_F.f a0).bind fun t561 => ((r2_F.f a0).bind fun t562 => ((r2_Two.f k t562).bind fun t563 => (some (t556, 1, wrap64 ((wrap64 (t554 - t560)) - t561), IntKind.u64.wrap (t563 + t555))))))))))) = some (r1, r2, r3, r4) := H
 have A4 := A_ A40;clear A40
 replace H := ob_ H
 obtain ⟨t556, A50, H⟩ := H
 replace H : ((r2_Top.f k a0).bind fun t557 => (if t554 = t557 then (if t555 = 0 then (some (t556, 2, 0, 0)) else (some (false, 3, 0, 0))) else (if t554 = 0 then (if t555 = 0 then (some (t556, 0, 0, 0)) else ((r2_B.f a0).bind fun t558 => ((r2_F.f a0).bind fun t559 => (some (t556, 1, wrap64 ((wrap64 (1 - t558)) - t559), t555))))) else ((r2_B.f a0).bind fun t560 => ((r2_F.f a0).bind fun t561 => ((r2_F.f a0).bind fun t562 => ((r2_Two.f k t562).bind fun t563 => (some (t556, 1, wrap64 ((wrap64 (t554 - t560)) - t561), IntKind.u64.wrap (t563 + t555)))))))))) = some (r1, r2, r3, r4) := H
 have A5 := A_ A50;clear A50
 replace H := ob_ H
 obtain ⟨t557, A60, H⟩ := H
 replace H : (if t554 = t557 then (if t555 = 0 then (some (t556, 2, 0, 0)) else (some (false, 3, 0, 0))) else (if t554 = 0 then (if t555 = 0 then (some (t556, 0, 0, 0)) else ((r2_B.f a0).bind fun t558 => ((r2_F.f a0).bind fun t559 => (some (t556, 1, wrap64 ((wrap64 (1 - t558)) - t559), t555))))) else ((r2_B.f a0).bind fun t560 => ((r2_F.f a0).bind fun t561 => ((r2_F.f a0).bind fun t562 => ((r2_Two.f k t562).bind fun t563 => (some (t556, 1, wrap64 ((wrap64 (t554 - t560)) - t561), IntKind.u64.wrap (t563 + t555))))))))) = some (r1, r2, r3, r4) := H
 have A6 := A_ A60;clear A60
 by_cases c7 : t554 = t557
 ·rw [if_pos c7] at H
  have c7b0 : (t554 == t557) = true := beq_iff_eq.mpr c7
  have c7b1 : (t554 != t557) = false := bne_eq_false_iff_eq.mpr c7
  clear c7
  by_cases c8 : t555 = 0
  ·rw [if_pos c8] at H
   have c8b0 : (t555 == 0) = true := beq_iff_eq.mpr c8
   have c8b1 : (t555 != 0) = false := bne_eq_false_iff_eq.mpr c8
   clear c8
   simp only [Option.some.injEq, Prod.mk.injEq] at H
   obtain ⟨rfl, rfl, rfl, rfl⟩ := H
   go_enter Tryd.func58, Tryd.ntmps58
   go_wp2_with (first | ((with_reducible refine gate_dst (N := 4) rfl ?_); refine be_ 4 #[.bool false, .int .i64 0, .int .i64 0, .int .u64 0] 70 ?_; intro gb553 hg w9 hbox hb; have BK553 := A_ (hbox); have GW553 := A_ (sz_ hg (hb_ HB.out)); have GE553 := A_ (sz_ hg (hb_ HB.out)); replace HB := A_ (below_step (hb_ HB.out) hb); clear hb hbox hg) | ((with_reducible refine gate_callee (f := 76) rfl ?_); refine goesL_ (some 10) rfl rfl Tryd.func76 (by kernel_rfl) rfl #[.int .i64 a0, .int .u64 a1] rfl mp_ ?_; (with_reducible refine (r2_Exp.calls k a0 a1 t554 _ A3.out).mono ?_); rintro e w' ⟨rfl, ⟨nd, rfl⟩⟩; refine ⟨_, rfl, ?_⟩; (try (rw [drewN_self w9]; generalize hq_ : World.drewN w9 _ = w9; have n0_ : Aside0 (w9.heap[gb553]? = some (.cells #[.bool false, .int .i64 0, .int .i64 0, .int .u64 0] 70 (0, 0))) := ⟨by rw [← hq_]; exact (bk_ BK553.out)⟩; have n1_ : Aside0 (Below w.heap.size w w9) := ⟨by rw [← hq_]; exact (hb1_ HB.out GE553.out)⟩; clear BK553 HB hq_; have BK553 := n0_; have HB := n1_; clear n0_ n1_))) | ((with_reducible refine gate_callee (f := 77) rfl ?_); refine goesL_ (some 13) rfl rfl Tryd.func77 (by kernel_rfl) rfl #[.int .i64 a0, .int .u64 a1] rfl mp_ ?_; (with_reducible refine (r2_Frac.calls k a0 a1 t555 _ A4.out).mono ?_); rintro e w' ⟨rfl, ⟨nd, rfl⟩⟩; refine ⟨_, rfl, ?_⟩; (try (rw [drewN_self w9]; generalize hq_ : World.drewN w9 _ = w9; have n0_ : Aside0 (w9.heap[gb553]? = some (.cells #[.bool false, .int .i64 0, .int .i64 0, .int .u64 0] 70 (0, 0))) := ⟨by rw [← hq_]; exact (bk_ BK553.out)⟩; have n1_ : Aside0 (Below w.heap.size w w9) := ⟨by rw [← hq_]; exact (hb1_ HB.out GE553.out)⟩; clear BK553 HB hq_; have BK553 := n0_; have HB := n1_; clear n0_ n1_))) | ((with_reducible refine gate_callee (f := 78) rfl ?_); refine goesL_ (some 16) rfl rfl Tryd.func78 (by kernel_rfl) rfl #[.int .i64 a0, .int .u64 a1] rfl mp_ ?_; (with_reducible refine (r2_Neg.calls k a0 a1 t556 _ A5.out).mono ?_); rintro e w' ⟨rfl, ⟨nd, rfl⟩⟩; refine ⟨_, rfl, ?_⟩; (try (rw [drewN_self w9]; generalize hq_ : World.drewN w9 _ = w9; have n0_ : Aside0 (w9.heap[gb553]? = some (.cells #[.bool false, .int .i64 0, .int .i64 0, .int .u64 0] 70 (0, 0))) := ⟨by rw [← hq_]; exact (bk_ BK553.out)⟩; have n1_ : Aside0 (Below w.heap.size w w9) := ⟨by rw [← hq_]; exact (hb1_ HB.out GE553.out)⟩; clear BK553 HB hq_; have BK553 := n0_; have HB := n1_; clear n0_ n1_))) | ((with_reducible refine gate_callee (f := 79) rfl ?_); refine goesL_ (some 19) rfl rfl Tryd.func79 (by kernel_rfl) rfl #[.int .i64 a0] rfl mp_ ?_; (with_reducible refine (r2_Top.calls k a0 t557 _ A6.out).mono ?_); rintro e w' ⟨rfl, ⟨nd, rfl⟩⟩; refine ⟨_, rfl, ?_⟩; (try (rw [drewN_self w9]; generalize hq_ : World.drewN w9 _ = w9; have n0_ : Aside0 (w9.heap[gb553]? = some (.cells #[.bool false, .int .i64 0, .int .i64 0, .int .u64 0] 70 (0, 0))) := ⟨by rw [← hq_]; exact (bk_ BK553.out)⟩; have n1_ : Aside0 (Below w.heap.size w w9) := ⟨by rw [← hq_]; exact (hb1_ HB.out GE553.out)⟩; clear BK553 HB hq_; have BK553 := n0_; have HB := n1_; clear n0_ n1_)); have hcz10_0 := bv_ BK553.out 0; have hcz10_1 := bv_ BK553.out 1; have hcz10_2 := bv_ BK553.out 2; have hcz10_3 := bv_ BK553.out 3; have hfz10_0 := blk_frozen BK553.out 0; have hfz10_1 := blk_frozen BK553.out 1; have hfz10_2 := blk_frozen BK553.out 2; have hfz10_3 := blk_frozen BK553.out 3))
   refine bodyPost_ret (results_cell_row rfl _ _ gb553 70 #[.bool t556, .int .i64 2, .int .i64 0, .int .u64 0] (0, 0) _ rfl (by (with_reducible repeat (first | refine blk_drewN ?_ _ | refine blk_drew ?_ | refine blk_alloc ?_ _)); refine blk_put (cs := #[.bool t556, .int .i64 2, .int .i64 0, .int .u64 0]) ?_ 3 _ rfl; (with_reducible repeat (first | refine blk_drewN ?_ _ | refine blk_drew ?_ | refine blk_alloc ?_ _)); refine blk_put (cs := #[.bool t556, .int .i64 2, .int .i64 0, .int .u64 0]) ?_ 2 _ rfl; (with_reducible repeat (first | refine blk_drewN ?_ _ | refine blk_drew ?_ | refine blk_alloc ?_ _)); refine blk_put (cs := #[.bool t556, .int .i64 0, .int .i64 0, .int .u64 0]) ?_ 1 _ rfl; (with_reducible repeat (first | refine blk_drewN ?_ _ | refine blk_drew ?_ | refine blk_alloc ?_ _)); refine blk_put (cs := #[.bool false, .int .i64 0, .int .i64 0, .int .u64 0]) ?_ 0 _ rfl; (with_reducible repeat (first | refine blk_drewN ?_ _ | refine blk_drew ?_ | refine blk_alloc ?_ _)); exact BK553.out) Tryd.underlying70 rfl (by kernel_rfl)) rfl ?_
   exact ⟨er_, hb1_ HB.out GE553.out⟩
  ·rw [if_neg c8] at H
   have c8b0 : (t555 == 0) = false := beq_eq_false_iff_ne.mpr c8
   have c8b1 : (t555 != 0) = true := bne_iff_ne.mpr c8
   simp only [Option.some.injEq, Prod.mk.injEq] at H
   obtain ⟨rfl, rfl, rfl, rfl⟩ := H
   go_enter Tryd.func58, Tryd.ntmps58
   go_wp2_with (first | ((with_reducible refine gate_dst (N := 4) rfl ?_); refine be_ 4 #[.bool false, .int .i64 0, .int .i64 0, .int .u64 0] 70 ?_; intro gb553 hg w11 hbox hb; have BK553 := A_ (hbox); have GW553 := A_ (sz_ hg (hb_ HB.out)); have GE553 := A_ (sz_ hg (hb_ HB.out)); replace HB := A_ (below_step (hb_ HB.out) hb); clear hb hbox hg) | ((with_reducible refine gate_callee (f := 76) rfl ?_); refine goesL_ (some 10) rfl rfl Tryd.func76 (by kernel_rfl) rfl #[.int .i64 a0, .int .u64 a1] rfl mp_ ?_; (with_reducible refine (r2_Exp.calls k a0 a1 t554 _ A3.out).mono ?_); rintro e w' ⟨rfl, ⟨nd, rfl⟩⟩; refine ⟨_, rfl, ?_⟩; (try (rw [drewN_self w11]; generalize hq_ : World.drewN w11 _ = w11; have n0_ : Aside0 (w11.heap[gb553]? = some (.cells #[.bool false, .int .i64 0, .int .i64 0, .int .u64 0] 70 (0, 0))) := ⟨by rw [← hq_]; exact (bk_ BK553.out)⟩; have n1_ : Aside0 (Below w.heap.size w w11) := ⟨by rw [← hq_]; exact (hb1_ HB.out GE553.out)⟩; clear BK553 HB hq_; have BK553 := n0_; have HB := n1_; clear n0_ n1_))) | ((with_reducible refine gate_callee (f := 77) rfl ?_); refine goesL_ (some 13) rfl rfl Tryd.func77 (by kernel_rfl) rfl #[.int .i64 a0, .int .u64 a1] rfl mp_ ?_; (with_reducible refine (r2_Frac.calls k a0 a1 t555 _ A4.out).mono ?_); rintro e w' ⟨rfl, ⟨nd, rfl⟩⟩; refine ⟨_, rfl, ?_⟩; (try (rw [drewN_self w11]; generalize hq_ : World.drewN w11 _ = w11; have n0_ : Aside0 (w11.heap[gb553]? = some (.cells #[.bool false, .int .i64 0, .int .i64 0, .int .u64 0] 70 (0, 0))) := ⟨by rw [← hq_]; exact (bk_ BK553.out)⟩; have n1_ : Aside0 (Below w.heap.size w w11) := ⟨by rw [← hq_]; exact (hb1_ HB.out GE553.out)⟩; clear BK553 HB hq_; have BK553 := n0_; have HB := n1_; clear n0_ n1_))) | ((with_reducible refine gate_callee (f := 78) rfl ?_); refine goesL_ (some 16) rfl rfl Tryd.func78 (by kernel_rfl) rfl #[.int .i64 a0, .int .u64 a1] rfl mp_ ?_; (with_reducible refine (r2_Neg.calls k a0 a1 t556 _ A5.out).mono ?_); rintro e w' ⟨rfl, ⟨nd, rfl⟩⟩; refine ⟨_, rfl, ?_⟩; (try (rw [drewN_self w11]; generalize hq_ : World.drewN w11 _ = w11; have n0_ : Aside0 (w11.heap[gb553]? = some (.cells #[.bool false, .int .i64 0, .int .i64 0, .int .u64 0] 70 (0, 0))) := ⟨by rw [← hq_]; exact (bk_ BK553.out)⟩; have n1_ : Aside0 (Below w.heap.size w w11) := ⟨by rw [← hq_]; exact (hb1_ HB.out GE553.out)⟩; clear BK553 HB hq_; have BK553 := n0_; have HB := n1_; clear n0_ n1_))) | ((with_reducible refine gate_callee (f := 79) rfl ?_); refine goesL_ (some 19) rfl rfl Tryd.func79 (by kernel_rfl) rfl #[.int .i64 a0] rfl mp_ ?_; (with_reducible refine (r2_Top.calls k a0 t557 _ A6.out).mono ?_); rintro e w' ⟨rfl, ⟨nd, rfl⟩⟩; refine ⟨_, rfl, ?_⟩; (try (rw [drewN_self w11]; generalize hq_ : World.drewN w11 _ = w11; have n0_ : Aside0 (w11.heap[gb553]? = some (.cells #[.bool false, .int .i64 0, .int .i64 0, .int .u64 0] 70 (0, 0))) := ⟨by rw [← hq_]; exact (bk_ BK553.out)⟩; have n1_ : Aside0 (Below w.heap.size w w11) := ⟨by rw [← hq_]; exact (hb1_ HB.out GE553.out)⟩; clear BK553 HB hq_; have BK553 := n0_; have HB := n1_; clear n0_ n1_)); have hcz12_0 := bv_ BK553.out 0; have hcz12_1 := bv_ BK553.out 1; have hcz12_2 := bv_ BK553.out 2; have hcz12_3 := bv_ BK553.out 3; have hfz12_0 := blk_frozen BK553.out 0; have hfz12_1 := blk_frozen BK553.out 1; have hfz12_2 := blk_frozen BK553.out 2; have hfz12_3 := blk_frozen BK553.out 3))
   refine bodyPost_ret (results_cell_row rfl _ _ gb553 70 #[.bool false, .int .i64 3, .int .i64 0, .int .u64 0] (0, 0) _ rfl (by (with_reducible repeat (first | refine blk_drewN ?_ _ | refine blk_drew ?_ | refine blk_alloc ?_ _)); refine blk_put (cs := #[.bool false, .int .i64 3, .int .i64 0, .int .u64 0]) ?_ 3 _ rfl; (with_reducible repeat (first | refine blk_drewN ?_ _ | refine blk_drew ?_ | refine blk_alloc ?_ _)); refine blk_put (cs := #[.bool false, .int .i64 3, .int .i64 0, .int .u64 0]) ?_ 2 _ rfl; (with_reducible repeat (first | refine blk_drewN ?_ _ | refine blk_drew ?_ | refine blk_alloc ?_ _)); refine blk_put (cs := #[.bool false, .int .i64 0, .int .i64 0, .int .u64 0]) ?_ 1 _ rfl; (with_reducible repeat (first | refine blk_drewN ?_ _ | refine blk_drew ?_ | refine blk_alloc ?_ _)); refine blk_put (cs := #[.bool false, .int .i64 0, .int .i64 0, .int .u64 0]) ?_ 0 _ rfl; (with_reducible repeat (first | refine blk_drewN ?_ _ | refine blk_drew ?_ | refine blk_alloc ?_ _)); exact BK553.out) Tryd.underlying70 rfl (by kernel_rfl)) rfl ?_
   exact ⟨er_, hb1_ HB.out GE553.out⟩
 ·rw [if_neg c7] at H
  have c7b0 : (t554 == t557) = false := beq_eq_false_iff_ne.mpr c7
  have c7b1 : (t554 != t557) = true := bne_iff_ne.mpr c7
  by_cases c13 : t554 = 0
  ·rw [if_pos c13] at H
   have c13b0 : (t554 == 0) = true := beq_iff_eq.mpr c13
   have c13b1 : (t554 != 0) = false := bne_eq_false_iff_eq.mpr c13
   clear c13
   by_cases c14 : t555 = 0
   ·rw [if_pos c14] at H
    have c14b0 : (t555 == 0) = true := beq_iff_eq.mpr c14
    have c14b1 : (t555 != 0) = false := bne_eq_false_iff_eq.mpr c14
    clear c14
    simp only [Option.some.injEq, Prod.mk.injEq] at H
    obtain ⟨rfl, rfl, rfl, rfl⟩ := H
    go_enter Tryd.func58, Tryd.ntmps58
    go_wp2_with (first | ((with_reducible refine gate_dst (N := 4) rfl ?_); refine be_ 4 #[.bool false, .int .i64 0, .int .i64 0, .int .u64 0] 70 ?_; intro gb553 hg w15 hbox hb; have BK553 := A_ (hbox); have GW553 := A_ (sz_ hg (hb_ HB.out)); have GE553 := A_ (sz_ hg (hb_ HB.out)); replace HB := A_ (below_step (hb_ HB.out) hb); clear hb hbox hg) | ((with_reducible refine gate_callee (f := 76) rfl ?_); refine goesL_ (some 10) rfl rfl Tryd.func76 (by kernel_rfl) rfl #[.int .i64 a0, .int .u64 a1] rfl mp_ ?_; (with_reducible refine (r2_Exp.calls k a0 a1 t554 _ A3.out).mono ?_); rintro e w' ⟨rfl, ⟨nd, rfl⟩⟩; refine ⟨_, rfl, ?_⟩; (try (rw [drewN_self w15]; generalize hq_ : World.drewN w15 _ = w15; have n0_ : Aside0 (w15.heap[gb553]? = some (.cells #[.bool false, .int .i64 0, .int .i64 0, .int .u64 0] 70 (0, 0))) := ⟨by rw [← hq_]; exact (bk_ BK553.out)⟩; have n1_ : Aside0 (Below w.heap.size w w15) := ⟨by rw [← hq_]; exact (hb1_ HB.out GE553.out)⟩; clear BK553 HB hq_; have BK553 := n0_; have HB := n1_; clear n0_ n1_))) | ((with_reducible refine gate_callee (f := 77) rfl ?_); refine goesL_ (some 13) rfl rfl Tryd.func77 (by kernel_rfl) rfl #[.int .i64 a0, .int .u64 a1] rfl mp_ ?_; (with_reducible refine (r2_Frac.calls k a0 a1 t555 _ A4.out).mono ?_); rintro e w' ⟨rfl, ⟨nd, rfl⟩⟩; refine ⟨_, rfl, ?_⟩; (try (rw [drewN_self w15]; generalize hq_ : World.drewN w15 _ = w15; have n0_ : Aside0 (w15.heap[gb553]? = some (.cells #[.bool false, .int .i64 0, .int .i64 0, .int .u64 0] 70 (0, 0))) := ⟨by rw [← hq_]; exact (bk_ BK553.out)⟩; have n1_ : Aside0 (Below w.heap.size w w15) := ⟨by rw [← hq_]; exact (hb1_ HB.out GE553.out)⟩; clear BK553 HB hq_; have BK553 := n0_; have HB := n1_; clear n0_ n1_))) | ((with_reducible refine gate_callee (f := 78) rfl ?_); refine goesL_ (some 16) rfl rfl Tryd.func78 (by kernel_rfl) rfl #[.int .i64 a0, .int .u64 a1] rfl mp_ ?_; (with_reducible refine (r2_Neg.calls k a0 a1 t556 _ A5.out).mono ?_); rintro e w' ⟨rfl, ⟨nd, rfl⟩⟩; refine ⟨_, rfl, ?_⟩; (try (rw [drewN_self w15]; generalize hq_ : World.drewN w15 _ = w15; have n0_ : Aside0 (w15.heap[gb553]? = some (.cells #[.bool false, .int .i64 0, .int .i64 0, .int .u64 0] 70 (0, 0))) := ⟨by rw [← hq_]; exact (bk_ BK553.out)⟩; have n1_ : Aside0 (Below w.heap.size w w15) := ⟨by rw [← hq_]; exact (hb1_ HB.out GE553.out)⟩; clear BK553 HB hq_; have BK553 := n0_; have HB := n1_; clear n0_ n1_))) | ((with_reducible refine gate_callee (f := 79) rfl ?_); refine goesL_ (some 19) rfl rfl Tryd.func79 (by kernel_rfl) rfl #[.int .i64 a0] rfl mp_ ?_; (with_reducible refine (r2_Top.calls k a0 t557 _ A6.out).mono ?_); rintro e w' ⟨rfl, ⟨nd, rfl⟩⟩; refine ⟨_, rfl, ?_⟩; (try (rw [drewN_self w15]; generalize hq_ : World.drewN w15 _ = w15; have n0_ : Aside0 (w15.heap[gb553]? = some (.cells #[.bool false, .int .i64 0, .int .i64 0, .int .u64 0] 70 (0, 0))) := ⟨by rw [← hq_]; exact (bk_ BK553.out)⟩; have n1_ : Aside0 (Below w.heap.size w w15) := ⟨by rw [← hq_]; exact (hb1_ HB.out GE553.out)⟩; clear BK553 HB hq_; have BK553 := n0_; have HB := n1_; clear n0_ n1_)); have hcz16_0 := bv_ BK553.out 0; have hcz16_1 := bv_ BK553.out 1; have hcz16_2 := bv_ BK553.out 2; have hcz16_3 := bv_ BK553.out 3; have hfz16_0 := blk_frozen BK553.out 0; have hfz16_1 := blk_frozen BK553.out 1; have hfz16_2 := blk_frozen BK553.out 2; have hfz16_3 := blk_frozen BK553.out 3))
    refine bodyPost_ret (results_cell_row rfl _ _ gb553 70 #[.bool t556, .int .i64 0, .int .i64 0, .int .u64 0] (0, 0) _ rfl (by (with_reducible repeat (first | refine blk_drewN ?_ _ | refine blk_drew ?_ | refine blk_alloc ?_ _)); refine blk_put (cs := #[.bool t556, .int .i64 0, .int .i64 0, .int .u64 0]) ?_ 3 _ rfl; (with_reducible repeat (first | refine blk_drewN ?_ _ | refine blk_drew ?_ | refine blk_alloc ?_ _)); refine blk_put (cs := #[.bool t556, .int .i64 0, .int .i64 0, .int .u64 0]) ?_ 2 _ rfl; (with_reducible repeat (first | refine blk_drewN ?_ _ | refine blk_drew ?_ | refine blk_alloc ?_ _)); refine blk_put (cs := #[.bool t556, .int .i64 0, .int .i64 0, .int .u64 0]) ?_ 1 _ rfl; (with_reducible repeat (first | refine blk_drewN ?_ _ | refine blk_drew ?_ | refine blk_alloc ?_ _)); refine blk_put (cs := #[.bool false, .int .i64 0, .int .i64 0, .int .u64 0]) ?_ 0 _ rfl; (with_reducible repeat (first | refine blk_drewN ?_ _ | refine blk_drew ?_ | refine blk_alloc ?_ _)); exact BK553.out) Tryd.underlying70 rfl (by kernel_rfl)) rfl ?_
    exact ⟨er_, hb1_ HB.out GE553.out⟩
   ·rw [if_neg c14] at H
    have c14b0 : (t555 == 0) = false := beq_eq_false_iff_ne.mpr c14
    have c14b1 : (t555 != 0) = true := bne_iff_ne.mpr c14
    replace H := ob_ H
    obtain ⟨t558, A170, H⟩ := H
    replace H : ((r2_F.f a0).bind fun t559 => (some (t556, 1, wrap64 ((wrap64 (1 - t558)) - t559), t555))) = some (r1, r2, r3, r4) := H
    have A17 := A_ A170;clear A170
    replace H := ob_ H
    obtain ⟨t559, A180, H⟩ := H
    replace H : (some (t556, 1, wrap64 ((wrap64 (1 - t558)) - t559), t555)) = some (r1, r2, r3, r4) := H
    have A18 := A_ A180;clear A180
    simp only [Option.some.injEq, Prod.mk.injEq] at H
    obtain ⟨rfl, rfl, rfl, rfl⟩ := H
    go_enter Tryd.func58, Tryd.ntmps58
    go_wp2_with (first | ((with_reducible refine gate_dst (N := 4) rfl ?_); refine be_ 4 #[.bool false, .int .i64 0, .int .i64 0, .int .u64 0] 70 ?_; intro gb553 hg w19 hbox hb; have BK553 := A_ (hbox); have GW553 := A_ (sz_ hg (hb_ HB.out)); have GE553 := A_ (sz_ hg (hb_ HB.out)); replace HB := A_ (below_step (hb_ HB.out) hb); clear hb hbox hg) | ((with_reducible refine gate_callee (f := 76) rfl ?_); refine goesL_ (some 10) rfl rfl Tryd.func76 (by kernel_rfl) rfl #[.int .i64 a0, .int .u64 a1] rfl mp_ ?_; (with_reducible refine (r2_Exp.calls k a0 a1 t554 _ A3.out).mono ?_); rintro e w' ⟨rfl, ⟨nd, rfl⟩⟩; refine ⟨_, rfl, ?_⟩; (try (rw [drewN_self w19]; generalize hq_ : World.drewN w19 _ = w19; have n0_ : Aside0 (w19.heap[gb553]? = some (.cells #[.bool false, .int .i64 0, .int .i64 0, .int .u64 0] 70 (0, 0))) := ⟨by rw [← hq_]; exact (bk_ BK553.out)⟩; have n1_ : Aside0 (Below w.heap.size w w19) := ⟨by rw [← hq_]; exact (hb1_ HB.out GE553.out)⟩; clear BK553 HB hq_; have BK553 := n0_; have HB := n1_; clear n0_ n1_))) | ((with_reducible refine gate_callee (f := 77) rfl ?_); refine goesL_ (some 13) rfl rfl Tryd.func77 (by kernel_rfl) rfl #[.int .i64 a0, .int .u64 a1] rfl mp_ ?_; (with_reducible refine (r2_Frac.calls k a0 a1 t555 _ A4.out).mono ?_); rintro e w' ⟨rfl, ⟨nd, rfl⟩⟩; refine ⟨_, rfl, ?_⟩; (try (rw [drewN_self w19]; generalize hq_ : World.drewN w19 _ = w19; have n0_ : Aside0 (w19.heap[gb553]? = some (.cells #[.bool false, .int .i64 0, .int .i64 0, .int .u64 0] 70 (0, 0))) := ⟨by rw [← hq_]; exact (bk_ BK553.out)⟩; have n1_ : Aside0 (Below w.heap.size w w19) := ⟨by rw [← hq_]; exact (hb1_ HB.out GE553.out)⟩; clear BK553 HB hq_; have BK553 := n0_; have HB := n1_; clear n0_ n1_))) | ((with_reducible refine gate_callee (f := 78) rfl ?_); refine goesL_ (some 16) rfl rfl Tryd.func78 (by kernel_rfl) rfl #[.int .i64 a0, .int .u64 a1] rfl mp_ ?_; (with_reducible refine (r2_Neg.calls k a0 a1 t556 _ A5.out).mono ?_); rintro e w' ⟨rfl, ⟨nd, rfl⟩⟩; refine ⟨_, rfl, ?_⟩; (try (rw [drewN_self w19]; generalize hq_ : World.drewN w19 _ = w19; have n0_ : Aside0 (w19.heap[gb553]? = some (.cells #[.bool false, .int .i64 0, .int .i64 0, .int .u64 0] 70 (0, 0))) := ⟨by rw [← hq_]; exact (bk_ BK553.out)⟩; have n1_ : Aside0 (Below w.heap.size w w19) := ⟨by rw [← hq_]; exact (hb1_ HB.out GE553.out)⟩; clear BK553 HB hq_; have BK553 := n0_; have HB := n1_; clear n0_ n1_))) | ((with_reducible refine gate_callee (f := 79) rfl ?_); refine goesL_ (some 19) rfl rfl Tryd.func79 (by kernel_rfl) rfl #[.int .i64 a0] rfl mp_ ?_; (with_reducible refine (r2_Top.calls k a0 t557 _ A6.out).mono ?_); rintro e w' ⟨rfl, ⟨nd, rfl⟩⟩; refine ⟨_, rfl, ?_⟩; (try (rw [drewN_self w19]; generalize hq_ : World.drewN w19 _ = w19; have n0_ : Aside0 (w19.heap[gb553]? = some (.cells #[.bool false, .int .i64 0, .int .i64 0, .int .u64 0] 70 (0, 0))) := ⟨by rw [← hq_]; exact (bk_ BK553.out)⟩; have n1_ : Aside0 (Below w.heap.size w w19) := ⟨by rw [← hq_]; exact (hb1_ HB.out GE553.out)⟩; clear BK553 HB hq_; have BK553 := n0_; have HB := n1_; clear n0_ n1_))) | ((with_reducible refine gate_callee (f := 80) rfl ?_); refine goesL_ (some 34) rfl rfl Tryd.func80 (by kernel_rfl) rfl #[.int .i64 a0] rfl mp_ ?_; (with_reducible refine (r2_B.calls a0 t558 _ A17.out).mono ?_); rintro e w' ⟨rfl, ⟨nd, rfl⟩⟩; refine ⟨_, rfl, ?_⟩; (try (rw [drewN_self w19]; generalize hq_ : World.drewN w19 _ = w19; have n0_ : Aside0 (w19.heap[gb553]? = some (.cells #[.bool false, .int .i64 0, .int .i64 0, .int .u64 0] 70 (0, 0))) := ⟨by rw [← hq_]; exact (bk_ BK553.out)⟩; have n1_ : Aside0 (Below w.heap.size w w19) := ⟨by rw [← hq_]; exact (hb1_ HB.out GE553.out)⟩; clear BK553 HB hq_; have BK553 := n0_; have HB := n1_; clear n0_ n1_))) | ((with_reducible refine gate_callee (f := 81) rfl ?_); refine goesL_ (some 37) rfl rfl Tryd.func81 (by kernel_rfl) rfl #[.int .i64 a0] rfl mp_ ?_; (with_reducible refine (r2_F.calls a0 t559 _ A18.out).mono ?_); rintro e w' ⟨rfl, ⟨nd, rfl⟩⟩; refine ⟨_, rfl, ?_⟩; (try (rw [drewN_self w19]; generalize hq_ : World.drewN w19 _ = w19; have n0_ : Aside0 (w19.heap[gb553]? = some (.cells #[.bool false, .int .i64 0, .int .i64 0, .int .u64 0] 70 (0, 0))) := ⟨by rw [← hq_]; exact (bk_ BK553.out)⟩; have n1_ : Aside0 (Below w.heap.size w w19) := ⟨by rw [← hq_]; exact (hb1_ HB.out GE553.out)⟩; clear BK553 HB hq_; have BK553 := n0_; have HB := n1_; clear n0_ n1_)); have hcz20_0 := bv_ BK553.out 0; have hcz20_1 := bv_ BK553.out 1; have hcz20_2 := bv_ BK553.out 2; have hcz20_3 := bv_ BK553.out 3; have hfz20_0 := blk_frozen BK553.out 0; have hfz20_1 := blk_frozen BK553.out 1; have hfz20_2 := blk_frozen BK553.out 2; have hfz20_3 := blk_frozen BK553.out 3))
    refine bodyPost_ret (results_cell_row rfl _ _ gb553 70 #[.bool t556, .int .i64 1, .int .i64 (wrap64 ((wrap64 (1 - t558)) - t559)), .int .u64 t555] (0, 0) _ rfl (by (with_reducible repeat (first | refine blk_drewN ?_ _ | refine blk_drew ?_ | refine blk_alloc ?_ _)); refine blk_put (cs := #[.bool t556, .int .i64 1, .int .i64 (wrap64 ((wrap64 (1 - t558)) - t559)), .int .u64 0]) ?_ 3 _ rfl; (with_reducible repeat (first | refine blk_drewN ?_ _ | refine blk_drew ?_ | refine blk_alloc ?_ _)); refine blk_put (cs := #[.bool t556, .int .i64 1, .int .i64 0, .int .u64 0]) ?_ 2 _ rfl; (with_reducible repeat (first | refine blk_drewN ?_ _ | refine blk_drew ?_ | refine blk_alloc ?_ _)); refine blk_put (cs := #[.bool t556, .int .i64 0, .int .i64 0, .int .u64 0]) ?_ 1 _ rfl; (with_reducible repeat (first | refine blk_drewN ?_ _ | refine blk_drew ?_ | refine blk_alloc ?_ _)); refine blk_put (cs := #[.bool false, .int .i64 0, .int .i64 0, .int .u64 0]) ?_ 0 _ rfl; (with_reducible repeat (first | refine blk_drewN ?_ _ | refine blk_drew ?_ | refine blk_alloc ?_ _)); exact BK553.out) Tryd.underlying70 rfl (by kernel_rfl)) rfl ?_
    exact ⟨er_, hb1_ HB.out GE553.out⟩
  ·rw [if_neg c13] at H
   have c13b0 : (t554 == 0) = false := beq_eq_false_iff_ne.mpr c13
   have c13b1 : (t554 != 0) = true := bne_iff_ne.mpr c13
   replace H := ob_ H
   obtain ⟨t560, A210, H⟩ := H
   replace H : ((r2_F.f a0).bind fun t561 => ((r2_F.f a0).bind fun t562 => ((r2_Two.f k t562).bind fun t563 => (some (t556, 1, wrap64 ((wrap64 (t554 - t560)) - t561), IntKind.u64.wrap (t563 + t555)))))) = some (r1, r2, r3, r4) := H
   have A21 := A_ A210;clear A210
   replace H := ob_ H
   obtain ⟨t561, A220, H⟩ := H
   replace H : ((r2_F.f a0).bind fun t562 => ((r2_Two.f k t562).bind fun t563 => (some (t556, 1, wrap64 ((wrap64 (t554 - t560)) - t561), IntKind.u64.wrap (t563 + t555))))) = some (r1, r2, r3, r4) := H
   have A22 := A_ A220;clear A220
   replace H := ob_ H
   obtain ⟨t562, A230, H⟩ := H
   replace H : ((r2_Two.f k t562).bind fun t563 => (some (t556, 1, wrap64 ((wrap64 (t554 - t560)) - t561), IntKind.u64.wrap (t563 + t555)))) = some (r1, r2, r3, r4) := H
   have A23 := A_ A230;clear A230
   replace H := ob_ H
   obtain ⟨t563, A240, H⟩ := H
   replace H : (some (t556, 1, wrap64 ((wrap64 (t554 - t560)) - t561), IntKind.u64.wrap (t563 + t555))) = some (r1, r2, r3, r4) := H
   have A24 := A_ A240;clear A240
   simp only [Option.some.injEq, Prod.mk.injEq] at H
   obtain ⟨rfl, rfl, rfl, rfl⟩ := H
   go_enter Tryd.func58, Tryd.ntmps58
   go_wp2_with (first | ((with_reducible refine gate_dst (N := 4) rfl ?_); refine be_ 4 #[.bool false, .int .i64 0, .int .i64 0, .int .u64 0] 70 ?_; intro gb553 hg w25 hbox hb; have BK553 := A_ (hbox); have GW553 := A_ (sz_ hg (hb_ HB.out)); have GE553 := A_ (sz_ hg (hb_ HB.out)); replace HB := A_ (below_step (hb_ HB.out) hb); clear hb hbox hg) | ((with_reducible refine gate_callee (f := 76) rfl ?_); refine goesL_ (some 10) rfl rfl Tryd.func76 (by kernel_rfl) rfl #[.int .i64 a0, .int .u64 a1] rfl mp_ ?_; (with_reducible refine (r2_Exp.calls k a0 a1 t554 _ A3.out).mono ?_); rintro e w' ⟨rfl, ⟨nd, rfl⟩⟩; refine ⟨_, rfl, ?_⟩; (try (rw [drewN_self w25]; generalize hq_ : World.drewN w25 _ = w25; have n0_ : Aside0 (w25.heap[gb553]? = some (.cells #[.bool false, .int .i64 0, .int .i64 0, .int .u64 0] 70 (0, 0))) := ⟨by rw [← hq_]; exact (bk_ BK553.out)⟩; have n1_ : Aside0 (Below w.heap.size w w25) := ⟨by rw [← hq_]; exact (hb1_ HB.out GE553.out)⟩; clear BK553 HB hq_; have BK553 := n0_; have HB := n1_; clear n0_ n1_))) | ((with_reducible refine gate_callee (f := 77) rfl ?_); refine goesL_ (some 13) rfl rfl Tryd.func77 (by kernel_rfl) rfl #[.int .i64 a0, .int .u64 a1] rfl mp_ ?_; (with_reducible refine (r2_Frac.calls k a0 a1 t555 _ A4.out).mono ?_); rintro e w' ⟨rfl, ⟨nd, rfl⟩⟩; refine ⟨_, rfl, ?_⟩; (try (rw [drewN_self w25]; generalize hq_ : World.drewN w25 _ = w25; have n0_ : Aside0 (w25.heap[gb553]? = some (.cells #[.bool false, .int .i64 0, .int .i64 0, .int .u64 0] 70 (0, 0))) := ⟨by rw [← hq_]; exact (bk_ BK553.out)⟩; have n1_ : Aside0 (Below w.heap.size w w25) := ⟨by rw [← hq_]; exact (hb1_ HB.out GE553.out)⟩; clear BK553 HB hq_; have BK553 := n0_; have HB := n1_; clear n0_ n1_))) | ((with_reducible refine gate_callee (f := 78) rfl ?_); refine goesL_ (some 16) rfl rfl Tryd.func78 (by kernel_rfl) rfl #[.int .i64 a0, .int .u64 a1] rfl mp_ ?_; (with_reducible refine (r2_Neg.calls k a0 a1 t556 _ A5.out).mono ?_); rintro e w' ⟨rfl, ⟨nd, rfl⟩⟩; refine ⟨_, rfl, ?_⟩; (try (rw [drewN_self w25]; generalize hq_ : World.drewN w25 _ = w25; have n0_ : Aside0 (w25.heap[gb553]? = some (.cells #[.bool false, .int .i64 0, .int .i64 0, .int .u64 0] 70 (0, 0))) := ⟨by rw [← hq_]; exact (bk_ BK553.out)⟩; have n1_ : Aside0 (Below w.heap.size w w25) := ⟨by rw [← hq_]; exact (hb1_ HB.out GE553.out)⟩; clear BK553 HB hq_; have BK553 := n0_; have HB := n1_; clear n0_ n1_))) | ((with_reducible refine gate_callee (f := 79) rfl ?_); refine goesL_ (some 19) rfl rfl Tryd.func79 (by kernel_rfl) rfl #[.int .i64 a0] rfl mp_ ?_; (with_reducible refine (r2_Top.calls k a0 t557 _ A6.out).mono ?_); rintro e w' ⟨rfl, ⟨nd, rfl⟩⟩; refine ⟨_, rfl, ?_⟩; (try (rw [drewN_self w25]; generalize hq_ : World.drewN w25 _ = w25; have n0_ : Aside0 (w25.heap[gb553]? = some (.cells #[.bool false, .int .i64 0, .int .i64 0, .int .u64 0] 70 (0, 0))) := ⟨by rw [← hq_]; exact (bk_ BK553.out)⟩; have n1_ : Aside0 (Below w.heap.size w w25) := ⟨by rw [← hq_]; exact (hb1_ HB.out GE553.out)⟩; clear BK553 HB hq_; have BK553 := n0_; have HB := n1_; clear n0_ n1_))) | ((with_reducible refine gate_callee (f := 80) rfl ?_); refine goesL_ (some 44) rfl rfl Tryd.func80 (by kernel_rfl) rfl #[.int .i64 a0] rfl mp_ ?_; (with_reducible refine (r2_B.calls a0 t560 _ A21.out).mono ?_); rintro e w' ⟨rfl, ⟨nd, rfl⟩⟩; refine ⟨_, rfl, ?_⟩; (try (rw [drewN_self w25]; generalize hq_ : World.drewN w25 _ = w25; have n0_ : Aside0 (w25.heap[gb553]? = some (.cells #[.bool false, .int .i64 0, .int .i64 0, .int .u64 0] 70 (0, 0))) := ⟨by rw [← hq_]; exact (bk_ BK553.out)⟩; have n1_ : Aside0 (Below w.heap.size w w25) := ⟨by rw [← hq_]; exact (hb1_ HB.out GE553.out)⟩; clear BK553 HB hq_; have BK553 := n0_; have HB := n1_; clear n0_ n1_))) | ((with_reducible refine gate_callee (f := 81) rfl ?_); refine goesL_ (some 47) rfl rfl Tryd.func81 (by kernel_rfl) rfl #[.int .i64 a0] rfl mp_ ?_; (with_reducible refine (r2_F.calls a0 t561 _ A22.out).mono ?_); rintro e w' ⟨rfl, ⟨nd, rfl⟩⟩; refine ⟨_, rfl, ?_⟩; (try (rw [drewN_self w25]; generalize hq_ : World.drewN w25 _ = w25; have n0_ : Aside0 (w25.heap[gb553]? = some (.cells #[.bool false, .int .i64 0, .int .i64 0, .int .u64 0] 70 (0, 0))) := ⟨by rw [← hq_]; exact (bk_ BK553.out)⟩; have n1_ : Aside0 (Below w.heap.size w w25) := ⟨by rw [← hq_]; exact (hb1_ HB.out GE553.out)⟩; clear BK553 HB hq_; have BK553 := n0_; have HB := n1_; clear n0_ n1_))) | ((with_reducible refine gate_callee (f := 81) rfl ?_); refine goesL_ (some 50) rfl rfl Tryd.func81 (by kernel_rfl) rfl #[.int .i64 a0] rfl mp_ ?_; (with_reducible refine (r2_F.calls a0 t562 _ A23.out).mono ?_); rintro e w' ⟨rfl, ⟨nd, rfl⟩⟩; refine ⟨_, rfl, ?_⟩; (try (rw [drewN_self w25]; generalize hq_ : World.drewN w25 _ = w25; have n0_ : Aside0 (w25.heap[gb553]? = some (.cells #[.bool false, .int .i64 0, .int .i64 0, .int .u64 0] 70 (0, 0))) := ⟨by rw [← hq_]; exact (bk_ BK553.out)⟩; have n1_ : Aside0 (Below w.heap.size w w25) := ⟨by rw [← hq_]; exact (hb1_ HB.out GE553.out)⟩; clear BK553 HB hq_; have BK553 := n0_; have HB := n1_; clear n0_ n1_))) | ((with_reducible refine gate_callee (f := 69) rfl ?_); refine goesL_ (some 51) rfl rfl Tryd.func69 (by kernel_rfl) rfl #[.int .i64 t562] rfl mp_ ?_; (with_reducible refine (r2_Two.calls k t562 t563 _ A24.out).mono ?_); rintro e w' ⟨rfl, ⟨nd, rfl⟩⟩; refine ⟨_, rfl, ?_⟩; (try (rw [drewN_self w25]; generalize hq_ : World.drewN w25 _ = w25; have n0_ : Aside0 (w25.heap[gb553]? = some (.cells #[.bool false, .int .i64 0, .int .i64 0, .int .u64 0] 70 (0, 0))) := ⟨by rw [← hq_]; exact (bk_ BK553.out)⟩; have n1_ : Aside0 (Below w.heap.size w w25) := ⟨by rw [← hq_]; exact (hb1_ HB.out GE553.out)⟩; clear BK553 HB hq_; have BK553 := n0_; have HB := n1_; clear n0_ n1_)); have hcz26_0 := bv_ BK553.out 0; have hcz26_1 := bv_ BK553.out 1; have hcz26_2 := bv_ BK553.out 2; have hcz26_3 := bv_ BK553.out 3; have hfz26_0 := blk_frozen BK553.out 0; have hfz26_1 := blk_frozen BK553.out 1; have hfz26_2 := blk_frozen BK553.out 2; have hfz26_3 := blk_frozen BK553.out 3))
   refine bodyPost_ret (results_cell_row rfl _ _ gb553 70 #[.bool t556, .int .i64 1, .int .i64 (wrap64 ((wrap64 (t554 - t560)) - t561)), .int .u64 (IntKind.u64.wrap (t563 + t555))] (0, 0) _ rfl (by (with_reducible repeat (first | refine blk_drewN ?_ _ | refine blk_drew ?_ | refine blk_alloc ?_ _)); refine blk_put (cs := #[.bool t556, .int .i64 1, .int .i64 (wrap64 ((wrap64 (t554 - t560)) - t561)), .int .u64 0]) ?_ 3 _ rfl; (with_reducible repeat (first | refine blk_drewN ?_ _ | refine blk_drew ?_ | refine blk_alloc ?_ _)); refine blk_put (cs := #[.bool t556, .int .i64 1, .int .i64 0, .int .u64 0]) ?_ 2 _ rfl; (with_reducible repeat (first | refine blk_drewN ?_ _ | refine blk_drew ?_ | refine blk_alloc ?_ _)); refine blk_put (cs := #[.bool t556, .int .i64 0, .int .i64 0, .int .u64 0]) ?_ 1 _ rfl; (with_reducible repeat (first | refine blk_drewN ?_ _ | refine blk_drew ?_ | refine blk_alloc ?_ _)); refine blk_put (cs := #[.bool false, .int .i64 0, .int .i64 0, .int .u64 0]) ?_ 0 _ rfl; (with_reducible repeat (first | refine blk_drewN ?_ _ | refine blk_drew ?_ | refine blk_alloc ?_ _)); exact BK553.out) Tryd.underlying70 rfl (by kernel_rfl)) rfl ?_
   exact ⟨er_, hb1_ HB.out GE553.out⟩
def r2_Make.f (k : Nat) (a0 : Int) (a1 : Bool) (a2 : Int) (a3 : Int) : Option (Int) := (r2_F.f a0).bind fun t356 => ((r2_Two.f k t356).bind fun t357 => (if a1 = true then ((r2_Two.f k (wrap64 (a0 - 1))).bind fun t358 => (some (IntKind.u64.wrap ((IntKind.u64.wrap ((IntKind.u64.wrap ((IntKind.u64.wrap (a2)) * t357)) + a3)) + t358)))) else (some (IntKind.u64.wrap ((IntKind.u64.wrap ((IntKind.u64.wrap (a2)) * t357)) + a3)))))
theorem r2_Make.mono : ∀ a0 a1 a2 a3 k, LeO (r2_Make.f k a0 a1 a2 a3) (r2_Make.f (k + 1) a0 a1 a2 a3) := by
 intro a0 a1 a2 a3 k
 unfold r2_Make.f
 repeat' first
   | (with_reducible exact r2_Two.mono _ _)
   | (with_reducible exact LeO.refl _)
   | (with_reducible exact LeO.none _)
   | (with_reducible refine LeO.ite ?_ ?_)
   | (with_reducible refine LeO.bind ?_ (fun _ => ?_))
   | exact r2_Two.mono _ _
   | exact LeO.none _
   | refine LeO.ite ?_ ?_
   | refine LeO.bind ?_ (fun _ => ?_)
theorem r2_Make.calls (k : Nat) (a0 : Int) (a1 : Bool) (a2 : Int) (a3 : Int) (r : Int) (w : World) (h : r2_Make.f k a0 a1 a2 a3 = some r) :
  Calls Tryd.prog 72 #[.int .i64 a0, .bool a1, .int .i64 a2, .int .u64 a3] w fun e w' => e = .returned (.int .u64 r) ∧ Drawn0 w w' := by
 have H : ((r2_F.f a0).bind fun t356 => ((r2_Two.f k t356).bind fun t357 => (if a1 = true then ((r2_Two.f k (wrap64 (a0 - 1))).bind fun t358 => (some (IntKind.u64.wrap ((IntKind.u64.wrap ((IntKind.u64.wrap ((IntKind.u64.wrap (a2)) * t357)) + a3)) + t358)))) else (some (IntKind.u64.wrap ((IntKind.u64.wrap ((IntKind.u64.wrap (a2)) * t357)) + a3)))))) = some r := h
 clear h
 replace H := ob_ H
 obtain ⟨t356, A50, H⟩ := H
 replace H : ((r2_Two.f k t356).bind fun t357 => (if a1 = true then ((r2_Two.f k (wrap64 (a0 - 1))).bind fun t358 => (some (IntKind.u64.wrap ((IntKind.u64.wrap ((IntKind.u64.wrap ((IntKind.u64.wrap (a2)) * t357)) + a3)) + t358)))) else (some (IntKind.u64.wrap ((IntKind.u64.wrap ((IntKind.u64.wrap (a2)) * t357)) + a3))))) = some r := H
 have A5 := A_ A50;clear A50
 replace H := ob_ H
 obtain ⟨t357, A60, H⟩ := H
 replace H : (if a1 = true then ((r2_Two.f k (wrap64 (a0 - 1))).bind fun t358 => (some (IntKind.u64.wrap ((IntKind.u64.wrap ((IntKind.u64.wrap ((IntKind.u64.wrap (a2)) * t357)) + a3)) + t358)))) else (some (IntKind.u64.wrap ((IntKind.u64.wrap ((IntKind.u64.wrap (a2)) * t357)) + a3)))) = some r := H
 have A6 := A_ A60;clear A60
 by_cases c7 : a1 = true
 ·subst c7
  have H1 : ((r2_Two.f k (wrap64 (a0 - 1))).bind fun t358 => (some (IntKind.u64.wrap ((IntKind.u64.wrap ((IntKind.u64.wrap ((IntKind.u64.wrap (a2)) * t357)) + a3)) + t358)))) = some r := by rw [if_pos rfl] at H; exact H
  clear H;have H := H1;clear H1
  replace H := ob_ H
  obtain ⟨t358, A80, H⟩ := H
  replace H : (some (IntKind.u64.wrap ((IntKind.u64.wrap ((IntKind.u64.wrap ((IntKind.u64.wrap (a2)) * t357)) + a3)) + t358))) = some r := H
  have A8 := A_ A80;clear A80
  obtain rfl := Option.some.inj H
  go_enter Tryd.func72, Tryd.ntmps72
  go_wp2_with (first | ((with_reducible refine gate_callee (f := 81) rfl ?_); refine goesL_ (some 13) rfl rfl Tryd.func81 (by kernel_rfl) rfl #[.int .i64 a0] rfl mp_ ?_; (with_reducible refine (r2_F.calls a0 t356 _ A5.out).mono ?_); rintro e w' ⟨rfl, ⟨nd, rfl⟩⟩; refine ⟨_, rfl, ?_⟩) | ((with_reducible refine gate_callee (f := 69) rfl ?_); refine goesL_ (some 14) rfl rfl Tryd.func69 (by kernel_rfl) rfl #[.int .i64 t356] rfl mp_ ?_; (with_reducible refine (r2_Two.calls k t356 t357 _ A6.out).mono ?_); rintro e w' ⟨rfl, ⟨nd, rfl⟩⟩; refine ⟨_, rfl, ?_⟩) | ((with_reducible refine gate_callee (f := 69) rfl ?_); refine goesL_ (some 22) rfl rfl Tryd.func69 (by kernel_rfl) rfl #[.int .i64 (wrap64 (a0 - 1))] rfl mp_ ?_; (with_reducible refine (r2_Two.calls k (wrap64 (a0 - 1)) t358 _ A8.out).mono ?_); rintro e w' ⟨rfl, ⟨nd, rfl⟩⟩; refine ⟨_, rfl, ?_⟩))
  go_ret
  exact ⟨sm_, by repeat (first | exact Drawn0.refl _ | apply Drawn0.step)⟩
 ·replace c7 := Bool.eq_false_iff.mpr c7
  subst c7
  have H1 : (some (IntKind.u64.wrap ((IntKind.u64.wrap ((IntKind.u64.wrap (a2)) * t357)) + a3))) = some r := by rw [if_neg (show ¬ (false = true) by decide)] at H; exact H
  clear H;have H := H1;clear H1
  obtain rfl := Option.some.inj H
  go_enter Tryd.func72, Tryd.ntmps72
  go_wp2_with (first | ((with_reducible refine gate_callee (f := 81) rfl ?_); refine goesL_ (some 13) rfl rfl Tryd.func81 (by kernel_rfl) rfl #[.int .i64 a0] rfl mp_ ?_; (with_reducible refine (r2_F.calls a0 t356 _ A5.out).mono ?_); rintro e w' ⟨rfl, ⟨nd, rfl⟩⟩; refine ⟨_, rfl, ?_⟩) | ((with_reducible refine gate_callee (f := 69) rfl ?_); refine goesL_ (some 14) rfl rfl Tryd.func69 (by kernel_rfl) rfl #[.int .i64 t356] rfl mp_ ?_; (with_reducible refine (r2_Two.calls k t356 t357 _ A6.out).mono ?_); rintro e w' ⟨rfl, ⟨nd, rfl⟩⟩; refine ⟨_, rfl, ?_⟩))
  go_ret
  exact ⟨sm_, by repeat (first | exact Drawn0.refl _ | apply Drawn0.step)⟩
def r2_Inf.f (k : Nat) (a0 : Int) (a1 : Bool) : Option (Int) := (r2_Top.f k a0).bind fun t361 => ((r2_Make.f k a0 a1 t361 0).bind fun t362 => (some t362))
theorem r2_Inf.mono : ∀ a0 a1 k, LeO (r2_Inf.f k a0 a1) (r2_Inf.f (k + 1) a0 a1) := by
 intro a0 a1 k
 unfold r2_Inf.f
 repeat' first
   | (with_reducible exact r2_Make.mono _ _ _ _ _)
   | (with_reducible exact r2_Top.mono _ _)
   | (with_reducible exact LeO.refl _)
   | (with_reducible exact LeO.none _)
   | (with_reducible refine LeO.ite ?_ ?_)
   | (with_reducible refine LeO.bind ?_ (fun _ => ?_))
   | exact r2_Make.mono _ _ _ _ _
   | exact r2_Top.mono _ _
   | exact LeO.none _
   | refine LeO.ite ?_ ?_
   | refine LeO.bind ?_ (fun _ => ?_)
theorem r2_Inf.calls (k : Nat) (a0 : Int) (a1 : Bool) (r : Int) (w : World) (h : r2_Inf.f k a0 a1 = some r) :
  Calls Tryd.prog 73 #[.int .i64 a0, .bool a1] w fun e w' => e = .returned (.int .u64 r) ∧ Drawn0 w w' := by
 have H : ((r2_Top.f k a0).bind fun t361 => ((r2_Make.f k a0 a1 t361 0).bind fun t362 => (some t362))) = some r := h
 clear h
 replace H := ob_ H
 obtain ⟨t361, A30, H⟩ := H
 replace H : ((r2_Make.f k a0 a1 t361 0).bind fun t362 => (some t362)) = some r := H
 have A3 := A_ A30;clear A30
 replace H := ob_ H
 obtain ⟨t362, A40, H⟩ := H
 replace H : (some t362) = some r := H
 have A4 := A_ A40;clear A40
 obtain rfl := Option.some.inj H
 go_enter Tryd.func73, Tryd.ntmps73
 go_wp2_with (first | ((with_reducible refine gate_callee (f := 79) rfl ?_); refine goesL_ (some 8) rfl rfl Tryd.func79 (by kernel_rfl) rfl #[.int .i64 a0] rfl mp_ ?_; (with_reducible refine (r2_Top.calls k a0 t361 _ A3.out).mono ?_); rintro e w' ⟨rfl, ⟨nd, rfl⟩⟩; refine ⟨_, rfl, ?_⟩) | ((with_reducible refine gate_callee (f := 72) rfl ?_); refine goesL_ (some 9) rfl rfl Tryd.func72 (by kernel_rfl) rfl #[.int .i64 a0, .bool a1, .int .i64 t361, .int .u64 0] rfl mp_ ?_; (with_reducible refine (r2_Make.calls k a0 a1 t361 0 t362 _ A4.out).mono ?_); rintro e w' ⟨rfl, ⟨nd, rfl⟩⟩; refine ⟨_, rfl, ?_⟩))
 go_ret
 exact ⟨sm_, by repeat (first | exact Drawn0.refl _ | apply Drawn0.step)⟩
def r1_Div.l0 : Nat → Int → List Int → List Int → List Int → Option (List Int × List Int)
 | 0, _, _, _, _ => none
 | k + 1, x8, x424000, x427000, x428000 => if x8 ≥ 0 then ((r1_Shl.f k x424000 x8).bind fun t430 => ((r1_Cmp.f k x428000 t430).bind fun t434 => (if t434 ≥ 0 then ((r1_Sub.f k x428000 t430).bind fun t435 => ((r1_Of.f k 1).bind fun t438 => ((r1_Shl.f k t438 x8).bind fun t441 => ((r1_Add.f k x427000 t441).bind fun t444 => (r1_Div.l0 k (wrap64 (x8 - 1)) x424000 t444 t435))))) else (r1_Div.l0 k (wrap64 (x8 - 1)) x424000 x427000 x428000)))) else (some (x427000, x428000))
def r1_Div.f (k : Nat) (l0_0 : List Int) (l1_0 : List Int) : Option (List Int × List Int) := (r1_Len.f k l0_0).bind fun t428 => ((r1_Len.f k l1_0).bind fun t429 => (r1_Div.l0 k (wrap64 (t428 - t429)) l1_0 ([] : List Int) l0_0))
theorem r1_Div.mono_l : ∀ k, (∀ y0 y1 y2 y3, LeO (r1_Div.l0 k y0 y1 y2 y3) (r1_Div.l0 (k + 1) y0 y1 y2 y3))
 | 0 => fun _ _ _ _ r h => by simp [r1_Div.l0] at h
 | k + 1 => by
  have ih0 := r1_Div.mono_l k
  ·intro y0 y1 y2 y3
   unfold r1_Div.l0
   repeat' first
   | (with_reducible exact ih0 _ _ _ _)
   | (with_reducible exact r1_Add.mono _ _ _)
   | (with_reducible exact r1_Cmp.mono _ _ _)
   | (with_reducible exact r1_Len.mono _ _)
   | (with_reducible exact r1_Of.mono _ _)
   | (with_reducible exact r1_Shl.mono _ _ _)
   | (with_reducible exact r1_Sub.mono _ _ _)
   | (with_reducible exact LeO.refl _)
   | (with_reducible exact LeO.none _)
   | (with_reducible refine LeO.ite ?_ ?_)
   | (with_reducible refine LeO.bind ?_ (fun _ => ?_))
   | exact ih0 _ _ _ _
   | exact r1_Add.mono _ _ _
   | exact r1_Cmp.mono _ _ _
   | exact r1_Len.mono _ _
   | exact r1_Of.mono _ _
   | exact r1_Shl.mono _ _ _
   | exact r1_Sub.mono _ _ _
   | exact LeO.none _
   | refine LeO.ite ?_ ?_
   | refine LeO.bind ?_ (fun _ => ?_)
theorem r1_Div.mono : ∀ a0 a1 k, LeO (r1_Div.f k a0 a1) (r1_Div.f (k + 1) a0 a1) := by
 intro a0 a1 k
 have ih0 := r1_Div.mono_l k
 unfold r1_Div.f
 repeat' first
   | (with_reducible exact ih0 _ _ _ _)
   | (with_reducible exact r1_Add.mono _ _ _)
   | (with_reducible exact r1_Cmp.mono _ _ _)
   | (with_reducible exact r1_Len.mono _ _)
   | (with_reducible exact r1_Of.mono _ _)
   | (with_reducible exact r1_Shl.mono _ _ _)
   | (with_reducible exact r1_Sub.mono _ _ _)
   | (with_reducible exact LeO.refl _)
   | (with_reducible exact LeO.none _)
   | (with_reducible refine LeO.ite ?_ ?_)
   | (with_reducible refine LeO.bind ?_ (fun _ => ?_))
   | exact ih0 _ _ _ _
   | exact r1_Add.mono _ _ _
   | exact r1_Cmp.mono _ _ _
   | exact r1_Len.mono _ _
   | exact r1_Of.mono _ _
   | exact r1_Shl.mono _ _ _
   | exact r1_Sub.mono _ _ _
   | exact LeO.none _
   | refine LeO.ite ?_ ?_
   | refine LeO.bind ?_ (fun _ => ?_)
-- IMPORT Derived.Deep.RegionHeld3
-- IMPORT Derived.Test.YthdeeoallfbjmaaDoorNr
theorem Nr.len (k : Nat) (v : Value) (l : List Int) (r : Int) (w : World) (n : Nr.Nr w v l) (h : r1_Len.f k l = some r) : Calls Tryd.prog 94 #[.agg #[v]] w fun e w' => e = .returned (.int .i64 r) ∧ Below w.heap.size w w' := by
 obtain ⟨A, c, rfl, hc, hC⟩ := n
 exact r1_Len.calls k A c l r w hC hc h
theorem Nr.cmp (k : Nat) (v v1 : Value) (l l1 : List Int) (r : Int) (w : World) (n : Nr.Nr w v l) (n1 : Nr.Nr w v1 l1) (h : r1_Cmp.f k l l1 = some r) : Calls Tryd.prog 59 #[.agg #[v], .agg #[v1]] w fun e w' => e = .returned (.int .i64 r) ∧ Below w.heap.size w w' := by
 obtain ⟨A, c, rfl, hc, hC⟩ := n
 obtain ⟨A1, c1, rfl, hc1, hC1⟩ := n1
 exact r1_Cmp.calls k A c l A1 c1 l1 r w hC hc hC1 hc1 h
theorem Nr.outR {f : Nat} {xs : Array Value} {w : World} {r : List Int} (h : Calls Tryd.prog f xs w fun e w' => ∃ v0_ : Value, e = .returned (.agg #[v0_]) ∧ Kd.R (Kd.int .u64) 22 w' w.heap.size (fun _ => True) v0_ r ∧ Below w.heap.size w w') : Calls Tryd.prog f xs w fun e w' => ∃ A c, e = .returned (.agg #[.slice A r.length c]) ∧ Nr.Ow 22 w.heap.size w' (.slice A r.length c) r ∧ Below w.heap.size w w' := by
 refine h.mono ?_
 rintro e w' ⟨v0, rfl, hR, hb⟩
 obtain ⟨A, c, rfl, _⟩ := Nr.Nr.of_R hR
 exact ⟨A, c, rfl, Nr.Ow.of_R hR (Nat.le_refl _), hb⟩
theorem Nr.shl (k : Nat) (v : Value) (l : List Int) (a : Int) (r : List Int) (w : World) (n : Nr.Nr w v l) (h : r1_Shl.f k l a = some r) : Calls Tryd.prog 60 #[.agg #[v], .int .i64 a] w fun e w' => ∃ A c, e = .returned (.agg #[.slice A r.length c]) ∧ Nr.Ow 22 w.heap.size w' (.slice A r.length c) r ∧ Below w.heap.size w w' := by
 obtain ⟨A, c, rfl, hc, hC⟩ := n
 exact Nr.outR (r1_Shl.calls k A c l a r w hC hc h)
theorem Nr.sub (k : Nat) (v v1 : Value) (l l1 : List Int) (r : List Int) (w : World) (n : Nr.Nr w v l) (n1 : Nr.Nr w v1 l1) (h : r1_Sub.f k l l1 = some r) : Calls Tryd.prog 117 #[.agg #[v], .agg #[v1]] w fun e w' => ∃ A c, e = .returned (.agg #[.slice A r.length c]) ∧ Nr.Ow 22 w.heap.size w' (.slice A r.length c) r ∧ Below w.heap.size w w' := by
 obtain ⟨A, c, rfl, hc, hC⟩ := n
 obtain ⟨A1, c1, rfl, hc1, hC1⟩ := n1
 exact Nr.outR (r1_Sub.calls k A c l A1 c1 l1 r w hC hc hC1 hc1 h)
theorem Nr.add (k : Nat) (v v1 : Value) (l l1 : List Int) (r : List Int) (w : World) (n : Nr.Nr w v l) (n1 : Nr.Nr w v1 l1) (h : r1_Add.f k l l1 = some r) : Calls Tryd.prog 116 #[.agg #[v], .agg #[v1]] w fun e w' => ∃ A c, e = .returned (.agg #[.slice A r.length c]) ∧ Nr.Ow 22 w.heap.size w' (.slice A r.length c) r ∧ Below w.heap.size w w' := by
 obtain ⟨A, c, rfl, hc, hC⟩ := n
 obtain ⟨A1, c1, rfl, hc1, hC1⟩ := n1
 exact Nr.outR (r1_Add.calls k A c l A1 c1 l1 r w hC hc hC1 hc1 h)
theorem Nr.of (k : Nat) (a : Int) (r : List Int) (w : World) (h : r1_Of.f k a = some r) : Calls Tryd.prog 57 #[.int .u64 a] w fun e w' => ∃ A c, e = .returned (.agg #[.slice A r.length c]) ∧ Nr.Ow 22 w.heap.size w' (.slice A r.length c) r ∧ Below w.heap.size w w' :=
 Nr.outR (r1_Of.calls k a r w h)
theorem Nr.lower {e b b' : Nat} {w : World} {v : Value} {l : List Int} (h : Nr.Ow e b w v l) (hb : b' ≤ b) : Nr.Ow e b' w v l := Nr.Ow.of_R h.out hb
theorem Nr.fresh {P : Nat → Prop} {e e' base : Nat} {w0 w1 : World} {vq vr : Value} {lq lr : List Int} (hq : Nr.Ow e base w0 vq lq) (hr : Nr.Ow e' w0.heap.size w1 vr lr) (hb : base ≤ w0.heap.size) : Nr.At (fun k => (P k ∨ base ≤ k) ∧ some k ≠ vq.ownBlock) vr :=
 (Nr.At.of_R hr.out).mono fun k hk => ⟨Or.inr (Nat.le_trans hb hk.1), fun e => Nat.lt_irrefl _ (Nat.lt_of_lt_of_le (Kd.R_lt hq.out k e.symm) hk.1)⟩
theorem Nr.atlt {w : World} {v : Value} {l : List Int} (h : Nr.Nr w v l) : Nr.At (fun k => k < w.heap.size) v := by
 obtain ⟨A, c, hv, hl, h1, h2, h3⟩ := h
 intro ad n c' e hn
 rw [hv] at e
 injection e with e1 e2 e3
 subst e2
 obtain ⟨ad', e4, h4⟩ := h3 hn
 rw [e1] at e4
 injection e4 with e4
 subst e4
 obtain ⟨x, hx⟩ : ∃ x, l[0]? = some x := ⟨l[0]'hn, List.getElem?_eq_getElem hn⟩
 obtain ⟨cs, k1, k2, k3⟩ := h4 0 x hx
 have k2' : cs = [Value.int .u64 x] := k2
 have := World.block_lt_of_cell? w _ (k3 0 (.int .u64 x) (by rw [k2']; rfl))
 rwa [add_block] at this
theorem Nr.other {P : Nat → Prop} {e' : Nat} {w0 w1 : World} {vq vq' vr : Value} {lq' lr : List Int} (ha : Nr.At (fun k => P k ∧ some k ≠ vq.ownBlock) vr) (hn : Nr.Nr w0 vr lr) (hq : Nr.Ow e' w0.heap.size w1 vq' lq') : Nr.At (fun k => P k ∧ some k ≠ vq'.ownBlock) vr := fun ad n c e hn' =>
 ⟨(ha ad n c e hn').1, fun e2 => Nat.lt_irrefl _ (Nat.lt_of_lt_of_le (Nr.atlt hn ad n c e hn') (Kd.R_base hq.out _ e2.symm))⟩
theorem Nr.undrew {w w1 : World} (h : Below w.drew.heap.size w.drew w1) : Below w.heap.size w w1 := below_step (below_drew1 (Below.refl _ _)) h
theorem Nr.unalloc {w w1 : World} {o : Obj} (h : Below (w.alloc o).heap.size (w.alloc o) w1) : Below w.heap.size w w1 := below_step (below_alloc (Below.refl _ _) o) h
theorem Nr.newlt {w w1 : World} {o : Obj} (h : Below (w.alloc o).heap.size (w.alloc o) w1) : w.heap.size < w1.heap.size := by
 have := h.size
 simp at this
 omega
theorem Nr.newcell {w w1 : World} {v : Value} {ty : Nat} (h : Below (w.alloc (.cells #[v] ty)).heap.size (w.alloc (.cells #[v] ty)) w1) : w1.cell? ⟨w.heap.size, 0, none⟩ = some v := by
 rw [(Nr.bcell h).1 _ _ (by simp)]
 exact (World.cell?_alloc_new _ _ _ _).trans rfl
theorem r1_Div.calls (k : Nat) (P0_0_ : Nat → Prop) (A0_0 : Option Addr) (c0_0 : Nat) (l0_0 : List Int) (A1_0 : Option Addr) (c1_0 : Nat) (l1_0 : List Int) (r1 : List Int) (r2 : List Int) (w : World) (hs0_0 : Kd.V (Kd.int .u64) 22 w w.heap.size (fun k_ => P0_0_ k_) (.slice A0_0 l0_0.length c0_0) l0_0) (hr1_0 : Kd.C (Kd.int .u64) w A1_0 l1_0.length l1_0) (hc1_0 : l1_0.length ≤ c1_0) (h : r1_Div.f k l0_0 l1_0 = some (r1, r2)) :
  Calls Tryd.prog 110 #[.agg #[.slice A0_0 l0_0.length c0_0], .agg #[.slice A1_0 l1_0.length c1_0]] w fun e w' => ∃ v0_ v1_ : Value, e = .returned (.tuple #[.agg #[v0_], .agg #[v1_]]) ∧ Kd.R (Kd.int .u64) 22 w' w.heap.size (fun k_ => (w.heap.size ≤ k_)) v0_ r1 ∧ Kd.V (Kd.int .u64) 22 w' w.heap.size (fun k_ => (P0_0_ k_ ∨ w.heap.size ≤ k_) ∧ some k_ ≠ (v0_ : Value).ownBlock) v1_ r2 ∧ Below w.heap.size w w' := by
 obtain ⟨t0, A0, H⟩ := ob_ h
 obtain ⟨t1, A1, H⟩ := ob_ H
 have L0 := A_ A0;have L1 := A_ A1;have HL := A_ H;clear h A0 A1 H
 have NA := Nr.Nr.of_V hs0_0
 have AA := A_ (Nr.At.of_V hs0_0)
 have NB := Nr.Nr.of_C hc1_0 hr1_0
 clear hs0_0 hr1_0
 go_enter Tryd.func110, Tryd.ntmps110
 go_wp2
 go_region_held3 (fun w' => w'.cell? ⟨w.heap.size, 0, none⟩ = some (.slice A0_0 l0_0.length c0_0) ∧ w'.cell? ⟨w.heap.size + 1, 0, none⟩ = some (.slice A1_0 l1_0.length c1_0) ∧ w'.cell? ⟨w.heap.size + 2, 0, none⟩ = some (.slice none 0 0) ∧ w'.cell? ⟨w.heap.size + 3, 0, none⟩ = some (.slice none 0 0) ∧ w'.cell? ⟨w.heap.size + 4, 0, none⟩ = some (.slice none 0 0) ∧ w'.cell? ⟨w.heap.size + 5, 0, none⟩ = some (.slice A0_0 l0_0.length c0_0) ∧ w'.frozen? ⟨w.heap.size + 2, 0, none⟩ = false ∧ w'.frozen? ⟨w.heap.size + 3, 0, none⟩ = false ∧ w'.frozen? ⟨w.heap.size + 4, 0, none⟩ = false ∧ w'.frozen? ⟨w.heap.size + 5, 0, none⟩ = false ∧ w.heap.size + 5 < w'.heap.size ∧ Nr.Nr w' (.slice A0_0 l0_0.length c0_0) l0_0 ∧ Nr.Nr w' (.slice A1_0 l1_0.length c1_0) l1_0 ∧ Nr.Ow 22 w.heap.size w' (.slice none 0 0) [] ∧ Below w.heap.size w w')
  (((try go_split_ands); (try dsimp only); (repeat' apply And.intro) <;> first | assumption | (rw [hc _ _ (by omega)]; assumption) | (rw [hf _ _ (by omega)]; assumption) | (rw [Nr.al (by omega)]; assumption) | (rw [Nr.alf (by omega)]; assumption) | (apply Nr.lt_al; assumption) | (have := hb.size; omega) | (refine Nr.Nr.below ?_ hb; assumption) | (apply Nr.Nr.drew; (repeat apply Nr.Nr.alloc); assumption) | (apply Nr.Nr.alloc; assumption) | (apply Nr.Nr.drew; assumption) | (exact Nr.Ow.nil _ _ _) | (refine Nr.Ow.below ?_ hb; assumption) | (apply Nr.Ow.alloc; assumption) | (apply Nr.Ow.drew; assumption) | (refine below_step ?_ hb; assumption) | (simp [go_sem, World.cell?_alloc_past]; done) | (repeat (first | assumption | exact Below.refl _ _ | apply below_drew1 | apply below_alloc | (refine below_set ?_ (by omega))))))
  ((first | (go_at_call 94; (try go_split_ands); refine (Nr.len k _ l0_0 t0 _ ?_ L0.out).mono ?_; (assumption); rintro e w1 ⟨rfl, hb⟩; obtain ⟨hc, hf⟩ := Nr.bcell hb) | (go_at_call 94; (try go_split_ands); refine (Nr.len k _ l1_0 t1 _ ?_ L1.out).mono ?_; (assumption); rintro e w2 ⟨rfl, hb⟩; obtain ⟨hc, hf⟩ := Nr.bcell hb)))
 rename_i hH
 obtain ⟨q0, q1, q2, q3, q4, q5, f2, f3, f4, f5, hz, nr, nb, ow, bl⟩ := hH
 (repeat clear hc hf)
 (repeat clear hb)
 go_wp2
 iterate 30 (rename_i left_; clear left_)
 rename_i hK
 clear H
 have at0 : Nr.At (fun k_ => (P0_0_ k_ ∨ w.heap.size ≤ k_) ∧ some k_ ≠ (Value.slice none 0 0).ownBlock) (.slice A0_0 l0_0.length c0_0) := AA.out.mono fun k hk => ⟨Or.inl hk, fun e => by cases e⟩
 go_loopg [8] k (fun kq v8 w' => ∃ (x : Int) (Aq : Option Addr) (cq : Nat) (lq : List Int) (Ar : Option Addr) (cr : Nat) (lr : List Int), v8 = .int .i64 x ∧ Aside0 (r1_Div.l0 kq x l1_0 lq lr = some (r1, r2)) ∧ Aside0 (w'.cell? ⟨w.heap.size + 1, 0, none⟩ = some (.slice A1_0 l1_0.length c1_0) ∧ w'.cell? ⟨w.heap.size + 2, 0, none⟩ = some (.slice none 0 0) ∧ w'.cell? ⟨w.heap.size + 3, 0, none⟩ = some (.slice none 0 0) ∧ w'.cell? ⟨w.heap.size + 4, 0, none⟩ = some (.slice Aq lq.length cq) ∧ w'.cell? ⟨w.heap.size + 5, 0, none⟩ = some (.slice Ar lr.length cr) ∧ w'.frozen? ⟨w.heap.size + 2, 0, none⟩ = false ∧ w'.frozen? ⟨w.heap.size + 3, 0, none⟩ = false ∧ w'.frozen? ⟨w.heap.size + 4, 0, none⟩ = false ∧ w'.frozen? ⟨w.heap.size + 5, 0, none⟩ = false ∧ w.heap.size + 5 < w'.heap.size ∧ Nr.Nr w' (.slice A1_0 l1_0.length c1_0) l1_0 ∧ Nr.Nr w' (.slice Ar lr.length cr) lr ∧ Nr.Ow 22 (w.heap.size + 6) w' (.slice Aq lq.length cq) lq ∧ Nr.At (fun k_ => (P0_0_ k_ ∨ w.heap.size ≤ k_) ∧ some k_ ≠ (Value.slice Aq lq.length cq).ownBlock) (.slice Ar lr.length cr) ∧ Below w.heap.size w w'))
 case atStart => exact ⟨_, none, 0, [], A0_0, c0_0, l0_0, by rw [i64_w], HL, q1, q2, q3, q4, q5, f2, f3, f4, f5, hz, nb, nr, Nr.Ow.nil _ _ _, at0, bl⟩
 case round =>
  (repeat clear q0 q1 q2 q3 q4 q5 f2 f3 f4 f5 hz nr ow bl at0 nb)
  obtain ⟨x, Aq, cq, lq, Ar, cr, lr, rfl, E, F⟩ := hrel
  obtain ⟨q1, q2, q3, q4, q5, f2, f3, f4, f5, hz, nb, nr, ow, at0, bl⟩ := F.out
  clear F HL
  obtain _ | kr := gk
  ·cases E.out
  have E := E.out
  unfold r1_Div.l0 at E
  by_cases hx : x ≥ 0
  ·rw [if_pos hx] at E
   have c0 : decide (0 ≤ x) = true := decide_eq_true hx
   obtain ⟨t, T0, E⟩ := ob_ E
   obtain ⟨u, T1, E⟩ := ob_ E
   replace T0 := A_ T0;replace T1 := A_ T1;replace hx := A_ hx
   by_cases hu : u ≥ 0
   ·rw [if_pos hu] at E
    obtain ⟨s, S0, E⟩ := ob_ E
    obtain ⟨o1, S1, E⟩ := ob_ E
    obtain ⟨o2, S2, E⟩ := ob_ E
    obtain ⟨q', S3, E⟩ := ob_ E
    replace S0 := A_ S0;replace S1 := A_ S1;replace S2 := A_ S2;replace S3 := A_ S3;have EE := A_ E;clear E
    have cu : decide (0 ≤ u) = true := decide_eq_true hu
    clear hu
    go_wp2_with (first | (go_at_call 60; refine (Nr.shl kr _ l1_0 x t _ nb T0.out).mono ?_; rintro e w1 ⟨At, ct, rfl, ot, hb⟩; (try replace hb := Nr.undrew hb); obtain ⟨hc, hf⟩ := Nr.bcell hb; have hs := hb.size; replace q1 := (hc _ _ (by omega)).trans q1; replace q2 := (hc _ _ (by omega)).trans q2; replace q3 := (hc _ _ (by omega)).trans q3; replace q4 := (hc _ _ (by omega)).trans q4; replace q5 := (hc _ _ (by omega)).trans q5; replace f2 := (hf _ _ (by omega)).trans f2; replace f3 := (hf _ _ (by omega)).trans f3; replace f4 := (hf _ _ (by omega)).trans f4; replace f5 := (hf _ _ (by omega)).trans f5; replace nb := Nr.Nr.below nb hb; replace nr := Nr.Nr.below nr hb; replace ow := Nr.Ow.below ow hb; replace bl := below_step bl hb; replace hz := Nat.lt_of_lt_of_le hz hs; clear hc hf hs hb) | (go_at_call 59; refine (Nr.cmp kr _ _ lr t u _ (Nr.Nr.alloc nr _) (Nr.Nr.alloc ot.nr _) T1.out).mono ?_; rintro e w2 ⟨rfl, hb⟩; have tq := Nr.newcell hb; have ht := Nr.newlt hb; replace hb := Nr.unalloc hb; (try replace hb := Nr.undrew hb); obtain ⟨hc, hf⟩ := Nr.bcell hb; have hs := hb.size; replace q1 := (hc _ _ (by omega)).trans q1; replace q2 := (hc _ _ (by omega)).trans q2; replace q3 := (hc _ _ (by omega)).trans q3; replace q4 := (hc _ _ (by omega)).trans q4; replace q5 := (hc _ _ (by omega)).trans q5; replace f2 := (hf _ _ (by omega)).trans f2; replace f3 := (hf _ _ (by omega)).trans f3; replace f4 := (hf _ _ (by omega)).trans f4; replace f5 := (hf _ _ (by omega)).trans f5; replace nb := Nr.Nr.below nb hb; replace nr := Nr.Nr.below nr hb; replace ow := Nr.Ow.below ow hb; replace ot := Nr.Ow.below ot hb; replace bl := below_step bl hb; replace hz := Nat.lt_of_lt_of_le hz hs; clear hc hf hs hb) | (go_at_call 117; refine (Nr.sub kr _ _ lr t s _ nr ot.nr S0.out).mono ?_; rintro e w3 ⟨As, cs, rfl, os, hb⟩; have at1 := Nr.fresh (P := P0_0_) (Nr.lower ow (b' := w.heap.size) (by omega)) os (by omega); replace os := Nr.lower os (b' := w.heap.size + 6) (by omega); (try replace hb := Nr.undrew hb); obtain ⟨hc, hf⟩ := Nr.bcell hb; have hs := hb.size; replace q1 := (hc _ _ (by omega)).trans q1; replace q2 := (hc _ _ (by omega)).trans q2; replace q3 := (hc _ _ (by omega)).trans q3; replace q4 := (hc _ _ (by omega)).trans q4; replace q5 := (hc _ _ (by omega)).trans q5; replace f2 := (hf _ _ (by omega)).trans f2; replace f3 := (hf _ _ (by omega)).trans f3; replace f4 := (hf _ _ (by omega)).trans f4; replace f5 := (hf _ _ (by omega)).trans f5; replace nb := Nr.Nr.below nb hb; replace nr := Nr.Nr.below nr hb; replace ow := Nr.Ow.below ow hb; replace ot := Nr.Ow.below ot hb; replace bl := below_step bl hb; replace hz := Nat.lt_of_lt_of_le hz hs; clear hc hf hs hb))
    generalize hW : World.setCell _ _ _ = w4
    have hz4 : w4.heap.size = w3.heap.size := by rw [← hW]; simp
    have hc : ∀ b, b ≠ w.heap.size + 5 → w4.cell? ⟨b, 0, none⟩ = w3.cell? ⟨b, 0, none⟩ := fun b hb => by rw [← hW]; exact World.cell?_setCell_far _ _ _ _ (fun e => hb e.symm)
    have hf : ∀ b, w4.frozen? ⟨b, 0, none⟩ = w3.frozen? ⟨b, 0, none⟩ := fun b => by rw [← hW]; exact World.frozen?_setCell _ _ _ _
    have hi : Nr.IsRow (w3.cell? ⟨w.heap.size + 5, 0, none⟩) := by rw [q5]; exact Nr.IsRow.slice _ _ _
    replace q5 : w4.cell? ⟨w.heap.size + 5, 0, none⟩ = some (.slice As s.length cs) := by rw [← hW]; exact World.cell?_setCell_same _ _ _ q5
    replace q1 := (hc _ (by omega)).trans q1
    replace q2 := (hc _ (by omega)).trans q2
    replace q3 := (hc _ (by omega)).trans q3
    replace q4 := (hc _ (by omega)).trans q4
    replace f2 := (hf _).trans f2
    replace f3 := (hf _).trans f3
    replace f4 := (hf _).trans f4
    replace f5 := (hf _).trans f5
    replace nb : Nr.Nr w4 (.slice A1_0 l1_0.length c1_0) l1_0 := by rw [← hW]; exact Nr.Nr.set nb _ hi
    replace ow : Nr.Ow 22 (w.heap.size + 6) w4 (.slice Aq lq.length cq) lq := by rw [← hW]; exact Nr.Ow.set ow _ (fun e => by have h6 : _ ≤ w.heap.size + 5 := Kd.R_base ow.out _ e; omega)
    replace os : Nr.Ow 22 (w.heap.size + 6) w4 (.slice As s.length cs) s := by rw [← hW]; exact Nr.Ow.set os _ (fun e => by have h6 : _ ≤ w.heap.size + 5 := Kd.R_base os.out _ e; omega)
    replace bl : Below w.heap.size w w4 := by rw [← hW]; exact below_set bl (by omega)
    replace hz : w.heap.size + 5 < w4.heap.size := by omega
    clear hW hc hf hi hz4
    replace nr := os.nr
    clear os
    go_region_with (first | (go_at_call 57; refine (Nr.of kr 1 o1 _ S1.out).mono ?_; rintro e w5 ⟨Ao, co, rfl, oo, hb⟩; (try replace hb := Nr.undrew hb); obtain ⟨hc, hf⟩ := Nr.bcell hb; have hs := hb.size; replace q1 := (hc _ _ (by omega)).trans q1; replace q2 := (hc _ _ (by omega)).trans q2; replace q3 := (hc _ _ (by omega)).trans q3; replace q4 := (hc _ _ (by omega)).trans q4; replace q5 := (hc _ _ (by omega)).trans q5; replace f2 := (hf _ _ (by omega)).trans f2; replace f3 := (hf _ _ (by omega)).trans f3; replace f4 := (hf _ _ (by omega)).trans f4; replace f5 := (hf _ _ (by omega)).trans f5; replace nb := Nr.Nr.below nb hb; replace nr := Nr.Nr.below nr hb; replace ow := Nr.Ow.below ow hb; replace bl := below_step bl hb; replace hz := Nat.lt_of_lt_of_le hz hs; clear hc hf hs hb) | (go_at_call 60; refine (Nr.shl kr _ o1 x o2 _ oo.nr S2.out).mono ?_; rintro e w6 ⟨Ap, cp, rfl, op, hb⟩; (try replace hb := Nr.undrew hb); obtain ⟨hc, hf⟩ := Nr.bcell hb; have hs := hb.size; replace q1 := (hc _ _ (by omega)).trans q1; replace q2 := (hc _ _ (by omega)).trans q2; replace q3 := (hc _ _ (by omega)).trans q3; replace q4 := (hc _ _ (by omega)).trans q4; replace q5 := (hc _ _ (by omega)).trans q5; replace f2 := (hf _ _ (by omega)).trans f2; replace f3 := (hf _ _ (by omega)).trans f3; replace f4 := (hf _ _ (by omega)).trans f4; replace f5 := (hf _ _ (by omega)).trans f5; replace nb := Nr.Nr.below nb hb; replace nr := Nr.Nr.below nr hb; replace ow := Nr.Ow.below ow hb; replace oo := Nr.Ow.below oo hb; replace bl := below_step bl hb; replace hz := Nat.lt_of_lt_of_le hz hs; clear hc hf hs hb) | (go_at_call 116; refine (Nr.add kr _ _ lq o2 q' _ ow.nr op.nr S3.out).mono ?_; rintro e w7 ⟨Az, cz, rfl, oz, hb⟩; have at2 := Nr.other at1 nr oz; have oz := Nr.lower oz (b' := w.heap.size + 6) (by omega); (try replace hb := Nr.undrew hb); obtain ⟨hc, hf⟩ := Nr.bcell hb; have hs := hb.size; replace q1 := (hc _ _ (by omega)).trans q1; replace q2 := (hc _ _ (by omega)).trans q2; replace q3 := (hc _ _ (by omega)).trans q3; replace q4 := (hc _ _ (by omega)).trans q4; replace q5 := (hc _ _ (by omega)).trans q5; replace f2 := (hf _ _ (by omega)).trans f2; replace f3 := (hf _ _ (by omega)).trans f3; replace f4 := (hf _ _ (by omega)).trans f4; replace f5 := (hf _ _ (by omega)).trans f5; replace nb := Nr.Nr.below nb hb; replace nr := Nr.Nr.below nr hb; replace ow := Nr.Ow.below ow hb; replace bl := below_step bl hb; replace hz := Nat.lt_of_lt_of_le hz hs; clear hc hf hs hb))
    all_goals (
     generalize hW : World.setCell _ _ _ = w8
     have hz4 : w8.heap.size = w7.heap.size := by rw [← hW]; simp
     have hc : ∀ b, b ≠ w.heap.size + 4 → w8.cell? ⟨b, 0, none⟩ = w7.cell? ⟨b, 0, none⟩ := fun b hb => by rw [← hW]; exact World.cell?_setCell_far _ _ _ _ (fun e => hb e.symm)
     have hf : ∀ b, w8.frozen? ⟨b, 0, none⟩ = w7.frozen? ⟨b, 0, none⟩ := fun b => by rw [← hW]; exact World.frozen?_setCell _ _ _ _
     have hi : Nr.IsRow (w7.cell? ⟨w.heap.size + 4, 0, none⟩) := by rw [q4]; exact Nr.IsRow.slice _ _ _
     replace q4 : w8.cell? ⟨w.heap.size + 4, 0, none⟩ = some (.slice Az q'.length cz) := by rw [← hW]; exact World.cell?_setCell_same _ _ _ q4
     replace q1 := (hc _ (by omega)).trans q1
     replace q2 := (hc _ (by omega)).trans q2
     replace q3 := (hc _ (by omega)).trans q3
     replace q5 := (hc _ (by omega)).trans q5
     replace f2 := (hf _).trans f2
     replace f3 := (hf _).trans f3
     replace f4 := (hf _).trans f4
     replace f5 := (hf _).trans f5
     replace nb : Nr.Nr w8 (.slice A1_0 l1_0.length c1_0) l1_0 := by rw [← hW]; exact Nr.Nr.set nb _ hi
     replace nr : Nr.Nr w8 (.slice As s.length cs) s := by rw [← hW]; exact Nr.Nr.set nr _ hi
     replace oz : Nr.Ow 22 (w.heap.size + 6) w8 (.slice Az q'.length cz) q' := by rw [← hW]; exact Nr.Ow.set oz _ (fun e => by have h6 : _ ≤ w.heap.size + 4 := Kd.R_base oz.out _ e; omega)
     replace bl : Below w.heap.size w w8 := by rw [← hW]; exact below_set bl (by omega)
     replace hz : w.heap.size + 5 < w8.heap.size := by omega
     clear hW hc hf hi hz4
     go_wp2
     go_roundg kr
     case measure => omega
     case rel => exact ⟨_, Az, cz, q', As, cs, s, rfl, EE, ⟨q1, q2, q3, q4, q5, f2, f3, f4, f5, hz, nb, nr, oz, at2, bl⟩⟩)
   ·rw [if_neg hu] at E
    have EE := A_ E;clear E
    have cu : decide (0 ≤ u) = false := decide_eq_false hu
    clear hu
    go_wp2_with (first | (go_at_call 60; refine (Nr.shl kr _ l1_0 x t _ nb T0.out).mono ?_; rintro e w1 ⟨At, ct, rfl, ot, hb⟩; (try replace hb := Nr.undrew hb); obtain ⟨hc, hf⟩ := Nr.bcell hb; have hs := hb.size; replace q1 := (hc _ _ (by omega)).trans q1; replace q2 := (hc _ _ (by omega)).trans q2; replace q3 := (hc _ _ (by omega)).trans q3; replace q4 := (hc _ _ (by omega)).trans q4; replace q5 := (hc _ _ (by omega)).trans q5; replace f2 := (hf _ _ (by omega)).trans f2; replace f3 := (hf _ _ (by omega)).trans f3; replace f4 := (hf _ _ (by omega)).trans f4; replace f5 := (hf _ _ (by omega)).trans f5; replace nb := Nr.Nr.below nb hb; replace nr := Nr.Nr.below nr hb; replace ow := Nr.Ow.below ow hb; replace bl := below_step bl hb; replace hz := Nat.lt_of_lt_of_le hz hs; clear hc hf hs hb) | (go_at_call 59; refine (Nr.cmp kr _ _ lr t u _ (Nr.Nr.alloc nr _) (Nr.Nr.alloc ot.nr _) T1.out).mono ?_; rintro e w2 ⟨rfl, hb⟩; have tq := Nr.newcell hb; have ht := Nr.newlt hb; replace hb := Nr.unalloc hb; (try replace hb := Nr.undrew hb); obtain ⟨hc, hf⟩ := Nr.bcell hb; have hs := hb.size; replace q1 := (hc _ _ (by omega)).trans q1; replace q2 := (hc _ _ (by omega)).trans q2; replace q3 := (hc _ _ (by omega)).trans q3; replace q4 := (hc _ _ (by omega)).trans q4; replace q5 := (hc _ _ (by omega)).trans q5; replace f2 := (hf _ _ (by omega)).trans f2; replace f3 := (hf _ _ (by omega)).trans f3; replace f4 := (hf _ _ (by omega)).trans f4; replace f5 := (hf _ _ (by omega)).trans f5; replace nb := Nr.Nr.below nb hb; replace nr := Nr.Nr.below nr hb; replace ow := Nr.Ow.below ow hb; replace ot := Nr.Ow.below ot hb; replace bl := below_step bl hb; replace hz := Nat.lt_of_lt_of_le hz hs; clear hc hf hs hb))
    go_roundg kr
    case measure => omega
    case rel => exact ⟨_, Aq, cq, lq, Ar, cr, lr, rfl, EE, ⟨q1, q2, q3, q4, q5, f2, f3, f4, f5, hz, nb, nr, ow, at0, bl⟩⟩
  ·rw [if_neg hx] at E
   have c0 : decide (0 ≤ x) = false := decide_eq_false hx
   injection E with E
   injection E with E1 E2
   subst E1
   subst E2
   clear hx E
   go_wp2
   go_region
   go_wp2
   have i2 : Nr.IsRow (wr.cell? ⟨w.heap.size + 2, 0, none⟩) := by rw [q2]; exact Nr.IsRow.slice _ _ _
   have e2 := World.cell?_setCell_same _ _ (.slice Aq lq.length cq) q2
   have e3 : (wr.setCell ⟨w.heap.size + 2, 0, none⟩ (.slice Aq lq.length cq)).cell? ⟨w.heap.size + 3, 0, none⟩ = some (.slice none 0 0) := (World.cell?_setCell_far _ _ _ _ (by simp)).trans q3
   have i3 : Nr.IsRow ((wr.setCell ⟨w.heap.size + 2, 0, none⟩ (.slice Aq lq.length cq)).cell? ⟨w.heap.size + 3, 0, none⟩) := by rw [e3]; exact Nr.IsRow.slice _ _ _
   have e4 := World.cell?_setCell_same _ _ (.slice Ar lr.length cr) e3
   have e5 : ((wr.setCell ⟨w.heap.size + 2, 0, none⟩ (.slice Aq lq.length cq)).setCell ⟨w.heap.size + 3, 0, none⟩ (.slice Ar lr.length cr)).cell? ⟨w.heap.size + 2, 0, none⟩ = some (.slice Aq lq.length cq) := (World.cell?_setCell_far _ _ _ _ (by simp)).trans e2
   have ow' := Nr.Ow.drew (Nr.Ow.set (Nr.Ow.set ow (p := ⟨w.heap.size + 2, 0, none⟩) (.slice Aq lq.length cq) (fun e => by have h6 : _ ≤ w.heap.size + 2 := Kd.R_base ow.out _ e; omega)) (p := ⟨w.heap.size + 3, 0, none⟩) (.slice Ar lr.length cr) (fun e => by have h6 : _ ≤ w.heap.size + 3 := Kd.R_base ow.out _ e; omega))
   have nr' := Nr.Nr.drew (Nr.Nr.set (Nr.Nr.set nr (.slice Aq lq.length cq) i2) (.slice Ar lr.length cr) i3)
   exact bodyPost_ret (v := .tuple #[.agg #[.slice Aq lq.length cq], .agg #[.slice Ar lr.length cr]]) (by simp [results, Tryd.results110, go_sem, e4, e5]) rfl ⟨_, _, rfl, (Nr.lower ow' (by omega)).out, Nr.Nr.toV nr' at0, below_drew1 (below_set (below_set bl (by omega)) (by omega))⟩
def r1_Half.f (k : Nat) (l0_0 : List Int) (a1 : Int) : Option (List Int × Bool) := (r1_Of.f k 1).bind fun t486 => ((r1_Shl.f k t486 a1).bind fun t489 => ((r1_Div.f k l0_0 t489).bind fun bt492 => (some (bt492.1, decide ((bt492.2.length : Int) > 0)))))
theorem r1_Half.mono : ∀ a0 a1 k, LeO (r1_Half.f k a0 a1) (r1_Half.f (k + 1) a0 a1) := by
 intro a0 a1 k
 unfold r1_Half.f
 repeat' first
   | (with_reducible exact r1_Div.mono _ _ _)
   | (with_reducible exact r1_Of.mono _ _)
   | (with_reducible exact r1_Shl.mono _ _ _)
   | (with_reducible exact LeO.refl _)
   | (with_reducible exact LeO.none _)
   | (with_reducible refine LeO.ite ?_ ?_)
   | (with_reducible refine LeO.bind ?_ (fun _ => ?_))
   | exact r1_Div.mono _ _ _
   | exact r1_Of.mono _ _
   | exact r1_Shl.mono _ _ _
   | exact LeO.none _
   | refine LeO.ite ?_ ?_
   | refine LeO.bind ?_ (fun _ => ?_)
-- IMPORT Derived.Deep.RegionHeld3
-- IMPORT Derived.Test.YthdeeoallfbjmaaDoorNr
theorem Nr.div (k : Nat) (v v1 : Value) (l l1 : List Int) (q r : List Int) (w : World) (n : Nr.Nr w v l) (n1 : Nr.Nr w v1 l1) (h : r1_Div.f k l l1 = some (q, r)) : Calls Tryd.prog 110 #[.agg #[v], .agg #[v1]] w fun e w' => ∃ A c A1 c1, e = .returned (.tuple #[.agg #[.slice A q.length c], .agg #[.slice A1 r.length c1]]) ∧ Nr.Ow 22 w.heap.size w' (.slice A q.length c) q ∧ Nr.Nr w' (.slice A1 r.length c1) r ∧ Below w.heap.size w w' := by
 have hv := Nr.Nr.toV (e := 22) (base := w.heap.size) (ok := fun _ => True) n (fun _ _ _ _ _ => trivial)
 obtain ⟨A, c, rfl, hc, hC⟩ := n
 obtain ⟨A1, c1, rfl, hc1, hC1⟩ := n1
 refine (r1_Div.calls k (fun _ => True) A c l A1 c1 l1 q r w hv hC1 hc1 h).mono ?_
 rintro e w' ⟨v0, v1, rfl, hR, hV, hb⟩
 obtain ⟨B, d, rfl, _⟩ := Nr.Nr.of_R hR
 obtain ⟨B1, d1, e1, hd1, hC2⟩ := Nr.Nr.of_V hV
 subst e1
 exact ⟨B, d, B1, d1, rfl, Nr.Ow.of_R hR (Nat.le_refl _), ⟨B1, d1, rfl, hd1, hC2⟩, hb⟩
theorem Nr.asz (w : World) (o : Obj) : (w.alloc o).heap.size = w.heap.size + 1 := by simp
theorem Nr.new1 {w w1 : World} {v : Value} {ty : Nat} (h : Below (w.alloc (.cells #[v] ty)).heap.size (w.alloc (.cells #[v] ty)) w1) : w1.cell? ⟨w.heap.size, 0, none⟩ = some v ∧ w1.frozen? ⟨w.heap.size, 0, none⟩ = false ∧ w.heap.size < w1.heap.size := by
 refine ⟨Nr.newcell h, ?_, Nr.newlt h⟩
 rw [(Nr.bcell h).2 _ _ (by simp)]
 simp [go_sem]
theorem Nr.new2 {w w1 : World} {v v' : Value} {ty ty' : Nat} (h : Below ((w.alloc (.cells #[v] ty)).alloc (.cells #[v'] ty')).heap.size ((w.alloc (.cells #[v] ty)).alloc (.cells #[v'] ty')) w1) :
  (w1.cell? ⟨w.heap.size, 0, none⟩ = some v ∧ w1.frozen? ⟨w.heap.size, 0, none⟩ = false ∧ w.heap.size < w1.heap.size) ∧ w1.cell? ⟨w.heap.size + 1, 0, none⟩ = some v' ∧ w1.frozen? ⟨w.heap.size + 1, 0, none⟩ = false ∧ w.heap.size + 1 < w1.heap.size := by
 have h2 := Nr.new1 h
 rw [Nr.asz] at h2
 refine ⟨Nr.new1 (Nr.unalloc h), h2⟩
theorem Nr.exSH {W w' : World} {b : Nat} {v : Value} (q : W.cell? ⟨b, 0, none⟩ = some v) (z : b < W.heap.size) (hB : Below W.heap.size W w') :
  w'.cell? ⟨b, 0, none⟩ = some v ∧ W.heap.size ≤ w'.heap.size ∧ Below W.heap.size W w' :=
 ⟨((Nr.bcell hB).1 _ _ z).trans q, hB.size, hB⟩
theorem Nr.carry {X w1 w2 : World} {g : Nat} {v : Value} (hb : Below X.heap.size X w2) (hX : Below w1.heap.size w1 X) (h : w1.cell? ⟨g, 0, none⟩ = some v ∧ w1.frozen? ⟨g, 0, none⟩ = false ∧ g < w1.heap.size) :
  w2.cell? ⟨g, 0, none⟩ = some v ∧ w2.frozen? ⟨g, 0, none⟩ = false ∧ g < w2.heap.size := by
 have h2 := below_step hX hb
 exact ⟨((Nr.bcell h2).1 _ _ h.2.2).trans h.1, ((Nr.bcell h2).2 _ _ h.2.2).trans h.2.1, Nat.lt_of_lt_of_le h.2.2 h2.size⟩
theorem r1_Half.calls (k : Nat) (A0_0 : Option Addr) (c0_0 : Nat) (l0_0 : List Int) (a1 : Int) (r1 : List Int) (r2 : Bool) (w : World) (hr0_0 : Kd.C (Kd.int .u64) w A0_0 l0_0.length l0_0) (hc0_0 : l0_0.length ≤ c0_0) (h : r1_Half.f k l0_0 a1 = some (r1, r2)) :
  Calls Tryd.prog 98 #[.agg #[.slice A0_0 l0_0.length c0_0], .int .i64 a1] w fun e w' => ∃ v0_ : Value, e = .returned (.tuple #[.agg #[v0_], .bool r2]) ∧ Kd.R (Kd.int .u64) 22 w' w.heap.size (fun _ => True) v0_ r1 ∧ Below w.heap.size w w' := by
 obtain ⟨t0, B0, H⟩ := ob_ h
 obtain ⟨t1, B1, H⟩ := ob_ H
 obtain ⟨⟨q, rest⟩, B2, H⟩ := ob_ H
 have T0 := A_ B0;have T1 := A_ B1;have T2 := A_ B2
 simp only [Option.some.injEq, Prod.mk.injEq] at H
 obtain ⟨rfl, hr⟩ := H
 have na := Nr.Nr.of_C hc0_0 hr0_0
 have hr' := A_ hr
 clear h B0 B1 B2 hr0_0 hr hc0_0
 go_enter Tryd.func98, Tryd.ntmps98
 go_upto_region 1 with fail
 have x0 : ((w.alloc (.cells #[.slice A0_0 l0_0.length c0_0] 67 (0, 0))).alloc (.cells #[.slice none 0 0] 67 (0, 0))).cell? ⟨w.heap.size, 0, none⟩ = some (.slice A0_0 l0_0.length c0_0) := by simp [go_sem, World.cell?_alloc_past]
 have x1 : ((w.alloc (.cells #[.slice A0_0 l0_0.length c0_0] 67 (0, 0))).alloc (.cells #[.slice none 0 0] 67 (0, 0))).cell? ⟨w.heap.size + 1, 0, none⟩ = some (.slice none 0 0) := by simp [go_sem, World.cell?_alloc_past]
 have x2 : ((w.alloc (.cells #[.slice A0_0 l0_0.length c0_0] 67 (0, 0))).alloc (.cells #[.slice none 0 0] 67 (0, 0))).frozen? ⟨w.heap.size + 1, 0, none⟩ = false := by simp [go_sem, World.cell?_alloc_past]
 have x3 : w.heap.size + 1 < ((w.alloc (.cells #[.slice A0_0 l0_0.length c0_0] 67 (0, 0))).alloc (.cells #[.slice none 0 0] 67 (0, 0))).heap.size := by simp [go_sem]
 replace na := Nr.Nr.alloc (Nr.Nr.alloc na (.cells #[.slice A0_0 l0_0.length c0_0] 67 (0, 0))) (.cells #[.slice none 0 0] 67 (0, 0))
 have bl : Below w.heap.size w ((w.alloc (.cells #[.slice A0_0 l0_0.length c0_0] 67 (0, 0))).alloc (.cells #[.slice none 0 0] 67 (0, 0))) := below_alloc (below_alloc (Below.refl _ _) _) _
 generalize hW : (w.alloc (.cells #[.slice A0_0 l0_0.length c0_0] 67 (0, 0))).alloc (.cells #[.slice none 0 0] 67 (0, 0)) = W at x0 x1 x2 x3 na bl ⊢
 clear hW
 have x4 : w.heap.size < W.heap.size := by omega
 go_cut [6, 7] (fun s6 s7 wx => ∃ (g h : Nat) (Aq Ar : Option Addr) (cq cr : Nat), s6 = .pointer (some ⟨g, 0, none⟩) ∧ s7 = .pointer (some ⟨h, 0, none⟩) ∧ W.heap.size ≤ g ∧ W.heap.size ≤ h ∧ wx.cell? ⟨g, 0, none⟩ = some (.slice Aq q.length cq) ∧ wx.cell? ⟨h, 0, none⟩ = some (.slice Ar rest.length cr) ∧ Nr.Ow 22 W.heap.size wx (.slice Aq q.length cq) q ∧ Below W.heap.size W wx)
 case first =>
  go_region_held3 (fun w' => w'.cell? ⟨w.heap.size, 0, none⟩ = some (.slice A0_0 l0_0.length c0_0) ∧ W.heap.size ≤ w'.heap.size ∧ Below W.heap.size W w')
   (((try go_split_ands); (try dsimp only); refine Nr.exSH x0 x4 ?_; (repeat (first | assumption | exact BW3.out | exact BW2.out | exact BW1.out | exact Below.refl _ _ | apply below_drew1 | apply below_alloc | (refine below_set ?_ (by first | omega | (simp [go_sem]; omega))))); done))
   (first
    | (go_at_call 57; refine (Nr.of k 1 t0 _ T0.out).mono ?_; rintro e w1 ⟨At, ct, rfl, ot, hb⟩; (try go_split_ands); have BW1 := A_ (show Below W.heap.size W w1 from below_step (by first | assumption | exact Below.refl _ _) hb); have z1 := BW1.out.size; (try replace hb := Nr.undrew hb); (first | (have N2 := Nr.new2 hb; have ta := A_ N2.1; have tb := A_ N2.2; clear N2) | have ta := A_ (Nr.new1 hb) | skip); (try have y1 := ta.out.2.2); have n0 := A_ ot.nr)
    | (go_at_call 60; refine (Nr.shl k _ t0 a1 t1 _ (by repeat (first | exact n0.out | apply Nr.Nr.alloc | apply Nr.Nr.drew)) T1.out).mono ?_; rintro e w2 ⟨As, cs, rfl, os, hb⟩; (try go_split_ands); have BW2 := A_ (show Below W.heap.size W w2 from below_step (by first | assumption | exact BW1.out) hb); have z2 := BW2.out.size; (try replace ta := A_ (Nr.carry (w1 := w1) hb (by repeat (first | exact Below.refl _ _ | apply below_drew1 | apply below_alloc)) ta.out)); (try replace tb := A_ (Nr.carry (w1 := w1) hb (by repeat (first | exact Below.refl _ _ | apply below_drew1 | apply below_alloc)) tb.out)); (first | (have N2 := Nr.new2 hb; have ua := A_ N2.1; have ub := A_ N2.2; clear N2) | have ua := A_ (Nr.new1 hb) | skip); (try have y2 := ta.out.2.2); (try have y3 := ua.out.2.2); (try have y4 := ub.out.2.2); (try have y5 := tb.out.2.2); have n1 := A_ os.nr)
    | (go_at_call 110; (try go_split_ands); refine (Nr.div k _ _ l0_0 t1 q rest _ (Nr.Nr.below na (by first | assumption | exact BW2.out)) (by repeat (first | exact n1.out | apply Nr.Nr.alloc | apply Nr.Nr.drew)) T2.out).mono ?_; rintro e w3 ⟨Aq, cq, Ar, cr, rfl, oq, nr, hb⟩; have BW3 := A_ (show Below W.heap.size W w3 from below_step (by first | assumption | exact BW2.out) hb); have z3 := BW3.out.size; (try replace ta := A_ (Nr.carry (w1 := w2) hb (by repeat (first | exact Below.refl _ _ | apply below_drew1 | apply below_alloc)) ta.out)); (try replace tb := A_ (Nr.carry (w1 := w2) hb (by repeat (first | exact Below.refl _ _ | apply below_drew1 | apply below_alloc)) tb.out)); (try replace ua := A_ (Nr.carry (w1 := w2) hb (by repeat (first | exact Below.refl _ _ | apply below_drew1 | apply below_alloc)) ua.out)); (try replace ub := A_ (Nr.carry (w1 := w2) hb (by repeat (first | exact Below.refl _ _ | apply below_drew1 | apply below_alloc)) ub.out)); (first | (have N2 := Nr.new2 hb; have va := A_ N2.1; have vb := A_ N2.2; clear N2) | have va := A_ (Nr.new1 hb) | skip); (try have i1 := ta.out.1); (try have i2 := ta.out.2.1); (try have i3 := ta.out.2.2); (try have j1 := tb.out.1); (try have j2 := tb.out.2.1); (try have j3 := tb.out.2.2); (try have k1 := ua.out.1); (try have k2 := ua.out.2.1); (try have k3 := ua.out.2.2); (try have l1 := ub.out.1); (try have l2 := ub.out.2.1); (try have l3 := ub.out.2.2); (try have m1 := va.out.1); (try have m2 := va.out.2.1); (try have m3 := va.out.2.2); (try have p1 := vb.out.1); (try have p2 := vb.out.2.1); (try have p3 := vb.out.2.2); (try have d1 : ¬ (W.heap.size = w1.heap.size) := by omega); (try have d2 : ¬ (w1.heap.size = W.heap.size) := by omega); (try have d3 : ¬ (W.heap.size = w2.heap.size) := by omega); (try have d4 : ¬ (w2.heap.size = W.heap.size) := by omega); (try have d5 : ¬ (w1.heap.size = w2.heap.size) := by omega); (try have d6 : ¬ (w2.heap.size = w1.heap.size) := by omega); have n2 := A_ oq; have n3 := A_ nr))
  all_goals (go_wp2_with fail; go_meet)
  all_goals (
   refine ⟨_, _, Aq, Ar, cq, cr, rfl, rfl, ?_, ?_, ?_, ?_, ?_, ?_⟩
   all_goals first
    | omega
    | (simp; done)
    | (simp; omega)
    | (go_simp; done)
    | (simp [go_sem, World.cell?_alloc_past, *]; done)
    | (repeat (first | exact (Nr.lower n2.out (by first | omega | (simp only [Nr.asz]; omega))) | apply Nr.Ow.alloc | (refine Nr.Ow.set ?_ _ (fun e => by have h6 := Kd.R_base n2.out.out _ e; (try dsimp only at h6); (try simp only [Nr.asz] at h6); omega))))
    | (repeat (first | exact BW3.out | apply below_drew1 | apply below_alloc | (refine below_set ?_ (by omega)))))
 case rest =>
  obtain ⟨g, h, Aq, Ar, cq, cr, rfl, rfl, hg, hh, cg, ch, ow, BW⟩ := hcut
  rename World => V
  have y1 := ((Nr.bcell BW).1 _ _ x3).trans x1
  have y2 := ((Nr.bcell BW).2 _ _ x3).trans x2
  have bl' := below_step bl BW
  have ow' := Nr.lower ow (b' := w.heap.size) (by omega)
  have ng : ¬ (g = w.heap.size + 1) := by omega
  have nh : ¬ (h = w.heap.size + 1) := by omega
  have ng' : ¬ (w.heap.size + 1 = g) := by omega
  have nh' : ¬ (w.heap.size + 1 = h) := by omega
  have hr2 : decide (0 < (rest.length : Int)) = r2 := by rw [← hr'.out]
  clear na x0 x1 x2 BW
  go_step
  go_upto_region 2 with fail
  go_region
  go_wp2
  have hr3 : decide (0 < rest.length) = r2 := by rw [← hr2]; simp
  have e2 := World.cell?_setCell_same _ _ (.slice Aq q.length cq) y1
  have ow2 := Nr.Ow.drew (Nr.Ow.set ow' (p := ⟨w.heap.size + 1, 0, none⟩) (.slice Aq q.length cq) (fun e => by have h6 : _ ≤ w.heap.size + 1 := Kd.R_base ow.out _ e; omega))
  exact bodyPost_ret (v := .tuple #[.agg #[.slice Aq q.length cq], .bool r2]) (by simp [results, Tryd.results98, go_sem, e2, hr3]) rfl ⟨_, rfl, Nr.Rok ow2.out (Nat.le_refl _) (fun _ _ _ _ => trivial), below_drew1 (below_set bl' (by omega))⟩
def r3_Low.f (a0 : Int) : Option (Int) := (r2_B.f a0).bind fun t365 => ((r2_F.f a0).bind fun t366 => (some (wrap64 ((wrap64 (1 - t365)) - t366))))
theorem r3_Low.calls (a0 : Int) (r : Int) (w : World) (h : r3_Low.f a0 = some r) :
  Calls Tryd.prog 95 #[.int .i64 a0] w fun e w' => e = .returned (.int .i64 r) ∧ Drawn0 w w' := by
 have H : ((r2_B.f a0).bind fun t365 => ((r2_F.f a0).bind fun t366 => (some (wrap64 ((wrap64 (1 - t365)) - t366))))) = some r := h
 clear h
 replace H := ob_ H
 obtain ⟨t365, A20, H⟩ := H
 replace H : ((r2_F.f a0).bind fun t366 => (some (wrap64 ((wrap64 (1 - t365)) - t366)))) = some r := H
 have A2 := A_ A20;clear A20
 replace H := ob_ H
 obtain ⟨t366, A30, H⟩ := H
 replace H : (some (wrap64 ((wrap64 (1 - t365)) - t366))) = some r := H
 have A3 := A_ A30;clear A30
 obtain rfl := Option.some.inj H
 go_enter Tryd.func95, Tryd.ntmps95
 go_wp2_with (first | ((with_reducible refine gate_callee (f := 80) rfl ?_); refine goesL_ (some 4) rfl rfl Tryd.func80 (by kernel_rfl) rfl #[.int .i64 a0] rfl mp_ ?_; (with_reducible refine (r2_B.calls a0 t365 _ A2.out).mono ?_); rintro e w' ⟨rfl, ⟨nd, rfl⟩⟩; refine ⟨_, rfl, ?_⟩) | ((with_reducible refine gate_callee (f := 81) rfl ?_); refine goesL_ (some 7) rfl rfl Tryd.func81 (by kernel_rfl) rfl #[.int .i64 a0] rfl mp_ ?_; (with_reducible refine (r2_F.calls a0 t366 _ A3.out).mono ?_); rintro e w' ⟨rfl, ⟨nd, rfl⟩⟩; refine ⟨_, rfl, ?_⟩))
 go_ret
 exact ⟨sm_, by repeat (first | exact Drawn0.refl _ | apply Drawn0.step)⟩
end Go.Proofs.YthdeeoallfbjmaaDoor.PA
