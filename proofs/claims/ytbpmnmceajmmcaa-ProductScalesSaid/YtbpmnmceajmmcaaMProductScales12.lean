/- What the Go functions that the statement ProductScales reaches compute, and the mathematics on it, in the order in which one leans on the other; for every input. -/
import Derived.Test.YtbpmnmceajmmcaaVProductScales0
import Derived.Test.YtbpmnmceajmmcaaMProductScales0
import Derived.Test.YtbpmnmceajmmcaaMProductScales5
import Derived.Test.YtbpmnmceajmmcaaMProductScales4
import Derived.Test.YtbpmnmceajmmcaaMProductScales9
import Derived.Test.YtbpmnmceajmmcaaMProductScales11
import Derived.Test.YtbpmnmceajmmcaaMProductScales3
namespace Go.Proofs.Ytbpmnmceajmmcaa.PA
open Go.RowKit Go.Proofs.YtbpmnmceajmmcaaW.PrintWords Go.Proofs.YtbpmnmceajmmcaaW.PrintLast Go.Proofs.YtbpmnmceajmmcaaW.PrintMore
attribute [local go_sem] max2_int min2_int max_two min_two max_three min_three max_four min_four   -- for this text's walks alone
set_option linter.unusedVariables false
set_option linter.unusedSimpArgs false
set_option maxHeartbeats 8000000
set_option maxRecDepth 100000
mutual
def r5_Mul.j0 : Nat → Int → Bool → Bool → Bool → Int → Int → Int → Bool → Int → Int → Int → Option (Int)
 | 0, _, _, _, _, _, _, _, _, _, _, _ => none
 | k + 1, x0, x9, x48, x557000, x557001, x557002, x557003, x562000, x562001, x562002, x562003 => if x48 = true then ((r2_Nan.f k x0).bind fun t562 => (some t562)) else (if x557001 = 2 then (r5_Mul.j1 k x0 x9 true x557000 x557001 x557002 x557003 x562000 x562001 x562002 x562003) else (r5_Mul.j1 k x0 x9 (x562001 == 2) x557000 x557001 x557002 x557003 x562000 x562001 x562002 x562003))
def r5_Mul.j1 : Nat → Int → Bool → Bool → Bool → Int → Int → Int → Bool → Int → Int → Int → Option (Int)
 | 0, _, _, _, _, _, _, _, _, _, _, _ => none
 | k + 1, x0, x9, x58, x557000, x557001, x557002, x557003, x562000, x562001, x562002, x562003 => if x58 = true then ((r2_Inf.f k x0 x9).bind fun t563 => (some t563)) else ((r1_Of.f k x557003).bind fun t564 => ((r1_Of.f k x562003).bind fun t567 => ((r1_Mul.f k t564 t567).bind fun t570 => ((r3_Exact.f k x0 x9 t570 (wrap64 (x557002 + x562002))).bind fun t573 => (some t573)))))
end
def r5_Mul.f (k : Nat) (a0 : Int) (a1 : Int) (a2 : Int) : Option (Int) := (r2_Open.f k a0 a1).bind fun bt552 => ((r2_Open.f k a0 a2).bind fun bt557 => (if bt552.2.1 = 3 then (r5_Mul.j0 k a0 (bt552.1 != bt557.1) true bt552.1 bt552.2.1 bt552.2.2.1 bt552.2.2.2 bt557.1 bt557.2.1 bt557.2.2.1 bt557.2.2.2) else (if bt557.2.1 = 3 then (r5_Mul.j0 k a0 (bt552.1 != bt557.1) true bt552.1 bt552.2.1 bt552.2.2.1 bt552.2.2.2 bt557.1 bt557.2.1 bt557.2.2.1 bt557.2.2.2) else (if bt552.2.1 = 2 then (if bt557.2.1 = 0 then (r5_Mul.j0 k a0 (bt552.1 != bt557.1) true bt552.1 bt552.2.1 bt552.2.2.1 bt552.2.2.2 bt557.1 bt557.2.1 bt557.2.2.1 bt557.2.2.2) else (if bt552.2.1 = 0 then (r5_Mul.j0 k a0 (bt552.1 != bt557.1) (bt557.2.1 == 2) bt552.1 bt552.2.1 bt552.2.2.1 bt552.2.2.2 bt557.1 bt557.2.1 bt557.2.2.1 bt557.2.2.2) else (r5_Mul.j0 k a0 (bt552.1 != bt557.1) false bt552.1 bt552.2.1 bt552.2.2.1 bt552.2.2.2 bt557.1 bt557.2.1 bt557.2.2.1 bt557.2.2.2))) else (if bt552.2.1 = 0 then (r5_Mul.j0 k a0 (bt552.1 != bt557.1) (bt557.2.1 == 2) bt552.1 bt552.2.1 bt552.2.2.1 bt552.2.2.2 bt557.1 bt557.2.1 bt557.2.2.1 bt557.2.2.2) else (r5_Mul.j0 k a0 (bt552.1 != bt557.1) false bt552.1 bt552.2.1 bt552.2.2.1 bt552.2.2.2 bt557.1 bt557.2.1 bt557.2.2.1 bt557.2.2.2))))))
theorem r5_Mul.mono_l : ∀ k, (∀ y0 y1 y2 y3 y4 y5 y6 y7 y8 y9 y10, LeO (r5_Mul.j0 k y0 y1 y2 y3 y4 y5 y6 y7 y8 y9 y10) (r5_Mul.j0 (k + 1) y0 y1 y2 y3 y4 y5 y6 y7 y8 y9 y10)) ∧ (∀ y0 y1 y2 y3 y4 y5 y6 y7 y8 y9 y10, LeO (r5_Mul.j1 k y0 y1 y2 y3 y4 y5 y6 y7 y8 y9 y10) (r5_Mul.j1 (k + 1) y0 y1 y2 y3 y4 y5 y6 y7 y8 y9 y10))
 | 0 => ⟨fun _ _ _ _ _ _ _ _ _ _ _ r h => by simp [r5_Mul.j0] at h, fun _ _ _ _ _ _ _ _ _ _ _ r h => by simp [r5_Mul.j1] at h⟩
 | k + 1 => by
  obtain ⟨ih0, ih1⟩ := r5_Mul.mono_l k
  refine ⟨?_, ?_⟩
  ·intro y0 y1 y2 y3 y4 y5 y6 y7 y8 y9 y10
   unfold r5_Mul.j0
   repeat' first
   | (with_reducible exact ih0 _ _ _ _ _ _ _ _ _ _ _)
   | (with_reducible exact ih1 _ _ _ _ _ _ _ _ _ _ _)
   | (with_reducible exact r1_Mul.mono _ _ _)
   | (with_reducible exact r1_Of.mono _ _)
   | (with_reducible exact r2_Inf.mono _ _ _)
   | (with_reducible exact r2_Nan.mono _ _)
   | (with_reducible exact r2_Open.mono _ _ _)
   | (with_reducible exact r3_Exact.mono _ _ _ _ _)
   | (with_reducible exact LeO.refl _)
   | (with_reducible exact LeO.none _)
   | (with_reducible refine LeO.ite ?_ ?_)
   | (with_reducible refine LeO.bind ?_ (fun _ => ?_))
   | exact ih0 _ _ _ _ _ _ _ _ _ _ _
   | exact ih1 _ _ _ _ _ _ _ _ _ _ _
   | exact r1_Mul.mono _ _ _
   | exact r1_Of.mono _ _
   | exact r2_Inf.mono _ _ _
   | exact r2_Nan.mono _ _
   | exact r2_Open.mono _ _ _
   | exact r3_Exact.mono _ _ _ _ _
   | exact LeO.none _
   | refine LeO.ite ?_ ?_
   | refine LeO.bind ?_ (fun _ => ?_)
  ·intro y0 y1 y2 y3 y4 y5 y6 y7 y8 y9 y10
   unfold r5_Mul.j1
   repeat' first
   | (with_reducible exact ih0 _ _ _ _ _ _ _ _ _ _ _)
   | (with_reducible exact ih1 _ _ _ _ _ _ _ _ _ _ _)
   | (with_reducible exact r1_Mul.mono _ _ _)
   | (with_reducible exact r1_Of.mono _ _)
   | (with_reducible exact r2_Inf.mono _ _ _)
   | (with_reducible exact r2_Nan.mono _ _)
   | (with_reducible exact r2_Open.mono _ _ _)
   | (with_reducible exact r3_Exact.mono _ _ _ _ _)
   | (with_reducible exact LeO.refl _)
   | (with_reducible exact LeO.none _)
   | (with_reducible refine LeO.ite ?_ ?_)
   | (with_reducible refine LeO.bind ?_ (fun _ => ?_))
   | exact ih0 _ _ _ _ _ _ _ _ _ _ _
   | exact ih1 _ _ _ _ _ _ _ _ _ _ _
   | exact r1_Mul.mono _ _ _
   | exact r1_Of.mono _ _
   | exact r2_Inf.mono _ _ _
   | exact r2_Nan.mono _ _
   | exact r2_Open.mono _ _ _
   | exact r3_Exact.mono _ _ _ _ _
   | exact LeO.none _
   | refine LeO.ite ?_ ?_
   | refine LeO.bind ?_ (fun _ => ?_)
theorem r5_Mul.mono : ∀ a0 a1 a2 k, LeO (r5_Mul.f k a0 a1 a2) (r5_Mul.f (k + 1) a0 a1 a2) := by
 intro a0 a1 a2 k
 obtain ⟨ih0, ih1⟩ := r5_Mul.mono_l k
 unfold r5_Mul.f
 repeat' first
   | (with_reducible exact ih0 _ _ _ _ _ _ _ _ _ _ _)
   | (with_reducible exact ih1 _ _ _ _ _ _ _ _ _ _ _)
   | (with_reducible exact r1_Mul.mono _ _ _)
   | (with_reducible exact r1_Of.mono _ _)
   | (with_reducible exact r2_Inf.mono _ _ _)
   | (with_reducible exact r2_Nan.mono _ _)
   | (with_reducible exact r2_Open.mono _ _ _)
   | (with_reducible exact r3_Exact.mono _ _ _ _ _)
   | (with_reducible exact LeO.refl _)
   | (with_reducible exact LeO.none _)
   | (with_reducible refine LeO.ite ?_ ?_)
   | (with_reducible refine LeO.bind ?_ (fun _ => ?_))
   | exact ih0 _ _ _ _ _ _ _ _ _ _ _
   | exact ih1 _ _ _ _ _ _ _ _ _ _ _
   | exact r1_Mul.mono _ _ _
   | exact r1_Of.mono _ _
   | exact r2_Inf.mono _ _ _
   | exact r2_Nan.mono _ _
   | exact r2_Open.mono _ _ _
   | exact r3_Exact.mono _ _ _ _ _
   | exact LeO.none _
   | refine LeO.ite ?_ ?_
   | refine LeO.bind ?_ (fun _ => ?_)
def r5_Mul.T8 : Bool × List (List Nat × List Nat) := (true, [([], []), ([], []), ([], []), ([2], [2]), ([3], [3]), ([], []), ([5], [5]), ([6, 4], [6]), ([4, 7, 7], [4, 7]), ([], []), ([9], [9]), ([], []), ([11], [11]), ([10, 12], [10, 12]), ([0, 1, 8, 13, 8], [0, 1, 8, 13]), ([14, 14, 0, 1, 2, 3, 4, 5, 6, 7, 8, 9, 10, 11, 12, 13, 14], [14])])
def r5_Mul.B8 : List Nat := [0, 0, 0, 4, 12, 0, 32, 124, 252, 0, 512, 0, 2048, 7680, 16383, 32767]
theorem r5_Mul.tab8 : rtab .any (opsOf Try.f24 8) = r5_Mul.T8 := by kernel_rfl
theorem r5_Mul.bits8 : waitsOk r5_Mul.T8.2 r5_Mul.B8 = true := by kernel_rfl
theorem r5_Mul.calls (k : Nat) (a0 : Int) (a1 : Int) (a2 : Int) (r : Int) (w : World) (h : r5_Mul.f k a0 a1 a2 = some r) :
  Calls Try.prog 24 #[.int .i64 a0, .int .u64 a1, .int .u64 a2] w fun e w' => e = .returned (.int .u64 r) ∧ Below w.heap.size w w' := by
 have hu57 := Try.underlying57
 have HB := A_ (Below.refl w.heap.size w)
 have H : ((r2_Open.f k a0 a1).bind fun bt552 => ((r2_Open.f k a0 a2).bind fun bt557 => (if bt552.2.1 = 3 then (r5_Mul.j0 k a0 (bt552.1 != bt557.1) true bt552.1 bt552.2.1 bt552.2.2.1 bt552.2.2.2 bt557.1 bt557.2.1 bt557.2.2.1 bt557.2.2.2) else (if bt557.2.1 = 3 then (r5_Mul.j0 k a0 (bt552.1 != bt557.1) true bt552.1 bt552.2.1 bt552.2.2.1 bt552.2.2.2 bt557.1 bt557.2.1 bt557.2.2.1 bt557.2.2.2) else (if bt552.2.1 = 2 then (if bt557.2.1 = 0 then (r5_Mul.j0 k a0 (bt552.1 != bt557.1) true bt552.1 bt552.2.1 bt552.2.2.1 bt552.2.2.2 bt557.1 bt557.2.1 bt557.2.2.1 bt557.2.2.2) else (if bt552.2.1 = 0 then (r5_Mul.j0 k a0 (bt552.1 != bt557.1) (bt557.2.1 == 2) bt552.1 bt552.2.1 bt552.2.2.1 bt552.2.2.2 bt557.1 bt557.2.1 bt557.2.2.1 bt557.2.2.2) else (r5_Mul.j0 k a0 (bt552.1 != bt557.1) false bt552.1 bt552.2.1 bt552.2.2.1 bt552.2.2.2 bt557.1 bt557.2.1 bt557.2.2.1 bt557.2.2.2))) else (if bt552.2.1 = 0 then (r5_Mul.j0 k a0 (bt552.1 != bt557.1) (bt557.2.1 == 2) bt552.1 bt552.2.1 bt552.2.2.1 bt552.2.2.2 bt557.1 bt557.2.1 bt557.2.2.1 bt557.2.2.2) else (r5_Mul.j0 k a0 (bt552.1 != bt557.1) false bt552.1 bt552.2.1 bt552.2.2.1 bt552.2.2.2 bt557.1 bt557.2.1 bt557.2.2.1 bt557.2.2.2))))))) = some r := h
 clear h
 replace H := ob_ H
 obtain ⟨⟨t552, t553, t554, t555⟩, A40, H⟩ := H
 replace H : ((r2_Open.f k a0 a2).bind fun bt557 => (if t553 = 3 then (r5_Mul.j0 k a0 (t552 != bt557.1) true t552 t553 t554 t555 bt557.1 bt557.2.1 bt557.2.2.1 bt557.2.2.2) else (if bt557.2.1 = 3 then (r5_Mul.j0 k a0 (t552 != bt557.1) true t552 t553 t554 t555 bt557.1 bt557.2.1 bt557.2.2.1 bt557.2.2.2) else (if t553 = 2 then (if bt557.2.1 = 0 then (r5_Mul.j0 k a0 (t552 != bt557.1) true t552 t553 t554 t555 bt557.1 bt557.2.1 bt557.2.2.1 bt557.2.2.2) else (if t553 = 0 then (r5_Mul.j0 k a0 (t552 != bt557.1) (bt557.2.1 == 2) t552 t553 t554 t555 bt557.1 bt557.2.1 bt557.2.2.1 bt557.2.2.2) else (r5_Mul.j0 k a0 (t552 != bt557.1) false t552 t553 t554 t555 bt557.1 bt557.2.1 bt557.2.2.1 bt557.2.2.2))) else (if t553 = 0 then (r5_Mul.j0 k a0 (t552 != bt557.1) (bt557.2.1 == 2) t552 t553 t554 t555 bt557.1 bt557.2.1 bt557.2.2.1 bt557.2.2.2) else (r5_Mul.j0 k a0 (t552 != bt557.1) false t552 t553 t554 t555 bt557.1 bt557.2.1 bt557.2.2.1 bt557.2.2.2)))))) = some r := H
 have A4 := A_ A40;clear A40
 replace H := ob_ H
 obtain ⟨⟨t557, t558, t559, t560⟩, A50, H⟩ := H
 replace H : (if t553 = 3 then (r5_Mul.j0 k a0 (t552 != t557) true t552 t553 t554 t555 t557 t558 t559 t560) else (if t558 = 3 then (r5_Mul.j0 k a0 (t552 != t557) true t552 t553 t554 t555 t557 t558 t559 t560) else (if t553 = 2 then (if t558 = 0 then (r5_Mul.j0 k a0 (t552 != t557) true t552 t553 t554 t555 t557 t558 t559 t560) else (if t553 = 0 then (r5_Mul.j0 k a0 (t552 != t557) (t558 == 2) t552 t553 t554 t555 t557 t558 t559 t560) else (r5_Mul.j0 k a0 (t552 != t557) false t552 t553 t554 t555 t557 t558 t559 t560))) else (if t553 = 0 then (r5_Mul.j0 k a0 (t552 != t557) (t558 == 2) t552 t553 t554 t555 t557 t558 t559 t560) else (r5_Mul.j0 k a0 (t552 != t557) false t552 t553 t554 t555 t557 t558 t559 t560))))) = some r := H
 have A5 := A_ A50;clear A50;have HC6 := A_ H;clear H
 go_enter Try.func24, Try.ntmps24
 go_upto_region 4 with (first | ((with_reducible refine gate_callee (f := 48) rfl ?_); refine gl_ (some 12) Try.func48 #[.int .i64 a0, .int .u64 a1] ?_; (with_reducible refine (r2_Open.calls k a0 a1 t552 t553 t554 t555 _ A4.out).mono ?_); rintro e w7 ⟨rfl, hb⟩; refine ⟨_, rfl, ?_⟩; have n0_ := A_ (below_step (hb_ HB.out) hb); clear HB; have HB := n0_; clear n0_; (try clear hb); (try clear hb2); (try clear hk); (try clear hi)) | ((with_reducible refine gate_dst (N := 7) rfl ?_); refine be_ 7 #[.bool false, .int .i64 0, .int .i64 0, .int .u64 0] 57 ?_; intro gb556 hg w8 hbox hb; have n0_ := A_ (below_step (hb_ HB.out) hb); have n1_ := A_ (hbox); have n2_ := A_ (sz_ hg (hb_ HB.out)); have n3_ := A_ (sz_ hg (hb_ HB.out)); clear HB; have HB := n0_; have BK556 := n1_; have GW556 := n2_; have GE556 := n3_; clear n0_ n1_ n2_ n3_; clear hb hbox hg; have hcz9_0 : w8.cell? ⟨gb556, 0, none⟩ = some (.bool false) := bc_ BK556.out 0; have hcz9_1 : w8.cell? ⟨gb556, 1, none⟩ = some (.int .i64 0) := bc_ BK556.out 1; have hcz9_2 : w8.cell? ⟨gb556, 2, none⟩ = some (.int .i64 0) := bc_ BK556.out 2; have hcz9_3 : w8.cell? ⟨gb556, 3, none⟩ = some (.int .u64 0) := bc_ BK556.out 3; have hfz9_0 := blk_frozen BK556.out 0; have hfz9_1 := blk_frozen BK556.out 1; have hfz9_2 := blk_frozen BK556.out 2; have hfz9_3 := blk_frozen BK556.out 3) | ((with_reducible refine gate_callee (f := 48) rfl ?_); refine gl_ (some 15) Try.func48 #[.int .i64 a0, .int .u64 a2] ?_; (with_reducible refine (r2_Open.calls k a0 a2 t557 t558 t559 t560 _ A5.out).mono ?_); rintro e w10 ⟨rfl, hb⟩; refine ⟨_, rfl, ?_⟩; have n0_ := A_ (blk_below (g := gb556) (o := .cells #[.bool t552, .int .i64 t553, .int .i64 t554, .int .u64 t555] 57 (0, 0)) (by (with_reducible repeat (first | refine blk_drewN ?_ _ | refine blk_drew ?_ | refine blk_alloc ?_ _)); refine blk_put (cs := #[.bool t552, .int .i64 t553, .int .i64 t554, .int .u64 0]) ?_ 3 _ rfl; (with_reducible repeat (first | refine blk_drewN ?_ _ | refine blk_drew ?_ | refine blk_alloc ?_ _)); refine blk_put (cs := #[.bool t552, .int .i64 t553, .int .i64 0, .int .u64 0]) ?_ 2 _ rfl; (with_reducible repeat (first | refine blk_drewN ?_ _ | refine blk_drew ?_ | refine blk_alloc ?_ _)); refine blk_put (cs := #[.bool t552, .int .i64 0, .int .i64 0, .int .u64 0]) ?_ 1 _ rfl; (with_reducible repeat (first | refine blk_drewN ?_ _ | refine blk_drew ?_ | refine blk_alloc ?_ _)); refine blk_put (cs := #[.bool false, .int .i64 0, .int .i64 0, .int .u64 0]) ?_ 0 _ rfl; (with_reducible repeat (first | refine blk_drewN ?_ _ | refine blk_drew ?_ | refine blk_alloc ?_ _)); exact BK556.out) hb); have n1_ := A_ (below_step (hb1_ HB.out GE556.out) hb); clear BK556; clear HB; have BK556 := n0_; have HB := n1_; clear n0_ n1_; (try clear hb); (try clear hb2); (try clear hk); (try clear hi)) | ((with_reducible refine gate_dst (N := 8) rfl ?_); refine be_ 8 #[.bool false, .int .i64 0, .int .i64 0, .int .u64 0] 57 ?_; intro gb561 hg w11 hbox hb; have n0_ := A_ (bb_ BK556.out hb); have n1_ := A_ (below_step (hb1_ HB.out GE556.out) hb); have n2_ := A_ (hbox); have n3_ := A_ (sz_ hg (hb1_ HB.out GE556.out)); have n4_ := A_ (sz_ hg (hb1_ HB.out GE556.out)); have n5_ := A_ (nl_ hg BK556.out); have n6_ := A_ (ng_ hg BK556.out); clear BK556; clear HB; have BK556 := n0_; have HB := n1_; have BK561 := n2_; have GW561 := n3_; have GE561 := n4_; have NB556_561 := n5_; have NB561_556 := n6_; clear n0_ n1_ n2_ n3_ n4_ n5_ n6_; clear hb hbox hg; have hnb12 := NB561_556.out; have hnc12 := NB556_561.out; have hcz13_0 : w11.cell? ⟨gb561, 0, none⟩ = some (.bool false) := bc_ BK561.out 0; have hcz13_1 : w11.cell? ⟨gb561, 1, none⟩ = some (.int .i64 0) := bc_ BK561.out 1; have hcz13_2 : w11.cell? ⟨gb561, 2, none⟩ = some (.int .i64 0) := bc_ BK561.out 2; have hcz13_3 : w11.cell? ⟨gb561, 3, none⟩ = some (.int .u64 0) := bc_ BK561.out 3; have hfz13_0 := blk_frozen BK561.out 0; have hfz13_1 := blk_frozen BK561.out 1; have hfz13_2 := blk_frozen BK561.out 2; have hfz13_3 := blk_frozen BK561.out 3; have hcz14_0 : w11.cell? ⟨gb556, 0, none⟩ = some (.bool t552) := bc_ BK556.out 0; have hcz14_1 : w11.cell? ⟨gb556, 1, none⟩ = some (.int .i64 t553) := bc_ BK556.out 1; have hcz14_2 : w11.cell? ⟨gb556, 2, none⟩ = some (.int .i64 t554) := bc_ BK556.out 2; have hcz14_3 : w11.cell? ⟨gb556, 3, none⟩ = some (.int .u64 t555) := bc_ BK556.out 3; have hfz14_0 := blk_frozen BK556.out 0; have hfz14_1 := blk_frozen BK556.out 1; have hfz14_2 := blk_frozen BK556.out 2; have hfz14_3 := blk_frozen BK556.out 3))
 (try simp only [Act.put, lI_, l0_, lS_])
 go_cut [48] (fun v48 wc => ∃ (kq : Nat) (x48_5 : Bool), v48 = .bool x48_5 ∧ Aside0 (r5_Mul.j0 kq a0 (t552 != t557) x48_5 t552 t553 t554 t555 t557 t558 t559 t560 = some r) ∧ Aside0 (kq ≤ k) ∧ Aside0 (wc.heap[gb556]? = some (.cells #[.bool t552, .int .i64 t553, .int .i64 t554, .int .u64 t555] 57 (0, 0))) ∧ Aside0 (wc.heap[gb561]? = some (.cells #[.bool t557, .int .i64 t558, .int .i64 t559, .int .u64 t560] 57 (0, 0))) ∧ Aside0 (Below w.heap.size w wc))
 case first =>
  have H := HC6.out
  clear HC6
  by_cases c15 : t553 = 3
  ·rw [if_pos c15] at H
   have c15b0 : (t553 == 3) = true := beq_iff_eq.mpr c15
   have c15b1 : (t553 != 3) = false := bne_eq_false_iff_eq.mpr c15
   clear c15
   (first | rw [c15b0] | (simp only [i64_w, i32_w]; rw [c15b0]) | skip)
   have H' := A_ H
   clear H
   have hnb16 := NB556_561.out
   have hnc16 := NB561_556.out
   have hcz17_0 : w11.cell? ⟨gb556, 0, none⟩ = some (.bool t552) := bc_ BK556.out 0
   have hcz17_1 : w11.cell? ⟨gb556, 1, none⟩ = some (.int .i64 t553) := bc_ BK556.out 1
   have hcz17_2 : w11.cell? ⟨gb556, 2, none⟩ = some (.int .i64 t554) := bc_ BK556.out 2
   have hcz17_3 : w11.cell? ⟨gb556, 3, none⟩ = some (.int .u64 t555) := bc_ BK556.out 3
   have hfz17_0 := blk_frozen BK556.out 0
   have hfz17_1 := blk_frozen BK556.out 1
   have hfz17_2 := blk_frozen BK556.out 2
   have hfz17_3 := blk_frozen BK556.out 3
   go_wp2
   go_meet
   case rel => exact ⟨_, (true), sm_, H', ⟨by first | omega | exact Nat.le_refl _⟩, ⟨bf4_ BK556.out NB556_561.out NB556_561.out NB556_561.out NB556_561.out⟩, ⟨by (with_reducible repeat (first | refine blk_drewN ?_ _ | refine blk_drew ?_ | refine blk_alloc ?_ _)); refine blk_put (cs := #[.bool t557, .int .i64 t558, .int .i64 t559, .int .u64 0]) ?_ 3 _ rfl; (with_reducible repeat (first | refine blk_drewN ?_ _ | refine blk_drew ?_ | refine blk_alloc ?_ _)); refine blk_put (cs := #[.bool t557, .int .i64 t558, .int .i64 0, .int .u64 0]) ?_ 2 _ rfl; (with_reducible repeat (first | refine blk_drewN ?_ _ | refine blk_drew ?_ | refine blk_alloc ?_ _)); refine blk_put (cs := #[.bool t557, .int .i64 0, .int .i64 0, .int .u64 0]) ?_ 1 _ rfl; (with_reducible repeat (first | refine blk_drewN ?_ _ | refine blk_drew ?_ | refine blk_alloc ?_ _)); refine blk_put (cs := #[.bool false, .int .i64 0, .int .i64 0, .int .u64 0]) ?_ 0 _ rfl; (with_reducible repeat (first | refine blk_drewN ?_ _ | refine blk_drew ?_ | refine blk_alloc ?_ _)); exact BK561.out⟩, ⟨hb2_ HB.out GE556.out GE561.out⟩⟩
  ·rw [if_neg c15] at H
   have c15b0 : (t553 == 3) = false := beq_eq_false_iff_ne.mpr c15
   have c15b1 : (t553 != 3) = true := bne_iff_ne.mpr c15
   (first | rw [c15b0] | (simp only [i64_w, i32_w]; rw [c15b0]) | skip)
   by_cases c18 : t558 = 3
   ·rw [if_pos c18] at H
    have c18b0 : (t558 == 3) = true := beq_iff_eq.mpr c18
    have c18b1 : (t558 != 3) = false := bne_eq_false_iff_eq.mpr c18
    clear c18
    have H' := A_ H
    clear H
    have hnb19 := NB556_561.out
    have hnc19 := NB561_556.out
    have hcz20_0 : w11.cell? ⟨gb556, 0, none⟩ = some (.bool t552) := bc_ BK556.out 0
    have hcz20_1 : w11.cell? ⟨gb556, 1, none⟩ = some (.int .i64 t553) := bc_ BK556.out 1
    have hcz20_2 : w11.cell? ⟨gb556, 2, none⟩ = some (.int .i64 t554) := bc_ BK556.out 2
    have hcz20_3 : w11.cell? ⟨gb556, 3, none⟩ = some (.int .u64 t555) := bc_ BK556.out 3
    have hfz20_0 := blk_frozen BK556.out 0
    have hfz20_1 := blk_frozen BK556.out 1
    have hfz20_2 := blk_frozen BK556.out 2
    have hfz20_3 := blk_frozen BK556.out 3
    have hcz21_0 : w11.cell? ⟨gb561, 0, none⟩ = some (.bool false) := bc_ BK561.out 0
    have hcz21_1 : w11.cell? ⟨gb561, 1, none⟩ = some (.int .i64 0) := bc_ BK561.out 1
    have hcz21_2 : w11.cell? ⟨gb561, 2, none⟩ = some (.int .i64 0) := bc_ BK561.out 2
    have hcz21_3 : w11.cell? ⟨gb561, 3, none⟩ = some (.int .u64 0) := bc_ BK561.out 3
    have hfz21_0 := blk_frozen BK561.out 0
    have hfz21_1 := blk_frozen BK561.out 1
    have hfz21_2 := blk_frozen BK561.out 2
    have hfz21_3 := blk_frozen BK561.out 3
    go_wp2
    go_meet
    case rel => exact ⟨_, (true), sm_, H', ⟨by first | omega | exact Nat.le_refl _⟩, ⟨bf4_ BK556.out NB556_561.out NB556_561.out NB556_561.out NB556_561.out⟩, ⟨by (with_reducible repeat (first | refine blk_drewN ?_ _ | refine blk_drew ?_ | refine blk_alloc ?_ _)); refine blk_put (cs := #[.bool t557, .int .i64 t558, .int .i64 t559, .int .u64 0]) ?_ 3 _ rfl; (with_reducible repeat (first | refine blk_drewN ?_ _ | refine blk_drew ?_ | refine blk_alloc ?_ _)); refine blk_put (cs := #[.bool t557, .int .i64 t558, .int .i64 0, .int .u64 0]) ?_ 2 _ rfl; (with_reducible repeat (first | refine blk_drewN ?_ _ | refine blk_drew ?_ | refine blk_alloc ?_ _)); refine blk_put (cs := #[.bool t557, .int .i64 0, .int .i64 0, .int .u64 0]) ?_ 1 _ rfl; (with_reducible repeat (first | refine blk_drewN ?_ _ | refine blk_drew ?_ | refine blk_alloc ?_ _)); refine blk_put (cs := #[.bool false, .int .i64 0, .int .i64 0, .int .u64 0]) ?_ 0 _ rfl; (with_reducible repeat (first | refine blk_drewN ?_ _ | refine blk_drew ?_ | refine blk_alloc ?_ _)); exact BK561.out⟩, ⟨hb2_ HB.out GE556.out GE561.out⟩⟩
   ·rw [if_neg c18] at H
    have c18b0 : (t558 == 3) = false := beq_eq_false_iff_ne.mpr c18
    have c18b1 : (t558 != 3) = true := bne_iff_ne.mpr c18
    by_cases c22 : t553 = 2
    ·rw [if_pos c22] at H
     have c22b0 : (t553 == 2) = true := beq_iff_eq.mpr c22
     have c22b1 : (t553 != 2) = false := bne_eq_false_iff_eq.mpr c22
     clear c22
     by_cases c23 : t558 = 0
     ·rw [if_pos c23] at H
      have c23b0 : (t558 == 0) = true := beq_iff_eq.mpr c23
      have c23b1 : (t558 != 0) = false := bne_eq_false_iff_eq.mpr c23
      clear c23
      have H' := A_ H
      clear H
      have hnb24 := NB556_561.out
      have hnc24 := NB561_556.out
      have hcz25_0 : w11.cell? ⟨gb556, 0, none⟩ = some (.bool t552) := bc_ BK556.out 0
      have hcz25_1 : w11.cell? ⟨gb556, 1, none⟩ = some (.int .i64 t553) := bc_ BK556.out 1
      have hcz25_2 : w11.cell? ⟨gb556, 2, none⟩ = some (.int .i64 t554) := bc_ BK556.out 2
      have hcz25_3 : w11.cell? ⟨gb556, 3, none⟩ = some (.int .u64 t555) := bc_ BK556.out 3
      have hfz25_0 := blk_frozen BK556.out 0
      have hfz25_1 := blk_frozen BK556.out 1
      have hfz25_2 := blk_frozen BK556.out 2
      have hfz25_3 := blk_frozen BK556.out 3
      have hcz26_0 : w11.cell? ⟨gb561, 0, none⟩ = some (.bool false) := bc_ BK561.out 0
      have hcz26_1 : w11.cell? ⟨gb561, 1, none⟩ = some (.int .i64 0) := bc_ BK561.out 1
      have hcz26_2 : w11.cell? ⟨gb561, 2, none⟩ = some (.int .i64 0) := bc_ BK561.out 2
      have hcz26_3 : w11.cell? ⟨gb561, 3, none⟩ = some (.int .u64 0) := bc_ BK561.out 3
      have hfz26_0 := blk_frozen BK561.out 0
      have hfz26_1 := blk_frozen BK561.out 1
      have hfz26_2 := blk_frozen BK561.out 2
      have hfz26_3 := blk_frozen BK561.out 3
      go_wp2
      go_meet
      case rel => exact ⟨_, (true), sm_, H', ⟨by first | omega | exact Nat.le_refl _⟩, ⟨bf4_ BK556.out NB556_561.out NB556_561.out NB556_561.out NB556_561.out⟩, ⟨by (with_reducible repeat (first | refine blk_drewN ?_ _ | refine blk_drew ?_ | refine blk_alloc ?_ _)); refine blk_put (cs := #[.bool t557, .int .i64 t558, .int .i64 t559, .int .u64 0]) ?_ 3 _ rfl; (with_reducible repeat (first | refine blk_drewN ?_ _ | refine blk_drew ?_ | refine blk_alloc ?_ _)); refine blk_put (cs := #[.bool t557, .int .i64 t558, .int .i64 0, .int .u64 0]) ?_ 2 _ rfl; (with_reducible repeat (first | refine blk_drewN ?_ _ | refine blk_drew ?_ | refine blk_alloc ?_ _)); refine blk_put (cs := #[.bool t557, .int .i64 0, .int .i64 0, .int .u64 0]) ?_ 1 _ rfl; (with_reducible repeat (first | refine blk_drewN ?_ _ | refine blk_drew ?_ | refine blk_alloc ?_ _)); refine blk_put (cs := #[.bool false, .int .i64 0, .int .i64 0, .int .u64 0]) ?_ 0 _ rfl; (with_reducible repeat (first | refine blk_drewN ?_ _ | refine blk_drew ?_ | refine blk_alloc ?_ _)); exact BK561.out⟩, ⟨hb2_ HB.out GE556.out GE561.out⟩⟩
     ·rw [if_neg c23] at H
      have c23b0 : (t558 == 0) = false := beq_eq_false_iff_ne.mpr c23
      have c23b1 : (t558 != 0) = true := bne_iff_ne.mpr c23
      by_cases c27 : t553 = 0
      ·rw [if_pos c27] at H
       have c27b0 : (t553 == 0) = true := beq_iff_eq.mpr c27
       have c27b1 : (t553 != 0) = false := bne_eq_false_iff_eq.mpr c27
       clear c27
       have H' := A_ H
       clear H
       have hnb28 := NB556_561.out
       have hnc28 := NB561_556.out
       have hcz29_0 : w11.cell? ⟨gb556, 0, none⟩ = some (.bool t552) := bc_ BK556.out 0
       have hcz29_1 : w11.cell? ⟨gb556, 1, none⟩ = some (.int .i64 t553) := bc_ BK556.out 1
       have hcz29_2 : w11.cell? ⟨gb556, 2, none⟩ = some (.int .i64 t554) := bc_ BK556.out 2
       have hcz29_3 : w11.cell? ⟨gb556, 3, none⟩ = some (.int .u64 t555) := bc_ BK556.out 3
       have hfz29_0 := blk_frozen BK556.out 0
       have hfz29_1 := blk_frozen BK556.out 1
       have hfz29_2 := blk_frozen BK556.out 2
       have hfz29_3 := blk_frozen BK556.out 3
       have hcz30_0 : w11.cell? ⟨gb561, 0, none⟩ = some (.bool false) := bc_ BK561.out 0
       have hcz30_1 : w11.cell? ⟨gb561, 1, none⟩ = some (.int .i64 0) := bc_ BK561.out 1
       have hcz30_2 : w11.cell? ⟨gb561, 2, none⟩ = some (.int .i64 0) := bc_ BK561.out 2
       have hcz30_3 : w11.cell? ⟨gb561, 3, none⟩ = some (.int .u64 0) := bc_ BK561.out 3
       have hfz30_0 := blk_frozen BK561.out 0
       have hfz30_1 := blk_frozen BK561.out 1
       have hfz30_2 := blk_frozen BK561.out 2
       have hfz30_3 := blk_frozen BK561.out 3
       go_wp2
       go_meet
       case rel => exact ⟨_, ((t558 == 2)), sm_, H', ⟨by first | omega | exact Nat.le_refl _⟩, ⟨bf4_ BK556.out NB556_561.out NB556_561.out NB556_561.out NB556_561.out⟩, ⟨by (with_reducible repeat (first | refine blk_drewN ?_ _ | refine blk_drew ?_ | refine blk_alloc ?_ _)); refine blk_put (cs := #[.bool t557, .int .i64 t558, .int .i64 t559, .int .u64 0]) ?_ 3 _ rfl; (with_reducible repeat (first | refine blk_drewN ?_ _ | refine blk_drew ?_ | refine blk_alloc ?_ _)); refine blk_put (cs := #[.bool t557, .int .i64 t558, .int .i64 0, .int .u64 0]) ?_ 2 _ rfl; (with_reducible repeat (first | refine blk_drewN ?_ _ | refine blk_drew ?_ | refine blk_alloc ?_ _)); refine blk_put (cs := #[.bool t557, .int .i64 0, .int .i64 0, .int .u64 0]) ?_ 1 _ rfl; (with_reducible repeat (first | refine blk_drewN ?_ _ | refine blk_drew ?_ | refine blk_alloc ?_ _)); refine blk_put (cs := #[.bool false, .int .i64 0, .int .i64 0, .int .u64 0]) ?_ 0 _ rfl; (with_reducible repeat (first | refine blk_drewN ?_ _ | refine blk_drew ?_ | refine blk_alloc ?_ _)); exact BK561.out⟩, ⟨hb2_ HB.out GE556.out GE561.out⟩⟩
      ·rw [if_neg c27] at H
       have c27b0 : (t553 == 0) = false := beq_eq_false_iff_ne.mpr c27
       have c27b1 : (t553 != 0) = true := bne_iff_ne.mpr c27
       have H' := A_ H
       clear H
       have hnb31 := NB556_561.out
       have hnc31 := NB561_556.out
       have hcz32_0 : w11.cell? ⟨gb556, 0, none⟩ = some (.bool t552) := bc_ BK556.out 0
       have hcz32_1 : w11.cell? ⟨gb556, 1, none⟩ = some (.int .i64 t553) := bc_ BK556.out 1
       have hcz32_2 : w11.cell? ⟨gb556, 2, none⟩ = some (.int .i64 t554) := bc_ BK556.out 2
       have hcz32_3 : w11.cell? ⟨gb556, 3, none⟩ = some (.int .u64 t555) := bc_ BK556.out 3
       have hfz32_0 := blk_frozen BK556.out 0
       have hfz32_1 := blk_frozen BK556.out 1
       have hfz32_2 := blk_frozen BK556.out 2
       have hfz32_3 := blk_frozen BK556.out 3
       have hcz33_0 : w11.cell? ⟨gb561, 0, none⟩ = some (.bool false) := bc_ BK561.out 0
       have hcz33_1 : w11.cell? ⟨gb561, 1, none⟩ = some (.int .i64 0) := bc_ BK561.out 1
       have hcz33_2 : w11.cell? ⟨gb561, 2, none⟩ = some (.int .i64 0) := bc_ BK561.out 2
       have hcz33_3 : w11.cell? ⟨gb561, 3, none⟩ = some (.int .u64 0) := bc_ BK561.out 3
       have hfz33_0 := blk_frozen BK561.out 0
       have hfz33_1 := blk_frozen BK561.out 1
       have hfz33_2 := blk_frozen BK561.out 2
       have hfz33_3 := blk_frozen BK561.out 3
       go_wp2
       go_meet
       case rel => exact ⟨_, (false), sm_, H', ⟨by first | omega | exact Nat.le_refl _⟩, ⟨bf4_ BK556.out NB556_561.out NB556_561.out NB556_561.out NB556_561.out⟩, ⟨by (with_reducible repeat (first | refine blk_drewN ?_ _ | refine blk_drew ?_ | refine blk_alloc ?_ _)); refine blk_put (cs := #[.bool t557, .int .i64 t558, .int .i64 t559, .int .u64 0]) ?_ 3 _ rfl; (with_reducible repeat (first | refine blk_drewN ?_ _ | refine blk_drew ?_ | refine blk_alloc ?_ _)); refine blk_put (cs := #[.bool t557, .int .i64 t558, .int .i64 0, .int .u64 0]) ?_ 2 _ rfl; (with_reducible repeat (first | refine blk_drewN ?_ _ | refine blk_drew ?_ | refine blk_alloc ?_ _)); refine blk_put (cs := #[.bool t557, .int .i64 0, .int .i64 0, .int .u64 0]) ?_ 1 _ rfl; (with_reducible repeat (first | refine blk_drewN ?_ _ | refine blk_drew ?_ | refine blk_alloc ?_ _)); refine blk_put (cs := #[.bool false, .int .i64 0, .int .i64 0, .int .u64 0]) ?_ 0 _ rfl; (with_reducible repeat (first | refine blk_drewN ?_ _ | refine blk_drew ?_ | refine blk_alloc ?_ _)); exact BK561.out⟩, ⟨hb2_ HB.out GE556.out GE561.out⟩⟩
    ·rw [if_neg c22] at H
     have c22b0 : (t553 == 2) = false := beq_eq_false_iff_ne.mpr c22
     have c22b1 : (t553 != 2) = true := bne_iff_ne.mpr c22
     by_cases c34 : t553 = 0
     ·rw [if_pos c34] at H
      have c34b0 : (t553 == 0) = true := beq_iff_eq.mpr c34
      have c34b1 : (t553 != 0) = false := bne_eq_false_iff_eq.mpr c34
      clear c34
      have H' := A_ H
      clear H
      have hnb35 := NB556_561.out
      have hnc35 := NB561_556.out
      have hcz36_0 : w11.cell? ⟨gb556, 0, none⟩ = some (.bool t552) := bc_ BK556.out 0
      have hcz36_1 : w11.cell? ⟨gb556, 1, none⟩ = some (.int .i64 t553) := bc_ BK556.out 1
      have hcz36_2 : w11.cell? ⟨gb556, 2, none⟩ = some (.int .i64 t554) := bc_ BK556.out 2
      have hcz36_3 : w11.cell? ⟨gb556, 3, none⟩ = some (.int .u64 t555) := bc_ BK556.out 3
      have hfz36_0 := blk_frozen BK556.out 0
      have hfz36_1 := blk_frozen BK556.out 1
      have hfz36_2 := blk_frozen BK556.out 2
      have hfz36_3 := blk_frozen BK556.out 3
      have hcz37_0 : w11.cell? ⟨gb561, 0, none⟩ = some (.bool false) := bc_ BK561.out 0
      have hcz37_1 : w11.cell? ⟨gb561, 1, none⟩ = some (.int .i64 0) := bc_ BK561.out 1
      have hcz37_2 : w11.cell? ⟨gb561, 2, none⟩ = some (.int .i64 0) := bc_ BK561.out 2
      have hcz37_3 : w11.cell? ⟨gb561, 3, none⟩ = some (.int .u64 0) := bc_ BK561.out 3
      have hfz37_0 := blk_frozen BK561.out 0
      have hfz37_1 := blk_frozen BK561.out 1
      have hfz37_2 := blk_frozen BK561.out 2
      have hfz37_3 := blk_frozen BK561.out 3
      go_wp2
      go_meet
      case rel => exact ⟨_, ((t558 == 2)), sm_, H', ⟨by first | omega | exact Nat.le_refl _⟩, ⟨bf4_ BK556.out NB556_561.out NB556_561.out NB556_561.out NB556_561.out⟩, ⟨by (with_reducible repeat (first | refine blk_drewN ?_ _ | refine blk_drew ?_ | refine blk_alloc ?_ _)); refine blk_put (cs := #[.bool t557, .int .i64 t558, .int .i64 t559, .int .u64 0]) ?_ 3 _ rfl; (with_reducible repeat (first | refine blk_drewN ?_ _ | refine blk_drew ?_ | refine blk_alloc ?_ _)); refine blk_put (cs := #[.bool t557, .int .i64 t558, .int .i64 0, .int .u64 0]) ?_ 2 _ rfl; (with_reducible repeat (first | refine blk_drewN ?_ _ | refine blk_drew ?_ | refine blk_alloc ?_ _)); refine blk_put (cs := #[.bool t557, .int .i64 0, .int .i64 0, .int .u64 0]) ?_ 1 _ rfl; (with_reducible repeat (first | refine blk_drewN ?_ _ | refine blk_drew ?_ | refine blk_alloc ?_ _)); refine blk_put (cs := #[.bool false, .int .i64 0, .int .i64 0, .int .u64 0]) ?_ 0 _ rfl; (with_reducible repeat (first | refine blk_drewN ?_ _ | refine blk_drew ?_ | refine blk_alloc ?_ _)); exact BK561.out⟩, ⟨hb2_ HB.out GE556.out GE561.out⟩⟩
     ·rw [if_neg c34] at H
      have c34b0 : (t553 == 0) = false := beq_eq_false_iff_ne.mpr c34
      have c34b1 : (t553 != 0) = true := bne_iff_ne.mpr c34
      have H' := A_ H
      clear H
      have hnb38 := NB556_561.out
      have hnc38 := NB561_556.out
      have hcz39_0 : w11.cell? ⟨gb556, 0, none⟩ = some (.bool t552) := bc_ BK556.out 0
      have hcz39_1 : w11.cell? ⟨gb556, 1, none⟩ = some (.int .i64 t553) := bc_ BK556.out 1
      have hcz39_2 : w11.cell? ⟨gb556, 2, none⟩ = some (.int .i64 t554) := bc_ BK556.out 2
      have hcz39_3 : w11.cell? ⟨gb556, 3, none⟩ = some (.int .u64 t555) := bc_ BK556.out 3
      have hfz39_0 := blk_frozen BK556.out 0
      have hfz39_1 := blk_frozen BK556.out 1
      have hfz39_2 := blk_frozen BK556.out 2
      have hfz39_3 := blk_frozen BK556.out 3
      have hcz40_0 : w11.cell? ⟨gb561, 0, none⟩ = some (.bool false) := bc_ BK561.out 0
      have hcz40_1 : w11.cell? ⟨gb561, 1, none⟩ = some (.int .i64 0) := bc_ BK561.out 1
      have hcz40_2 : w11.cell? ⟨gb561, 2, none⟩ = some (.int .i64 0) := bc_ BK561.out 2
      have hcz40_3 : w11.cell? ⟨gb561, 3, none⟩ = some (.int .u64 0) := bc_ BK561.out 3
      have hfz40_0 := blk_frozen BK561.out 0
      have hfz40_1 := blk_frozen BK561.out 1
      have hfz40_2 := blk_frozen BK561.out 2
      have hfz40_3 := blk_frozen BK561.out 3
      go_wp2
      go_meet
      case rel => exact ⟨_, (false), sm_, H', ⟨by first | omega | exact Nat.le_refl _⟩, ⟨bf4_ BK556.out NB556_561.out NB556_561.out NB556_561.out NB556_561.out⟩, ⟨by (with_reducible repeat (first | refine blk_drewN ?_ _ | refine blk_drew ?_ | refine blk_alloc ?_ _)); refine blk_put (cs := #[.bool t557, .int .i64 t558, .int .i64 t559, .int .u64 0]) ?_ 3 _ rfl; (with_reducible repeat (first | refine blk_drewN ?_ _ | refine blk_drew ?_ | refine blk_alloc ?_ _)); refine blk_put (cs := #[.bool t557, .int .i64 t558, .int .i64 0, .int .u64 0]) ?_ 2 _ rfl; (with_reducible repeat (first | refine blk_drewN ?_ _ | refine blk_drew ?_ | refine blk_alloc ?_ _)); refine blk_put (cs := #[.bool t557, .int .i64 0, .int .i64 0, .int .u64 0]) ?_ 1 _ rfl; (with_reducible repeat (first | refine blk_drewN ?_ _ | refine blk_drew ?_ | refine blk_alloc ?_ _)); refine blk_put (cs := #[.bool false, .int .i64 0, .int .i64 0, .int .u64 0]) ?_ 0 _ rfl; (with_reducible repeat (first | refine blk_drewN ?_ _ | refine blk_drew ?_ | refine blk_alloc ?_ _)); exact BK561.out⟩, ⟨hb2_ HB.out GE556.out GE561.out⟩⟩
 case rest =>
  clear HC6
  try clear c1
  try clear c2
  try clear p2
  try clear c3
  try clear c4
  try clear c12
  try clear c15
  try clear c15b0
  try clear c15b1
  try clear c16
  try clear c18
  try clear c18b0
  try clear c18b1
  try clear c19
  try clear c22
  try clear c22b0
  try clear c22b1
  try clear c23
  try clear c23b0
  try clear c23b1
  try clear c24
  try clear c27
  try clear c27b0
  try clear c27b1
  try clear c28
  try clear c31
  try clear c34
  try clear c34b0
  try clear c34b1
  try clear c35
  try clear c38
  try clear hcz13_0
  try clear hcz13_1
  try clear hcz13_2
  try clear hcz13_3
  try clear hcz14_0
  try clear hcz14_1
  try clear hcz14_2
  try clear hcz14_3
  try clear hcz17_0
  try clear hcz17_1
  try clear hcz17_2
  try clear hcz17_3
  try clear hcz20_0
  try clear hcz20_1
  try clear hcz20_2
  try clear hcz20_3
  try clear hcz21_0
  try clear hcz21_1
  try clear hcz21_2
  try clear hcz21_3
  try clear hcz25_0
  try clear hcz25_1
  try clear hcz25_2
  try clear hcz25_3
  try clear hcz26_0
  try clear hcz26_1
  try clear hcz26_2
  try clear hcz26_3
  try clear hcz29_0
  try clear hcz29_1
  try clear hcz29_2
  try clear hcz29_3
  try clear hcz30_0
  try clear hcz30_1
  try clear hcz30_2
  try clear hcz30_3
  try clear hcz32_0
  try clear hcz32_1
  try clear hcz32_2
  try clear hcz32_3
  try clear hcz33_0
  try clear hcz33_1
  try clear hcz33_2
  try clear hcz33_3
  try clear hcz36_0
  try clear hcz36_1
  try clear hcz36_2
  try clear hcz36_3
  try clear hcz37_0
  try clear hcz37_1
  try clear hcz37_2
  try clear hcz37_3
  try clear hcz39_0
  try clear hcz39_1
  try clear hcz39_2
  try clear hcz39_3
  try clear hcz40_0
  try clear hcz40_1
  try clear hcz40_2
  try clear hcz40_3
  try clear hcz9_0
  try clear hcz9_1
  try clear hcz9_2
  try clear hcz9_3
  try clear hfz13_0
  try clear hfz13_1
  try clear hfz13_2
  try clear hfz13_3
  try clear hfz14_0
  try clear hfz14_1
  try clear hfz14_2
  try clear hfz14_3
  try clear hfz17_0
  try clear hfz17_1
  try clear hfz17_2
  try clear hfz17_3
  try clear hfz20_0
  try clear hfz20_1
  try clear hfz20_2
  try clear hfz20_3
  try clear hfz21_0
  try clear hfz21_1
  try clear hfz21_2
  try clear hfz21_3
  try clear hfz25_0
  try clear hfz25_1
  try clear hfz25_2
  try clear hfz25_3
  try clear hfz26_0
  try clear hfz26_1
  try clear hfz26_2
  try clear hfz26_3
  try clear hfz29_0
  try clear hfz29_1
  try clear hfz29_2
  try clear hfz29_3
  try clear hfz30_0
  try clear hfz30_1
  try clear hfz30_2
  try clear hfz30_3
  try clear hfz32_0
  try clear hfz32_1
  try clear hfz32_2
  try clear hfz32_3
  try clear hfz33_0
  try clear hfz33_1
  try clear hfz33_2
  try clear hfz33_3
  try clear hfz36_0
  try clear hfz36_1
  try clear hfz36_2
  try clear hfz36_3
  try clear hfz37_0
  try clear hfz37_1
  try clear hfz37_2
  try clear hfz37_3
  try clear hfz39_0
  try clear hfz39_1
  try clear hfz39_2
  try clear hfz39_3
  try clear hfz40_0
  try clear hfz40_1
  try clear hfz40_2
  try clear hfz40_3
  try clear hfz9_0
  try clear hfz9_1
  try clear hfz9_2
  try clear hfz9_3
  obtain ⟨kq, x48_5, rfl, HA, HJ5, BK556, BK561, HB⟩ := hcut
  cases kq with
  | zero => exact absurd HA.out (by simp [r5_Mul.j0])
  | succ kj5 =>
   have H := HA.out
   clear HA
   simp only [r5_Mul.j0] at H
   by_cases c41 : x48_5 = true
   ·subst c41
    have H1 : ((r2_Nan.f kj5 a0).bind fun t562 => (some t562)) = some r := by rw [if_pos rfl] at H; exact H
    clear H;have H := H1;clear H1
    replace H := ob_ H
    obtain ⟨t562, A420, H⟩ := H
    replace H : (some t562) = some r := H
    have A42 := A_ A420;clear A420
    obtain rfl := Option.some.inj H
    go_wp2_with (first | ((with_reducible refine gate_callee (f := 58) rfl ?_); refine gl_ (some 50) Try.func58 #[.int .i64 a0] ?_; (with_reducible refine (r2_Nan.calls kj5 a0 t562 _ A42.out).mono ?_); rintro e w' ⟨rfl, ⟨nd, rfl⟩⟩; refine ⟨_, rfl, ?_⟩))
    go_ret
    exact ⟨er_, hb2_ HB.out GE556.out GE561.out⟩
   ·replace c41 := Bool.eq_false_iff.mpr c41
    subst c41
    have H1 : (if t553 = 2 then (r5_Mul.j1 kj5 a0 (t552 != t557) true t552 t553 t554 t555 t557 t558 t559 t560) else (r5_Mul.j1 kj5 a0 (t552 != t557) (t558 == 2) t552 t553 t554 t555 t557 t558 t559 t560)) = some r := by rw [if_neg (show ¬ (false = true) by decide)] at H; exact H
    clear H;have H := H1;clear H1;have HC43 := A_ H;clear H
    go_upto_region 6 with (fail)
    go_cut [58] (fun v58 wc => ∃ (kq : Nat) (x58_42 : Bool), v58 = .bool x58_42 ∧ Aside0 (r5_Mul.j1 kq a0 (t552 != t557) x58_42 t552 t553 t554 t555 t557 t558 t559 t560 = some r) ∧ Aside0 (kq ≤ kj5) ∧ Aside0 (wc.heap[gb556]? = some (.cells #[.bool t552, .int .i64 t553, .int .i64 t554, .int .u64 t555] 57 (0, 0))) ∧ Aside0 (wc.heap[gb561]? = some (.cells #[.bool t557, .int .i64 t558, .int .i64 t559, .int .u64 t560] 57 (0, 0))) ∧ Aside0 (Below w.heap.size w wc))
    case first =>
     have H := HC43.out
     clear HC43
     by_cases c44 : t553 = 2
     ·rw [if_pos c44] at H
      have c44b0 : (t553 == 2) = true := beq_iff_eq.mpr c44
      have c44b1 : (t553 != 2) = false := bne_eq_false_iff_eq.mpr c44
      clear c44
      (first | rw [c44b0] | (simp only [i64_w, i32_w]; rw [c44b0]) | skip)
      have H' := A_ H
      clear H
      have hnb45 := NB556_561.out
      have hnc45 := NB561_556.out
      have hcz46_0 : wc.cell? ⟨gb556, 0, none⟩ = some (.bool t552) := bc_ BK556.out 0
      have hcz46_1 : wc.cell? ⟨gb556, 1, none⟩ = some (.int .i64 t553) := bc_ BK556.out 1
      have hcz46_2 : wc.cell? ⟨gb556, 2, none⟩ = some (.int .i64 t554) := bc_ BK556.out 2
      have hcz46_3 : wc.cell? ⟨gb556, 3, none⟩ = some (.int .u64 t555) := bc_ BK556.out 3
      have hfz46_0 := blk_frozen BK556.out 0
      have hfz46_1 := blk_frozen BK556.out 1
      have hfz46_2 := blk_frozen BK556.out 2
      have hfz46_3 := blk_frozen BK556.out 3
      go_wp2
      go_meet
      case rel => exact ⟨_, (true), sm_, H', ⟨by have := HJ5.out; first | omega | exact Nat.le_refl _⟩, ⟨bk_ BK556.out⟩, ⟨bk_ BK561.out⟩, ⟨hb2_ HB.out GE556.out GE561.out⟩⟩
     ·rw [if_neg c44] at H
      have c44b0 : (t553 == 2) = false := beq_eq_false_iff_ne.mpr c44
      have c44b1 : (t553 != 2) = true := bne_iff_ne.mpr c44
      (first | rw [c44b0] | (simp only [i64_w, i32_w]; rw [c44b0]) | skip)
      have H' := A_ H
      clear H
      have hnb47 := NB556_561.out
      have hnc47 := NB561_556.out
      have hcz48_0 : wc.cell? ⟨gb556, 0, none⟩ = some (.bool t552) := bc_ BK556.out 0
      have hcz48_1 : wc.cell? ⟨gb556, 1, none⟩ = some (.int .i64 t553) := bc_ BK556.out 1
      have hcz48_2 : wc.cell? ⟨gb556, 2, none⟩ = some (.int .i64 t554) := bc_ BK556.out 2
      have hcz48_3 : wc.cell? ⟨gb556, 3, none⟩ = some (.int .u64 t555) := bc_ BK556.out 3
      have hfz48_0 := blk_frozen BK556.out 0
      have hfz48_1 := blk_frozen BK556.out 1
      have hfz48_2 := blk_frozen BK556.out 2
      have hfz48_3 := blk_frozen BK556.out 3
      have hcz49_0 : wc.cell? ⟨gb561, 0, none⟩ = some (.bool t557) := bc_ BK561.out 0
      have hcz49_1 : wc.cell? ⟨gb561, 1, none⟩ = some (.int .i64 t558) := bc_ BK561.out 1
      have hcz49_2 : wc.cell? ⟨gb561, 2, none⟩ = some (.int .i64 t559) := bc_ BK561.out 2
      have hcz49_3 : wc.cell? ⟨gb561, 3, none⟩ = some (.int .u64 t560) := bc_ BK561.out 3
      have hfz49_0 := blk_frozen BK561.out 0
      have hfz49_1 := blk_frozen BK561.out 1
      have hfz49_2 := blk_frozen BK561.out 2
      have hfz49_3 := blk_frozen BK561.out 3
      go_wp2
      go_meet
      case rel => exact ⟨_, ((t558 == 2)), sm_, H', ⟨by have := HJ5.out; first | omega | exact Nat.le_refl _⟩, ⟨bk_ BK556.out⟩, ⟨bk_ BK561.out⟩, ⟨hb2_ HB.out GE556.out GE561.out⟩⟩
    case rest =>
     clear HC43
     try clear c1
     try clear c2
     try clear p2
     try clear c3
     try clear c4
     try clear c5
     try clear c12
     try clear c15
     try clear c15b0
     try clear c15b1
     try clear c16
     try clear c18
     try clear c18b0
     try clear c18b1
     try clear c19
     try clear c22
     try clear c22b0
     try clear c22b1
     try clear c23
     try clear c23b0
     try clear c23b1
     try clear c24
     try clear c27
     try clear c27b0
     try clear c27b1
     try clear c28
     try clear c31
     try clear c34
     try clear c34b0
     try clear c34b1
     try clear c35
     try clear c38
     try clear c41
     try clear c44
     try clear c44b0
     try clear c44b1
     try clear c45
     try clear c47
     try clear c48
     try clear hcz13_0
     try clear hcz13_1
     try clear hcz13_2
     try clear hcz13_3
     try clear hcz14_0
     try clear hcz14_1
     try clear hcz14_2
     try clear hcz14_3
     try clear hcz17_0
     try clear hcz17_1
     try clear hcz17_2
     try clear hcz17_3
     try clear hcz20_0
     try clear hcz20_1
     try clear hcz20_2
     try clear hcz20_3
     try clear hcz21_0
     try clear hcz21_1
     try clear hcz21_2
     try clear hcz21_3
     try clear hcz25_0
     try clear hcz25_1
     try clear hcz25_2
     try clear hcz25_3
     try clear hcz26_0
     try clear hcz26_1
     try clear hcz26_2
     try clear hcz26_3
     try clear hcz29_0
     try clear hcz29_1
     try clear hcz29_2
     try clear hcz29_3
     try clear hcz30_0
     try clear hcz30_1
     try clear hcz30_2
     try clear hcz30_3
     try clear hcz32_0
     try clear hcz32_1
     try clear hcz32_2
     try clear hcz32_3
     try clear hcz33_0
     try clear hcz33_1
     try clear hcz33_2
     try clear hcz33_3
     try clear hcz36_0
     try clear hcz36_1
     try clear hcz36_2
     try clear hcz36_3
     try clear hcz37_0
     try clear hcz37_1
     try clear hcz37_2
     try clear hcz37_3
     try clear hcz39_0
     try clear hcz39_1
     try clear hcz39_2
     try clear hcz39_3
     try clear hcz40_0
     try clear hcz40_1
     try clear hcz40_2
     try clear hcz40_3
     try clear hcz46_0
     try clear hcz46_1
     try clear hcz46_2
     try clear hcz46_3
     try clear hcz48_0
     try clear hcz48_1
     try clear hcz48_2
     try clear hcz48_3
     try clear hcz49_0
     try clear hcz49_1
     try clear hcz49_2
     try clear hcz49_3
     try clear hcz9_0
     try clear hcz9_1
     try clear hcz9_2
     try clear hcz9_3
     try clear hfz13_0
     try clear hfz13_1
     try clear hfz13_2
     try clear hfz13_3
     try clear hfz14_0
     try clear hfz14_1
     try clear hfz14_2
     try clear hfz14_3
     try clear hfz17_0
     try clear hfz17_1
     try clear hfz17_2
     try clear hfz17_3
     try clear hfz20_0
     try clear hfz20_1
     try clear hfz20_2
     try clear hfz20_3
     try clear hfz21_0
     try clear hfz21_1
     try clear hfz21_2
     try clear hfz21_3
     try clear hfz25_0
     try clear hfz25_1
     try clear hfz25_2
     try clear hfz25_3
     try clear hfz26_0
     try clear hfz26_1
     try clear hfz26_2
     try clear hfz26_3
     try clear hfz29_0
     try clear hfz29_1
     try clear hfz29_2
     try clear hfz29_3
     try clear hfz30_0
     try clear hfz30_1
     try clear hfz30_2
     try clear hfz30_3
     try clear hfz32_0
     try clear hfz32_1
     try clear hfz32_2
     try clear hfz32_3
     try clear hfz33_0
     try clear hfz33_1
     try clear hfz33_2
     try clear hfz33_3
     try clear hfz36_0
     try clear hfz36_1
     try clear hfz36_2
     try clear hfz36_3
     try clear hfz37_0
     try clear hfz37_1
     try clear hfz37_2
     try clear hfz37_3
     try clear hfz39_0
     try clear hfz39_1
     try clear hfz39_2
     try clear hfz39_3
     try clear hfz40_0
     try clear hfz40_1
     try clear hfz40_2
     try clear hfz40_3
     try clear hfz46_0
     try clear hfz46_1
     try clear hfz46_2
     try clear hfz46_3
     try clear hfz48_0
     try clear hfz48_1
     try clear hfz48_2
     try clear hfz48_3
     try clear hfz49_0
     try clear hfz49_1
     try clear hfz49_2
     try clear hfz49_3
     try clear hfz9_0
     try clear hfz9_1
     try clear hfz9_2
     try clear hfz9_3
     try clear p2
     obtain ⟨kq, x58_42, rfl, HA, HJ42, BK556, BK561, HB⟩ := hcut
     cases kq with
     | zero => exact absurd HA.out (by simp [r5_Mul.j1])
     | succ kj42 =>
      have H := HA.out
      clear HA
      simp only [r5_Mul.j1] at H
      by_cases c50 : x58_42 = true
      ·subst c50
       have H1 : ((r2_Inf.f kj42 a0 (t552 != t557)).bind fun t563 => (some t563)) = some r := by rw [if_pos rfl] at H; exact H
       clear H;have H := H1;clear H1
       replace H := ob_ H
       obtain ⟨t563, A510, H⟩ := H
       replace H : (some t563) = some r := H
       have A51 := A_ A510;clear A510
       obtain rfl := Option.some.inj H
       go_wp2_with (first | ((with_reducible refine gate_callee (f := 59) rfl ?_); refine gl_ (some 61) Try.func59 #[.int .i64 a0, .bool (t552 != t557)] ?_; (with_reducible refine (r2_Inf.calls kj42 a0 (t552 != t557) t563 _ A51.out).mono ?_); rintro e w' ⟨rfl, ⟨nd, rfl⟩⟩; refine ⟨_, rfl, ?_⟩))
       go_ret
       exact ⟨er_, hb2_ HB.out GE556.out GE561.out⟩
      ·replace c50 := Bool.eq_false_iff.mpr c50
       subst c50
       have H1 : ((r1_Of.f kj42 t555).bind fun t564 => ((r1_Of.f kj42 t560).bind fun t567 => ((r1_Mul.f kj42 t564 t567).bind fun t570 => ((r3_Exact.f kj42 a0 (t552 != t557) t570 (wrap64 (t554 + t559))).bind fun t573 => (some t573))))) = some r := by rw [if_neg (show ¬ (false = true) by decide)] at H; exact H
       clear H;have H := H1;clear H1
       replace H := ob_ H
       obtain ⟨t564, A520, H⟩ := H
       replace H : ((r1_Of.f kj42 t560).bind fun t567 => ((r1_Mul.f kj42 t564 t567).bind fun t570 => ((r3_Exact.f kj42 a0 (t552 != t557) t570 (wrap64 (t554 + t559))).bind fun t573 => (some t573)))) = some r := H
       have A52 := A_ A520;clear A520
       replace H := ob_ H
       obtain ⟨t567, A530, H⟩ := H
       replace H : ((r1_Mul.f kj42 t564 t567).bind fun t570 => ((r3_Exact.f kj42 a0 (t552 != t557) t570 (wrap64 (t554 + t559))).bind fun t573 => (some t573))) = some r := H
       have A53 := A_ A530;clear A530
       replace H := ob_ H
       obtain ⟨t570, A540, H⟩ := H
       replace H : ((r3_Exact.f kj42 a0 (t552 != t557) t570 (wrap64 (t554 + t559))).bind fun t573 => (some t573)) = some r := H
       have A54 := A_ A540;clear A540
       replace H := ob_ H
       obtain ⟨t573, A550, H⟩ := H
       replace H : (some t573) = some r := H
       have A55 := A_ A550;clear A550
       obtain rfl := Option.some.inj H
       try go_wp2
       have n0_ := A_ (blk_drew BK556.out)
       have n1_ := A_ (blk_drew BK561.out)
       have n2_ := A_ (below_drew1 HB.out)
       clear BK556;clear BK561;clear HB;have BK556 := n0_;have BK561 := n1_;have HB := n2_;clear n0_ n1_ n2_
       refine start_ (n := 16) (S := fun w' => w'.cell? ⟨gb556, 0, none⟩ = some (.bool t552) ∧ w'.cell? ⟨gb556, 1, none⟩ = some (.int .i64 t553) ∧ w'.cell? ⟨gb556, 2, none⟩ = some (.int .i64 t554) ∧ w'.cell? ⟨gb556, 3, none⟩ = some (.int .u64 t555) ∧ w'.cell? ⟨gb561, 0, none⟩ = some (.bool t557) ∧ w'.cell? ⟨gb561, 1, none⟩ = some (.int .i64 t558) ∧ w'.cell? ⟨gb561, 2, none⟩ = some (.int .i64 t559) ∧ w'.cell? ⟨gb561, 3, none⟩ = some (.int .u64 t560)) (ds := []) #[false, false, false, false, false, false, false, false, false, false, false, false, false, false, false, false] (by kernel_rfl) rfl rfl ⟨bc_ BK556.out 0, bc_ BK556.out 1, bc_ BK556.out 2, bc_ BK556.out 3, bc_ BK561.out 0, bc_ BK561.out 1, bc_ BK561.out 2, bc_ BK561.out 3⟩ (fun hHeld => ?_); refine with_tabW r5_Mul.tab8 r5_Mul.bits8 (fun HT_ HW_ => ?_)
       generalize wc.drew = w56 at BK556 BK561 HB hHeld ⊢
       refine pu_ 0 (some 62) #[true, false, false, false, false, false, false, false, false, false, false, false, false, false, false, false] rfl rfl (any_of HT_.out (by kernel_rfl)) ?_
       refine pu_ 1 (some 63) #[true, true, false, false, false, false, false, false, false, false, false, false, false, false, false, false] rfl rfl (any_of HT_.out (by kernel_rfl)) ?_
       refine pu_ 2 (some 64) #[true, true, true, false, false, false, false, false, false, false, false, false, false, false, false, false] rfl rfl (any_of HT_.out (by kernel_rfl)) ?_
       refine pu_ 5 (some 67) #[true, true, true, false, false, true, false, false, false, false, false, false, false, false, false, false] rfl rfl (any_of HT_.out (by kernel_rfl)) ?_
       refine pu_ 9 (some 71) #[true, true, true, false, false, true, false, false, false, true, false, false, false, false, false, false] rfl rfl (any_of HT_.out (by kernel_rfl)) ?_
       refine pu_ 11 (some 73) #[true, true, true, false, false, true, false, false, false, true, false, true, false, false, false, false] rfl rfl (any_of HT_.out (by kernel_rfl)) ?_
       refine tk8_ 3 (some 65) #[true, true, true, true, false, true, false, false, false, true, false, true, false, false, false, false] rfl rfl (take_ofW HT_.out HW_.out (by kernel_rfl)) hHeld ?_
       refine tk8_ 6 (some 68) #[true, true, true, true, false, true, true, false, false, true, false, true, false, false, false, false] rfl rfl (take_ofW HT_.out HW_.out (by kernel_rfl)) hHeld ?_
       refine tk8_ 10 (some 72) #[true, true, true, true, false, true, true, false, false, true, true, true, false, false, false, false] rfl rfl (take_ofW HT_.out HW_.out (by kernel_rfl)) hHeld ?_
       refine tk8_ 12 (some 74) #[true, true, true, true, false, true, true, false, false, true, true, true, true, false, false, false] rfl rfl (take_ofW HT_.out HW_.out (by kernel_rfl)) hHeld ?_
       refine pu_ 13 (some 75) #[true, true, true, true, false, true, true, false, false, true, true, true, true, true, false, false] rfl rfl (any_of HT_.out (by kernel_rfl)) ?_
       refine one_ (i := 4) (N := some 66) #[true, true, true, true, true, true, true, false, false, true, true, true, true, true, false, false] rfl rfl (one_of HT_.out (by kernel_rfl)) (by decide) (fun K hK => ?_)
       refine goes_ Try.func62 (by kernel_rfl) rfl #[.int .u64 t555] (by rfl) rfl rfl mp_ ?_
       with_reducible refine (r1_Of.calls kj42 t555 t564 _ A52.out).mono ?_
       rintro e w57 ⟨v565, rfl, ho0, hb⟩
       refine ⟨_, rfl, ?_⟩
       have n0_ := A_ (Kd.R_lower ho0 (below_size (hb2_ HB.out GE556.out GE561.out)))
       have n1_ := A_ (bb_ BK556.out hb)
       have n2_ := A_ (bb_ BK561.out hb)
       have n3_ := A_ (below_step (hb2_ HB.out GE556.out GE561.out) hb)
       clear BK556;clear BK561;clear HB;have HO566 := n0_;have BK556 := n1_;have BK561 := n2_;have HB := n3_;clear n0_ n1_ n2_ n3_;(try clear hb);(try clear hb2);(try clear hk);(try clear hi);(try clear ho0)
       refine hK.out _ _ ⟨bc_ BK556.out 0, bc_ BK556.out 1, bc_ BK556.out 2, bc_ BK556.out 3, bc_ BK561.out 0, bc_ BK561.out 1, bc_ BK561.out 2, bc_ BK561.out 3⟩ (fun hHeld => ?_)
       clear hK K
       refine norm_ (a' := ?_) ?_ ?_
       rotate_left
       ·show Act.put _ (some 66) _ = _
        simp only [Act.put, lI_, l0_, lS_, i64_w, i32_w]
        rfl
       refine one_ (i := 7) (N := some 69) #[true, true, true, true, true, true, true, true, false, true, true, true, true, true, false, false] rfl rfl (one_of HT_.out (by kernel_rfl)) (by decide) (fun K hK => ?_)
       refine goes_ Try.func62 (by kernel_rfl) rfl #[.int .u64 t560] (by rfl) rfl rfl mp_ ?_
       with_reducible refine (r1_Of.calls kj42 t560 t567 _ A53.out).mono ?_
       rintro e w58 ⟨v568, rfl, ho0, hb⟩
       refine ⟨_, rfl, ?_⟩
       have n0_ := A_ (Kd.R_elder' (kr_ HO566.out) (Kd.R_base ho0) hb)
       have n1_ := A_ (Kd.R_lower (Kd.R_new' ho0 (Kd.R_lt (kr_ HO566.out))) (below_size (hb2_ HB.out GE556.out GE561.out)))
       have n2_ := A_ (bb_ BK556.out hb)
       have n3_ := A_ (bb_ BK561.out hb)
       have n4_ := A_ (below_step (hb2_ HB.out GE556.out GE561.out) hb)
       clear HO566;clear BK556;clear BK561;clear HB;have HO566 := n0_;have HO569 := n1_;have BK556 := n2_;have BK561 := n3_;have HB := n4_;clear n0_ n1_ n2_ n3_ n4_;(try clear hb);(try clear hb2);(try clear hk);(try clear hi);(try clear ho0)
       obtain ⟨Ao59, co59, eo59⟩ := Kd.R_slice HO566.out
       (first | subst eo59 | (injection eo59 with f1_ f2_ f3_; have f4_ := f1_.symm; have f5_ := f3_.symm; clear f1_ f2_ f3_; subst f4_; subst f5_))
       obtain ⟨Ao60, co60, eo60⟩ := Kd.R_slice HO569.out
       (first | subst eo60 | (injection eo60 with f1_ f2_ f3_; have f4_ := f1_.symm; have f5_ := f3_.symm; clear f1_ f2_ f3_; subst f4_; subst f5_))
       refine hK.out _ _ ⟨bc_ BK556.out 0, bc_ BK556.out 1, bc_ BK556.out 2, bc_ BK556.out 3, bc_ BK561.out 0, bc_ BK561.out 1, bc_ BK561.out 2, bc_ BK561.out 3⟩ (fun hHeld => ?_)
       clear hK K
       refine norm_ (a' := ?_) ?_ ?_
       rotate_left
       ·show Act.put _ (some 69) _ = _
        simp only [Act.put, lI_, l0_, lS_, i64_w, i32_w]
        rfl
       refine one_ (i := 8) (N := some 70) #[true, true, true, true, true, true, true, true, true, true, true, true, true, true, false, false] rfl rfl (one_of HT_.out (by kernel_rfl)) (by decide) (fun K hK => ?_)
       refine goes_ Try.func61 (by kernel_rfl) rfl #[.agg #[.slice Ao59 t564.length co59], .agg #[.slice Ao60 t567.length co60]] (by rfl) rfl rfl mp_ ?_
       with_reducible refine (r1_Mul.calls kj42 _ _ t564 _ _ t567 t570 _ ?side1 ?side2 ?side3 ?side4 A54.out).mono ?_
       (case side1 => repeat (first | exact (Kd.R_reads' HO566.out).2.2 | (with_reducible refine Kd.C_alloc ?_ _) | (with_reducible refine Kd.C_drewN ?_ _) | (with_reducible refine Kd.C_drew ?_)))
       (case side2 => exact (Kd.R_reads' HO566.out).2.1)
       (case side3 => repeat (first | exact (Kd.R_reads' HO569.out).2.2 | (with_reducible refine Kd.C_alloc ?_ _) | (with_reducible refine Kd.C_drewN ?_ _) | (with_reducible refine Kd.C_drew ?_)))
       (case side4 => exact (Kd.R_reads' HO569.out).2.1)
       rintro e w61 ⟨v571, rfl, ho0, hb⟩
       refine ⟨_, rfl, ?_⟩
       have n0_ := A_ (Kd.R_elder' (kr_ HO566.out) (Kd.R_base ho0) hb)
       have n1_ := A_ (Kd.R_elder' (kr_ HO569.out) (Kd.R_base ho0) hb)
       have n2_ := A_ (Kd.R_lower (Kd.R_new' (Kd.R_new' ho0 (Kd.R_lt (kr_ HO566.out))) (Kd.R_lt (kr_ HO569.out))) (below_size (hb2_ HB.out GE556.out GE561.out)))
       have n3_ := A_ (bb_ BK556.out hb)
       have n4_ := A_ (bb_ BK561.out hb)
       have n5_ := A_ (below_step (hb2_ HB.out GE556.out GE561.out) hb)
       clear HO566;clear HO569;clear BK556;clear BK561;clear HB;have HO566 := n0_;have HO569 := n1_;have HO572 := n2_;have BK556 := n3_;have BK561 := n4_;have HB := n5_;clear n0_ n1_ n2_ n3_ n4_ n5_;(try clear hb);(try clear hb2);(try clear hk);(try clear hi);(try clear ho0)
       obtain ⟨Ao62, co62, eo62⟩ := Kd.R_slice HO572.out
       (first | subst eo62 | (injection eo62 with f1_ f2_ f3_; have f4_ := f1_.symm; have f5_ := f3_.symm; clear f1_ f2_ f3_; subst f4_; subst f5_))
       refine hK.out _ _ ⟨bc_ BK556.out 0, bc_ BK556.out 1, bc_ BK556.out 2, bc_ BK556.out 3, bc_ BK561.out 0, bc_ BK561.out 1, bc_ BK561.out 2, bc_ BK561.out 3⟩ (fun hHeld => ?_)
       clear hK K
       refine norm_ (a' := ?_) ?_ ?_
       rotate_left
       ·show Act.put _ (some 70) _ = _
        simp only [Act.put, lI_, l0_, lS_, i64_w, i32_w]
        rfl
       refine one_ (i := 14) (N := some 76) #[true, true, true, true, true, true, true, true, true, true, true, true, true, true, true, false] rfl rfl (one_of HT_.out (by kernel_rfl)) (by decide) (fun K hK => ?_)
       refine goes_ Try.func60 (by kernel_rfl) rfl #[.int .i64 a0, .bool (t552 != t557), .agg #[.slice Ao62 t570.length co62], .int .i64 (wrap64 (t554 + t559))] (by rfl) rfl rfl mp_ ?_
       with_reducible refine (r3_Exact.calls kj42 a0 (t552 != t557) _ _ t570 (wrap64 (t554 + t559)) t573 _ ?side1 ?side2 A55.out).mono ?_
       (case side1 => repeat (first | exact (Kd.R_reads' HO572.out).2.2 | (with_reducible refine Kd.C_alloc ?_ _) | (with_reducible refine Kd.C_drewN ?_ _) | (with_reducible refine Kd.C_drew ?_)))
       (case side2 => exact (Kd.R_reads' HO572.out).2.1)
       rintro e w63 ⟨rfl, hb⟩
       refine ⟨_, rfl, ?_⟩
       have n0_ := A_ (Kd.R_below (kr_ HO566.out) hb)
       have n1_ := A_ (Kd.R_below (kr_ HO569.out) hb)
       have n2_ := A_ (Kd.R_below (kr_ HO572.out) hb)
       have n3_ := A_ (bb_ BK556.out hb)
       have n4_ := A_ (bb_ BK561.out hb)
       have n5_ := A_ (below_step (hb2_ HB.out GE556.out GE561.out) hb)
       clear HO566;clear HO569;clear HO572;clear BK556;clear BK561;clear HB;have HO566 := n0_;have HO569 := n1_;have HO572 := n2_;have BK556 := n3_;have BK561 := n4_;have HB := n5_;clear n0_ n1_ n2_ n3_ n4_ n5_;(try clear hb);(try clear hb2);(try clear hk);(try clear hi)
       refine hK.out _ _ ⟨bc_ BK556.out 0, bc_ BK556.out 1, bc_ BK556.out 2, bc_ BK556.out 3, bc_ BK561.out 0, bc_ BK561.out 1, bc_ BK561.out 2, bc_ BK561.out 3⟩ (fun hHeld => ?_)
       clear hK K
       refine norm_ (a' := ?_) ?_ ?_
       rotate_left
       ·show Act.put _ (some 76) _ = _
        simp only [Act.put, lI_, l0_, lS_, i64_w, i32_w]
        rfl
       refine pu_ 15 (some 6) #[true, true, true, true, true, true, true, true, true, true, true, true, true, true, true, true] rfl rfl (any_of HT_.out (by kernel_rfl)) ?_
       refine done_ (done_of HT_.out (by kernel_rfl)) ?_
       try go_wp2
       go_ret
       exact ⟨er_, hb2_ HB.out GE556.out GE561.out⟩
def r5_One.f (k : Nat) (a0 : Int) : Option (Int) := (r2_B.f a0).bind fun t320 => ((r2_Make.f k a0 false t320 0).bind fun t321 => (some t321))
theorem r5_One.mono : ∀ a0 k, LeO (r5_One.f k a0) (r5_One.f (k + 1) a0) := by
 intro a0 k
 unfold r5_One.f
 repeat' first
   | (with_reducible exact r2_Make.mono _ _ _ _ _)
   | (with_reducible exact LeO.refl _)
   | (with_reducible exact LeO.none _)
   | (with_reducible refine LeO.ite ?_ ?_)
   | (with_reducible refine LeO.bind ?_ (fun _ => ?_))
   | exact r2_Make.mono _ _ _ _ _
   | exact LeO.none _
   | refine LeO.ite ?_ ?_
   | refine LeO.bind ?_ (fun _ => ?_)
theorem r5_One.calls (k : Nat) (a0 : Int) (r : Int) (w : World) (h : r5_One.f k a0 = some r) :
  Calls Try.prog 23 #[.int .i64 a0] w fun e w' => e = .returned (.int .u64 r) ∧ Drawn0 w w' := by
 have H : ((r2_B.f a0).bind fun t320 => ((r2_Make.f k a0 false t320 0).bind fun t321 => (some t321))) = some r := h
 clear h
 replace H := ob_ H
 obtain ⟨t320, A20, H⟩ := H
 replace H : ((r2_Make.f k a0 false t320 0).bind fun t321 => (some t321)) = some r := H
 have A2 := A_ A20;clear A20
 replace H := ob_ H
 obtain ⟨t321, A30, H⟩ := H
 replace H : (some t321) = some r := H
 have A3 := A_ A30;clear A30
 obtain rfl := Option.some.inj H
 go_enter Try.func23, Try.ntmps23
 go_wp2_with (first | ((with_reducible refine gate_callee (f := 18) rfl ?_); refine gl_ (some 5) Try.func18 #[.int .i64 a0] ?_; (with_reducible refine (r2_B.calls a0 t320 _ A2.out).mono ?_); rintro e w' ⟨rfl, ⟨nd, rfl⟩⟩; refine ⟨_, rfl, ?_⟩) | ((with_reducible refine gate_callee (f := 17) rfl ?_); refine gl_ (some 6) Try.func17 #[.int .i64 a0, .bool false, .int .i64 t320, .int .u64 0] ?_; (with_reducible refine (r2_Make.calls k a0 false t320 0 t321 _ A3.out).mono ?_); rintro e w' ⟨rfl, ⟨nd, rfl⟩⟩; refine ⟨_, rfl, ?_⟩))
 go_ret
 exact ⟨sm_, by repeat (first | exact Drawn0.refl _ | apply Drawn0.step)⟩
def r3_Pack.f (k : Nat) (a0 : Int) (a1 : Bool) (a2 : Int) (a3 : Int) (a4 : Int) (a5 : Bool) : Option (Int) := (r1_Pair.f k a2 a3).bind fun t587 => ((r1_Shl.f k t587 1).bind fun t590 => (if a5 = true then ((r1_Of.f k 1).bind fun t594 => ((r1_Add.f k t590 t594).bind fun t597 => ((r3_Exact.f k a0 a1 t597 ((mx (mn a4 10000) (-10000)) - 1)).bind fun t600 => (some t600)))) else ((r3_Exact.f k a0 a1 t590 ((mx (mn a4 10000) (-10000)) - 1)).bind fun t601 => (some t601))))
theorem r3_Pack.mono : ∀ a0 a1 a2 a3 a4 a5 k, LeO (r3_Pack.f k a0 a1 a2 a3 a4 a5) (r3_Pack.f (k + 1) a0 a1 a2 a3 a4 a5) := by
 intro a0 a1 a2 a3 a4 a5 k
 unfold r3_Pack.f
 repeat' first
   | (with_reducible exact r1_Add.mono _ _ _)
   | (with_reducible exact r1_Of.mono _ _)
   | (with_reducible exact r1_Pair.mono _ _ _)
   | (with_reducible exact r1_Shl.mono _ _ _)
   | (with_reducible exact r3_Exact.mono _ _ _ _ _)
   | (with_reducible exact LeO.refl _)
   | (with_reducible exact LeO.none _)
   | (with_reducible refine LeO.ite ?_ ?_)
   | (with_reducible refine LeO.bind ?_ (fun _ => ?_))
   | exact r1_Add.mono _ _ _
   | exact r1_Of.mono _ _
   | exact r1_Pair.mono _ _ _
   | exact r1_Shl.mono _ _ _
   | exact r3_Exact.mono _ _ _ _ _
   | exact LeO.none _
   | refine LeO.ite ?_ ?_
   | refine LeO.bind ?_ (fun _ => ?_)
theorem r3_Pack.calls (k : Nat) (a0 : Int) (a1 : Bool) (a2 : Int) (a3 : Int) (a4 : Int) (a5 : Bool) (r : Int) (w : World) (h : r3_Pack.f k a0 a1 a2 a3 a4 a5 = some r) :
  Calls Try.prog 37 #[.int .i64 a0, .bool a1, .int .u64 a2, .int .u64 a3, .int .i64 a4, .bool a5] w fun e w' => e = .returned (.int .u64 r) ∧ Below w.heap.size w w' := by
 have hu63 := Try.underlying63
 have HB := A_ (Below.refl w.heap.size w)
 have H : ((r1_Pair.f k a2 a3).bind fun t587 => ((r1_Shl.f k t587 1).bind fun t590 => (if a5 = true then ((r1_Of.f k 1).bind fun t594 => ((r1_Add.f k t590 t594).bind fun t597 => ((r3_Exact.f k a0 a1 t597 ((mx (mn a4 10000) (-10000)) - 1)).bind fun t600 => (some t600)))) else ((r3_Exact.f k a0 a1 t590 ((mx (mn a4 10000) (-10000)) - 1)).bind fun t601 => (some t601))))) = some r := h
 clear h
 replace H := ob_ H
 obtain ⟨t587, A70, H⟩ := H
 replace H : ((r1_Shl.f k t587 1).bind fun t590 => (if a5 = true then ((r1_Of.f k 1).bind fun t594 => ((r1_Add.f k t590 t594).bind fun t597 => ((r3_Exact.f k a0 a1 t597 ((mx (mn a4 10000) (-10000)) - 1)).bind fun t600 => (some t600)))) else ((r3_Exact.f k a0 a1 t590 ((mx (mn a4 10000) (-10000)) - 1)).bind fun t601 => (some t601)))) = some r := H
 have A7 := A_ A70;clear A70
 replace H := ob_ H
 obtain ⟨t590, A80, H⟩ := H
 replace H : (if a5 = true then ((r1_Of.f k 1).bind fun t594 => ((r1_Add.f k t590 t594).bind fun t597 => ((r3_Exact.f k a0 a1 t597 ((mx (mn a4 10000) (-10000)) - 1)).bind fun t600 => (some t600)))) else ((r3_Exact.f k a0 a1 t590 ((mx (mn a4 10000) (-10000)) - 1)).bind fun t601 => (some t601))) = some r := H
 have A8 := A_ A80;clear A80
 by_cases c9 : a5 = true
 ·subst c9
  have H1 : ((r1_Of.f k 1).bind fun t594 => ((r1_Add.f k t590 t594).bind fun t597 => ((r3_Exact.f k a0 a1 t597 ((mx (mn a4 10000) (-10000)) - 1)).bind fun t600 => (some t600)))) = some r := by rw [if_pos rfl] at H; exact H
  clear H;have H := H1;clear H1
  replace H := ob_ H
  obtain ⟨t594, A100, H⟩ := H
  replace H : ((r1_Add.f k t590 t594).bind fun t597 => ((r3_Exact.f k a0 a1 t597 ((mx (mn a4 10000) (-10000)) - 1)).bind fun t600 => (some t600))) = some r := H
  have A10 := A_ A100;clear A100
  replace H := ob_ H
  obtain ⟨t597, A110, H⟩ := H
  replace H : ((r3_Exact.f k a0 a1 t597 ((mx (mn a4 10000) (-10000)) - 1)).bind fun t600 => (some t600)) = some r := H
  have A11 := A_ A110;clear A110
  obtain ⟨ji12, hji12⟩ : ∃ j_ : Int, (mn a4 10000) = j_ := ⟨_, rfl⟩
  replace H : ((r3_Exact.f k a0 a1 t597 ((mx (ji12) (-10000)) - 1)).bind fun t600 => (some t600)) = some r := by first | (rw [hji12] at H; exact H) | (simp only [hji12] at H ⊢; exact H)
  (try rw [hji12] at A7)
  (try rw [hji12] at A8)
  (try rw [hji12] at A10)
  (try rw [hji12] at A11)
  (try (have hji12h : ji12 ≤ 10000 := by (rw [← hji12]; unfold mn; (repeat' split) <;> omega)))
  (try (have hji12g : ji12 ≤ 64 := by omega))
  have hji12_ : (if 10000 < a4 then 10000 else a4) = ji12 := hji12
  obtain ⟨ji13, hji13⟩ : ∃ j_ : Int, (mx (ji12) (-10000)) = j_ := ⟨_, rfl⟩
  replace H : ((r3_Exact.f k a0 a1 t597 ((ji13) - 1)).bind fun t600 => (some t600)) = some r := by first | (rw [hji13] at H; exact H) | (simp only [hji13] at H ⊢; exact H)
  (try rw [hji13] at A7)
  (try rw [hji13] at A8)
  (try rw [hji13] at A10)
  (try rw [hji13] at A11)
  have hji13_ : (if (ji12) < (-10000) then (-10000) else (ji12)) = ji13 := hji13
  replace H := ob_ H
  obtain ⟨t600, A140, H⟩ := H
  replace H : (some t600) = some r := H
  have A14 := A_ A140;clear A140
  obtain rfl := Option.some.inj H
  go_enter Try.func37, Try.ntmps37
  try go_wp2_with (first | ((with_reducible refine gate_callee (f := 79) rfl ?_); refine gl_ (some 16) Try.func79 #[.int .u64 a2, .int .u64 a3] ?_; (with_reducible refine (r1_Pair.calls k a2 a3 t587 _ A7.out).mono ?_); rintro e w15 ⟨v588, rfl, ho0, hb⟩; refine ⟨_, rfl, ?_⟩; have n0_ := A_ (Kd.R_lower ho0 (below_size (hb_ HB.out))); have n1_ := A_ (below_step (hb_ HB.out) hb); clear HB; have HO589 := n0_; have HB := n1_; clear n0_ n1_; (try clear hb); (try clear hb2); (try clear hk); (try clear hi); (try clear ho0); obtain ⟨Ao16, co16, eo16⟩ := Kd.R_slice HO589.out; subst eo16) | ((with_reducible refine gate_callee (f := 78) rfl ?_); refine gl_ (some 17) Try.func78 #[.agg #[.slice Ao16 t587.length co16], .int .i64 1] ?_; (with_reducible refine (r1_Shl.calls k _ _ t587 1 t590 _ ?side1 ?side2 A8.out).mono ?_); (case side1 => repeat (first | exact (Kd.R_reads' HO589.out).2.2 | (with_reducible refine Kd.C_alloc ?_ _) | (with_reducible refine Kd.C_drewN ?_ _) | (with_reducible refine Kd.C_drew ?_))); (case side2 => exact (Kd.R_reads' HO589.out).2.1); rintro e w17 ⟨v591, rfl, ho0, hb⟩; refine ⟨_, rfl, ?_⟩; have n0_ := A_ (Kd.R_elder' (kr_ HO589.out) (Kd.R_base ho0) hb); have n1_ := A_ (Kd.R_lower (Kd.R_new' ho0 (Kd.R_lt (kr_ HO589.out))) (below_size (hb_ HB.out))); have n2_ := A_ (below_step (hb_ HB.out) hb); clear HO589; clear HB; have HO589 := n0_; have HO592 := n1_; have HB := n2_; clear n0_ n1_ n2_; (try clear hb); (try clear hb2); (try clear hk); (try clear hi); (try clear ho0)) | ((with_reducible refine gate_dst (N := 13) rfl ?_); refine be_ 13 #[.slice none 0 0] 63 ?_; intro gb593 hg w18 hbox hb; have n0_ := A_ (Kd.R_below (kr_ HO589.out) hb); have n1_ := A_ (Kd.R_below (kr_ HO592.out) hb); have n2_ := A_ (below_step (hb_ HB.out) hb); have n3_ := A_ (hbox); have n4_ := A_ (sz_ hg (hb_ HB.out)); have n5_ := A_ (sz_ hg (hb_ HB.out)); clear HO589; clear HO592; clear HB; have HO589 := n0_; have HO592 := n1_; have HB := n2_; have BK593 := n3_; have GW593 := n4_; have GE593 := n5_; clear n0_ n1_ n2_ n3_ n4_ n5_; clear hb hbox hg; obtain ⟨Ao19, co19, eo19⟩ := Kd.R_slice HO592.out; subst eo19; have hcz20_0 : w18.cell? ⟨gb593, 0, none⟩ = some (.slice none 0 0) := bc_ BK593.out 0; have hfz20_0 := blk_frozen BK593.out 0))
  have n0_ : Aside0 (Kd.R (Kd.int .u64) 22 (w18.setCell ⟨gb593, 0, none⟩ (.slice Ao19 t590.length co19)) w.heap.size (fun k_ => some k_ ≠ (.slice Ao19 t590.length co19 : Value).ownBlock) (.slice Ao16 t587.length co16) t587) := ⟨by (with_reducible repeat (first | apply Kd.R_alloc | apply Kd.R_drewN | apply Kd.R_drew)); exact Kd.R_mono (Kd.R_far (p := ⟨gb593, 0, none⟩) (Kd.R_types HO589.out BK593.out (by decide)) (fun _ hk => hk.2) (.slice Ao19 t590.length co19)) (fun _ hk => hk.1.2)⟩
  have n1_ : Aside0 (Kd.R (Kd.int .u64) 22 (w18.setCell ⟨gb593, 0, none⟩ (.slice Ao19 t590.length co19)) w.heap.size (fun k_ => some k_ ≠ (.slice Ao16 t587.length co16 : Value).ownBlock) (.slice Ao19 t590.length co19) t590) := ⟨by (with_reducible repeat (first | apply Kd.R_alloc | apply Kd.R_drewN | apply Kd.R_drew)); exact Kd.R_mono (Kd.R_far (p := ⟨gb593, 0, none⟩) (Kd.R_types HO592.out BK593.out (by decide)) (fun _ hk => hk.2) (.slice Ao19 t590.length co19)) (fun _ hk => hk.1.2)⟩
  have n2_ : Aside0 ((w18.setCell ⟨gb593, 0, none⟩ (.slice Ao19 t590.length co19)).heap[gb593]? = some (.cells #[.slice Ao19 t590.length co19] 63 (0, 0))) := ⟨by (with_reducible repeat (first | refine blk_drewN ?_ _ | refine blk_drew ?_ | refine blk_alloc ?_ _)); refine blk_put (cs := #[.slice none 0 0]) ?_ 0 _ rfl; (with_reducible repeat (first | refine blk_drewN ?_ _ | refine blk_drew ?_ | refine blk_alloc ?_ _)); exact BK593.out⟩
  have n3_ : Aside0 (Below w.heap.size w (w18.setCell ⟨gb593, 0, none⟩ (.slice Ao19 t590.length co19))) := ⟨hb1_ HB.out GE593.out⟩
  (try clear HO589);(try clear HO592);(try clear BK593);(try clear HB)
  generalize (w18.setCell ⟨gb593, 0, none⟩ (.slice Ao19 t590.length co19)) = w21 at n0_ n1_ n2_ n3_ ⊢
  have HO589 := n0_;have HO592 := n1_;have BK593 := n2_;have HB := n3_;clear n0_ n1_ n2_ n3_
  have n0_ := A_ (Kd.R_drew HO589.out)
  have n1_ := A_ (Kd.R_drew HO592.out)
  have n2_ := A_ (blk_drew BK593.out)
  have n3_ := A_ (below_drew1 HB.out)
  clear HO589;clear HO592;clear BK593;clear HB;have HO589 := n0_;have HO592 := n1_;have BK593 := n2_;have HB := n3_;clear n0_ n1_ n2_ n3_
  refine start_ (n := 4) (S := fun w' => w'.cell? ⟨gb593, 0, none⟩ = some (.slice Ao19 t590.length co19)) (ds := [3]) #[false, false, false, false] (by kernel_rfl) rfl rfl (bc_ BK593.out 0) (fun hHeld => ?_)
  generalize w21.drew = w22 at HO589 HO592 BK593 HB hHeld ⊢
  refine tk1_ 0 (some 19) #[true, false, false, false] rfl rfl (by kernel_rfl) hHeld ?_
  refine one_ (i := 1) (N := some 20) #[true, true, false, false] rfl rfl (by kernel_rfl) (by decide) (fun K hK => ?_)
  refine goes_ Try.func62 (by kernel_rfl) rfl #[.int .u64 1] (by rfl) rfl rfl mp_ ?_
  with_reducible refine (r1_Of.calls k 1 t594 _ A10.out).mono ?_
  rintro e w23 ⟨v595, rfl, ho0, hb⟩
  refine ⟨_, rfl, ?_⟩
  have n0_ := A_ (Kd.R_elder' (kr_ HO589.out) (Kd.R_base ho0) hb)
  have n1_ := A_ (Kd.R_elder' (kr_ HO592.out) (Kd.R_base ho0) hb)
  have n2_ := A_ (Kd.R_lower (Kd.R_new' (Kd.R_new' ho0 (Kd.R_lt (kr_ HO589.out))) (Kd.R_lt (kr_ HO592.out))) (below_size (hb1_ HB.out GE593.out)))
  have n3_ := A_ (bb_ BK593.out hb)
  have n4_ := A_ (below_step (hb1_ HB.out GE593.out) hb)
  clear HO589;clear HO592;clear BK593;clear HB;have HO589 := n0_;have HO592 := n1_;have HO596 := n2_;have BK593 := n3_;have HB := n4_;clear n0_ n1_ n2_ n3_ n4_;(try clear hb);(try clear hb2);(try clear hk);(try clear hi);(try clear ho0)
  obtain ⟨Ao24, co24, eo24⟩ := Kd.R_slice HO596.out
  (first | subst eo24 | (injection eo24 with f1_ f2_ f3_; have f4_ := f1_.symm; have f5_ := f3_.symm; clear f1_ f2_ f3_; subst f4_; subst f5_))
  refine hK.out _ _ (bc_ BK593.out 0) (fun hHeld => ?_)
  clear hK K
  refine norm_ (a' := ?_) ?_ ?_
  rotate_left
  ·show Act.put _ (some 20) _ = _
   simp only [Act.put, lI_, l0_, lS_, i64_w, i32_w]
   rfl
  refine one_ (i := 2) (N := some 21) #[true, true, true, false] rfl rfl (by kernel_rfl) (by decide) (fun K hK => ?_)
  refine goes_ Try.func80 (by kernel_rfl) rfl #[.agg #[.slice Ao19 t590.length co19], .agg #[.slice Ao24 t594.length co24]] (by rfl) rfl rfl mp_ ?_
  with_reducible refine (r1_Add.calls k _ _ t590 _ _ t594 t597 _ ?side1 ?side2 ?side3 ?side4 A11.out).mono ?_
  (case side1 => repeat (first | exact (Kd.R_reads' HO592.out).2.2 | (with_reducible refine Kd.C_alloc ?_ _) | (with_reducible refine Kd.C_drewN ?_ _) | (with_reducible refine Kd.C_drew ?_)))
  (case side2 => exact (Kd.R_reads' HO592.out).2.1)
  (case side3 => repeat (first | exact (Kd.R_reads' HO596.out).2.2 | (with_reducible refine Kd.C_alloc ?_ _) | (with_reducible refine Kd.C_drewN ?_ _) | (with_reducible refine Kd.C_drew ?_)))
  (case side4 => exact (Kd.R_reads' HO596.out).2.1)
  rintro e w25 ⟨v598, rfl, ho0, hb⟩
  refine ⟨_, rfl, ?_⟩
  have n0_ := A_ (Kd.R_elder' (kr_ HO589.out) (Kd.R_base ho0) hb)
  have n1_ := A_ (Kd.R_elder' (kr_ HO592.out) (Kd.R_base ho0) hb)
  have n2_ := A_ (Kd.R_elder' (kr_ HO596.out) (Kd.R_base ho0) hb)
  have n3_ := A_ (Kd.R_lower (Kd.R_new' (Kd.R_new' (Kd.R_new' ho0 (Kd.R_lt (kr_ HO589.out))) (Kd.R_lt (kr_ HO592.out))) (Kd.R_lt (kr_ HO596.out))) (below_size (hb1_ HB.out GE593.out)))
  have n4_ := A_ (bb_ BK593.out hb)
  have n5_ := A_ (below_step (hb1_ HB.out GE593.out) hb)
  clear HO589;clear HO592;clear HO596;clear BK593;clear HB;have HO589 := n0_;have HO592 := n1_;have HO596 := n2_;have HO599 := n3_;have BK593 := n4_;have HB := n5_;clear n0_ n1_ n2_ n3_ n4_ n5_;(try clear hb);(try clear hb2);(try clear hk);(try clear hi);(try clear ho0)
  obtain ⟨Ao26, co26, eo26⟩ := Kd.R_slice HO599.out
  (first | subst eo26 | (injection eo26 with f1_ f2_ f3_; have f4_ := f1_.symm; have f5_ := f3_.symm; clear f1_ f2_ f3_; subst f4_; subst f5_))
  refine hK.out _ _ (bc_ BK593.out 0) (fun hHeld => ?_)
  clear hK K
  refine norm_ (a' := ?_) ?_ ?_
  rotate_left
  ·show Act.put _ (some 21) _ = _
   simp only [Act.put, lI_, l0_, lS_, i64_w, i32_w]
   rfl
  refine last_ (i := 3) (N := none) #[true, true, true, true] rfl rfl (by kernel_rfl) (by decide) (fun K hK => ?_)
  have hs27 : w25.cell? ⟨gb593, 0, none⟩ = some (.slice Ao19 t590.length co19) := bc_ BK593.out 0
  have hfs27 := blk_frozen BK593.out 0
  refine skip_ (w1 := ?_) (by rfl) rfl ?_ ?_
  rotate_left
  ·go_simp
   rfl
  refine hK.out _ _ ?_
  clear hK K
  refine done_ (by kernel_rfl) ?_
  have hcz28_0 : w25.cell? ⟨gb593, 0, none⟩ = some (.slice Ao19 t590.length co19) := bc_ BK593.out 0
  have hfz28_0 := blk_frozen BK593.out 0
  try go_wp2_with (first | ((with_reducible refine gate_callee (f := 60) rfl ?_); refine goesL_ (some 29) rfl rfl Try.func60 (by kernel_rfl) rfl #[.int .i64 a0, .bool a1, .agg #[.slice Ao26 t597.length co26], .int .i64 ((ji13) - 1)] rfl (by (try simp only [List.map_toArray, List.map_cons, List.map_nil]); first | done | (simp only [hji13]; rfl) | rfl | (simp only [List.length_drop, List.length_take]; rfl)) ?_; (with_reducible refine (r3_Exact.calls k a0 a1 _ _ t597 ((ji13) - 1) t600 _ ?side1 ?side2 A14.out).mono ?_); (case side1 => refine (Kd.R_reads' (e := 22) (base := w.heap.size) (ok := fun k_ => (((True ∧ some k_ ≠ (.slice Ao16 t587.length co16 : Value).ownBlock) ∧ some k_ ≠ (.slice Ao19 t590.length co19 : Value).ownBlock) ∧ some k_ ≠ (.slice Ao24 t594.length co24 : Value).ownBlock)) (n := t597.length) (c := co26) ?_).2.2; exact (by (with_reducible repeat (first | apply Kd.R_alloc | apply Kd.R_drewN | apply Kd.R_drew)); exact (Kd.R_mono (Kd.R_far (p := ⟨gb593, 0, none⟩) (Kd.R_types HO599.out BK593.out (by decide)) (fun _ hk => hk.2) (.slice Ao26 t597.length co26)) (fun _ h_ => h_.1)))); (case side2 => exact (Kd.R_reads' HO599.out).2.1); rintro e w29 ⟨rfl, hb⟩; refine ⟨_, rfl, ?_⟩; have n0_ := A_ (Kd.R_below (by (with_reducible repeat (first | apply Kd.R_alloc | apply Kd.R_drewN | apply Kd.R_drew)); exact (Kd.R_mono (Kd.R_far (p := ⟨gb593, 0, none⟩) (Kd.R_types HO589.out BK593.out (by decide)) (fun _ hk => hk.2) (.slice Ao26 t597.length co26)) (fun _ h_ => h_.1))) hb); have n1_ := A_ (Kd.R_below (by (with_reducible repeat (first | apply Kd.R_alloc | apply Kd.R_drewN | apply Kd.R_drew)); exact (Kd.R_mono (Kd.R_far (p := ⟨gb593, 0, none⟩) (Kd.R_types HO592.out BK593.out (by decide)) (fun _ hk => hk.2) (.slice Ao26 t597.length co26)) (fun _ h_ => h_.1))) hb); have n2_ := A_ (Kd.R_below (by (with_reducible repeat (first | apply Kd.R_alloc | apply Kd.R_drewN | apply Kd.R_drew)); exact (Kd.R_mono (Kd.R_far (p := ⟨gb593, 0, none⟩) (Kd.R_types HO596.out BK593.out (by decide)) (fun _ hk => hk.2) (.slice Ao26 t597.length co26)) (fun _ h_ => h_.1))) hb); have n3_ := A_ (Kd.R_below (by (with_reducible repeat (first | apply Kd.R_alloc | apply Kd.R_drewN | apply Kd.R_drew)); exact (Kd.R_mono (Kd.R_far (p := ⟨gb593, 0, none⟩) (Kd.R_types HO599.out BK593.out (by decide)) (fun _ hk => hk.2) (.slice Ao26 t597.length co26)) (fun _ h_ => h_.1))) hb); have n4_ := A_ (blk_below (g := gb593) (o := .cells #[.slice Ao26 t597.length co26] 63 (0, 0)) (by (with_reducible repeat (first | refine blk_drewN ?_ _ | refine blk_drew ?_ | refine blk_alloc ?_ _)); refine blk_put (cs := #[.slice Ao19 t590.length co19]) ?_ 0 _ rfl; (with_reducible repeat (first | refine blk_drewN ?_ _ | refine blk_drew ?_ | refine blk_alloc ?_ _)); exact BK593.out) hb); have n5_ := A_ (below_step (hb1_ HB.out GE593.out) hb); clear HO589; clear HO592; clear HO596; clear HO599; clear BK593; clear HB; have HO589 := n0_; have HO592 := n1_; have HO596 := n2_; have HO599 := n3_; have BK593 := n4_; have HB := n5_; clear n0_ n1_ n2_ n3_ n4_ n5_; (try clear hb); (try clear hb2); (try clear hk); (try clear hi)))
  go_ret
  exact ⟨by first | rfl | (simp [errW_none, errW_some] <;> rfl) | (simp only [← hji12, ← hji13]; first | rfl | (simp [errW_none, errW_some] <;> rfl)) | (simp [*, errW_none, errW_some] <;> rfl), hb1_ HB.out GE593.out⟩
 ·replace c9 := Bool.eq_false_iff.mpr c9
  subst c9
  have H1 : ((r3_Exact.f k a0 a1 t590 ((mx (mn a4 10000) (-10000)) - 1)).bind fun t601 => (some t601)) = some r := by rw [if_neg (show ¬ (false = true) by decide)] at H; exact H
  clear H;have H := H1;clear H1
  obtain ⟨ji30, hji30⟩ : ∃ j_ : Int, (mn a4 10000) = j_ := ⟨_, rfl⟩
  replace H : ((r3_Exact.f k a0 a1 t590 ((mx (ji30) (-10000)) - 1)).bind fun t601 => (some t601)) = some r := by first | (rw [hji30] at H; exact H) | (simp only [hji30] at H ⊢; exact H)
  (try rw [hji30] at A7)
  (try rw [hji30] at A8)
  (try (have hji30h : ji30 ≤ 10000 := by (rw [← hji30]; unfold mn; (repeat' split) <;> omega)))
  (try (have hji30g : ji30 ≤ 64 := by omega))
  have hji30_ : (if 10000 < a4 then 10000 else a4) = ji30 := hji30
  obtain ⟨ji31, hji31⟩ : ∃ j_ : Int, (mx (ji30) (-10000)) = j_ := ⟨_, rfl⟩
  replace H : ((r3_Exact.f k a0 a1 t590 ((ji31) - 1)).bind fun t601 => (some t601)) = some r := by first | (rw [hji31] at H; exact H) | (simp only [hji31] at H ⊢; exact H)
  (try rw [hji31] at A7)
  (try rw [hji31] at A8)
  have hji31_ : (if (ji30) < (-10000) then (-10000) else (ji30)) = ji31 := hji31
  replace H := ob_ H
  obtain ⟨t601, A320, H⟩ := H
  replace H : (some t601) = some r := H
  have A32 := A_ A320;clear A320
  obtain rfl := Option.some.inj H
  go_enter Try.func37, Try.ntmps37
  go_wp2_with (first | ((with_reducible refine gate_callee (f := 79) rfl ?_); refine gl_ (some 16) Try.func79 #[.int .u64 a2, .int .u64 a3] ?_; (with_reducible refine (r1_Pair.calls k a2 a3 t587 _ A7.out).mono ?_); rintro e w33 ⟨v588, rfl, ho0, hb⟩; refine ⟨_, rfl, ?_⟩; have n0_ := A_ (Kd.R_lower ho0 (below_size (hb_ HB.out))); have n1_ := A_ (below_step (hb_ HB.out) hb); clear HB; have HO589 := n0_; have HB := n1_; clear n0_ n1_; (try clear hb); (try clear hb2); (try clear hk); (try clear hi); (try clear ho0); obtain ⟨Ao34, co34, eo34⟩ := Kd.R_slice HO589.out; subst eo34) | ((with_reducible refine gate_callee (f := 78) rfl ?_); refine gl_ (some 17) Try.func78 #[.agg #[.slice Ao34 t587.length co34], .int .i64 1] ?_; (with_reducible refine (r1_Shl.calls k _ _ t587 1 t590 _ ?side1 ?side2 A8.out).mono ?_); (case side1 => repeat (first | exact (Kd.R_reads' HO589.out).2.2 | (with_reducible refine Kd.C_alloc ?_ _) | (with_reducible refine Kd.C_drewN ?_ _) | (with_reducible refine Kd.C_drew ?_))); (case side2 => exact (Kd.R_reads' HO589.out).2.1); rintro e w35 ⟨v591, rfl, ho0, hb⟩; refine ⟨_, rfl, ?_⟩; have n0_ := A_ (Kd.R_elder' (kr_ HO589.out) (Kd.R_base ho0) hb); have n1_ := A_ (Kd.R_lower (Kd.R_new' ho0 (Kd.R_lt (kr_ HO589.out))) (below_size (hb_ HB.out))); have n2_ := A_ (below_step (hb_ HB.out) hb); clear HO589; clear HB; have HO589 := n0_; have HO592 := n1_; have HB := n2_; clear n0_ n1_ n2_; (try clear hb); (try clear hb2); (try clear hk); (try clear hi); (try clear ho0)) | ((with_reducible refine gate_dst (N := 13) rfl ?_); refine be_ 13 #[.slice none 0 0] 63 ?_; intro gb593 hg w36 hbox hb; have n0_ := A_ (Kd.R_below (kr_ HO589.out) hb); have n1_ := A_ (Kd.R_below (kr_ HO592.out) hb); have n2_ := A_ (below_step (hb_ HB.out) hb); have n3_ := A_ (hbox); have n4_ := A_ (sz_ hg (hb_ HB.out)); have n5_ := A_ (sz_ hg (hb_ HB.out)); clear HO589; clear HO592; clear HB; have HO589 := n0_; have HO592 := n1_; have HB := n2_; have BK593 := n3_; have GW593 := n4_; have GE593 := n5_; clear n0_ n1_ n2_ n3_ n4_ n5_; clear hb hbox hg; obtain ⟨Ao37, co37, eo37⟩ := Kd.R_slice HO592.out; subst eo37; have hcz38_0 : w36.cell? ⟨gb593, 0, none⟩ = some (.slice none 0 0) := bc_ BK593.out 0; have hfz38_0 := blk_frozen BK593.out 0) | ((with_reducible refine gate_callee (f := 60) rfl ?_); refine goesL_ (some 29) rfl rfl Try.func60 (by kernel_rfl) rfl #[.int .i64 a0, .bool a1, .agg #[.slice Ao37 t590.length co37], .int .i64 ((ji31) - 1)] rfl (by (try simp only [List.map_toArray, List.map_cons, List.map_nil]); first | done | (simp only [hji31]; rfl) | rfl | (simp only [List.length_drop, List.length_take]; rfl)) ?_; (with_reducible refine (r3_Exact.calls k a0 a1 _ _ t590 ((ji31) - 1) t601 _ ?side1 ?side2 A32.out).mono ?_); (case side1 => refine (Kd.R_reads' (e := 22) (base := w.heap.size) (ok := fun k_ => (True ∧ some k_ ≠ (.slice Ao34 t587.length co34 : Value).ownBlock)) (n := t590.length) (c := co37) ?_).2.2; exact (by (with_reducible repeat (first | apply Kd.R_alloc | apply Kd.R_drewN | apply Kd.R_drew)); exact (Kd.R_mono (Kd.R_far (p := ⟨gb593, 0, none⟩) (Kd.R_types HO592.out BK593.out (by decide)) (fun _ hk => hk.2) (.slice Ao37 t590.length co37)) (fun _ h_ => h_.1)))); (case side2 => exact (Kd.R_reads' HO592.out).2.1); rintro e w39 ⟨rfl, hb⟩; refine ⟨_, rfl, ?_⟩; have n0_ := A_ (Kd.R_below (by (with_reducible repeat (first | apply Kd.R_alloc | apply Kd.R_drewN | apply Kd.R_drew)); exact (Kd.R_mono (Kd.R_far (p := ⟨gb593, 0, none⟩) (Kd.R_types HO589.out BK593.out (by decide)) (fun _ hk => hk.2) (.slice Ao37 t590.length co37)) (fun _ h_ => h_.1))) hb); have n1_ := A_ (Kd.R_below (by (with_reducible repeat (first | apply Kd.R_alloc | apply Kd.R_drewN | apply Kd.R_drew)); exact (Kd.R_mono (Kd.R_far (p := ⟨gb593, 0, none⟩) (Kd.R_types HO592.out BK593.out (by decide)) (fun _ hk => hk.2) (.slice Ao37 t590.length co37)) (fun _ h_ => h_.1))) hb); have n2_ := A_ (blk_below (g := gb593) (o := .cells #[.slice Ao37 t590.length co37] 63 (0, 0)) (by (with_reducible repeat (first | refine blk_drewN ?_ _ | refine blk_drew ?_ | refine blk_alloc ?_ _)); refine blk_put (cs := #[.slice none 0 0]) ?_ 0 _ rfl; (with_reducible repeat (first | refine blk_drewN ?_ _ | refine blk_drew ?_ | refine blk_alloc ?_ _)); exact BK593.out) hb); have n3_ := A_ (below_step (hb1_ HB.out GE593.out) hb); clear HO589; clear HO592; clear BK593; clear HB; have HO589 := n0_; have HO592 := n1_; have BK593 := n2_; have HB := n3_; clear n0_ n1_ n2_ n3_; (try clear hb); (try clear hb2); (try clear hk); (try clear hi)))
  go_ret
  exact ⟨by first | rfl | (simp [errW_none, errW_some] <;> rfl) | (simp only [← hji30, ← hji31]; first | rfl | (simp [errW_none, errW_some] <;> rfl)) | (simp [*, errW_none, errW_some] <;> rfl), hb1_ HB.out GE593.out⟩
def r3_Narrow.f (k : Nat) (a0 : Int) (a1_0 : Bool) (a1_1 : Int) (a1_2 : Int) (a1_3 : Int) : Option (Int) := if a1_1 = 0 then ((r2_Make.f k a0 a1_0 0 0).bind fun t603 => (some t603)) else (if a1_1 = 1 then ((r3_Pack.f k a0 a1_0 0 a1_3 a1_2 false).bind fun t604 => (some t604)) else (if a1_1 = 2 then ((r2_Inf.f k a0 a1_0).bind fun t605 => (some t605)) else (if a1_1 = 3 then ((r2_Nan.f k a0).bind fun t606 => (some t606)) else (some 0))))
theorem r3_Narrow.mono : ∀ a0 a1 a2 a3 a4 k, LeO (r3_Narrow.f k a0 a1 a2 a3 a4) (r3_Narrow.f (k + 1) a0 a1 a2 a3 a4) := by
 intro a0 a1 a2 a3 a4 k
 unfold r3_Narrow.f
 repeat' first
   | (with_reducible exact r2_Inf.mono _ _ _)
   | (with_reducible exact r2_Make.mono _ _ _ _ _)
   | (with_reducible exact r2_Nan.mono _ _)
   | (with_reducible exact r3_Pack.mono _ _ _ _ _ _ _)
   | (with_reducible exact LeO.refl _)
   | (with_reducible exact LeO.none _)
   | (with_reducible refine LeO.ite ?_ ?_)
   | (with_reducible refine LeO.bind ?_ (fun _ => ?_))
   | exact r2_Inf.mono _ _ _
   | exact r2_Make.mono _ _ _ _ _
   | exact r2_Nan.mono _ _
   | exact r3_Pack.mono _ _ _ _ _ _ _
   | exact LeO.none _
   | refine LeO.ite ?_ ?_
   | refine LeO.bind ?_ (fun _ => ?_)
theorem r3_Narrow.calls (k : Nat) (a0 : Int) (a1_0 : Bool) (a1_1 : Int) (a1_2 : Int) (a1_3 : Int) (r : Int) (w : World) (h : r3_Narrow.f k a0 a1_0 a1_1 a1_2 a1_3 = some r) :
  Calls Try.prog 63 #[.int .i64 a0, .agg #[.bool a1_0, .int .i64 a1_1, .int .i64 a1_2, .int .u64 a1_3]] w fun e w' => e = .returned (.int .u64 r) ∧ Below w.heap.size w w' := by
 have hu57 := Try.underlying57
 have HB := A_ (Below.refl w.heap.size w)
 have H : (if a1_1 = 0 then ((r2_Make.f k a0 a1_0 0 0).bind fun t603 => (some t603)) else (if a1_1 = 1 then ((r3_Pack.f k a0 a1_0 0 a1_3 a1_2 false).bind fun t604 => (some t604)) else (if a1_1 = 2 then ((r2_Inf.f k a0 a1_0).bind fun t605 => (some t605)) else (if a1_1 = 3 then ((r2_Nan.f k a0).bind fun t606 => (some t606)) else (some 0))))) = some r := h
 clear h
 by_cases c3 : a1_1 = 0
 ·rw [if_pos c3] at H
  have c3b0 : (a1_1 == 0) = true := beq_iff_eq.mpr c3
  have c3b1 : (a1_1 != 0) = false := bne_eq_false_iff_eq.mpr c3
  clear c3
  replace H := ob_ H
  obtain ⟨t603, A40, H⟩ := H
  replace H : (some t603) = some r := H
  have A4 := A_ A40;clear A40
  obtain rfl := Option.some.inj H
  go_enter Try.func63, Try.ntmps63
  go_wp2_with (first | ((with_reducible refine gate_dst (N := 3) rfl ?_); refine be_ 3 #[.bool a1_0, .int .i64 a1_1, .int .i64 a1_2, .int .u64 a1_3] 57 ?_; intro gb602 hg w5 hbox hb; have n0_ := A_ (below_step (hb_ HB.out) hb); have n1_ := A_ (hbox); have n2_ := A_ (sz_ hg (hb_ HB.out)); have n3_ := A_ (sz_ hg (hb_ HB.out)); clear HB; have HB := n0_; have BK602 := n1_; have GW602 := n2_; have GE602 := n3_; clear n0_ n1_ n2_ n3_; clear hb hbox hg; have hcz6_0 : w5.cell? ⟨gb602, 0, none⟩ = some (.bool a1_0) := bc_ BK602.out 0; have hcz6_1 : w5.cell? ⟨gb602, 1, none⟩ = some (.int .i64 a1_1) := bc_ BK602.out 1; have hcz6_2 : w5.cell? ⟨gb602, 2, none⟩ = some (.int .i64 a1_2) := bc_ BK602.out 2; have hcz6_3 : w5.cell? ⟨gb602, 3, none⟩ = some (.int .u64 a1_3) := bc_ BK602.out 3; have hfz6_0 := blk_frozen BK602.out 0; have hfz6_1 := blk_frozen BK602.out 1; have hfz6_2 := blk_frozen BK602.out 2; have hfz6_3 := blk_frozen BK602.out 3) | ((with_reducible refine gate_callee (f := 17) rfl ?_); refine gl_ (some 12) Try.func17 #[.int .i64 a0, .bool a1_0, .int .i64 0, .int .u64 0] ?_; (with_reducible refine (r2_Make.calls k a0 a1_0 0 0 t603 _ A4.out).mono ?_); rintro e w' ⟨rfl, ⟨nd, rfl⟩⟩; refine ⟨_, rfl, ?_⟩))
  go_ret
  exact ⟨er_, hb1_ HB.out GE602.out⟩
 ·rw [if_neg c3] at H
  have c3b0 : (a1_1 == 0) = false := beq_eq_false_iff_ne.mpr c3
  have c3b1 : (a1_1 != 0) = true := bne_iff_ne.mpr c3
  by_cases c7 : a1_1 = 1
  ·rw [if_pos c7] at H
   have c7b0 : (a1_1 == 1) = true := beq_iff_eq.mpr c7
   have c7b1 : (a1_1 != 1) = false := bne_eq_false_iff_eq.mpr c7
   clear c7
   replace H := ob_ H
   obtain ⟨t604, A80, H⟩ := H
   replace H : (some t604) = some r := H
   have A8 := A_ A80;clear A80
   obtain rfl := Option.some.inj H
   go_enter Try.func63, Try.ntmps63
   go_wp2_with (first | ((with_reducible refine gate_dst (N := 3) rfl ?_); refine be_ 3 #[.bool a1_0, .int .i64 a1_1, .int .i64 a1_2, .int .u64 a1_3] 57 ?_; intro gb602 hg w9 hbox hb; have n0_ := A_ (below_step (hb_ HB.out) hb); have n1_ := A_ (hbox); have n2_ := A_ (sz_ hg (hb_ HB.out)); have n3_ := A_ (sz_ hg (hb_ HB.out)); clear HB; have HB := n0_; have BK602 := n1_; have GW602 := n2_; have GE602 := n3_; clear n0_ n1_ n2_ n3_; clear hb hbox hg; have hcz10_0 : w9.cell? ⟨gb602, 0, none⟩ = some (.bool a1_0) := bc_ BK602.out 0; have hcz10_1 : w9.cell? ⟨gb602, 1, none⟩ = some (.int .i64 a1_1) := bc_ BK602.out 1; have hcz10_2 : w9.cell? ⟨gb602, 2, none⟩ = some (.int .i64 a1_2) := bc_ BK602.out 2; have hcz10_3 : w9.cell? ⟨gb602, 3, none⟩ = some (.int .u64 a1_3) := bc_ BK602.out 3; have hfz10_0 := blk_frozen BK602.out 0; have hfz10_1 := blk_frozen BK602.out 1; have hfz10_2 := blk_frozen BK602.out 2; have hfz10_3 := blk_frozen BK602.out 3) | ((with_reducible refine gate_callee (f := 37) rfl ?_); refine gl_ (some 22) Try.func37 #[.int .i64 a0, .bool a1_0, .int .u64 0, .int .u64 a1_3, .int .i64 a1_2, .bool false] ?_; (with_reducible refine (r3_Pack.calls k a0 a1_0 0 a1_3 a1_2 false t604 _ A8.out).mono ?_); rintro e w11 ⟨rfl, hb⟩; refine ⟨_, rfl, ?_⟩; have n0_ := A_ (bb_ BK602.out hb); have n1_ := A_ (below_step (hb1_ HB.out GE602.out) hb); clear BK602; clear HB; have BK602 := n0_; have HB := n1_; clear n0_ n1_; (try clear hb); (try clear hb2); (try clear hk); (try clear hi)))
   go_ret
   exact ⟨er_, hb1_ HB.out GE602.out⟩
  ·rw [if_neg c7] at H
   have c7b0 : (a1_1 == 1) = false := beq_eq_false_iff_ne.mpr c7
   have c7b1 : (a1_1 != 1) = true := bne_iff_ne.mpr c7
   by_cases c12 : a1_1 = 2
   ·rw [if_pos c12] at H
    have c12b0 : (a1_1 == 2) = true := beq_iff_eq.mpr c12
    have c12b1 : (a1_1 != 2) = false := bne_eq_false_iff_eq.mpr c12
    clear c12
    replace H := ob_ H
    obtain ⟨t605, A130, H⟩ := H
    replace H : (some t605) = some r := H
    have A13 := A_ A130;clear A130
    obtain rfl := Option.some.inj H
    go_enter Try.func63, Try.ntmps63
    go_wp2_with (first | ((with_reducible refine gate_dst (N := 3) rfl ?_); refine be_ 3 #[.bool a1_0, .int .i64 a1_1, .int .i64 a1_2, .int .u64 a1_3] 57 ?_; intro gb602 hg w14 hbox hb; have n0_ := A_ (below_step (hb_ HB.out) hb); have n1_ := A_ (hbox); have n2_ := A_ (sz_ hg (hb_ HB.out)); have n3_ := A_ (sz_ hg (hb_ HB.out)); clear HB; have HB := n0_; have BK602 := n1_; have GW602 := n2_; have GE602 := n3_; clear n0_ n1_ n2_ n3_; clear hb hbox hg; have hcz15_0 : w14.cell? ⟨gb602, 0, none⟩ = some (.bool a1_0) := bc_ BK602.out 0; have hcz15_1 : w14.cell? ⟨gb602, 1, none⟩ = some (.int .i64 a1_1) := bc_ BK602.out 1; have hcz15_2 : w14.cell? ⟨gb602, 2, none⟩ = some (.int .i64 a1_2) := bc_ BK602.out 2; have hcz15_3 : w14.cell? ⟨gb602, 3, none⟩ = some (.int .u64 a1_3) := bc_ BK602.out 3; have hfz15_0 := blk_frozen BK602.out 0; have hfz15_1 := blk_frozen BK602.out 1; have hfz15_2 := blk_frozen BK602.out 2; have hfz15_3 := blk_frozen BK602.out 3) | ((with_reducible refine gate_callee (f := 59) rfl ?_); refine gl_ (some 28) Try.func59 #[.int .i64 a0, .bool a1_0] ?_; (with_reducible refine (r2_Inf.calls k a0 a1_0 t605 _ A13.out).mono ?_); rintro e w' ⟨rfl, ⟨nd, rfl⟩⟩; refine ⟨_, rfl, ?_⟩))
    go_ret
    exact ⟨er_, hb1_ HB.out GE602.out⟩
   ·rw [if_neg c12] at H
    have c12b0 : (a1_1 == 2) = false := beq_eq_false_iff_ne.mpr c12
    have c12b1 : (a1_1 != 2) = true := bne_iff_ne.mpr c12
    by_cases c16 : a1_1 = 3
    ·rw [if_pos c16] at H
     have c16b0 : (a1_1 == 3) = true := beq_iff_eq.mpr c16
     have c16b1 : (a1_1 != 3) = false := bne_eq_false_iff_eq.mpr c16
     clear c16
     replace H := ob_ H
     obtain ⟨t606, A170, H⟩ := H
     replace H : (some t606) = some r := H
     have A17 := A_ A170;clear A170
     obtain rfl := Option.some.inj H
     go_enter Try.func63, Try.ntmps63
     go_wp2_with (first | ((with_reducible refine gate_dst (N := 3) rfl ?_); refine be_ 3 #[.bool a1_0, .int .i64 a1_1, .int .i64 a1_2, .int .u64 a1_3] 57 ?_; intro gb602 hg w18 hbox hb; have n0_ := A_ (below_step (hb_ HB.out) hb); have n1_ := A_ (hbox); have n2_ := A_ (sz_ hg (hb_ HB.out)); have n3_ := A_ (sz_ hg (hb_ HB.out)); clear HB; have HB := n0_; have BK602 := n1_; have GW602 := n2_; have GE602 := n3_; clear n0_ n1_ n2_ n3_; clear hb hbox hg; have hcz19_0 : w18.cell? ⟨gb602, 0, none⟩ = some (.bool a1_0) := bc_ BK602.out 0; have hcz19_1 : w18.cell? ⟨gb602, 1, none⟩ = some (.int .i64 a1_1) := bc_ BK602.out 1; have hcz19_2 : w18.cell? ⟨gb602, 2, none⟩ = some (.int .i64 a1_2) := bc_ BK602.out 2; have hcz19_3 : w18.cell? ⟨gb602, 3, none⟩ = some (.int .u64 a1_3) := bc_ BK602.out 3; have hfz19_0 := blk_frozen BK602.out 0; have hfz19_1 := blk_frozen BK602.out 1; have hfz19_2 := blk_frozen BK602.out 2; have hfz19_3 := blk_frozen BK602.out 3) | ((with_reducible refine gate_callee (f := 58) rfl ?_); refine gl_ (some 32) Try.func58 #[.int .i64 a0] ?_; (with_reducible refine (r2_Nan.calls k a0 t606 _ A17.out).mono ?_); rintro e w' ⟨rfl, ⟨nd, rfl⟩⟩; refine ⟨_, rfl, ?_⟩))
     go_ret
     exact ⟨er_, hb1_ HB.out GE602.out⟩
    ·rw [if_neg c16] at H
     have c16b0 : (a1_1 == 3) = false := beq_eq_false_iff_ne.mpr c16
     have c16b1 : (a1_1 != 3) = true := bne_iff_ne.mpr c16
     obtain rfl := Option.some.inj H
     go_enter Try.func63, Try.ntmps63
     go_wp2_with (first | ((with_reducible refine gate_dst (N := 3) rfl ?_); refine be_ 3 #[.bool a1_0, .int .i64 a1_1, .int .i64 a1_2, .int .u64 a1_3] 57 ?_; intro gb602 hg w20 hbox hb; have n0_ := A_ (below_step (hb_ HB.out) hb); have n1_ := A_ (hbox); have n2_ := A_ (sz_ hg (hb_ HB.out)); have n3_ := A_ (sz_ hg (hb_ HB.out)); clear HB; have HB := n0_; have BK602 := n1_; have GW602 := n2_; have GE602 := n3_; clear n0_ n1_ n2_ n3_; clear hb hbox hg; have hcz21_0 : w20.cell? ⟨gb602, 0, none⟩ = some (.bool a1_0) := bc_ BK602.out 0; have hcz21_1 : w20.cell? ⟨gb602, 1, none⟩ = some (.int .i64 a1_1) := bc_ BK602.out 1; have hcz21_2 : w20.cell? ⟨gb602, 2, none⟩ = some (.int .i64 a1_2) := bc_ BK602.out 2; have hcz21_3 : w20.cell? ⟨gb602, 3, none⟩ = some (.int .u64 a1_3) := bc_ BK602.out 3; have hfz21_0 := blk_frozen BK602.out 0; have hfz21_1 := blk_frozen BK602.out 1; have hfz21_2 := blk_frozen BK602.out 2; have hfz21_3 := blk_frozen BK602.out 3))
     go_ret
     exact ⟨er_, hb1_ HB.out GE602.out⟩
end Go.Proofs.Ytbpmnmceajmmcaa.PA
