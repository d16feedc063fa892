/- What the Go functions that the statement QuotientDivs reaches compute, and the mathematics on it, in the order in which one leans on the other; for every input. -/
import Derived.Test.YtbpmnmceajmmcaaVQuotientDivs0
import Derived.Test.YtbpmnmceajmmcaaMQuotientDivs0
import Derived.Test.YtbpmnmceajmmcaaMQuotientDivs4
import Derived.Test.YtbpmnmceajmmcaaMQuotientDivs8
import Derived.Test.YtbpmnmceajmmcaaMQuotientDivs9
import Derived.Test.YtbpmnmceajmmcaaMQuotientDivs11
import Derived.Test.YtbpmnmceajmmcaaMQuotientDivs3
import Derived.Test.YtbpmnmceajmmcaaMQuotientDivs6
import Derived.Test.YtbpmnmceajmmcaaMQuotientDivs2
import Derived.Test.YtbpmnmceajmmcaaMQuotientDivs1
import Derived.Test.YtbpmnmceajmmcaaMQuotientDivs5
namespace Go.Proofs.Ytbpmnmceajmmcaa.PA
open Go.RowKit Go.Proofs.YtbpmnmceajmmcaaW.PrintWords Go.Proofs.YtbpmnmceajmmcaaW.PrintLast Go.Proofs.YtbpmnmceajmmcaaW.PrintMore
attribute [local go_sem] max2_int min2_int max_two min_two max_three min_three max_four min_four   -- for this text's walks alone
set_option linter.unusedVariables false
set_option linter.unusedSimpArgs false
set_option maxHeartbeats 8000000
set_option maxRecDepth 100000
mutual
def r6_Div.j0 : Nat → Int → Bool → Bool → Bool → Int → Int → Int → Bool → Int → Int → Int → Option (Int)
 | 0, _, _, _, _, _, _, _, _, _, _, _ => none
 | k + 1, x0, x9, x48, x672000, x672001, x672002, x672003, x677000, x677001, x677002, x677003 => if x48 = true then ((r2_Nan.f k x0).bind fun t677 => (some t677)) else (if x672001 = 2 then (r6_Div.j1 k x0 x9 true x672000 x672001 x672002 x672003 x677000 x677001 x677002 x677003) else (r6_Div.j1 k x0 x9 (x677001 == 0) x672000 x672001 x672002 x672003 x677000 x677001 x677002 x677003))
def r6_Div.j1 : Nat → Int → Bool → Bool → Bool → Int → Int → Int → Bool → Int → Int → Int → Option (Int)
 | 0, _, _, _, _, _, _, _, _, _, _, _ => none
 | k + 1, x0, x9, x58, x672000, x672001, x672002, x672003, x677000, x677001, x677002, x677003 => if x58 = true then ((r2_Inf.f k x0 x9).bind fun t678 => (some t678)) else (if x672001 = 0 then (r6_Div.j2 k x0 x9 true x672000 x672001 x672002 x672003 x677000 x677001 x677002 x677003) else (r6_Div.j2 k x0 x9 (x677001 == 2) x672000 x672001 x672002 x672003 x677000 x677001 x677002 x677003))
def r6_Div.j2 : Nat → Int → Bool → Bool → Bool → Int → Int → Int → Bool → Int → Int → Int → Option (Int)
 | 0, _, _, _, _, _, _, _, _, _, _, _ => none
 | k + 1, x0, x9, x69, x672000, x672001, x672002, x672003, x677000, x677001, x677002, x677003 => if x69 = true then ((r2_Make.f k x0 x9 0 0).bind fun t679 => (some t679)) else ((r1_Of.f k x672003).bind fun t680 => ((r1_Of.f k x677003).bind fun t683 => ((r3_Near.f k x0 x9 t680 t683 (wrap64 (x672002 - x677002))).bind fun t686 => (some t686))))
end
def r6_Div.f (k : Nat) (a0 : Int) (a1 : Int) (a2 : Int) : Option (Int) := (r2_Open.f k a0 a1).bind fun bt667 => ((r2_Open.f k a0 a2).bind fun bt672 => (if bt667.2.1 = 3 then (r6_Div.j0 k a0 (bt667.1 != bt672.1) true bt667.1 bt667.2.1 bt667.2.2.1 bt667.2.2.2 bt672.1 bt672.2.1 bt672.2.2.1 bt672.2.2.2) else (if bt672.2.1 = 3 then (r6_Div.j0 k a0 (bt667.1 != bt672.1) true bt667.1 bt667.2.1 bt667.2.2.1 bt667.2.2.2 bt672.1 bt672.2.1 bt672.2.2.1 bt672.2.2.2) else (if bt667.2.1 = 2 then (if bt672.2.1 = 2 then (r6_Div.j0 k a0 (bt667.1 != bt672.1) true bt667.1 bt667.2.1 bt667.2.2.1 bt667.2.2.2 bt672.1 bt672.2.1 bt672.2.2.1 bt672.2.2.2) else (if bt667.2.1 = 0 then (r6_Div.j0 k a0 (bt667.1 != bt672.1) (bt672.2.1 == 0) bt667.1 bt667.2.1 bt667.2.2.1 bt667.2.2.2 bt672.1 bt672.2.1 bt672.2.2.1 bt672.2.2.2) else (r6_Div.j0 k a0 (bt667.1 != bt672.1) false bt667.1 bt667.2.1 bt667.2.2.1 bt667.2.2.2 bt672.1 bt672.2.1 bt672.2.2.1 bt672.2.2.2))) else (if bt667.2.1 = 0 then (r6_Div.j0 k a0 (bt667.1 != bt672.1) (bt672.2.1 == 0) bt667.1 bt667.2.1 bt667.2.2.1 bt667.2.2.2 bt672.1 bt672.2.1 bt672.2.2.1 bt672.2.2.2) else (r6_Div.j0 k a0 (bt667.1 != bt672.1) false bt667.1 bt667.2.1 bt667.2.2.1 bt667.2.2.2 bt672.1 bt672.2.1 bt672.2.2.1 bt672.2.2.2))))))
theorem r6_Div.mono_l : ∀ k, (∀ y0 y1 y2 y3 y4 y5 y6 y7 y8 y9 y10, LeO (r6_Div.j0 k y0 y1 y2 y3 y4 y5 y6 y7 y8 y9 y10) (r6_Div.j0 (k + 1) y0 y1 y2 y3 y4 y5 y6 y7 y8 y9 y10)) ∧ (∀ y0 y1 y2 y3 y4 y5 y6 y7 y8 y9 y10, LeO (r6_Div.j1 k y0 y1 y2 y3 y4 y5 y6 y7 y8 y9 y10) (r6_Div.j1 (k + 1) y0 y1 y2 y3 y4 y5 y6 y7 y8 y9 y10)) ∧ (∀ y0 y1 y2 y3 y4 y5 y6 y7 y8 y9 y10, LeO (r6_Div.j2 k y0 y1 y2 y3 y4 y5 y6 y7 y8 y9 y10) (r6_Div.j2 (k + 1) y0 y1 y2 y3 y4 y5 y6 y7 y8 y9 y10))
 | 0 => ⟨fun _ _ _ _ _ _ _ _ _ _ _ r h => by simp [r6_Div.j0] at h, fun _ _ _ _ _ _ _ _ _ _ _ r h => by simp [r6_Div.j1] at h, fun _ _ _ _ _ _ _ _ _ _ _ r h => by simp [r6_Div.j2] at h⟩
 | k + 1 => by
  obtain ⟨ih0, ih1, ih2⟩ := r6_Div.mono_l k
  refine ⟨?_, ?_, ?_⟩
  ·intro y0 y1 y2 y3 y4 y5 y6 y7 y8 y9 y10
   unfold r6_Div.j0
   repeat' first
   | (with_reducible exact ih0 _ _ _ _ _ _ _ _ _ _ _)
   | (with_reducible exact ih1 _ _ _ _ _ _ _ _ _ _ _)
   | (with_reducible exact ih2 _ _ _ _ _ _ _ _ _ _ _)
   | (with_reducible exact r1_Of.mono _ _)
   | (with_reducible exact r2_Inf.mono _ _ _)
   | (with_reducible exact r2_Make.mono _ _ _ _ _)
   | (with_reducible exact r2_Nan.mono _ _)
   | (with_reducible exact r2_Open.mono _ _ _)
   | (with_reducible exact r3_Near.mono _ _ _ _ _ _)
   | (with_reducible exact LeO.refl _)
   | (with_reducible exact LeO.none _)
   | (with_reducible refine LeO.ite ?_ ?_)
   | (with_reducible refine LeO.bind ?_ (fun _ => ?_))
   | exact ih0 _ _ _ _ _ _ _ _ _ _ _
   | exact ih1 _ _ _ _ _ _ _ _ _ _ _
   | exact ih2 _ _ _ _ _ _ _ _ _ _ _
   | exact r1_Of.mono _ _
   | exact r2_Inf.mono _ _ _
   | exact r2_Make.mono _ _ _ _ _
   | exact r2_Nan.mono _ _
   | exact r2_Open.mono _ _ _
   | exact r3_Near.mono _ _ _ _ _ _
   | exact LeO.none _
   | refine LeO.ite ?_ ?_
   | refine LeO.bind ?_ (fun _ => ?_)
  ·intro y0 y1 y2 y3 y4 y5 y6 y7 y8 y9 y10
   unfold r6_Div.j1
   repeat' first
   | (with_reducible exact ih0 _ _ _ _ _ _ _ _ _ _ _)
   | (with_reducible exact ih1 _ _ _ _ _ _ _ _ _ _ _)
   | (with_reducible exact ih2 _ _ _ _ _ _ _ _ _ _ _)
   | (with_reducible exact r1_Of.mono _ _)
   | (with_reducible exact r2_Inf.mono _ _ _)
   | (with_reducible exact r2_Make.mono _ _ _ _ _)
   | (with_reducible exact r2_Nan.mono _ _)
   | (with_reducible exact r2_Open.mono _ _ _)
   | (with_reducible exact r3_Near.mono _ _ _ _ _ _)
   | (with_reducible exact LeO.refl _)
   | (with_reducible exact LeO.none _)
   | (with_reducible refine LeO.ite ?_ ?_)
   | (with_reducible refine LeO.bind ?_ (fun _ => ?_))
   | exact ih0 _ _ _ _ _ _ _ _ _ _ _
   | exact ih1 _ _ _ _ _ _ _ _ _ _ _
   | exact ih2 _ _ _ _ _ _ _ _ _ _ _
   | exact r1_Of.mono _ _
   | exact r2_Inf.mono _ _ _
   | exact r2_Make.mono _ _ _ _ _
   | exact r2_Nan.mono _ _
   | exact r2_Open.mono _ _ _
   | exact r3_Near.mono _ _ _ _ _ _
   | exact LeO.none _
   | refine LeO.ite ?_ ?_
   | refine LeO.bind ?_ (fun _ => ?_)
  ·intro y0 y1 y2 y3 y4 y5 y6 y7 y8 y9 y10
   unfold r6_Div.j2
   repeat' first
   | (with_reducible exact ih0 _ _ _ _ _ _ _ _ _ _ _)
   | (with_reducible exact ih1 _ _ _ _ _ _ _ _ _ _ _)
   | (with_reducible exact ih2 _ _ _ _ _ _ _ _ _ _ _)
   | (with_reducible exact r1_Of.mono _ _)
   | (with_reducible exact r2_Inf.mono _ _ _)
   | (with_reducible exact r2_Make.mono _ _ _ _ _)
   | (with_reducible exact r2_Nan.mono _ _)
   | (with_reducible exact r2_Open.mono _ _ _)
   | (with_reducible exact r3_Near.mono _ _ _ _ _ _)
   | (with_reducible exact LeO.refl _)
   | (with_reducible exact LeO.none _)
   | (with_reducible refine LeO.ite ?_ ?_)
   | (with_reducible refine LeO.bind ?_ (fun _ => ?_))
   | exact ih0 _ _ _ _ _ _ _ _ _ _ _
   | exact ih1 _ _ _ _ _ _ _ _ _ _ _
   | exact ih2 _ _ _ _ _ _ _ _ _ _ _
   | exact r1_Of.mono _ _
   | exact r2_Inf.mono _ _ _
   | exact r2_Make.mono _ _ _ _ _
   | exact r2_Nan.mono _ _
   | exact r2_Open.mono _ _ _
   | exact r3_Near.mono _ _ _ _ _ _
   | exact LeO.none _
   | refine LeO.ite ?_ ?_
   | refine LeO.bind ?_ (fun _ => ?_)
theorem r6_Div.mono : ∀ a0 a1 a2 k, LeO (r6_Div.f k a0 a1 a2) (r6_Div.f (k + 1) a0 a1 a2) := by
 intro a0 a1 a2 k
 obtain ⟨ih0, ih1, ih2⟩ := r6_Div.mono_l k
 unfold r6_Div.f
 repeat' first
   | (with_reducible exact ih0 _ _ _ _ _ _ _ _ _ _ _)
   | (with_reducible exact ih1 _ _ _ _ _ _ _ _ _ _ _)
   | (with_reducible exact ih2 _ _ _ _ _ _ _ _ _ _ _)
   | (with_reducible exact r1_Of.mono _ _)
   | (with_reducible exact r2_Inf.mono _ _ _)
   | (with_reducible exact r2_Make.mono _ _ _ _ _)
   | (with_reducible exact r2_Nan.mono _ _)
   | (with_reducible exact r2_Open.mono _ _ _)
   | (with_reducible exact r3_Near.mono _ _ _ _ _ _)
   | (with_reducible exact LeO.refl _)
   | (with_reducible exact LeO.none _)
   | (with_reducible refine LeO.ite ?_ ?_)
   | (with_reducible refine LeO.bind ?_ (fun _ => ?_))
   | exact ih0 _ _ _ _ _ _ _ _ _ _ _
   | exact ih1 _ _ _ _ _ _ _ _ _ _ _
   | exact ih2 _ _ _ _ _ _ _ _ _ _ _
   | exact r1_Of.mono _ _
   | exact r2_Inf.mono _ _ _
   | exact r2_Make.mono _ _ _ _ _
   | exact r2_Nan.mono _ _
   | exact r2_Open.mono _ _ _
   | exact r3_Near.mono _ _ _ _ _ _
   | exact LeO.none _
   | refine LeO.ite ?_ ?_
   | refine LeO.bind ?_ (fun _ => ?_)
def r6_Div.T10 : Bool × List (List Nat × List Nat) := (true, [([], []), ([], []), ([], []), ([2], [2]), ([3], [3]), ([], []), ([5], [5]), ([6, 4], [6]), ([], []), ([8], [8]), ([], []), ([10], [10]), ([9, 11], [9, 11]), ([0, 1, 4, 7, 12, 7], [0, 1, 4, 7, 12]), ([13, 13, 0, 1, 2, 3, 4, 5, 6, 7, 8, 9, 10, 11, 12, 13], [13])])
def r6_Div.B10 : List Nat := [0, 0, 0, 4, 12, 0, 32, 124, 0, 256, 0, 1024, 3840, 8191, 16383]
theorem r6_Div.tab10 : rtab .any (opsOf Try.f29 10) = r6_Div.T10 := by kernel_rfl
theorem r6_Div.bits10 : waitsOk r6_Div.T10.2 r6_Div.B10 = true := by kernel_rfl
theorem r6_Div.calls (k : Nat) (a0 : Int) (a1 : Int) (a2 : Int) (r : Int) (w : World) (h : r6_Div.f k a0 a1 a2 = some r) :
  Calls Try.prog 29 #[.int .i64 a0, .int .u64 a1, .int .u64 a2] w fun e w' => e = .returned (.int .u64 r) ∧ Below w.heap.size w w' := by
 have hu57 := Try.underlying57
 have HB := A_ (Below.refl w.heap.size w)
 have H : ((r2_Open.f k a0 a1).bind fun bt667 => ((r2_Open.f k a0 a2).bind fun bt672 => (if bt667.2.1 = 3 then (r6_Div.j0 k a0 (bt667.1 != bt672.1) true bt667.1 bt667.2.1 bt667.2.2.1 bt667.2.2.2 bt672.1 bt672.2.1 bt672.2.2.1 bt672.2.2.2) else (if bt672.2.1 = 3 then (r6_Div.j0 k a0 (bt667.1 != bt672.1) true bt667.1 bt667.2.1 bt667.2.2.1 bt667.2.2.2 bt672.1 bt672.2.1 bt672.2.2.1 bt672.2.2.2) else (if bt667.2.1 = 2 then (if bt672.2.1 = 2 then (r6_Div.j0 k a0 (bt667.1 != bt672.1) true bt667.1 bt667.2.1 bt667.2.2.1 bt667.2.2.2 bt672.1 bt672.2.1 bt672.2.2.1 bt672.2.2.2) else (if bt667.2.1 = 0 then (r6_Div.j0 k a0 (bt667.1 != bt672.1) (bt672.2.1 == 0) bt667.1 bt667.2.1 bt667.2.2.1 bt667.2.2.2 bt672.1 bt672.2.1 bt672.2.2.1 bt672.2.2.2) else (r6_Div.j0 k a0 (bt667.1 != bt672.1) false bt667.1 bt667.2.1 bt667.2.2.1 bt667.2.2.2 bt672.1 bt672.2.1 bt672.2.2.1 bt672.2.2.2))) else (if bt667.2.1 = 0 then (r6_Div.j0 k a0 (bt667.1 != bt672.1) (bt672.2.1 == 0) bt667.1 bt667.2.1 bt667.2.2.1 bt667.2.2.2 bt672.1 bt672.2.1 bt672.2.2.1 bt672.2.2.2) else (r6_Div.j0 k a0 (bt667.1 != bt672.1) false bt667.1 bt667.2.1 bt667.2.2.1 bt667.2.2.2 bt672.1 bt672.2.1 bt672.2.2.1 bt672.2.2.2))))))) = some r := h
 clear h
 replace H := ob_ H
 obtain ⟨⟨t667, t668, t669, t670⟩, A40, H⟩ := H
 replace H : ((r2_Open.f k a0 a2).bind fun bt672 => (if t668 = 3 then (r6_Div.j0 k a0 (t667 != bt672.1) true t667 t668 t669 t670 bt672.1 bt672.2.1 bt672.2.2.1 bt672.2.2.2) else (if bt672.2.1 = 3 then (r6_Div.j0 k a0 (t667 != bt672.1) true t667 t668 t669 t670 bt672.1 bt672.2.1 bt672.2.2.1 bt672.2.2.2) else (if t668 = 2 then (if bt672.2.1 = 2 then (r6_Div.j0 k a0 (t667 != bt672.1) true t667 t668 t669 t670 bt672.1 bt672.2.1 bt672.2.2.1 bt672.2.2.2) else (if t668 = 0 then (r6_Div.j0 k a0 (t667 != bt672.1) (bt672.2.1 == 0) t667 t668 t669 t670 bt672.1 bt672.2.1 bt672.2.2.1 bt672.2.2.2) else (r6_Div.j0 k a0 (t667 != bt672.1) false t667 t668 t669 t670 bt672.1 bt672.2.1 bt672.2.2.1 bt672.2.2.2))) else (if t668 = 0 then (r6_Div.j0 k a0 (t667 != bt672.1) (bt672.2.1 == 0) t667 t668 t669 t670 bt672.1 bt672.2.1 bt672.2.2.1 bt672.2.2.2) else (r6_Div.j0 k a0 (t667 != bt672.1) false t667 t668 t669 t670 bt672.1 bt672.2.1 bt672.2.2.1 bt672.2.2.2)))))) = some r := H
 have A4 := A_ A40;clear A40
 replace H := ob_ H
 obtain ⟨⟨t672, t673, t674, t675⟩, A50, H⟩ := H
 replace H : (if t668 = 3 then (r6_Div.j0 k a0 (t667 != t672) true t667 t668 t669 t670 t672 t673 t674 t675) else (if t673 = 3 then (r6_Div.j0 k a0 (t667 != t672) true t667 t668 t669 t670 t672 t673 t674 t675) else (if t668 = 2 then (if t673 = 2 then (r6_Div.j0 k a0 (t667 != t672) true t667 t668 t669 t670 t672 t673 t674 t675) else (if t668 = 0 then (r6_Div.j0 k a0 (t667 != t672) (t673 == 0) t667 t668 t669 t670 t672 t673 t674 t675) else (r6_Div.j0 k a0 (t667 != t672) false t667 t668 t669 t670 t672 t673 t674 t675))) else (if t668 = 0 then (r6_Div.j0 k a0 (t667 != t672) (t673 == 0) t667 t668 t669 t670 t672 t673 t674 t675) else (r6_Div.j0 k a0 (t667 != t672) false t667 t668 t669 t670 t672 t673 t674 t675))))) = some r := H
 have A5 := A_ A50;clear A50;have HC6 := A_ H;clear H
 go_enter Try.func29, Try.ntmps29
 go_upto_region 4 with (first | ((with_reducible refine gate_callee (f := 48) rfl ?_); refine gl_ (some 12) Try.func48 #[.int .i64 a0, .int .u64 a1] ?_; (with_reducible refine (r2_Open.calls k a0 a1 t667 t668 t669 t670 _ A4.out).mono ?_); rintro e w7 ⟨rfl, hb⟩; refine ⟨_, rfl, ?_⟩; have n0_ := A_ (below_step (hb_ HB.out) hb); clear HB; have HB := n0_; clear n0_; (try clear hb); (try clear hb2); (try clear hk); (try clear hi)) | ((with_reducible refine gate_dst (N := 7) rfl ?_); refine be_ 7 #[.bool false, .int .i64 0, .int .i64 0, .int .u64 0] 57 ?_; intro gb671 hg w8 hbox hb; have n0_ := A_ (below_step (hb_ HB.out) hb); have n1_ := A_ (hbox); have n2_ := A_ (sz_ hg (hb_ HB.out)); have n3_ := A_ (sz_ hg (hb_ HB.out)); clear HB; have HB := n0_; have BK671 := n1_; have GW671 := n2_; have GE671 := n3_; clear n0_ n1_ n2_ n3_; clear hb hbox hg; have hcz9_0 : w8.cell? ⟨gb671, 0, none⟩ = some (.bool false) := bc_ BK671.out 0; have hcz9_1 : w8.cell? ⟨gb671, 1, none⟩ = some (.int .i64 0) := bc_ BK671.out 1; have hcz9_2 : w8.cell? ⟨gb671, 2, none⟩ = some (.int .i64 0) := bc_ BK671.out 2; have hcz9_3 : w8.cell? ⟨gb671, 3, none⟩ = some (.int .u64 0) := bc_ BK671.out 3; have hfz9_0 := blk_frozen BK671.out 0; have hfz9_1 := blk_frozen BK671.out 1; have hfz9_2 := blk_frozen BK671.out 2; have hfz9_3 := blk_frozen BK671.out 3) | ((with_reducible refine gate_callee (f := 48) rfl ?_); refine gl_ (some 15) Try.func48 #[.int .i64 a0, .int .u64 a2] ?_; (with_reducible refine (r2_Open.calls k a0 a2 t672 t673 t674 t675 _ A5.out).mono ?_); rintro e w10 ⟨rfl, hb⟩; refine ⟨_, rfl, ?_⟩; have n0_ := A_ (blk_below (g := gb671) (o := .cells #[.bool t667, .int .i64 t668, .int .i64 t669, .int .u64 t670] 57 (0, 0)) (by (with_reducible repeat (first | refine blk_drewN ?_ _ | refine blk_drew ?_ | refine blk_alloc ?_ _)); refine blk_put (cs := #[.bool t667, .int .i64 t668, .int .i64 t669, .int .u64 0]) ?_ 3 _ rfl; (with_reducible repeat (first | refine blk_drewN ?_ _ | refine blk_drew ?_ | refine blk_alloc ?_ _)); refine blk_put (cs := #[.bool t667, .int .i64 t668, .int .i64 0, .int .u64 0]) ?_ 2 _ rfl; (with_reducible repeat (first | refine blk_drewN ?_ _ | refine blk_drew ?_ | refine blk_alloc ?_ _)); refine blk_put (cs := #[.bool t667, .int .i64 0, .int .i64 0, .int .u64 0]) ?_ 1 _ rfl; (with_reducible repeat (first | refine blk_drewN ?_ _ | refine blk_drew ?_ | refine blk_alloc ?_ _)); refine blk_put (cs := #[.bool false, .int .i64 0, .int .i64 0, .int .u64 0]) ?_ 0 _ rfl; (with_reducible repeat (first | refine blk_drewN ?_ _ | refine blk_drew ?_ | refine blk_alloc ?_ _)); exact BK671.out) hb); have n1_ := A_ (below_step (hb1_ HB.out GE671.out) hb); clear BK671; clear HB; have BK671 := n0_; have HB := n1_; clear n0_ n1_; (try clear hb); (try clear hb2); (try clear hk); (try clear hi)) | ((with_reducible refine gate_dst (N := 8) rfl ?_); refine be_ 8 #[.bool false, .int .i64 0, .int .i64 0, .int .u64 0] 57 ?_; intro gb676 hg w11 hbox hb; have n0_ := A_ (bb_ BK671.out hb); have n1_ := A_ (below_step (hb1_ HB.out GE671.out) hb); have n2_ := A_ (hbox); have n3_ := A_ (sz_ hg (hb1_ HB.out GE671.out)); have n4_ := A_ (sz_ hg (hb1_ HB.out GE671.out)); have n5_ := A_ (nl_ hg BK671.out); have n6_ := A_ (ng_ hg BK671.out); clear BK671; clear HB; have BK671 := n0_; have HB := n1_; have BK676 := n2_; have GW676 := n3_; have GE676 := n4_; have NB671_676 := n5_; have NB676_671 := n6_; clear n0_ n1_ n2_ n3_ n4_ n5_ n6_; clear hb hbox hg; have hnb12 := NB676_671.out; have hnc12 := NB671_676.out; have hcz13_0 : w11.cell? ⟨gb676, 0, none⟩ = some (.bool false) := bc_ BK676.out 0; have hcz13_1 : w11.cell? ⟨gb676, 1, none⟩ = some (.int .i64 0) := bc_ BK676.out 1; have hcz13_2 : w11.cell? ⟨gb676, 2, none⟩ = some (.int .i64 0) := bc_ BK676.out 2; have hcz13_3 : w11.cell? ⟨gb676, 3, none⟩ = some (.int .u64 0) := bc_ BK676.out 3; have hfz13_0 := blk_frozen BK676.out 0; have hfz13_1 := blk_frozen BK676.out 1; have hfz13_2 := blk_frozen BK676.out 2; have hfz13_3 := blk_frozen BK676.out 3; have hcz14_0 : w11.cell? ⟨gb671, 0, none⟩ = some (.bool t667) := bc_ BK671.out 0; have hcz14_1 : w11.cell? ⟨gb671, 1, none⟩ = some (.int .i64 t668) := bc_ BK671.out 1; have hcz14_2 : w11.cell? ⟨gb671, 2, none⟩ = some (.int .i64 t669) := bc_ BK671.out 2; have hcz14_3 : w11.cell? ⟨gb671, 3, none⟩ = some (.int .u64 t670) := bc_ BK671.out 3; have hfz14_0 := blk_frozen BK671.out 0; have hfz14_1 := blk_frozen BK671.out 1; have hfz14_2 := blk_frozen BK671.out 2; have hfz14_3 := blk_frozen BK671.out 3))
 (try simp only [Act.put, lI_, l0_, lS_])
 go_cut [48] (fun v48 wc => ∃ (kq : Nat) (x48_5 : Bool), v48 = .bool x48_5 ∧ Aside0 (r6_Div.j0 kq a0 (t667 != t672) x48_5 t667 t668 t669 t670 t672 t673 t674 t675 = some r) ∧ Aside0 (kq ≤ k) ∧ Aside0 (wc.heap[gb671]? = some (.cells #[.bool t667, .int .i64 t668, .int .i64 t669, .int .u64 t670] 57 (0, 0))) ∧ Aside0 (wc.heap[gb676]? = some (.cells #[.bool t672, .int .i64 t673, .int .i64 t674, .int .u64 t675] 57 (0, 0))) ∧ Aside0 (Below w.heap.size w wc))
 case first =>
  have H := HC6.out
  clear HC6
  by_cases c15 : t668 = 3
  ·rw [if_pos c15] at H
   have c15b0 : (t668 == 3) = true := beq_iff_eq.mpr c15
   have c15b1 : (t668 != 3) = false := bne_eq_false_iff_eq.mpr c15
   clear c15
   (first | rw [c15b0] | (simp only [i64_w, i32_w]; rw [c15b0]) | skip)
   have H' := A_ H
   clear H
   have hnb16 := NB671_676.out
   have hnc16 := NB676_671.out
   have hcz17_0 : w11.cell? ⟨gb671, 0, none⟩ = some (.bool t667) := bc_ BK671.out 0
   have hcz17_1 : w11.cell? ⟨gb671, 1, none⟩ = some (.int .i64 t668) := bc_ BK671.out 1
   have hcz17_2 : w11.cell? ⟨gb671, 2, none⟩ = some (.int .i64 t669) := bc_ BK671.out 2
   have hcz17_3 : w11.cell? ⟨gb671, 3, none⟩ = some (.int .u64 t670) := bc_ BK671.out 3
   have hfz17_0 := blk_frozen BK671.out 0
   have hfz17_1 := blk_frozen BK671.out 1
   have hfz17_2 := blk_frozen BK671.out 2
   have hfz17_3 := blk_frozen BK671.out 3
   go_wp2
   go_meet
   case rel => exact ⟨_, (true), sm_, H', ⟨by first | omega | exact Nat.le_refl _⟩, ⟨bf4_ BK671.out NB671_676.out NB671_676.out NB671_676.out NB671_676.out⟩, ⟨by (with_reducible repeat (first | refine blk_drewN ?_ _ | refine blk_drew ?_ | refine blk_alloc ?_ _)); refine blk_put (cs := #[.bool t672, .int .i64 t673, .int .i64 t674, .int .u64 0]) ?_ 3 _ rfl; (with_reducible repeat (first | refine blk_drewN ?_ _ | refine blk_drew ?_ | refine blk_alloc ?_ _)); refine blk_put (cs := #[.bool t672, .int .i64 t673, .int .i64 0, .int .u64 0]) ?_ 2 _ rfl; (with_reducible repeat (first | refine blk_drewN ?_ _ | refine blk_drew ?_ | refine blk_alloc ?_ _)); refine blk_put (cs := #[.bool t672, .int .i64 0, .int .i64 0, .int .u64 0]) ?_ 1 _ rfl; (with_reducible repeat (first | refine blk_drewN ?_ _ | refine blk_drew ?_ | refine blk_alloc ?_ _)); refine blk_put (cs := #[.bool false, .int .i64 0, .int .i64 0, .int .u64 0]) ?_ 0 _ rfl; (with_reducible repeat (first | refine blk_drewN ?_ _ | refine blk_drew ?_ | refine blk_alloc ?_ _)); exact BK676.out⟩, ⟨hb2_ HB.out GE671.out GE676.out⟩⟩
  ·rw [if_neg c15] at H
   have c15b0 : (t668 == 3) = false := beq_eq_false_iff_ne.mpr c15
   have c15b1 : (t668 != 3) = true := bne_iff_ne.mpr c15
   (first | rw [c15b0] | (simp only [i64_w, i32_w]; rw [c15b0]) | skip)
   by_cases c18 : t673 = 3
   ·rw [if_pos c18] at H
    have c18b0 : (t673 == 3) = true := beq_iff_eq.mpr c18
    have c18b1 : (t673 != 3) = false := bne_eq_false_iff_eq.mpr c18
    clear c18
    have H' := A_ H
    clear H
    have hnb19 := NB671_676.out
    have hnc19 := NB676_671.out
    have hcz20_0 : w11.cell? ⟨gb671, 0, none⟩ = some (.bool t667) := bc_ BK671.out 0
    have hcz20_1 : w11.cell? ⟨gb671, 1, none⟩ = some (.int .i64 t668) := bc_ BK671.out 1
    have hcz20_2 : w11.cell? ⟨gb671, 2, none⟩ = some (.int .i64 t669) := bc_ BK671.out 2
    have hcz20_3 : w11.cell? ⟨gb671, 3, none⟩ = some (.int .u64 t670) := bc_ BK671.out 3
    have hfz20_0 := blk_frozen BK671.out 0
    have hfz20_1 := blk_frozen BK671.out 1
    have hfz20_2 := blk_frozen BK671.out 2
    have hfz20_3 := blk_frozen BK671.out 3
    have hcz21_0 : w11.cell? ⟨gb676, 0, none⟩ = some (.bool false) := bc_ BK676.out 0
    have hcz21_1 : w11.cell? ⟨gb676, 1, none⟩ = some (.int .i64 0) := bc_ BK676.out 1
    have hcz21_2 : w11.cell? ⟨gb676, 2, none⟩ = some (.int .i64 0) := bc_ BK676.out 2
    have hcz21_3 : w11.cell? ⟨gb676, 3, none⟩ = some (.int .u64 0) := bc_ BK676.out 3
    have hfz21_0 := blk_frozen BK676.out 0
    have hfz21_1 := blk_frozen BK676.out 1
    have hfz21_2 := blk_frozen BK676.out 2
    have hfz21_3 := blk_frozen BK676.out 3
    go_wp2
    go_meet
    case rel => exact ⟨_, (true), sm_, H', ⟨by first | omega | exact Nat.le_refl _⟩, ⟨bf4_ BK671.out NB671_676.out NB671_676.out NB671_676.out NB671_676.out⟩, ⟨by (with_reducible repeat (first | refine blk_drewN ?_ _ | refine blk_drew ?_ | refine blk_alloc ?_ _)); refine blk_put (cs := #[.bool t672, .int .i64 t673, .int .i64 t674, .int .u64 0]) ?_ 3 _ rfl; (with_reducible repeat (first | refine blk_drewN ?_ _ | refine blk_drew ?_ | refine blk_alloc ?_ _)); refine blk_put (cs := #[.bool t672, .int .i64 t673, .int .i64 0, .int .u64 0]) ?_ 2 _ rfl; (with_reducible repeat (first | refine blk_drewN ?_ _ | refine blk_drew ?_ | refine blk_alloc ?_ _)); refine blk_put (cs := #[.bool t672, .int .i64 0, .int .i64 0, .int .u64 0]) ?_ 1 _ rfl; (with_reducible repeat (first | refine blk_drewN ?_ _ | refine blk_drew ?_ | refine blk_alloc ?_ _)); refine blk_put (cs := #[.bool false, .int .i64 0, .int .i64 0, .int .u64 0]) ?_ 0 _ rfl; (with_reducible repeat (first | refine blk_drewN ?_ _ | refine blk_drew ?_ | refine blk_alloc ?_ _)); exact BK676.out⟩, ⟨hb2_ HB.out GE671.out GE676.out⟩⟩
   ·rw [if_neg c18] at H
    have c18b0 : (t673 == 3) = false := beq_eq_false_iff_ne.mpr c18
    have c18b1 : (t673 != 3) = true := bne_iff_ne.mpr c18
    by_cases c22 : t668 = 2
    ·rw [if_pos c22] at H
     have c22b0 : (t668 == 2) = true := beq_iff_eq.mpr c22
     have c22b1 : (t668 != 2) = false := bne_eq_false_iff_eq.mpr c22
     clear c22
     by_cases c23 : t673 = 2
     ·rw [if_pos c23] at H
      have c23b0 : (t673 == 2) = true := beq_iff_eq.mpr c23
      have c23b1 : (t673 != 2) = false := bne_eq_false_iff_eq.mpr c23
      clear c23
      have H' := A_ H
      clear H
      have hnb24 := NB671_676.out
      have hnc24 := NB676_671.out
      have hcz25_0 : w11.cell? ⟨gb671, 0, none⟩ = some (.bool t667) := bc_ BK671.out 0
      have hcz25_1 : w11.cell? ⟨gb671, 1, none⟩ = some (.int .i64 t668) := bc_ BK671.out 1
      have hcz25_2 : w11.cell? ⟨gb671, 2, none⟩ = some (.int .i64 t669) := bc_ BK671.out 2
      have hcz25_3 : w11.cell? ⟨gb671, 3, none⟩ = some (.int .u64 t670) := bc_ BK671.out 3
      have hfz25_0 := blk_frozen BK671.out 0
      have hfz25_1 := blk_frozen BK671.out 1
      have hfz25_2 := blk_frozen BK671.out 2
      have hfz25_3 := blk_frozen BK671.out 3
      have hcz26_0 : w11.cell? ⟨gb676, 0, none⟩ = some (.bool false) := bc_ BK676.out 0
      have hcz26_1 : w11.cell? ⟨gb676, 1, none⟩ = some (.int .i64 0) := bc_ BK676.out 1
      have hcz26_2 : w11.cell? ⟨gb676, 2, none⟩ = some (.int .i64 0) := bc_ BK676.out 2
      have hcz26_3 : w11.cell? ⟨gb676, 3, none⟩ = some (.int .u64 0) := bc_ BK676.out 3
      have hfz26_0 := blk_frozen BK676.out 0
      have hfz26_1 := blk_frozen BK676.out 1
      have hfz26_2 := blk_frozen BK676.out 2
      have hfz26_3 := blk_frozen BK676.out 3
      go_wp2
      go_meet
      case rel => exact ⟨_, (true), sm_, H', ⟨by first | omega | exact Nat.le_refl _⟩, ⟨bf4_ BK671.out NB671_676.out NB671_676.out NB671_676.out NB671_676.out⟩, ⟨by (with_reducible repeat (first | refine blk_drewN ?_ _ | refine blk_drew ?_ | refine blk_alloc ?_ _)); refine blk_put (cs := #[.bool t672, .int .i64 t673, .int .i64 t674, .int .u64 0]) ?_ 3 _ rfl; (with_reducible repeat (first | refine blk_drewN ?_ _ | refine blk_drew ?_ | refine blk_alloc ?_ _)); refine blk_put (cs := #[.bool t672, .int .i64 t673, .int .i64 0, .int .u64 0]) ?_ 2 _ rfl; (with_reducible repeat (first | refine blk_drewN ?_ _ | refine blk_drew ?_ | refine blk_alloc ?_ _)); refine blk_put (cs := #[.bool t672, .int .i64 0, .int .i64 0, .int .u64 0]) ?_ 1 _ rfl; (with_reducible repeat (first | refine blk_drewN ?_ _ | refine blk_drew ?_ | refine blk_alloc ?_ _)); refine blk_put (cs := #[.bool false, .int .i64 0, .int .i64 0, .int .u64 0]) ?_ 0 _ rfl; (with_reducible repeat (first | refine blk_drewN ?_ _ | refine blk_drew ?_ | refine blk_alloc ?_ _)); exact BK676.out⟩, ⟨hb2_ HB.out GE671.out GE676.out⟩⟩
     ·rw [if_neg c23] at H
      have c23b0 : (t673 == 2) = false := beq_eq_false_iff_ne.mpr c23
      have c23b1 : (t673 != 2) = true := bne_iff_ne.mpr c23
      by_cases c27 : t668 = 0
      ·rw [if_pos c27] at H
       have c27b0 : (t668 == 0) = true := beq_iff_eq.mpr c27
       have c27b1 : (t668 != 0) = false := bne_eq_false_iff_eq.mpr c27
       clear c27
       have H' := A_ H
       clear H
       have hnb28 := NB671_676.out
       have hnc28 := NB676_671.out
       have hcz29_0 : w11.cell? ⟨gb671, 0, none⟩ = some (.bool t667) := bc_ BK671.out 0
       have hcz29_1 : w11.cell? ⟨gb671, 1, none⟩ = some (.int .i64 t668) := bc_ BK671.out 1
       have hcz29_2 : w11.cell? ⟨gb671, 2, none⟩ = some (.int .i64 t669) := bc_ BK671.out 2
       have hcz29_3 : w11.cell? ⟨gb671, 3, none⟩ = some (.int .u64 t670) := bc_ BK671.out 3
       have hfz29_0 := blk_frozen BK671.out 0
       have hfz29_1 := blk_frozen BK671.out 1
       have hfz29_2 := blk_frozen BK671.out 2
       have hfz29_3 := blk_frozen BK671.out 3
       have hcz30_0 : w11.cell? ⟨gb676, 0, none⟩ = some (.bool false) := bc_ BK676.out 0
       have hcz30_1 : w11.cell? ⟨gb676, 1, none⟩ = some (.int .i64 0) := bc_ BK676.out 1
       have hcz30_2 : w11.cell? ⟨gb676, 2, none⟩ = some (.int .i64 0) := bc_ BK676.out 2
       have hcz30_3 : w11.cell? ⟨gb676, 3, none⟩ = some (.int .u64 0) := bc_ BK676.out 3
       have hfz30_0 := blk_frozen BK676.out 0
       have hfz30_1 := blk_frozen BK676.out 1
       have hfz30_2 := blk_frozen BK676.out 2
       have hfz30_3 := blk_frozen BK676.out 3
       go_wp2
       go_meet
       case rel => exact ⟨_, ((t673 == 0)), sm_, H', ⟨by first | omega | exact Nat.le_refl _⟩, ⟨bf4_ BK671.out NB671_676.out NB671_676.out NB671_676.out NB671_676.out⟩, ⟨by (with_reducible repeat (first | refine blk_drewN ?_ _ | refine blk_drew ?_ | refine blk_alloc ?_ _)); refine blk_put (cs := #[.bool t672, .int .i64 t673, .int .i64 t674, .int .u64 0]) ?_ 3 _ rfl; (with_reducible repeat (first | refine blk_drewN ?_ _ | refine blk_drew ?_ | refine blk_alloc ?_ _)); refine blk_put (cs := #[.bool t672, .int .i64 t673, .int .i64 0, .int .u64 0]) ?_ 2 _ rfl; (with_reducible repeat (first | refine blk_drewN ?_ _ | refine blk_drew ?_ | refine blk_alloc ?_ _)); refine blk_put (cs := #[.bool t672, .int .i64 0, .int .i64 0, .int .u64 0]) ?_ 1 _ rfl; (with_reducible repeat (first | refine blk_drewN ?_ _ | refine blk_drew ?_ | refine blk_alloc ?_ _)); refine blk_put (cs := #[.bool false, .int .i64 0, .int .i64 0, .int .u64 0]) ?_ 0 _ rfl; (with_reducible repeat (first | refine blk_drewN ?_ _ | refine blk_drew ?_ | refine blk_alloc ?_ _)); exact BK676.out⟩, ⟨hb2_ HB.out GE671.out GE676.out⟩⟩
      ·rw [if_neg c27] at H
       have c27b0 : (t668 == 0) = false := beq_eq_false_iff_ne.mpr c27
       have c27b1 : (t668 != 0) = true := bne_iff_ne.mpr c27
       have H' := A_ H
       clear H
       have hnb31 := NB671_676.out
       have hnc31 := NB676_671.out
       have hcz32_0 : w11.cell? ⟨gb671, 0, none⟩ = some (.bool t667) := bc_ BK671.out 0
       have hcz32_1 : w11.cell? ⟨gb671, 1, none⟩ = some (.int .i64 t668) := bc_ BK671.out 1
       have hcz32_2 : w11.cell? ⟨gb671, 2, none⟩ = some (.int .i64 t669) := bc_ BK671.out 2
       have hcz32_3 : w11.cell? ⟨gb671, 3, none⟩ = some (.int .u64 t670) := bc_ BK671.out 3
       have hfz32_0 := blk_frozen BK671.out 0
       have hfz32_1 := blk_frozen BK671.out 1
       have hfz32_2 := blk_frozen BK671.out 2
       have hfz32_3 := blk_frozen BK671.out 3
       have hcz33_0 : w11.cell? ⟨gb676, 0, none⟩ = some (.bool false) := bc_ BK676.out 0
       have hcz33_1 : w11.cell? ⟨gb676, 1, none⟩ = some (.int .i64 0) := bc_ BK676.out 1
       have hcz33_2 : w11.cell? ⟨gb676, 2, none⟩ = some (.int .i64 0) := bc_ BK676.out 2
       have hcz33_3 : w11.cell? ⟨gb676, 3, none⟩ = some (.int .u64 0) := bc_ BK676.out 3
       have hfz33_0 := blk_frozen BK676.out 0
       have hfz33_1 := blk_frozen BK676.out 1
       have hfz33_2 := blk_frozen BK676.out 2
       have hfz33_3 := blk_frozen BK676.out 3
       go_wp2
       go_meet
       case rel => exact ⟨_, (false), sm_, H', ⟨by first | omega | exact Nat.le_refl _⟩, ⟨bf4_ BK671.out NB671_676.out NB671_676.out NB671_676.out NB671_676.out⟩, ⟨by (with_reducible repeat (first | refine blk_drewN ?_ _ | refine blk_drew ?_ | refine blk_alloc ?_ _)); refine blk_put (cs := #[.bool t672, .int .i64 t673, .int .i64 t674, .int .u64 0]) ?_ 3 _ rfl; (with_reducible repeat (first | refine blk_drewN ?_ _ | refine blk_drew ?_ | refine blk_alloc ?_ _)); refine blk_put (cs := #[.bool t672, .int .i64 t673, .int .i64 0, .int .u64 0]) ?_ 2 _ rfl; (with_reducible repeat (first | refine blk_drewN ?_ _ | refine blk_drew ?_ | refine blk_alloc ?_ _)); refine blk_put (cs := #[.bool t672, .int .i64 0, .int .i64 0, .int .u64 0]) ?_ 1 _ rfl; (with_reducible repeat (first | refine blk_drewN ?_ _ | refine blk_drew ?_ | refine blk_alloc ?_ _)); refine blk_put (cs := #[.bool false, .int .i64 0, .int .i64 0, .int .u64 0]) ?_ 0 _ rfl; (with_reducible repeat (first | refine blk_drewN ?_ _ | refine blk_drew ?_ | refine blk_alloc ?_ _)); exact BK676.out⟩, ⟨hb2_ HB.out GE671.out GE676.out⟩⟩
    ·rw [if_neg c22] at H
     have c22b0 : (t668 == 2) = false := beq_eq_false_iff_ne.mpr c22
     have c22b1 : (t668 != 2) = true := bne_iff_ne.mpr c22
     by_cases c34 : t668 = 0
     ·rw [if_pos c34] at H
      have c34b0 : (t668 == 0) = true := beq_iff_eq.mpr c34
      have c34b1 : (t668 != 0) = false := bne_eq_false_iff_eq.mpr c34
      clear c34
      have H' := A_ H
      clear H
      have hnb35 := NB671_676.out
      have hnc35 := NB676_671.out
      have hcz36_0 : w11.cell? ⟨gb671, 0, none⟩ = some (.bool t667) := bc_ BK671.out 0
      have hcz36_1 : w11.cell? ⟨gb671, 1, none⟩ = some (.int .i64 t668) := bc_ BK671.out 1
      have hcz36_2 : w11.cell? ⟨gb671, 2, none⟩ = some (.int .i64 t669) := bc_ BK671.out 2
      have hcz36_3 : w11.cell? ⟨gb671, 3, none⟩ = some (.int .u64 t670) := bc_ BK671.out 3
      have hfz36_0 := blk_frozen BK671.out 0
      have hfz36_1 := blk_frozen BK671.out 1
      have hfz36_2 := blk_frozen BK671.out 2
      have hfz36_3 := blk_frozen BK671.out 3
      have hcz37_0 : w11.cell? ⟨gb676, 0, none⟩ = some (.bool false) := bc_ BK676.out 0
      have hcz37_1 : w11.cell? ⟨gb676, 1, none⟩ = some (.int .i64 0) := bc_ BK676.out 1
      have hcz37_2 : w11.cell? ⟨gb676, 2, none⟩ = some (.int .i64 0) := bc_ BK676.out 2
      have hcz37_3 : w11.cell? ⟨gb676, 3, none⟩ = some (.int .u64 0) := bc_ BK676.out 3
      have hfz37_0 := blk_frozen BK676.out 0
      have hfz37_1 := blk_frozen BK676.out 1
      have hfz37_2 := blk_frozen BK676.out 2
      have hfz37_3 := blk_frozen BK676.out 3
      go_wp2
      go_meet
      case rel => exact ⟨_, ((t673 == 0)), sm_, H', ⟨by first | omega | exact Nat.le_refl _⟩, ⟨bf4_ BK671.out NB671_676.out NB671_676.out NB671_676.out NB671_676.out⟩, ⟨by (with_reducible repeat (first | refine blk_drewN ?_ _ | refine blk_drew ?_ | refine blk_alloc ?_ _)); refine blk_put (cs := #[.bool t672, .int .i64 t673, .int .i64 t674, .int .u64 0]) ?_ 3 _ rfl; (with_reducible repeat (first | refine blk_drewN ?_ _ | refine blk_drew ?_ | refine blk_alloc ?_ _)); refine blk_put (cs := #[.bool t672, .int .i64 t673, .int .i64 0, .int .u64 0]) ?_ 2 _ rfl; (with_reducible repeat (first | refine blk_drewN ?_ _ | refine blk_drew ?_ | refine blk_alloc ?_ _)); refine blk_put (cs := #[.bool t672, .int .i64 0, .int .i64 0, .int .u64 0]) ?_ 1 _ rfl; (with_reducible repeat (first | refine blk_drewN ?_ _ | refine blk_drew ?_ | refine blk_alloc ?_ _)); refine blk_put (cs := #[.bool false, .int .i64 0, .int .i64 0, .int .u64 0]) ?_ 0 _ rfl; (with_reducible repeat (first | refine blk_drewN ?_ _ | refine blk_drew ?_ | refine blk_alloc ?_ _)); exact BK676.out⟩, ⟨hb2_ HB.out GE671.out GE676.out⟩⟩
     ·rw [if_neg c34] at H
      have c34b0 : (t668 == 0) = false := beq_eq_false_iff_ne.mpr c34
      have c34b1 : (t668 != 0) = true := bne_iff_ne.mpr c34
      have H' := A_ H
      clear H
      have hnb38 := NB671_676.out
      have hnc38 := NB676_671.out
      have hcz39_0 : w11.cell? ⟨gb671, 0, none⟩ = some (.bool t667) := bc_ BK671.out 0
      have hcz39_1 : w11.cell? ⟨gb671, 1, none⟩ = some (.int .i64 t668) := bc_ BK671.out 1
      have hcz39_2 : w11.cell? ⟨gb671, 2, none⟩ = some (.int .i64 t669) := bc_ BK671.out 2
      have hcz39_3 : w11.cell? ⟨gb671, 3, none⟩ = some (.int .u64 t670) := bc_ BK671.out 3
      have hfz39_0 := blk_frozen BK671.out 0
      have hfz39_1 := blk_frozen BK671.out 1
      have hfz39_2 := blk_frozen BK671.out 2
      have hfz39_3 := blk_frozen BK671.out 3
      have hcz40_0 : w11.cell? ⟨gb676, 0, none⟩ = some (.bool false) := bc_ BK676.out 0
      have hcz40_1 : w11.cell? ⟨gb676, 1, none⟩ = some (.int .i64 0) := bc_ BK676.out 1
      have hcz40_2 : w11.cell? ⟨gb676, 2, none⟩ = some (.int .i64 0) := bc_ BK676.out 2
      have hcz40_3 : w11.cell? ⟨gb676, 3, none⟩ = some (.int .u64 0) := bc_ BK676.out 3
      have hfz40_0 := blk_frozen BK676.out 0
      have hfz40_1 := blk_frozen BK676.out 1
      have hfz40_2 := blk_frozen BK676.out 2
      have hfz40_3 := blk_frozen BK676.out 3
      go_wp2
      go_meet
      case rel => exact ⟨_, (false), sm_, H', ⟨by first | omega | exact Nat.le_refl _⟩, ⟨bf4_ BK671.out NB671_676.out NB671_676.out NB671_676.out NB671_676.out⟩, ⟨by (with_reducible repeat (first | refine blk_drewN ?_ _ | refine blk_drew ?_ | refine blk_alloc ?_ _)); refine blk_put (cs := #[.bool t672, .int .i64 t673, .int .i64 t674, .int .u64 0]) ?_ 3 _ rfl; (with_reducible repeat (first | refine blk_drewN ?_ _ | refine blk_drew ?_ | refine blk_alloc ?_ _)); refine blk_put (cs := #[.bool t672, .int .i64 t673, .int .i64 0, .int .u64 0]) ?_ 2 _ rfl; (with_reducible repeat (first | refine blk_drewN ?_ _ | refine blk_drew ?_ | refine blk_alloc ?_ _)); refine blk_put (cs := #[.bool t672, .int .i64 0, .int .i64 0, .int .u64 0]) ?_ 1 _ rfl; (with_reducible repeat (first | refine blk_drewN ?_ _ | refine blk_drew ?_ | refine blk_alloc ?_ _)); refine blk_put (cs := #[.bool false, .int .i64 0, .int .i64 0, .int .u64 0]) ?_ 0 _ rfl; (with_reducible repeat (first | refine blk_drewN ?_ _ | refine blk_drew ?_ | refine blk_alloc ?_ _)); exact BK676.out⟩, ⟨hb2_ HB.out GE671.out GE676.out⟩⟩
 case rest =>
  clear HC6
  try clear c1
  try clear c2
  try clear p2
  try clear c3
  try clear c4
  try clear c12
  try clear c15
  try clear c15b0
  try clear c15b1
  try clear c16
  try clear c18
  try clear c18b0
  try clear c18b1
  try clear c19
  try clear c22
  try clear c22b0
  try clear c22b1
  try clear c23
  try clear c23b0
  try clear c23b1
  try clear c24
  try clear c27
  try clear c27b0
  try clear c27b1
  try clear c28
  try clear c29
  try clear c31
  try clear c34
  try clear c34b0
  try clear c34b1
  try clear c35
  try clear c38
  try clear hcz13_0
  try clear hcz13_1
  try clear hcz13_2
  try clear hcz13_3
  try clear hcz14_0
  try clear hcz14_1
  try clear hcz14_2
  try clear hcz14_3
  try clear hcz17_0
  try clear hcz17_1
  try clear hcz17_2
  try clear hcz17_3
  try clear hcz20_0
  try clear hcz20_1
  try clear hcz20_2
  try clear hcz20_3
  try clear hcz21_0
  try clear hcz21_1
  try clear hcz21_2
  try clear hcz21_3
  try clear hcz25_0
  try clear hcz25_1
  try clear hcz25_2
  try clear hcz25_3
  try clear hcz26_0
  try clear hcz26_1
  try clear hcz26_2
  try clear hcz26_3
  try clear hcz29_0
  try clear hcz29_1
  try clear hcz29_2
  try clear hcz29_3
  try clear hcz30_0
  try clear hcz30_1
  try clear hcz30_2
  try clear hcz30_3
  try clear hcz32_0
  try clear hcz32_1
  try clear hcz32_2
  try clear hcz32_3
  try clear hcz33_0
  try clear hcz33_1
  try clear hcz33_2
  try clear hcz33_3
  try clear hcz36_0
  try clear hcz36_1
  try clear hcz36_2
  try clear hcz36_3
  try clear hcz37_0
  try clear hcz37_1
  try clear hcz37_2
  try clear hcz37_3
  try clear hcz39_0
  try clear hcz39_1
  try clear hcz39_2
  try clear hcz39_3
  try clear hcz40_0
  try clear hcz40_1
  try clear hcz40_2
  try clear hcz40_3
  try clear hcz9_0
  try clear hcz9_1
  try clear hcz9_2
  try clear hcz9_3
  try clear hfz13_0
  try clear hfz13_1
  try clear hfz13_2
  try clear hfz13_3
  try clear hfz14_0
  try clear hfz14_1
  try clear hfz14_2
  try clear hfz14_3
  try clear hfz17_0
  try clear hfz17_1
  try clear hfz17_2
  try clear hfz17_3
  try clear hfz20_0
  try clear hfz20_1
  try clear hfz20_2
  try clear hfz20_3
  try clear hfz21_0
  try clear hfz21_1
  try clear hfz21_2
  try clear hfz21_3
  try clear hfz25_0
  try clear hfz25_1
  try clear hfz25_2
  try clear hfz25_3
  try clear hfz26_0
  try clear hfz26_1
  try clear hfz26_2
  try clear hfz26_3
  try clear hfz29_0
  try clear hfz29_1
  try clear hfz29_2
  try clear hfz29_3
  try clear hfz30_0
  try clear hfz30_1
  try clear hfz30_2
  try clear hfz30_3
  try clear hfz32_0
  try clear hfz32_1
  try clear hfz32_2
  try clear hfz32_3
  try clear hfz33_0
  try clear hfz33_1
  try clear hfz33_2
  try clear hfz33_3
  try clear hfz36_0
  try clear hfz36_1
  try clear hfz36_2
  try clear hfz36_3
  try clear hfz37_0
  try clear hfz37_1
  try clear hfz37_2
  try clear hfz37_3
  try clear hfz39_0
  try clear hfz39_1
  try clear hfz39_2
  try clear hfz39_3
  try clear hfz40_0
  try clear hfz40_1
  try clear hfz40_2
  try clear hfz40_3
  try clear hfz9_0
  try clear hfz9_1
  try clear hfz9_2
  try clear hfz9_3
  obtain ⟨kq, x48_5, rfl, HA, HJ5, BK671, BK676, HB⟩ := hcut
  cases kq with
  | zero => exact absurd HA.out (by simp [r6_Div.j0])
  | succ kj5 =>
   have H := HA.out
   clear HA
   simp only [r6_Div.j0] at H
   by_cases c41 : x48_5 = true
   ·subst c41
    have H1 : ((r2_Nan.f kj5 a0).bind fun t677 => (some t677)) = some r := by rw [if_pos rfl] at H; exact H
    clear H;have H := H1;clear H1
    replace H := ob_ H
    obtain ⟨t677, A420, H⟩ := H
    replace H : (some t677) = some r := H
    have A42 := A_ A420;clear A420
    obtain rfl := Option.some.inj H
    go_wp2_with (first | ((with_reducible refine gate_callee (f := 58) rfl ?_); refine gl_ (some 50) Try.func58 #[.int .i64 a0] ?_; (with_reducible refine (r2_Nan.calls kj5 a0 t677 _ A42.out).mono ?_); rintro e w' ⟨rfl, ⟨nd, rfl⟩⟩; refine ⟨_, rfl, ?_⟩))
    go_ret
    exact ⟨er_, hb2_ HB.out GE671.out GE676.out⟩
   ·replace c41 := Bool.eq_false_iff.mpr c41
    subst c41
    have H1 : (if t668 = 2 then (r6_Div.j1 kj5 a0 (t667 != t672) true t667 t668 t669 t670 t672 t673 t674 t675) else (r6_Div.j1 kj5 a0 (t667 != t672) (t673 == 0) t667 t668 t669 t670 t672 t673 t674 t675)) = some r := by rw [if_neg (show ¬ (false = true) by decide)] at H; exact H
    clear H;have H := H1;clear H1;have HC43 := A_ H;clear H
    go_upto_region 6 with (fail)
    go_cut [58] (fun v58 wc => ∃ (kq : Nat) (x58_42 : Bool), v58 = .bool x58_42 ∧ Aside0 (r6_Div.j1 kq a0 (t667 != t672) x58_42 t667 t668 t669 t670 t672 t673 t674 t675 = some r) ∧ Aside0 (kq ≤ kj5) ∧ Aside0 (wc.heap[gb671]? = some (.cells #[.bool t667, .int .i64 t668, .int .i64 t669, .int .u64 t670] 57 (0, 0))) ∧ Aside0 (wc.heap[gb676]? = some (.cells #[.bool t672, .int .i64 t673, .int .i64 t674, .int .u64 t675] 57 (0, 0))) ∧ Aside0 (Below w.heap.size w wc))
    case first =>
     have H := HC43.out
     clear HC43
     by_cases c44 : t668 = 2
     ·rw [if_pos c44] at H
      have c44b0 : (t668 == 2) = true := beq_iff_eq.mpr c44
      have c44b1 : (t668 != 2) = false := bne_eq_false_iff_eq.mpr c44
      clear c44
      (first | rw [c44b0] | (simp only [i64_w, i32_w]; rw [c44b0]) | skip)
      have H' := A_ H
      clear H
      have hnb45 := NB671_676.out
      have hnc45 := NB676_671.out
      have hcz46_0 : wc.cell? ⟨gb671, 0, none⟩ = some (.bool t667) := bc_ BK671.out 0
      have hcz46_1 : wc.cell? ⟨gb671, 1, none⟩ = some (.int .i64 t668) := bc_ BK671.out 1
      have hcz46_2 : wc.cell? ⟨gb671, 2, none⟩ = some (.int .i64 t669) := bc_ BK671.out 2
      have hcz46_3 : wc.cell? ⟨gb671, 3, none⟩ = some (.int .u64 t670) := bc_ BK671.out 3
      have hfz46_0 := blk_frozen BK671.out 0
      have hfz46_1 := blk_frozen BK671.out 1
      have hfz46_2 := blk_frozen BK671.out 2
      have hfz46_3 := blk_frozen BK671.out 3
      go_wp2
      go_meet
      case rel => exact ⟨_, (true), sm_, H', ⟨by have := HJ5.out; first | omega | exact Nat.le_refl _⟩, ⟨bk_ BK671.out⟩, ⟨bk_ BK676.out⟩, ⟨hb2_ HB.out GE671.out GE676.out⟩⟩
     ·rw [if_neg c44] at H
      have c44b0 : (t668 == 2) = false := beq_eq_false_iff_ne.mpr c44
      have c44b1 : (t668 != 2) = true := bne_iff_ne.mpr c44
      (first | rw [c44b0] | (simp only [i64_w, i32_w]; rw [c44b0]) | skip)
      have H' := A_ H
      clear H
      have hnb47 := NB671_676.out
      have hnc47 := NB676_671.out
      have hcz48_0 : wc.cell? ⟨gb671, 0, none⟩ = some (.bool t667) := bc_ BK671.out 0
      have hcz48_1 : wc.cell? ⟨gb671, 1, none⟩ = some (.int .i64 t668) := bc_ BK671.out 1
      have hcz48_2 : wc.cell? ⟨gb671, 2, none⟩ = some (.int .i64 t669) := bc_ BK671.out 2
      have hcz48_3 : wc.cell? ⟨gb671, 3, none⟩ = some (.int .u64 t670) := bc_ BK671.out 3
      have hfz48_0 := blk_frozen BK671.out 0
      have hfz48_1 := blk_frozen BK671.out 1
      have hfz48_2 := blk_frozen BK671.out 2
      have hfz48_3 := blk_frozen BK671.out 3
      have hcz49_0 : wc.cell? ⟨gb676, 0, none⟩ = some (.bool t672) := bc_ BK676.out 0
      have hcz49_1 : wc.cell? ⟨gb676, 1, none⟩ = some (.int .i64 t673) := bc_ BK676.out 1
      have hcz49_2 : wc.cell? ⟨gb676, 2, none⟩ = some (.int .i64 t674) := bc_ BK676.out 2
      have hcz49_3 : wc.cell? ⟨gb676, 3, none⟩ = some (.int .u64 t675) := bc_ BK676.out 3
      have hfz49_0 := blk_frozen BK676.out 0
      have hfz49_1 := blk_frozen BK676.out 1
      have hfz49_2 := blk_frozen BK676.out 2
      have hfz49_3 := blk_frozen BK676.out 3
      go_wp2
      go_meet
      case rel => exact ⟨_, ((t673 == 0)), sm_, H', ⟨by have := HJ5.out; first | omega | exact Nat.le_refl _⟩, ⟨bk_ BK671.out⟩, ⟨bk_ BK676.out⟩, ⟨hb2_ HB.out GE671.out GE676.out⟩⟩
    case rest =>
     clear HC43
     try clear c1
     try clear c2
     try clear p2
     try clear c3
     try clear c4
     try clear c5
     try clear c12
     try clear c15
     try clear c15b0
     try clear c15b1
     try clear c16
     try clear c18
     try clear c18b0
     try clear c18b1
     try clear c19
     try clear c22
     try clear c22b0
     try clear c22b1
     try clear c23
     try clear c23b0
     try clear c23b1
     try clear c24
     try clear c27
     try clear c27b0
     try clear c27b1
     try clear c28
     try clear c29
     try clear c31
     try clear c34
     try clear c34b0
     try clear c34b1
     try clear c35
     try clear c38
     try clear c41
     try clear c44
     try clear c44b0
     try clear c44b1
     try clear c45
     try clear c47
     try clear c48
     try clear hcz13_0
     try clear hcz13_1
     try clear hcz13_2
     try clear hcz13_3
     try clear hcz14_0
     try clear hcz14_1
     try clear hcz14_2
     try clear hcz14_3
     try clear hcz17_0
     try clear hcz17_1
     try clear hcz17_2
     try clear hcz17_3
     try clear hcz20_0
     try clear hcz20_1
     try clear hcz20_2
     try clear hcz20_3
     try clear hcz21_0
     try clear hcz21_1
     try clear hcz21_2
     try clear hcz21_3
     try clear hcz25_0
     try clear hcz25_1
     try clear hcz25_2
     try clear hcz25_3
     try clear hcz26_0
     try clear hcz26_1
     try clear hcz26_2
     try clear hcz26_3
     try clear hcz29_0
     try clear hcz29_1
     try clear hcz29_2
     try clear hcz29_3
     try clear hcz30_0
     try clear hcz30_1
     try clear hcz30_2
     try clear hcz30_3
     try clear hcz32_0
     try clear hcz32_1
     try clear hcz32_2
     try clear hcz32_3
     try clear hcz33_0
     try clear hcz33_1
     try clear hcz33_2
     try clear hcz33_3
     try clear hcz36_0
     try clear hcz36_1
     try clear hcz36_2
     try clear hcz36_3
     try clear hcz37_0
     try clear hcz37_1
     try clear hcz37_2
     try clear hcz37_3
     try clear hcz39_0
     try clear hcz39_1
     try clear hcz39_2
     try clear hcz39_3
     try clear hcz40_0
     try clear hcz40_1
     try clear hcz40_2
     try clear hcz40_3
     try clear hcz46_0
     try clear hcz46_1
     try clear hcz46_2
     try clear hcz46_3
     try clear hcz48_0
     try clear hcz48_1
     try clear hcz48_2
     try clear hcz48_3
     try clear hcz49_0
     try clear hcz49_1
     try clear hcz49_2
     try clear hcz49_3
     try clear hcz9_0
     try clear hcz9_1
     try clear hcz9_2
     try clear hcz9_3
     try clear hfz13_0
     try clear hfz13_1
     try clear hfz13_2
     try clear hfz13_3
     try clear hfz14_0
     try clear hfz14_1
     try clear hfz14_2
     try clear hfz14_3
     try clear hfz17_0
     try clear hfz17_1
     try clear hfz17_2
     try clear hfz17_3
     try clear hfz20_0
     try clear hfz20_1
     try clear hfz20_2
     try clear hfz20_3
     try clear hfz21_0
     try clear hfz21_1
     try clear hfz21_2
     try clear hfz21_3
     try clear hfz25_0
     try clear hfz25_1
     try clear hfz25_2
     try clear hfz25_3
     try clear hfz26_0
     try clear hfz26_1
     try clear hfz26_2
     try clear hfz26_3
     try clear hfz29_0
     try clear hfz29_1
     try clear hfz29_2
     try clear hfz29_3
     try clear hfz30_0
     try clear hfz30_1
     try clear hfz30_2
     try clear hfz30_3
     try clear hfz32_0
     try clear hfz32_1
     try clear hfz32_2
     try clear hfz32_3
     try clear hfz33_0
     try clear hfz33_1
     try clear hfz33_2
     try clear hfz33_3
     try clear hfz36_0
     try clear hfz36_1
     try clear hfz36_2
     try clear hfz36_3
     try clear hfz37_0
     try clear hfz37_1
     try clear hfz37_2
     try clear hfz37_3
     try clear hfz39_0
     try clear hfz39_1
     try clear hfz39_2
     try clear hfz39_3
     try clear hfz40_0
     try clear hfz40_1
     try clear hfz40_2
     try clear hfz40_3
     try clear hfz46_0
     try clear hfz46_1
     try clear hfz46_2
     try clear hfz46_3
     try clear hfz48_0
     try clear hfz48_1
     try clear hfz48_2
     try clear hfz48_3
     try clear hfz49_0
     try clear hfz49_1
     try clear hfz49_2
     try clear hfz49_3
     try clear hfz9_0
     try clear hfz9_1
     try clear hfz9_2
     try clear hfz9_3
     try clear p2
     obtain ⟨kq, x58_42, rfl, HA, HJ42, BK671, BK676, HB⟩ := hcut
     cases kq with
     | zero => exact absurd HA.out (by simp [r6_Div.j1])
     | succ kj42 =>
      have H := HA.out
      clear HA
      simp only [r6_Div.j1] at H
      by_cases c50 : x58_42 = true
      ·subst c50
       have H1 : ((r2_Inf.f kj42 a0 (t667 != t672)).bind fun t678 => (some t678)) = some r := by rw [if_pos rfl] at H; exact H
       clear H;have H := H1;clear H1
       replace H := ob_ H
       obtain ⟨t678, A510, H⟩ := H
       replace H : (some t678) = some r := H
       have A51 := A_ A510;clear A510
       obtain rfl := Option.some.inj H
       go_wp2_with (first | ((with_reducible refine gate_callee (f := 59) rfl ?_); refine gl_ (some 61) Try.func59 #[.int .i64 a0, .bool (t667 != t672)] ?_; (with_reducible refine (r2_Inf.calls kj42 a0 (t667 != t672) t678 _ A51.out).mono ?_); rintro e w' ⟨rfl, ⟨nd, rfl⟩⟩; refine ⟨_, rfl, ?_⟩))
       go_ret
       exact ⟨er_, hb2_ HB.out GE671.out GE676.out⟩
      ·replace c50 := Bool.eq_false_iff.mpr c50
       subst c50
       have H1 : (if t668 = 0 then (r6_Div.j2 kj42 a0 (t667 != t672) true t667 t668 t669 t670 t672 t673 t674 t675) else (r6_Div.j2 kj42 a0 (t667 != t672) (t673 == 2) t667 t668 t669 t670 t672 t673 t674 t675)) = some r := by rw [if_neg (show ¬ (false = true) by decide)] at H; exact H
       clear H;have H := H1;clear H1;have HC52 := A_ H;clear H
       go_upto_region 8 with (fail)
       go_cut [69] (fun v69 wc => ∃ (kq : Nat) (x69_51 : Bool), v69 = .bool x69_51 ∧ Aside0 (r6_Div.j2 kq a0 (t667 != t672) x69_51 t667 t668 t669 t670 t672 t673 t674 t675 = some r) ∧ Aside0 (kq ≤ kj42) ∧ Aside0 (wc.heap[gb671]? = some (.cells #[.bool t667, .int .i64 t668, .int .i64 t669, .int .u64 t670] 57 (0, 0))) ∧ Aside0 (wc.heap[gb676]? = some (.cells #[.bool t672, .int .i64 t673, .int .i64 t674, .int .u64 t675] 57 (0, 0))) ∧ Aside0 (Below w.heap.size w wc))
       case first =>
        have H := HC52.out
        clear HC52
        by_cases c53 : t668 = 0
        ·rw [if_pos c53] at H
         have c53b0 : (t668 == 0) = true := beq_iff_eq.mpr c53
         have c53b1 : (t668 != 0) = false := bne_eq_false_iff_eq.mpr c53
         clear c53
         (first | rw [c53b0] | (simp only [i64_w, i32_w]; rw [c53b0]) | skip)
         have H' := A_ H
         clear H
         have hnb54 := NB671_676.out
         have hnc54 := NB676_671.out
         have hcz55_0 : wc.cell? ⟨gb671, 0, none⟩ = some (.bool t667) := bc_ BK671.out 0
         have hcz55_1 : wc.cell? ⟨gb671, 1, none⟩ = some (.int .i64 t668) := bc_ BK671.out 1
         have hcz55_2 : wc.cell? ⟨gb671, 2, none⟩ = some (.int .i64 t669) := bc_ BK671.out 2
         have hcz55_3 : wc.cell? ⟨gb671, 3, none⟩ = some (.int .u64 t670) := bc_ BK671.out 3
         have hfz55_0 := blk_frozen BK671.out 0
         have hfz55_1 := blk_frozen BK671.out 1
         have hfz55_2 := blk_frozen BK671.out 2
         have hfz55_3 := blk_frozen BK671.out 3
         go_wp2
         go_meet
         case rel => exact ⟨_, (true), sm_, H', ⟨by have := HJ5.out; have := HJ42.out; first | omega | exact Nat.le_refl _⟩, ⟨bk_ BK671.out⟩, ⟨bk_ BK676.out⟩, ⟨hb2_ HB.out GE671.out GE676.out⟩⟩
        ·rw [if_neg c53] at H
         have c53b0 : (t668 == 0) = false := beq_eq_false_iff_ne.mpr c53
         have c53b1 : (t668 != 0) = true := bne_iff_ne.mpr c53
         (first | rw [c53b0] | (simp only [i64_w, i32_w]; rw [c53b0]) | skip)
         have H' := A_ H
         clear H
         have hnb56 := NB671_676.out
         have hnc56 := NB676_671.out
         have hcz57_0 : wc.cell? ⟨gb671, 0, none⟩ = some (.bool t667) := bc_ BK671.out 0
         have hcz57_1 : wc.cell? ⟨gb671, 1, none⟩ = some (.int .i64 t668) := bc_ BK671.out 1
         have hcz57_2 : wc.cell? ⟨gb671, 2, none⟩ = some (.int .i64 t669) := bc_ BK671.out 2
         have hcz57_3 : wc.cell? ⟨gb671, 3, none⟩ = some (.int .u64 t670) := bc_ BK671.out 3
         have hfz57_0 := blk_frozen BK671.out 0
         have hfz57_1 := blk_frozen BK671.out 1
         have hfz57_2 := blk_frozen BK671.out 2
         have hfz57_3 := blk_frozen BK671.out 3
         have hcz58_0 : wc.cell? ⟨gb676, 0, none⟩ = some (.bool t672) := bc_ BK676.out 0
         have hcz58_1 : wc.cell? ⟨gb676, 1, none⟩ = some (.int .i64 t673) := bc_ BK676.out 1
         have hcz58_2 : wc.cell? ⟨gb676, 2, none⟩ = some (.int .i64 t674) := bc_ BK676.out 2
         have hcz58_3 : wc.cell? ⟨gb676, 3, none⟩ = some (.int .u64 t675) := bc_ BK676.out 3
         have hfz58_0 := blk_frozen BK676.out 0
         have hfz58_1 := blk_frozen BK676.out 1
         have hfz58_2 := blk_frozen BK676.out 2
         have hfz58_3 := blk_frozen BK676.out 3
         go_wp2
         go_meet
         case rel => exact ⟨_, ((t673 == 2)), sm_, H', ⟨by have := HJ5.out; have := HJ42.out; first | omega | exact Nat.le_refl _⟩, ⟨bk_ BK671.out⟩, ⟨bk_ BK676.out⟩, ⟨hb2_ HB.out GE671.out GE676.out⟩⟩
       case rest =>
        clear HC52
        try clear c1
        try clear c2
        try clear p2
        try clear c3
        try clear c4
        try clear c5
        try clear c12
        try clear c15
        try clear c15b0
        try clear c15b1
        try clear c16
        try clear c18
        try clear c18b0
        try clear c18b1
        try clear c19
        try clear c22
        try clear c22b0
        try clear c22b1
        try clear c23
        try clear c23b0
        try clear c23b1
        try clear c24
        try clear c27
        try clear c27b0
        try clear c27b1
        try clear c28
        try clear c29
        try clear c31
        try clear c34
        try clear c34b0
        try clear c34b1
        try clear c35
        try clear c38
        try clear c41
        try clear c44
        try clear c44b0
        try clear c44b1
        try clear c45
        try clear c47
        try clear c48
        try clear c50
        try clear c53
        try clear c53b0
        try clear c53b1
        try clear c54
        try clear c56
        try clear c58
        try clear hcz13_0
        try clear hcz13_1
        try clear hcz13_2
        try clear hcz13_3
        try clear hcz14_0
        try clear hcz14_1
        try clear hcz14_2
        try clear hcz14_3
        try clear hcz17_0
        try clear hcz17_1
        try clear hcz17_2
        try clear hcz17_3
        try clear hcz20_0
        try clear hcz20_1
        try clear hcz20_2
        try clear hcz20_3
        try clear hcz21_0
        try clear hcz21_1
        try clear hcz21_2
        try clear hcz21_3
        try clear hcz25_0
        try clear hcz25_1
        try clear hcz25_2
        try clear hcz25_3
        try clear hcz26_0
        try clear hcz26_1
        try clear hcz26_2
        try clear hcz26_3
        try clear hcz29_0
        try clear hcz29_1
        try clear hcz29_2
        try clear hcz29_3
        try clear hcz30_0
        try clear hcz30_1
        try clear hcz30_2
        try clear hcz30_3
        try clear hcz32_0
        try clear hcz32_1
        try clear hcz32_2
        try clear hcz32_3
        try clear hcz33_0
        try clear hcz33_1
        try clear hcz33_2
        try clear hcz33_3
        try clear hcz36_0
        try clear hcz36_1
        try clear hcz36_2
        try clear hcz36_3
        try clear hcz37_0
        try clear hcz37_1
        try clear hcz37_2
        try clear hcz37_3
        try clear hcz39_0
        try clear hcz39_1
        try clear hcz39_2
        try clear hcz39_3
        try clear hcz40_0
        try clear hcz40_1
        try clear hcz40_2
        try clear hcz40_3
        try clear hcz46_0
        try clear hcz46_1
        try clear hcz46_2
        try clear hcz46_3
        try clear hcz48_0
        try clear hcz48_1
        try clear hcz48_2
        try clear hcz48_3
        try clear hcz49_0
        try clear hcz49_1
        try clear hcz49_2
        try clear hcz49_3
        try clear hcz55_0
        try clear hcz55_1
        try clear hcz55_2
        try clear hcz55_3
        try clear hcz57_0
        try clear hcz57_1
        try clear hcz57_2
        try clear hcz57_3
        try clear hcz58_0
        try clear hcz58_1
        try clear hcz58_2
        try clear hcz58_3
        try clear hcz9_0
        try clear hcz9_1
        try clear hcz9_2
        try clear hcz9_3
        try clear hfz13_0
        try clear hfz13_1
        try clear hfz13_2
        try clear hfz13_3
        try clear hfz14_0
        try clear hfz14_1
        try clear hfz14_2
        try clear hfz14_3
        try clear hfz17_0
        try clear hfz17_1
        try clear hfz17_2
        try clear hfz17_3
        try clear hfz20_0
        try clear hfz20_1
        try clear hfz20_2
        try clear hfz20_3
        try clear hfz21_0
        try clear hfz21_1
        try clear hfz21_2
        try clear hfz21_3
        try clear hfz25_0
        try clear hfz25_1
        try clear hfz25_2
        try clear hfz25_3
        try clear hfz26_0
        try clear hfz26_1
        try clear hfz26_2
        try clear hfz26_3
        try clear hfz29_0
        try clear hfz29_1
        try clear hfz29_2
        try clear hfz29_3
        try clear hfz30_0
        try clear hfz30_1
        try clear hfz30_2
        try clear hfz30_3
        try clear hfz32_0
        try clear hfz32_1
        try clear hfz32_2
        try clear hfz32_3
        try clear hfz33_0
        try clear hfz33_1
        try clear hfz33_2
        try clear hfz33_3
        try clear hfz36_0
        try clear hfz36_1
        try clear hfz36_2
        try clear hfz36_3
        try clear hfz37_0
        try clear hfz37_1
        try clear hfz37_2
        try clear hfz37_3
        try clear hfz39_0
        try clear hfz39_1
        try clear hfz39_2
        try clear hfz39_3
        try clear hfz40_0
        try clear hfz40_1
        try clear hfz40_2
        try clear hfz40_3
        try clear hfz46_0
        try clear hfz46_1
        try clear hfz46_2
        try clear hfz46_3
        try clear hfz48_0
        try clear hfz48_1
        try clear hfz48_2
        try clear hfz48_3
        try clear hfz49_0
        try clear hfz49_1
        try clear hfz49_2
        try clear hfz49_3
        try clear hfz55_0
        try clear hfz55_1
        try clear hfz55_2
        try clear hfz55_3
        try clear hfz57_0
        try clear hfz57_1
        try clear hfz57_2
        try clear hfz57_3
        try clear hfz58_0
        try clear hfz58_1
        try clear hfz58_2
        try clear hfz58_3
        try clear hfz9_0
        try clear hfz9_1
        try clear hfz9_2
        try clear hfz9_3
        try clear p2
        obtain ⟨kq, x69_51, rfl, HA, HJ51, BK671, BK676, HB⟩ := hcut
        cases kq with
        | zero => exact absurd HA.out (by simp [r6_Div.j2])
        | succ kj51 =>
         have H := HA.out
         clear HA
         simp only [r6_Div.j2] at H
         by_cases c59 : x69_51 = true
         ·subst c59
          have H1 : ((r2_Make.f kj51 a0 (t667 != t672) 0 0).bind fun t679 => (some t679)) = some r := by rw [if_pos rfl] at H; exact H
          clear H;have H := H1;clear H1
          replace H := ob_ H
          obtain ⟨t679, A600, H⟩ := H
          replace H : (some t679) = some r := H
          have A60 := A_ A600;clear A600
          obtain rfl := Option.some.inj H
          go_wp2_with (first | ((with_reducible refine gate_callee (f := 17) rfl ?_); refine gl_ (some 72) Try.func17 #[.int .i64 a0, .bool (t667 != t672), .int .i64 0, .int .u64 0] ?_; (with_reducible refine (r2_Make.calls kj51 a0 (t667 != t672) 0 0 t679 _ A60.out).mono ?_); rintro e w' ⟨rfl, ⟨nd, rfl⟩⟩; refine ⟨_, rfl, ?_⟩))
          go_ret
          exact ⟨er_, hb2_ HB.out GE671.out GE676.out⟩
         ·replace c59 := Bool.eq_false_iff.mpr c59
          subst c59
          have H1 : ((r1_Of.f kj51 t670).bind fun t680 => ((r1_Of.f kj51 t675).bind fun t683 => ((r3_Near.f kj51 a0 (t667 != t672) t680 t683 (wrap64 (t669 - t674))).bind fun t686 => (some t686)))) = some r := by rw [if_neg (show ¬ (false = true) by decide)] at H; exact H
          clear H;have H := H1;clear H1
          replace H := ob_ H
          obtain ⟨t680, A610, H⟩ := H
          replace H : ((r1_Of.f kj51 t675).bind fun t683 => ((r3_Near.f kj51 a0 (t667 != t672) t680 t683 (wrap64 (t669 - t674))).bind fun t686 => (some t686))) = some r := H
          have A61 := A_ A610;clear A610
          replace H := ob_ H
          obtain ⟨t683, A620, H⟩ := H
          replace H : ((r3_Near.f kj51 a0 (t667 != t672) t680 t683 (wrap64 (t669 - t674))).bind fun t686 => (some t686)) = some r := H
          have A62 := A_ A620;clear A620
          replace H := ob_ H
          obtain ⟨t686, A630, H⟩ := H
          replace H : (some t686) = some r := H
          have A63 := A_ A630;clear A630
          obtain rfl := Option.some.inj H
          try go_wp2
          have n0_ := A_ (blk_drew BK671.out)
          have n1_ := A_ (blk_drew BK676.out)
          have n2_ := A_ (below_drew1 HB.out)
          clear BK671;clear BK676;clear HB;have BK671 := n0_;have BK676 := n1_;have HB := n2_;clear n0_ n1_ n2_
          refine start_ (n := 15) (S := fun w' => w'.cell? ⟨gb671, 0, none⟩ = some (.bool t667) ∧ w'.cell? ⟨gb671, 1, none⟩ = some (.int .i64 t668) ∧ w'.cell? ⟨gb671, 2, none⟩ = some (.int .i64 t669) ∧ w'.cell? ⟨gb671, 3, none⟩ = some (.int .u64 t670) ∧ w'.cell? ⟨gb676, 0, none⟩ = some (.bool t672) ∧ w'.cell? ⟨gb676, 1, none⟩ = some (.int .i64 t673) ∧ w'.cell? ⟨gb676, 2, none⟩ = some (.int .i64 t674) ∧ w'.cell? ⟨gb676, 3, none⟩ = some (.int .u64 t675)) (ds := []) #[false, false, false, false, false, false, false, false, false, false, false, false, false, false, false] (by kernel_rfl) rfl rfl ⟨bc_ BK671.out 0, bc_ BK671.out 1, bc_ BK671.out 2, bc_ BK671.out 3, bc_ BK676.out 0, bc_ BK676.out 1, bc_ BK676.out 2, bc_ BK676.out 3⟩ (fun hHeld => ?_); refine with_tabW r6_Div.tab10 r6_Div.bits10 (fun HT_ HW_ => ?_)
          generalize wc.drew = w64 at BK671 BK676 HB hHeld ⊢
          refine pu_ 0 (some 73) #[true, false, false, false, false, false, false, false, false, false, false, false, false, false, false] rfl rfl (any_of HT_.out (by kernel_rfl)) ?_
          refine pu_ 1 (some 74) #[true, true, false, false, false, false, false, false, false, false, false, false, false, false, false] rfl rfl (any_of HT_.out (by kernel_rfl)) ?_
          refine pu_ 2 (some 75) #[true, true, true, false, false, false, false, false, false, false, false, false, false, false, false] rfl rfl (any_of HT_.out (by kernel_rfl)) ?_
          refine pu_ 5 (some 78) #[true, true, true, false, false, true, false, false, false, false, false, false, false, false, false] rfl rfl (any_of HT_.out (by kernel_rfl)) ?_
          refine pu_ 8 (some 81) #[true, true, true, false, false, true, false, false, true, false, false, false, false, false, false] rfl rfl (any_of HT_.out (by kernel_rfl)) ?_
          refine pu_ 10 (some 83) #[true, true, true, false, false, true, false, false, true, false, true, false, false, false, false] rfl rfl (any_of HT_.out (by kernel_rfl)) ?_
          refine tk8_ 3 (some 76) #[true, true, true, true, false, true, false, false, true, false, true, false, false, false, false] rfl rfl (take_ofW HT_.out HW_.out (by kernel_rfl)) hHeld ?_
          refine tk8_ 6 (some 79) #[true, true, true, true, false, true, true, false, true, false, true, false, false, false, false] rfl rfl (take_ofW HT_.out HW_.out (by kernel_rfl)) hHeld ?_
          refine tk8_ 9 (some 82) #[true, true, true, true, false, true, true, false, true, true, true, false, false, false, false] rfl rfl (take_ofW HT_.out HW_.out (by kernel_rfl)) hHeld ?_
          refine tk8_ 11 (some 84) #[true, true, true, true, false, true, true, false, true, true, true, true, false, false, false] rfl rfl (take_ofW HT_.out HW_.out (by kernel_rfl)) hHeld ?_
          refine pu_ 12 (some 85) #[true, true, true, true, false, true, true, false, true, true, true, true, true, false, false] rfl rfl (any_of HT_.out (by kernel_rfl)) ?_
          refine one_ (i := 4) (N := some 77) #[true, true, true, true, true, true, true, false, true, true, true, true, true, false, false] rfl rfl (one_of HT_.out (by kernel_rfl)) (by decide) (fun K hK => ?_)
          refine goes_ Try.func62 (by kernel_rfl) rfl #[.int .u64 t670] (by rfl) rfl rfl mp_ ?_
          with_reducible refine (r1_Of.calls kj51 t670 t680 _ A61.out).mono ?_
          rintro e w65 ⟨v681, rfl, ho0, hb⟩
          refine ⟨_, rfl, ?_⟩
          have n0_ := A_ (Kd.R_lower ho0 (below_size (hb2_ HB.out GE671.out GE676.out)))
          have n1_ := A_ (bb_ BK671.out hb)
          have n2_ := A_ (bb_ BK676.out hb)
          have n3_ := A_ (below_step (hb2_ HB.out GE671.out GE676.out) hb)
          clear BK671;clear BK676;clear HB;have HO682 := n0_;have BK671 := n1_;have BK676 := n2_;have HB := n3_;clear n0_ n1_ n2_ n3_;(try clear hb);(try clear hb2);(try clear hk);(try clear hi);(try clear ho0)
          refine hK.out _ _ ⟨bc_ BK671.out 0, bc_ BK671.out 1, bc_ BK671.out 2, bc_ BK671.out 3, bc_ BK676.out 0, bc_ BK676.out 1, bc_ BK676.out 2, bc_ BK676.out 3⟩ (fun hHeld => ?_)
          clear hK K
          refine norm_ (a' := ?_) ?_ ?_
          rotate_left
          ·show Act.put _ (some 77) _ = _
           simp only [Act.put, lI_, l0_, lS_, i64_w, i32_w]
           rfl
          refine one_ (i := 7) (N := some 80) #[true, true, true, true, true, true, true, true, true, true, true, true, true, false, false] rfl rfl (one_of HT_.out (by kernel_rfl)) (by decide) (fun K hK => ?_)
          refine goes_ Try.func62 (by kernel_rfl) rfl #[.int .u64 t675] (by rfl) rfl rfl mp_ ?_
          with_reducible refine (r1_Of.calls kj51 t675 t683 _ A62.out).mono ?_
          rintro e w66 ⟨v684, rfl, ho0, hb⟩
          refine ⟨_, rfl, ?_⟩
          have n0_ := A_ (Kd.R_elder' (kr_ HO682.out) (Kd.R_base ho0) hb)
          have n1_ := A_ (Kd.R_lower (Kd.R_new' ho0 (Kd.R_lt (kr_ HO682.out))) (below_size (hb2_ HB.out GE671.out GE676.out)))
          have n2_ := A_ (bb_ BK671.out hb)
          have n3_ := A_ (bb_ BK676.out hb)
          have n4_ := A_ (below_step (hb2_ HB.out GE671.out GE676.out) hb)
          clear HO682;clear BK671;clear BK676;clear HB;have HO682 := n0_;have HO685 := n1_;have BK671 := n2_;have BK676 := n3_;have HB := n4_;clear n0_ n1_ n2_ n3_ n4_;(try clear hb);(try clear hb2);(try clear hk);(try clear hi);(try clear ho0)
          obtain ⟨Ao67, co67, eo67⟩ := Kd.R_slice HO682.out
          (first | subst eo67 | (injection eo67 with f1_ f2_ f3_; have f4_ := f1_.symm; have f5_ := f3_.symm; clear f1_ f2_ f3_; subst f4_; subst f5_))
          obtain ⟨Ao68, co68, eo68⟩ := Kd.R_slice HO685.out
          (first | subst eo68 | (injection eo68 with f1_ f2_ f3_; have f4_ := f1_.symm; have f5_ := f3_.symm; clear f1_ f2_ f3_; subst f4_; subst f5_))
          refine hK.out _ _ ⟨bc_ BK671.out 0, bc_ BK671.out 1, bc_ BK671.out 2, bc_ BK671.out 3, bc_ BK676.out 0, bc_ BK676.out 1, bc_ BK676.out 2, bc_ BK676.out 3⟩ (fun hHeld => ?_)
          clear hK K
          refine norm_ (a' := ?_) ?_ ?_
          rotate_left
          ·show Act.put _ (some 80) _ = _
           simp only [Act.put, lI_, l0_, lS_, i64_w, i32_w]
           rfl
          refine one_ (i := 13) (N := some 86) #[true, true, true, true, true, true, true, true, true, true, true, true, true, true, false] rfl rfl (one_of HT_.out (by kernel_rfl)) (by decide) (fun K hK => ?_)
          refine goes_ Try.func66 (by kernel_rfl) rfl #[.int .i64 a0, .bool (t667 != t672), .agg #[.slice Ao67 t680.length co67], .agg #[.slice Ao68 t683.length co68], .int .i64 (wrap64 (t669 - t674))] (by rfl) rfl rfl mp_ ?_
          with_reducible refine (r3_Near.calls kj51 a0 (t667 != t672) _ _ t680 _ _ t683 (wrap64 (t669 - t674)) t686 _ ?side1 ?side2 ?side3 ?side4 A63.out).mono ?_
          (case side1 => repeat (first | exact (Kd.R_reads' HO682.out).2.2 | (with_reducible refine Kd.C_alloc ?_ _) | (with_reducible refine Kd.C_drewN ?_ _) | (with_reducible refine Kd.C_drew ?_)))
          (case side2 => exact (Kd.R_reads' HO682.out).2.1)
          (case side3 => repeat (first | exact (Kd.R_reads' HO685.out).2.2 | (with_reducible refine Kd.C_alloc ?_ _) | (with_reducible refine Kd.C_drewN ?_ _) | (with_reducible refine Kd.C_drew ?_)))
          (case side4 => exact (Kd.R_reads' HO685.out).2.1)
          rintro e w69 ⟨rfl, hb⟩
          refine ⟨_, rfl, ?_⟩
          have n0_ := A_ (Kd.R_below (kr_ HO682.out) hb)
          have n1_ := A_ (Kd.R_below (kr_ HO685.out) hb)
          have n2_ := A_ (bb_ BK671.out hb)
          have n3_ := A_ (bb_ BK676.out hb)
          have n4_ := A_ (below_step (hb2_ HB.out GE671.out GE676.out) hb)
          clear HO682;clear HO685;clear BK671;clear BK676;clear HB;have HO682 := n0_;have HO685 := n1_;have BK671 := n2_;have BK676 := n3_;have HB := n4_;clear n0_ n1_ n2_ n3_ n4_;(try clear hb);(try clear hb2);(try clear hk);(try clear hi)
          refine hK.out _ _ ⟨bc_ BK671.out 0, bc_ BK671.out 1, bc_ BK671.out 2, bc_ BK671.out 3, bc_ BK676.out 0, bc_ BK676.out 1, bc_ BK676.out 2, bc_ BK676.out 3⟩ (fun hHeld => ?_)
          clear hK K
          refine norm_ (a' := ?_) ?_ ?_
          rotate_left
          ·show Act.put _ (some 86) _ = _
           simp only [Act.put, lI_, l0_, lS_, i64_w, i32_w]
           rfl
          refine pu_ 14 (some 6) #[true, true, true, true, true, true, true, true, true, true, true, true, true, true, true] rfl rfl (any_of HT_.out (by kernel_rfl)) ?_
          refine done_ (done_of HT_.out (by kernel_rfl)) ?_
          try go_wp2
          go_ret
          exact ⟨er_, hb2_ HB.out GE671.out GE676.out⟩
def L06_QuotientDivs.f (k : Nat) (a0 : Int) (a1 : Int) (a2 : Int) : Option (Bool) := (L06_awake.f k).bind fun t687 => (if t687 = true then ((quotient_Div.f k a0 a1 a2).bind fun t688 => ((quotient_Inverse.f k a0 a1).bind fun t689 => ((r2_Known.f a0).bind fun t690 => (if t690 = true then ((r6_Div.f k a0 a1 a2).bind fun t691 => (if t688 = t691 then ((r5_One.f k a0).bind fun t692 => ((r6_Div.f k a0 t692 a1).bind fun t693 => (some (t689 == t693)))) else (some false))) else (if t688 = 0 then (some (t689 == 0)) else (some false)))))) else (some false))
theorem L06_QuotientDivs.mono : ∀ a0 a1 a2 k, LeO (L06_QuotientDivs.f k a0 a1 a2) (L06_QuotientDivs.f (k + 1) a0 a1 a2) := by
 intro a0 a1 a2 k
 unfold L06_QuotientDivs.f
 repeat' first
   | (with_reducible exact quotient_Div.mono _ _ _ _)
   | (with_reducible exact quotient_Inverse.mono _ _ _)
   | (with_reducible exact L06_awake.mono _)
   | (with_reducible exact r5_One.mono _ _)
   | (with_reducible exact r6_Div.mono _ _ _ _)
   | (with_reducible exact LeO.refl _)
   | (with_reducible exact LeO.none _)
   | (with_reducible refine LeO.ite ?_ ?_)
   | (with_reducible refine LeO.bind ?_ (fun _ => ?_))
   | exact quotient_Div.mono _ _ _ _
   | exact quotient_Inverse.mono _ _ _
   | exact L06_awake.mono _
   | exact r5_One.mono _ _
   | exact r6_Div.mono _ _ _ _
   | exact LeO.none _
   | refine LeO.ite ?_ ?_
   | refine LeO.bind ?_ (fun _ => ?_)
theorem L06_QuotientDivs.calls (k : Nat) (a0 : Int) (a1 : Int) (a2 : Int) (r : Bool) (w : World) (h : L06_QuotientDivs.f k a0 a1 a2 = some r) (hr_ : Aside0 (r = true)) :
  Calls Try.prog 5 #[.int .i64 a0, .int .u64 a1, .int .u64 a2] w fun e w' => e = .returned (.bool r) ∧ Below w.heap.size w w' := by
 have HB := A_ (Below.refl w.heap.size w)
 have H : ((L06_awake.f k).bind fun t687 => (if t687 = true then ((quotient_Div.f k a0 a1 a2).bind fun t688 => ((quotient_Inverse.f k a0 a1).bind fun t689 => ((r2_Known.f a0).bind fun t690 => (if t690 = true then ((r6_Div.f k a0 a1 a2).bind fun t691 => (if t688 = t691 then ((r5_One.f k a0).bind fun t692 => ((r6_Div.f k a0 t692 a1).bind fun t693 => (some (t689 == t693)))) else (some false))) else (if t688 = 0 then (some (t689 == 0)) else (some false)))))) else (some false))) = some r := h
 clear h
 replace H := ob_ H
 obtain ⟨t687, A40, H⟩ := H
 replace H : (if t687 = true then ((quotient_Div.f k a0 a1 a2).bind fun t688 => ((quotient_Inverse.f k a0 a1).bind fun t689 => ((r2_Known.f a0).bind fun t690 => (if t690 = true then ((r6_Div.f k a0 a1 a2).bind fun t691 => (if t688 = t691 then ((r5_One.f k a0).bind fun t692 => ((r6_Div.f k a0 t692 a1).bind fun t693 => (some (t689 == t693)))) else (some false))) else (if t688 = 0 then (some (t689 == 0)) else (some false)))))) else (some false)) = some r := H
 have A4 := A_ A40;clear A40
 by_cases c5 : t687 = true
 ·subst c5
  have H1 : ((quotient_Div.f k a0 a1 a2).bind fun t688 => ((quotient_Inverse.f k a0 a1).bind fun t689 => ((r2_Known.f a0).bind fun t690 => (if t690 = true then ((r6_Div.f k a0 a1 a2).bind fun t691 => (if t688 = t691 then ((r5_One.f k a0).bind fun t692 => ((r6_Div.f k a0 t692 a1).bind fun t693 => (some (t689 == t693)))) else (some false))) else (if t688 = 0 then (some (t689 == 0)) else (some false)))))) = some r := by rw [if_pos rfl] at H; exact H
  clear H;have H := H1;clear H1
  replace H := ob_ H
  obtain ⟨t688, A60, H⟩ := H
  replace H : ((quotient_Inverse.f k a0 a1).bind fun t689 => ((r2_Known.f a0).bind fun t690 => (if t690 = true then ((r6_Div.f k a0 a1 a2).bind fun t691 => (if t688 = t691 then ((r5_One.f k a0).bind fun t692 => ((r6_Div.f k a0 t692 a1).bind fun t693 => (some (t689 == t693)))) else (some false))) else (if t688 = 0 then (some (t689 == 0)) else (some false))))) = some r := H
  have A6 := A_ A60;clear A60
  replace H := ob_ H
  obtain ⟨t689, A70, H⟩ := H
  replace H : ((r2_Known.f a0).bind fun t690 => (if t690 = true then ((r6_Div.f k a0 a1 a2).bind fun t691 => (if t688 = t691 then ((r5_One.f k a0).bind fun t692 => ((r6_Div.f k a0 t692 a1).bind fun t693 => (some (t689 == t693)))) else (some false))) else (if t688 = 0 then (some (t689 == 0)) else (some false)))) = some r := H
  have A7 := A_ A70;clear A70
  replace H := ob_ H
  obtain ⟨t690, A80, H⟩ := H
  replace H : (if t690 = true then ((r6_Div.f k a0 a1 a2).bind fun t691 => (if t688 = t691 then ((r5_One.f k a0).bind fun t692 => ((r6_Div.f k a0 t692 a1).bind fun t693 => (some (t689 == t693)))) else (some false))) else (if t688 = 0 then (some (t689 == 0)) else (some false))) = some r := H
  have A8 := A_ A80;clear A80
  by_cases c9 : t690 = true
  ·subst c9
   have H1 : ((r6_Div.f k a0 a1 a2).bind fun t691 => (if t688 = t691 then ((r5_One.f k a0).bind fun t692 => ((r6_Div.f k a0 t692 a1).bind fun t693 => (some (t689 == t693)))) else (some false))) = some r := by rw [if_pos rfl] at H; exact H
   clear H;have H := H1;clear H1
   replace H := ob_ H
   obtain ⟨t691, A100, H⟩ := H
   replace H : (if t688 = t691 then ((r5_One.f k a0).bind fun t692 => ((r6_Div.f k a0 t692 a1).bind fun t693 => (some (t689 == t693)))) else (some false)) = some r := H
   have A10 := A_ A100;clear A100
   by_cases c11 : t688 = t691
   ·rw [if_pos c11] at H
    have c11b0 : (t688 == t691) = true := beq_iff_eq.mpr c11
    have c11b1 : (t688 != t691) = false := bne_eq_false_iff_eq.mpr c11
    clear c11
    replace H := ob_ H
    obtain ⟨t692, A120, H⟩ := H
    replace H : ((r6_Div.f k a0 t692 a1).bind fun t693 => (some (t689 == t693))) = some r := H
    have A12 := A_ A120;clear A120
    replace H := ob_ H
    obtain ⟨t693, A130, H⟩ := H
    replace H : (some (t689 == t693)) = some r := H
    have A13 := A_ A130;clear A130
    obtain rfl := Option.some.inj H
    go_enter Try.func5, Try.ntmps5
    go_wp2_with (first | ((with_reducible refine gate_callee (f := 26) rfl ?_); refine gl_ (some 9) Try.func26 #[] ?_; (with_reducible refine (L06_awake.calls k  true _ A4.out).mono ?_); rintro e w14 ⟨rfl, hb⟩; refine ⟨_, rfl, ?_⟩; have n0_ := A_ (below_step (hb_ HB.out) hb); clear HB; have HB := n0_; clear n0_; (try clear hb); (try clear hb2); (try clear hk); (try clear hi)) | ((with_reducible refine gate_callee (f := 27) rfl ?_); refine gl_ (some 14) Try.func27 #[.int .i64 a0, .int .u64 a1, .int .u64 a2] ?_; (with_reducible refine (quotient_Div.calls k a0 a1 a2 t688 _ A6.out).mono ?_); rintro e w15 ⟨rfl, hb⟩; refine ⟨_, rfl, ?_⟩; have n0_ := A_ (below_step (hb_ HB.out) hb); clear HB; have HB := n0_; clear n0_; (try clear hb); (try clear hb2); (try clear hk); (try clear hi)) | ((with_reducible refine gate_callee (f := 28) rfl ?_); refine gl_ (some 17) Try.func28 #[.int .i64 a0, .int .u64 a1] ?_; (with_reducible refine (quotient_Inverse.calls k a0 a1 t689 _ A7.out).mono ?_); rintro e w16 ⟨rfl, hb⟩; refine ⟨_, rfl, ?_⟩; have n0_ := A_ (below_step (hb_ HB.out) hb); clear HB; have HB := n0_; clear n0_; (try clear hb); (try clear hb2); (try clear hk); (try clear hi)) | ((with_reducible refine gate_callee (f := 16) rfl ?_); refine gl_ (some 19) Try.func16 #[.int .i64 a0] ?_; (with_reducible refine (r2_Known.calls a0 true _ A8.out).mono ?_); rintro e w' ⟨rfl, ⟨nd, rfl⟩⟩; refine ⟨_, rfl, ?_⟩) | ((with_reducible refine gate_callee (f := 29) rfl ?_); refine gl_ (some 31) Try.func29 #[.int .i64 a0, .int .u64 a1, .int .u64 a2] ?_; (with_reducible refine (r6_Div.calls k a0 a1 a2 t691 _ A10.out).mono ?_); rintro e w17 ⟨rfl, hb⟩; refine ⟨_, rfl, ?_⟩; have n0_ := A_ (below_step (hb_ HB.out) hb); clear HB; have HB := n0_; clear n0_; (try clear hb); (try clear hb2); (try clear hk); (try clear hi)) | (go_at_call 23; (with_reducible refine (r5_One.calls k a0 t692 _ A12.out).mono ?_); rintro e w' ⟨rfl, ⟨nd, rfl⟩⟩) | (go_at_call 29; (with_reducible refine (r6_Div.calls k a0 t692 a1 t693 _ A13.out).mono ?_); rintro e w18 ⟨rfl, hb⟩; have n0_ := A_ (below_step (hb_ HB.out) hb); clear HB; have HB := n0_; clear n0_; (try clear hb); (try clear hb2); (try clear hk); (try clear hi)))
    go_ret
    exact ⟨er_, hb_ HB.out⟩
   ·rw [if_neg c11] at H
    have c11b0 : (t688 == t691) = false := beq_eq_false_iff_ne.mpr c11
    have c11b1 : (t688 != t691) = true := bne_iff_ne.mpr c11
    exact absurd ((Option.some.inj H).trans hr_.out) (by decide)
  ·replace c9 := Bool.eq_false_iff.mpr c9
   subst c9
   have H1 : (if t688 = 0 then (some (t689 == 0)) else (some false)) = some r := by rw [if_neg (show ¬ (false = true) by decide)] at H; exact H
   clear H;have H := H1;clear H1
   by_cases c19 : t688 = 0
   ·rw [if_pos c19] at H
    have c19b0 : (t688 == 0) = true := beq_iff_eq.mpr c19
    have c19b1 : (t688 != 0) = false := bne_eq_false_iff_eq.mpr c19
    clear c19
    obtain rfl := Option.some.inj H
    go_enter Try.func5, Try.ntmps5
    go_wp2_with (first | ((with_reducible refine gate_callee (f := 26) rfl ?_); refine gl_ (some 9) Try.func26 #[] ?_; (with_reducible refine (L06_awake.calls k  true _ A4.out).mono ?_); rintro e w20 ⟨rfl, hb⟩; refine ⟨_, rfl, ?_⟩; have n0_ := A_ (below_step (hb_ HB.out) hb); clear HB; have HB := n0_; clear n0_; (try clear hb); (try clear hb2); (try clear hk); (try clear hi)) | ((with_reducible refine gate_callee (f := 27) rfl ?_); refine gl_ (some 14) Try.func27 #[.int .i64 a0, .int .u64 a1, .int .u64 a2] ?_; (with_reducible refine (quotient_Div.calls k a0 a1 a2 t688 _ A6.out).mono ?_); rintro e w21 ⟨rfl, hb⟩; refine ⟨_, rfl, ?_⟩; have n0_ := A_ (below_step (hb_ HB.out) hb); clear HB; have HB := n0_; clear n0_; (try clear hb); (try clear hb2); (try clear hk); (try clear hi)) | ((with_reducible refine gate_callee (f := 28) rfl ?_); refine gl_ (some 17) Try.func28 #[.int .i64 a0, .int .u64 a1] ?_; (with_reducible refine (quotient_Inverse.calls k a0 a1 t689 _ A7.out).mono ?_); rintro e w22 ⟨rfl, hb⟩; refine ⟨_, rfl, ?_⟩; have n0_ := A_ (below_step (hb_ HB.out) hb); clear HB; have HB := n0_; clear n0_; (try clear hb); (try clear hb2); (try clear hk); (try clear hi)) | ((with_reducible refine gate_callee (f := 16) rfl ?_); refine gl_ (some 19) Try.func16 #[.int .i64 a0] ?_; (with_reducible refine (r2_Known.calls a0 false _ A8.out).mono ?_); rintro e w' ⟨rfl, ⟨nd, rfl⟩⟩; refine ⟨_, rfl, ?_⟩))
    go_ret
    exact ⟨er_, hb_ HB.out⟩
   ·rw [if_neg c19] at H
    have c19b0 : (t688 == 0) = false := beq_eq_false_iff_ne.mpr c19
    have c19b1 : (t688 != 0) = true := bne_iff_ne.mpr c19
    exact absurd ((Option.some.inj H).trans hr_.out) (by decide)
 ·replace c5 := Bool.eq_false_iff.mpr c5
  subst c5
  have H1 : (some false) = some r := by rw [if_neg (show ¬ (false = true) by decide)] at H; exact H
  clear H;have H := H1;clear H1
  exact absurd ((Option.some.inj H).trans hr_.out) (by decide)
def L06_QuotientDivs.Pure : Prop := ∀ (a0 : Int) (a1 : Int) (a2 : Int), (Lit.int .i64 a0).wf = true → (Lit.int .u64 a1).wf = true → (Lit.int .u64 a2).wf = true → ∃ k, L06_QuotientDivs.f k a0 a1 a2 = some true
theorem L06_QuotientDivs.walk (P : L06_QuotientDivs.Pure) (a0 : Int) (a1 : Int) (a2 : Int) (w : World) (w0 : (Lit.int .i64 a0).wf = true) (w1 : (Lit.int .u64 a1).wf = true) (w2 : (Lit.int .u64 a2).wf = true) :
  Calls Try.prog 5 #[.int .i64 a0, .int .u64 a1, .int .u64 a2] w fun e w' => e = .returned (.bool true) ∧ Below w.heap.size w w' := by
 obtain ⟨k, h⟩ := P a0 a1 a2 w0 w1 w2
 refine (L06_QuotientDivs.calls k a0 a1 a2 true w h ⟨rfl⟩).mono ?_
 rintro e w' ⟨rfl, hd⟩
 exact ⟨rfl, hd⟩
end Go.Proofs.Ytbpmnmceajmmcaa.PA
section
set_option linter.unusedVariables false
set_option linter.unusedSimpArgs false
namespace Go.Proofs.Ytbpmnmceajmmcaa.Th
open Go.RowKit Go.Proofs.YtbpmnmceajmmcaaW.PrintWords Go.Proofs.YtbpmnmceajmmcaaW.PrintLast Go.Proofs.YtbpmnmceajmmcaaW.PrintMore Go.Proofs.Ytbpmnmceajmmcaa.PA Bit Flo
theorem two_i {n : Int} (m : Nat) (h : n = m) (hm : m < 64) : Ev (fun k => r2_Two.f k n) ((2 ^ m : Nat) : Int) := by subst h; exact two_f m hm

theorem r2E32 : r2_E.f 32 = some 8 := by decide +kernel
theorem r2F32 : r2_F.f 32 = some 23 := by decide +kernel
theorem r2B32 : r2_B.f 32 = some 127 := by decide +kernel
theorem r2Tf32 : Ev (fun k => r2_Two.f k 23) ((8388608 : Nat) : Int) := by have h := two_i (n := 23) 23 rfl (by decide); rw [show (2 : Nat) ^ 23 = 8388608 by decide] at h; exact h
theorem r2Te32 : Ev (fun k => r2_Two.f k 8) ((256 : Nat) : Int) := by have h := two_i (n := 8) 8 rfl (by decide); rw [show (2 : Nat) ^ 8 = 256 by decide] at h; exact h
theorem r2Ts32 : Ev (fun k => r2_Two.f k (wrap64 (32 - 1))) ((2147483648 : Nat) : Int) := by have h := two_i (n := wrap64 (32 - 1)) 31 (by decide +kernel) (by decide); rw [show (2 : Nat) ^ 31 = 2147483648 by decide] at h; exact h
theorem r2Th32 : Ev (fun k => r2_Two.f k (wrap64 (23 - 1))) ((4194304 : Nat) : Int) := by have h := two_i (n := wrap64 (23 - 1)) 22 (by decide +kernel) (by decide); rw [show (2 : Nat) ^ 22 = 4194304 by decide] at h; exact h
theorem r2Exp32 (a : Nat) (ha : a < 18446744073709551616) : Ev (fun k => r2_Exp.f k 32 a) ((a / 8388608 % 256 : Nat) : Int) := by
  unfold r2_Exp.f
  refine Ev.bs (r2Cut 32 a (by decide)) (Ev.bs r2F32 (Ev.bind r2Tf32 (Ev.neg (by decide) (Ev.bs r2E32 (Ev.bind r2Te32 (Ev.neg (by decide) (Ev.out ?_)))))))
  have hc : cutN 32 a = a % 4294967296 := by unfold cutN; rw [if_pos rfl]
  rw [hc, Int.tdiv_eq_ediv_of_nonneg (by omega), u64_id (by omega) (by omega), Int.tmod_eq_emod_of_nonneg (by omega), w64_id (by omega) (by omega)]
  omega
theorem r2Frac32 (a : Nat) (ha : a < 18446744073709551616) : Ev (fun k => r2_Frac.f k 32 a) ((a % 8388608 : Nat) : Int) := by
  unfold r2_Frac.f
  refine Ev.bs r2F32 (Ev.bind r2Tf32 (Ev.neg (by decide) (Ev.out ?_)))
  rw [Int.tmod_eq_emod_of_nonneg (by omega)]; omega
theorem r2Top32 : Ev (fun k => r2_Top.f k 32) ((255 : Nat) : Int) := by
  unfold r2_Top.f
  exact Ev.bs r2E32 (Ev.bind r2Te32 (Ev.out (by decide +kernel)))
theorem r2Make32 (s : Bool) (e fr : Nat) (he : e ≤ 255) (hf : fr < 8388608) : Ev (fun k => r2_Make.f k 32 s e fr) ((mkN 32 (e * 8388608 + fr) s : Nat) : Int) := by
  unfold r2_Make.f
  refine Ev.bs r2F32 (Ev.bind r2Tf32 ?_)
  rw [u64_id (n := (e : Int)) (by omega) (by omega), u64_id (n := (e : Int) * ((8388608 : Nat) : Int)) (by omega) (by omega), u64_id (n := (e : Int) * ((8388608 : Nat) : Int) + fr) (by omega) (by omega)]
  unfold mkN
  rw [show sb 32 = 2147483648 by decide]
  cases s
  · exact Ev.neg (by decide) (Ev.out (by simp))
  · refine Ev.pos rfl (Ev.bind r2Ts32 (Ev.out ?_))
    rw [u64_id (by omega) (by omega)]; simp only [if_true]; omega
theorem r2Nan32 : Ev (fun k => r2_Nan.f k 32) ((nanN 32 : Nat) : Int) := by
  unfold r2_Nan.f
  refine Ev.bind r2Top32 (Ev.bs r2F32 (Ev.bind r2Th32 (Ev.bind (r2Make32 false 255 4194304 (by decide) (by decide)) (Ev.out (by decide)))))
theorem r2Inf32 (s : Bool) : Ev (fun k => r2_Inf.f k 32 s) ((mkN 32 f32.inf s : Nat) : Int) := by
  unfold r2_Inf.f
  have h := r2Make32 s 255 0 (by decide) (by decide)
  exact Ev.bind r2Top32 (Ev.bind h (Ev.out (by rw [inf32])))
theorem r2Open32 (a : Nat) (ha : a < 18446744073709551616) : Ev (fun k => r2_Open.f k 32 a) (opn 32 a) := by
  rw [opn32]
  unfold r2_Open.f
  refine Ev.bind (r2Exp32 a ha) (Ev.bind (r2Frac32 a ha) (Ev.bind (r2Neg 32 (by decide) a ha) (Ev.bind r2Top32 ?_)))
  unfold sgB
  rw [show sb 32 = 2147483648 by decide]
  have hP : a % 2147483648 % 8388608 = a % 8388608 := by omega
  have hQ : a % 2147483648 / 8388608 = a / 8388608 % 256 := by omega
  have hT : a / 8388608 % 256 < 256 := Nat.mod_lt _ (by decide)
  have hE : a % 2147483648 = a / 8388608 % 256 * 8388608 + a % 8388608 := by omega
  rw [hP, hQ, hE]
  generalize a / 8388608 % 256 = e at *
  have hF : a % 8388608 < 8388608 := Nat.mod_lt _ (by decide)
  generalize a % 8388608 = fr at *
  generalize decide (a / 2147483648 % 2 = 1) = s
  by_cases h1 : e = 255
  · subst h1
    refine Ev.pos rfl ?_
    by_cases h2 : fr = 0
    · subst h2
      refine Ev.pos rfl (Ev.out ?_)
      rw [if_neg (by omega), if_neg (by omega), if_pos (by omega)]
    · refine Ev.neg (by omega) (Ev.out ?_)
      rw [if_neg (by omega), if_neg (by omega), if_neg (by omega)]
  · refine Ev.neg (by omega) ?_
    by_cases h2 : e = 0
    · subst h2
      refine Ev.pos rfl ?_
      by_cases h3 : fr = 0
      · subst h3
        refine Ev.pos rfl (Ev.out ?_)
        rw [Nat.zero_mul, Nat.zero_add, if_pos rfl]
      · refine Ev.neg (by omega) (Ev.bs r2B32 (Ev.bs r2F32 (Ev.out ?_)))
        rw [if_neg (by omega), if_pos (by omega), if_pos (by omega), if_pos (by omega), show wrap64 (wrap64 (1 - 127) - 23) = (-149 : Int) by decide +kernel]
        simp
    · refine Ev.neg (by omega) (Ev.bs r2B32 (Ev.bs r2F32 (Ev.bs r2F32 (Ev.bind r2Tf32 (Ev.out ?_)))))
      rw [if_neg (by omega), if_pos (by omega), if_neg (by omega), if_neg (by omega)]
      rw [w64_id (n := ((e : Nat) : Int) - 127) (by omega) (by omega), w64_id (by omega) (by omega), u64_id (by omega) (by omega)]
      congr 2
      congr 1
      omega

theorem r2E64 : r2_E.f 64 = some 11 := by decide +kernel
theorem r2F64 : r2_F.f 64 = some 52 := by decide +kernel
theorem r2B64 : r2_B.f 64 = some 1023 := by decide +kernel
theorem r2Tf64 : Ev (fun k => r2_Two.f k 52) ((4503599627370496 : Nat) : Int) := by have h := two_i (n := 52) 52 rfl (by decide); rw [show (2 : Nat) ^ 52 = 4503599627370496 by decide] at h; exact h
theorem r2Te64 : Ev (fun k => r2_Two.f k 11) ((2048 : Nat) : Int) := by have h := two_i (n := 11) 11 rfl (by decide); rw [show (2 : Nat) ^ 11 = 2048 by decide] at h; exact h
theorem r2Ts64 : Ev (fun k => r2_Two.f k (wrap64 (64 - 1))) ((9223372036854775808 : Nat) : Int) := by have h := two_i (n := wrap64 (64 - 1)) 63 (by decide +kernel) (by decide); rw [show (2 : Nat) ^ 63 = 9223372036854775808 by decide] at h; exact h
theorem r2Th64 : Ev (fun k => r2_Two.f k (wrap64 (52 - 1))) ((2251799813685248 : Nat) : Int) := by have h := two_i (n := wrap64 (52 - 1)) 51 (by decide +kernel) (by decide); rw [show (2 : Nat) ^ 51 = 2251799813685248 by decide] at h; exact h
theorem r2Exp64 (a : Nat) (ha : a < 18446744073709551616) : Ev (fun k => r2_Exp.f k 64 a) ((a / 4503599627370496 % 2048 : Nat) : Int) := by
  unfold r2_Exp.f
  refine Ev.bs (r2Cut 64 a (by decide)) (Ev.bs r2F64 (Ev.bind r2Tf64 (Ev.neg (by decide) (Ev.bs r2E64 (Ev.bind r2Te64 (Ev.neg (by decide) (Ev.out ?_)))))))
  have hc : cutN 64 a = a % 18446744073709551616 := by unfold cutN; rw [if_neg (by decide), if_pos rfl]; omega
  rw [hc, Int.tdiv_eq_ediv_of_nonneg (by omega), u64_id (by omega) (by omega), Int.tmod_eq_emod_of_nonneg (by omega), w64_id (by omega) (by omega)]
  omega
theorem r2Frac64 (a : Nat) (ha : a < 18446744073709551616) : Ev (fun k => r2_Frac.f k 64 a) ((a % 4503599627370496 : Nat) : Int) := by
  unfold r2_Frac.f
  refine Ev.bs r2F64 (Ev.bind r2Tf64 (Ev.neg (by decide) (Ev.out ?_)))
  rw [Int.tmod_eq_emod_of_nonneg (by omega)]; omega
theorem r2Top64 : Ev (fun k => r2_Top.f k 64) ((2047 : Nat) : Int) := by
  unfold r2_Top.f
  exact Ev.bs r2E64 (Ev.bind r2Te64 (Ev.out (by decide +kernel)))
theorem r2Make64 (s : Bool) (e fr : Nat) (he : e ≤ 2047) (hf : fr < 4503599627370496) : Ev (fun k => r2_Make.f k 64 s e fr) ((mkN 64 (e * 4503599627370496 + fr) s : Nat) : Int) := by
  unfold r2_Make.f
  refine Ev.bs r2F64 (Ev.bind r2Tf64 ?_)
  rw [u64_id (n := (e : Int)) (by omega) (by omega), u64_id (n := (e : Int) * ((4503599627370496 : Nat) : Int)) (by omega) (by omega), u64_id (n := (e : Int) * ((4503599627370496 : Nat) : Int) + fr) (by omega) (by omega)]
  unfold mkN
  rw [show sb 64 = 9223372036854775808 by decide]
  cases s
  · exact Ev.neg (by decide) (Ev.out (by simp))
  · refine Ev.pos rfl (Ev.bind r2Ts64 (Ev.out ?_))
    rw [u64_id (by omega) (by omega)]; simp only [if_true]; omega
theorem r2Nan64 : Ev (fun k => r2_Nan.f k 64) ((nanN 64 : Nat) : Int) := by
  unfold r2_Nan.f
  refine Ev.bind r2Top64 (Ev.bs r2F64 (Ev.bind r2Th64 (Ev.bind (r2Make64 false 2047 2251799813685248 (by decide) (by decide)) (Ev.out (by decide)))))
theorem r2Inf64 (s : Bool) : Ev (fun k => r2_Inf.f k 64 s) ((mkN 64 f64.inf s : Nat) : Int) := by
  unfold r2_Inf.f
  have h := r2Make64 s 2047 0 (by decide) (by decide)
  exact Ev.bind r2Top64 (Ev.bind h (Ev.out (by rw [inf64])))
theorem r2Open64 (a : Nat) (ha : a < 18446744073709551616) : Ev (fun k => r2_Open.f k 64 a) (opn 64 a) := by
  rw [opn64]
  unfold r2_Open.f
  refine Ev.bind (r2Exp64 a ha) (Ev.bind (r2Frac64 a ha) (Ev.bind (r2Neg 64 (by decide) a ha) (Ev.bind r2Top64 ?_)))
  unfold sgB
  rw [show sb 64 = 9223372036854775808 by decide]
  have hP : a % 9223372036854775808 % 4503599627370496 = a % 4503599627370496 := by omega
  have hQ : a % 9223372036854775808 / 4503599627370496 = a / 4503599627370496 % 2048 := by omega
  have hT : a / 4503599627370496 % 2048 < 2048 := Nat.mod_lt _ (by decide)
  have hE : a % 9223372036854775808 = a / 4503599627370496 % 2048 * 4503599627370496 + a % 4503599627370496 := by omega
  rw [hP, hQ, hE]
  generalize a / 4503599627370496 % 2048 = e at *
  have hF : a % 4503599627370496 < 4503599627370496 := Nat.mod_lt _ (by decide)
  generalize a % 4503599627370496 = fr at *
  generalize decide (a / 9223372036854775808 % 2 = 1) = s
  by_cases h1 : e = 2047
  · subst h1
    refine Ev.pos rfl ?_
    by_cases h2 : fr = 0
    · subst h2
      refine Ev.pos rfl (Ev.out ?_)
      rw [if_neg (by omega), if_neg (by omega), if_pos (by omega)]
    · refine Ev.neg (by omega) (Ev.out ?_)
      rw [if_neg (by omega), if_neg (by omega), if_neg (by omega)]
  · refine Ev.neg (by omega) ?_
    by_cases h2 : e = 0
    · subst h2
      refine Ev.pos rfl ?_
      by_cases h3 : fr = 0
      · subst h3
        refine Ev.pos rfl (Ev.out ?_)
        rw [Nat.zero_mul, Nat.zero_add, if_pos rfl]
      · refine Ev.neg (by omega) (Ev.bs r2B64 (Ev.bs r2F64 (Ev.out ?_)))
        rw [if_neg (by omega), if_pos (by omega), if_pos (by omega), if_pos (by omega), show wrap64 (wrap64 (1 - 1023) - 52) = (-1074 : Int) by decide +kernel]
        simp
    · refine Ev.neg (by omega) (Ev.bs r2B64 (Ev.bs r2F64 (Ev.bs r2F64 (Ev.bind r2Tf64 (Ev.out ?_)))))
      rw [if_neg (by omega), if_pos (by omega), if_neg (by omega), if_neg (by omega)]
      rw [w64_id (n := ((e : Nat) : Int) - 1023) (by omega) (by omega), w64_id (by omega) (by omega), u64_id (by omega) (by omega)]
      congr 2
      congr 1
      omega
theorem r2Open (w : Int) (hw : w = 32 ∨ w = 64) (a : Nat) (ha : a < 18446744073709551616) : Ev (fun k => r2_Open.f k w a) (opn w a) := by
  rcases hw with rfl | rfl
  · exact r2Open32 a ha
  · exact r2Open64 a ha
end Go.Proofs.Ytbpmnmceajmmcaa.Th
end
section
set_option linter.unusedVariables false
set_option linter.unusedSimpArgs false
namespace Go.Proofs.Ytbpmnmceajmmcaa.Th
open Go.RowKit Go.Proofs.YtbpmnmceajmmcaaW.PrintWords Go.Proofs.YtbpmnmceajmmcaaW.PrintLast Go.Proofs.YtbpmnmceajmmcaaW.PrintMore Go.Proofs.Ytbpmnmceajmmcaa.PA Bit Flo Dig
theorem inf_pos (w : Int) (hw : w = 32 ∨ w = 64) : 0 < (fmt w).inf := by rcases hw with rfl | rfl <;> decide
theorem kinds (w : Int) (hw : w = 32 ∨ w = 64) (a : Nat) : (magN w a = 0 ∧ opn w a = (sgB w a, 0, 0, 0)) ∨ (0 < magN w a ∧ magN w a < (fmt w).inf ∧ opn w a = (sgB w a, 1, (fmt w).ex (magN w a), ((fmt w).sg (magN w a) : Int))) ∨ (magN w a = (fmt w).inf ∧ opn w a = (sgB w a, 2, 0, 0)) ∨ ((fmt w).inf < magN w a ∧ opn w a = (false, 3, 0, 0)) := by
  have h0 := inf_pos w hw
  unfold opn; simp only
  by_cases h1 : magN w a = 0
  · left; rw [if_pos h1]; exact ⟨h1, rfl⟩
  · right; rw [if_neg h1]
    by_cases h2 : magN w a < (fmt w).inf
    · left; rw [if_pos h2]; exact ⟨by omega, h2, rfl⟩
    · right; rw [if_neg h2]
      by_cases h3 : magN w a = (fmt w).inf
      · left; rw [if_pos h3]; exact ⟨h3, rfl⟩
      · right; rw [if_neg h3]; exact ⟨by omega, rfl⟩
theorem ex_bd (w : Int) (hw : w = 32 ∨ w = 64) (m : Nat) (h : m < (fmt w).inf) : -1074 ≤ (fmt w).ex m ∧ (fmt w).ex m ≤ 971 := by
  rcases hw with rfl | rfl
  · rw [fmt32, inf32] at h; rw [fmt32, ex32]; split <;> omega
  · rw [fmt64, inf64] at h; rw [fmt64, ex64]; split <;> omega
theorem sg_64 (w : Int) (hw : w = 32 ∨ w = 64) (m : Nat) : (fmt w).sg m < 9007199254740992 := by
  have h := (fmt w).sg_lt m
  rcases hw with rfl | rfl
  · rw [fmt32] at h ⊢; rw [show (2 : Nat) ^ (f32.f + 1) = 16777216 by decide] at h; omega
  · rw [fmt64] at h ⊢; rw [show (2 : Nat) ^ (f64.f + 1) = 9007199254740992 by decide] at h; omega
end Go.Proofs.Ytbpmnmceajmmcaa.Th
end
section
set_option linter.unusedVariables false
set_option linter.unusedSimpArgs false
namespace Go.Proofs.Ytbpmnmceajmmcaa.Th
open Flo
theorem fmt_bd (w : Int) : (fmt w).f < 100 ∧ (-5000 < (fmt w).low ∧ (fmt w).low < 0) ∧ (fmt w).top < 5000 := by
  unfold fmt; split <;> decide
theorem fmt_f (w : Int) : (fmt w).f ≤ 52 := by unfold fmt; split <;> decide
theorem pk_ex (w : Int) (S : Nat) (e : Int) (hS : S < 340282366920938463463374607431768211456) : pkm (fmt w) S e false = (fmt w).rnd ((S : Rat) * tw e) := by
  have h := fmt_bd w
  rw [← pkx_f, pkm_rnd _ h.1 h.2.1 h.2.2 S e false hS]
theorem pk_mo (w : Int) {x : Rat} {S : Nat} {e : Int} (hS : S < 340282366920938463463374607431768211456) (h0 : 9007199254740992 ≤ S) (h1 : (S : Rat) * tw e < x) (h2 : x < ((S + 1 : Nat) : Rat) * tw e) : pkm (fmt w) S e true = (fmt w).rnd x := by
  have h := fmt_bd w
  have h3 : 2 ^ ((fmt w).f + 1) ≤ S := by
    have : 2 ^ ((fmt w).f + 1) ≤ 2 ^ 53 := Nat.pow_le_pow_right (by decide) (by have := fmt_f w; omega)
    rw [show (2 : Nat) ^ 53 = 9007199254740992 by decide] at this
    omega
  rw [rnd_more _ h1 h2 h3, pkm_rnd _ h.1 h.2.1 h.2.2 S e true hS]
abbrev Pt := Bool × Int × Int × Int
noncomputable def pv (p : Pt) : Rat := if p.2.1 = 1 then (if p.1 then -((p.2.2.2.toNat : Rat) * tw p.2.2.1) else (p.2.2.2.toNat : Rat) * tw p.2.2.1) else 0
noncomputable def fx (w : Int) (s : Rat) (z : Bool) : Nat := if s = 0 then mkN w 0 z else if s < 0 then mkN w ((fmt w).rnd (-s)) true else mkN w ((fmt w).rnd s) false
noncomputable def divP (w : Int) (p q : Pt) : Nat :=
  if p.2.1 = 3 ∨ q.2.1 = 3 ∨ p.2.1 = 2 ∧ q.2.1 = 2 ∨ p.2.1 = 0 ∧ q.2.1 = 0 then nanN w else if p.2.1 = 2 ∨ q.2.1 = 0 then mkN w (fmt w).inf (p.1 != q.1)
  else if p.2.1 = 0 ∨ q.2.1 = 2 then mkN w 0 (p.1 != q.1) else fx w (pv p / pv q) (p.1 != q.1)
theorem fx_pos (w : Int) {s : Rat} (h : 0 < s) (z : Bool) : fx w s z = mkN w ((fmt w).rnd s) false := by
  unfold fx; rw [if_neg (by grind), if_neg (by grind)]
theorem fx_neg (w : Int) {s : Rat} (h : 0 < s) (z : Bool) : fx w (-s) z = mkN w ((fmt w).rnd s) true := by
  unfold fx; rw [if_neg (by grind), if_pos (by grind), Rat.neg_neg]
theorem fx_sg (w : Int) {s : Rat} (h : 0 < s) (n z : Bool) : fx w (if n then -s else s) z = mkN w ((fmt w).rnd s) n := by
  cases n
  · exact fx_pos w h z
  · exact fx_neg w h z
end Go.Proofs.Ytbpmnmceajmmcaa.Th
end
section
set_option linter.unusedVariables false
set_option linter.unusedSimpArgs false
namespace Go.Proofs.Ytbpmnmceajmmcaa.Th
open Go.RowKit Go.Proofs.YtbpmnmceajmmcaaW.PrintWords Go.Proofs.YtbpmnmceajmmcaaW.PrintLast Go.Proofs.YtbpmnmceajmmcaaW.PrintMore Go.Proofs.Ytbpmnmceajmmcaa.PA Dig

theorem one_dg : Ev (fun k => r1_Of.f k 1) (dg 1) := of_dg 1 (by decide)
theorem cmp_nonneg (m n : Nat) : cmpN m n ≥ 0 ↔ n ≤ m := by unfold cmpN; split <;> (try split) <;> omega
theorem div_loop (A n : Nat) (hn0 : 0 < n) (hA : bl A < 100000000) (hn : bl n < 100000000) (s : Nat) : ∀ (q m : Nat), s < 100000000 → q * n + m = A → m < n * 2 ^ s →
    Ev (fun k => r1_Div.l0 k ((s : Int) - 1) (dg n) (dg q) (dg m)) (dg (A / n), dg (A % n)) := by
  induction s with
  | zero =>
    intro q m _ he hm
    refine Ev.step (fun _ => r1_Div.l0.eq_2 ..) ?_
    refine Ev.neg (by omega) (Ev.out ?_)
    rw [Nat.pow_zero, Nat.mul_one] at hm
    have h1 : A / n = q := by rw [← he, Nat.mul_comm, Nat.mul_add_div hn0, Nat.div_eq_of_lt hm, Nat.add_zero]
    have h2 : A % n = m := by rw [← he, Nat.mul_comm, Nat.mul_add_mod, Nat.mod_eq_of_lt hm]
    rw [h1, h2]
  | succ s ih =>
    intro q m hs he hm
    have e1 : (((s + 1 : Nat) : Int) - 1) = ((s : Nat) : Int) := by omega
    rw [e1]
    have hm2 : m ≤ A := by omega
    have hq2 : q ≤ A := Nat.le_trans (Nat.le_mul_of_pos_right q hn0) (by omega)
    have b1 := bl_mono hm2
    have b2 := bl_mono hq2
    have b3 := bl_shl n s
    have hw : wrap64 ((s : Int) - 1) = (s : Int) - 1 := w64_id (by omega) (by omega)
    refine Ev.step (fun _ => r1_Div.l0.eq_2 ..) ?_
    rw [hw]
    refine Ev.pos (by omega) (Ev.bind (shl_bl n s (by omega) (by omega)) (Ev.bind (cmp_bl m (n * 2 ^ s) (by omega) (by omega)) ?_))
    by_cases h : n * 2 ^ s ≤ m
    · refine Ev.pos ((cmp_nonneg _ _).2 h) (Ev.bind (sub_bl m (n * 2 ^ s) h (by omega)) (Ev.bind one_dg (Ev.bind (shl_bl 1 s (by omega) (by decide)) ?_)))
      have h3 : 2 ^ s ≤ A := Nat.le_trans (Nat.le_mul_of_pos_left _ hn0) (Nat.le_trans h hm2)
      have b4 := bl_mono h3
      rw [Nat.one_mul]
      refine Ev.bind (add_bl q (2 ^ s) (by omega) (by omega)) (ih (q + 2 ^ s) (m - n * 2 ^ s) (by omega) ?_ ?_)
      · rw [Nat.add_mul, Nat.mul_comm (2 ^ s) n]; omega
      · rw [Nat.pow_succ, ← Nat.mul_assoc] at hm; omega
    · exact Ev.neg (fun h' => h ((cmp_nonneg _ _).1 h')) (ih q m (by omega) he (by omega))
theorem div_dg (a b : Nat) (hb : 0 < b) (ha1 : bl a < 100000000) (hb1 : bl b < 100000000) : Ev (fun k => r1_Div.f k (dg a) (dg b)) (dg (a / b), dg (a % b)) := by
  unfold r1_Div.f
  refine Ev.bind (len_dg a (by omega)) (Ev.bind (len_dg b (by omega)) ?_)
  rw [w64_id (by omega) (by omega)]
  by_cases h : bl b ≤ bl a
  · rw [show ((bl a : Nat) : Int) - ((bl b : Nat) : Int) = (((bl a - bl b + 1 : Nat) : Int) - 1) by omega, ← dg_zero]
    have h4 := bl_pos.2 hb
    refine div_loop a b hb ha1 hb1 (bl a - bl b + 1) 0 a (by omega) (by simp) ?_
    have h1 := lt_two_bl a
    have h2 := two_bl_le hb
    have h3 : 2 ^ (bl b - 1) * 2 ^ (bl a - bl b + 1) ≤ b * 2 ^ (bl a - bl b + 1) := Nat.mul_le_mul_right _ h2
    rw [← Nat.pow_add, show bl b - 1 + (bl a - bl b + 1) = bl a by omega] at h3
    omega
  · refine Ev.step (fun _ => r1_Div.l0.eq_2 ..) ?_
    have h1 : a < b := by
      rcases Nat.lt_or_ge a b with h1 | h1
      · exact h1
      · exact absurd (bl_mono h1) h
    refine Ev.neg (by omega) (Ev.out ?_)
    rw [Nat.div_eq_of_lt h1, Nat.mod_eq_of_lt h1, dg_zero]
theorem dg_len_pos (n : Nat) : decide (((dg n).length : Int) > 0) = decide (0 < n) := by
  have := len_pos (n := n)
  by_cases h : 0 < n
  · rw [decide_eq_true h, decide_eq_true (by omega)]
  · rw [decide_eq_false h, decide_eq_false (by omega)]
theorem half_dg (a n : Nat) (ha : bl a < 100000000) (hn : n < 90000000) : Ev (fun k => r1_Half.f k (dg a) n) (dg (a / 2 ^ n), decide (0 < a % 2 ^ n)) := by
  unfold r1_Half.f
  have h1 := bl_two n
  refine Ev.bind one_dg (Ev.bind (shl_bl 1 n (by omega) (by decide)) ?_)
  rw [Nat.one_mul]
  refine Ev.bind (div_dg a (2 ^ n) (Nat.pow_pos (by decide)) ha (by omega)) (Ev.out ?_)
  rw [dg_len_pos]
end Go.Proofs.Ytbpmnmceajmmcaa.Th
end
