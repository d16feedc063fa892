/- What the Go functions that the statement QuotientDivs reaches compute, and the mathematics on it, in the order in which one leans on the other; for every input. -/
import Derived.Test.YtbpmnmceajmmcaaVQuotientDivs0
import Derived.Test.YtbpmnmceajmmcaaMQuotientDivs0
import Derived.Test.YtbpmnmceajmmcaaMQuotientDivs7
import Derived.Test.YtbpmnmceajmmcaaMQuotientDivs1
import Derived.Test.YtbpmnmceajmmcaaMQuotientDivs6
import Derived.Test.YtbpmnmceajmmcaaMQuotientDivs3
namespace Go.Proofs.Ytbpmnmceajmmcaa.PA
open Go.RowKit Go.Proofs.YtbpmnmceajmmcaaW.PrintWords Go.Proofs.YtbpmnmceajmmcaaW.PrintLast Go.Proofs.YtbpmnmceajmmcaaW.PrintMore
attribute [local go_sem] max2_int min2_int max_two min_two max_three min_three max_four min_four   -- for this text's walks alone
set_option linter.unusedVariables false
set_option linter.unusedSimpArgs false
set_option maxHeartbeats 8000000
set_option maxRecDepth 100000
def quotient_fraction_value.f (k : Nat) (a0_0 : Bool) (a0_1 : Int) (a0_2 : Int) (a0_3 : Int) (a0_4 : Bool) (a0_5 : Int) (a0_6 : Int) (a0_7 : Int) (a1 : Int) : Option (Int) := (quotient_above_full.f a0_0 a0_1 a0_2 a0_3).bind fun bt634 => ((quotient_above_full.f a0_4 a0_5 a0_6 a0_7).bind fun bt636 => ((wide_Of.f bt634.1).bind fun bt638 => ((wide_Left.f bt638.1 bt638.2 64).bind fun bt640 => ((wide_Div.f k bt640.1 bt640.2 bt636.1).bind fun bt642 => ((round_Pack.f a1 (a0_0 != a0_4) bt642.1 bt642.2.1 (wrap64 ((wrap64 (bt634.2 - bt636.2)) - 64)) (bt642.2.2.1 != 0)).bind fun t647 => (some t647))))))
theorem quotient_fraction_value.mono : ∀ a0 a1 a2 a3 a4 a5 a6 a7 a8 k, LeO (quotient_fraction_value.f k a0 a1 a2 a3 a4 a5 a6 a7 a8) (quotient_fraction_value.f (k + 1) a0 a1 a2 a3 a4 a5 a6 a7 a8) := by
 intro a0 a1 a2 a3 a4 a5 a6 a7 a8 k
 unfold quotient_fraction_value.f
 repeat' first
   | (with_reducible exact wide_Div.mono _ _ _ _)
   | (with_reducible exact LeO.refl _)
   | (with_reducible exact LeO.none _)
   | (with_reducible refine LeO.ite ?_ ?_)
   | (with_reducible refine LeO.bind ?_ (fun _ => ?_))
   | exact wide_Div.mono _ _ _ _
   | exact LeO.none _
   | refine LeO.ite ?_ ?_
   | refine LeO.bind ?_ (fun _ => ?_)
theorem quotient_fraction_value.calls (k : Nat) (a0_0 : Bool) (a0_1 : Int) (a0_2 : Int) (a0_3 : Int) (a0_4 : Bool) (a0_5 : Int) (a0_6 : Int) (a0_7 : Int) (a1 : Int) (r : Int) (w : World) (h : quotient_fraction_value.f k a0_0 a0_1 a0_2 a0_3 a0_4 a0_5 a0_6 a0_7 a1 = some r) :
  Calls Try.prog 95 #[.agg #[.bool a0_0, .int .i64 a0_1, .int .i64 a0_2, .int .u64 a0_3, .bool a0_4, .int .i64 a0_5, .int .i64 a0_6, .int .u64 a0_7], .int .i64 a1] w fun e w' => e = .returned (.int .u64 r) ∧ Below w.heap.size w w' := by
 have hu103 := Try.underlying103
 have hu101 := Try.underlying101
 have hu42 := Try.underlying42
 have HB := A_ (Below.refl w.heap.size w)
 have H : ((quotient_above_full.f a0_0 a0_1 a0_2 a0_3).bind fun bt634 => ((quotient_above_full.f a0_4 a0_5 a0_6 a0_7).bind fun bt636 => ((wide_Of.f bt634.1).bind fun bt638 => ((wide_Left.f bt638.1 bt638.2 64).bind fun bt640 => ((wide_Div.f k bt640.1 bt640.2 bt636.1).bind fun bt642 => ((round_Pack.f a1 (a0_0 != a0_4) bt642.1 bt642.2.1 (wrap64 ((wrap64 (bt634.2 - bt636.2)) - 64)) (bt642.2.2.1 != 0)).bind fun t647 => (some t647))))))) = some r := h
 clear h
 replace H := ob_ H
 obtain ⟨⟨t634, t635⟩, A30, H⟩ := H
 replace H : ((quotient_above_full.f a0_4 a0_5 a0_6 a0_7).bind fun bt636 => ((wide_Of.f t634).bind fun bt638 => ((wide_Left.f bt638.1 bt638.2 64).bind fun bt640 => ((wide_Div.f k bt640.1 bt640.2 bt636.1).bind fun bt642 => ((round_Pack.f a1 (a0_0 != a0_4) bt642.1 bt642.2.1 (wrap64 ((wrap64 (t635 - bt636.2)) - 64)) (bt642.2.2.1 != 0)).bind fun t647 => (some t647)))))) = some r := H
 have A3 := A_ A30;clear A30
 replace H := ob_ H
 obtain ⟨⟨t636, t637⟩, A40, H⟩ := H
 replace H : ((wide_Of.f t634).bind fun bt638 => ((wide_Left.f bt638.1 bt638.2 64).bind fun bt640 => ((wide_Div.f k bt640.1 bt640.2 t636).bind fun bt642 => ((round_Pack.f a1 (a0_0 != a0_4) bt642.1 bt642.2.1 (wrap64 ((wrap64 (t635 - t637)) - 64)) (bt642.2.2.1 != 0)).bind fun t647 => (some t647))))) = some r := H
 have A4 := A_ A40;clear A40
 replace H := ob_ H
 obtain ⟨⟨t638, t639⟩, A50, H⟩ := H
 replace H : ((wide_Left.f t638 t639 64).bind fun bt640 => ((wide_Div.f k bt640.1 bt640.2 t636).bind fun bt642 => ((round_Pack.f a1 (a0_0 != a0_4) bt642.1 bt642.2.1 (wrap64 ((wrap64 (t635 - t637)) - 64)) (bt642.2.2.1 != 0)).bind fun t647 => (some t647)))) = some r := H
 have A5 := A_ A50;clear A50
 replace H := ob_ H
 obtain ⟨⟨t640, t641⟩, A60, H⟩ := H
 replace H : ((wide_Div.f k t640 t641 t636).bind fun bt642 => ((round_Pack.f a1 (a0_0 != a0_4) bt642.1 bt642.2.1 (wrap64 ((wrap64 (t635 - t637)) - 64)) (bt642.2.2.1 != 0)).bind fun t647 => (some t647))) = some r := H
 have A6 := A_ A60;clear A60
 replace H := ob_ H
 obtain ⟨⟨t642, t643, t644, t645⟩, A70, H⟩ := H
 replace H : ((round_Pack.f a1 (a0_0 != a0_4) t642 t643 (wrap64 ((wrap64 (t635 - t637)) - 64)) (t644 != 0)).bind fun t647 => (some t647)) = some r := H
 have A7 := A_ A70;clear A70
 replace H := ob_ H
 obtain ⟨t647, A80, H⟩ := H
 replace H : (some t647) = some r := H
 have A8 := A_ A80;clear A80
 obtain rfl := Option.some.inj H
 go_enter Try.func95, Try.ntmps95
 go_wp2_with (first | ((with_reducible refine gate_dst (N := 2) rfl ?_); refine be_ 2 #[.bool a0_0, .int .i64 a0_1, .int .i64 a0_2, .int .u64 a0_3, .bool a0_4, .int .i64 a0_5, .int .i64 a0_6, .int .u64 a0_7] 103 ?_; intro gb633 hg w9 hbox hb; have n0_ := A_ (below_step (hb_ HB.out) hb); have n1_ := A_ (hbox); have n2_ := A_ (sz_ hg (hb_ HB.out)); have n3_ := A_ (sz_ hg (hb_ HB.out)); clear HB; have HB := n0_; have BK633 := n1_; have GW633 := n2_; have GE633 := n3_; clear n0_ n1_ n2_ n3_; clear hb hbox hg; have hcz10_0 : w9.cell? ⟨gb633, 0, none⟩ = some (.bool a0_0) := bc_ BK633.out 0; have hcz10_1 : w9.cell? ⟨gb633, 1, none⟩ = some (.int .i64 a0_1) := bc_ BK633.out 1; have hcz10_2 : w9.cell? ⟨gb633, 2, none⟩ = some (.int .i64 a0_2) := bc_ BK633.out 2; have hcz10_3 : w9.cell? ⟨gb633, 3, none⟩ = some (.int .u64 a0_3) := bc_ BK633.out 3; have hcz10_4 : w9.cell? ⟨gb633, 4, none⟩ = some (.bool a0_4) := bc_ BK633.out 4; have hcz10_5 : w9.cell? ⟨gb633, 5, none⟩ = some (.int .i64 a0_5) := bc_ BK633.out 5; have hcz10_6 : w9.cell? ⟨gb633, 6, none⟩ = some (.int .i64 a0_6) := bc_ BK633.out 6; have hcz10_7 : w9.cell? ⟨gb633, 7, none⟩ = some (.int .u64 a0_7) := bc_ BK633.out 7; have hfz10_0 := blk_frozen BK633.out 0; have hfz10_1 := blk_frozen BK633.out 1; have hfz10_2 := blk_frozen BK633.out 2; have hfz10_3 := blk_frozen BK633.out 3; have hfz10_4 := blk_frozen BK633.out 4; have hfz10_5 := blk_frozen BK633.out 5; have hfz10_6 := blk_frozen BK633.out 6; have hfz10_7 := blk_frozen BK633.out 7) | ((with_reducible refine gate_callee (f := 111) rfl ?_); refine gl_ (some 15) Try.func111 #[.agg #[.bool a0_0, .int .i64 a0_1, .int .i64 a0_2, .int .u64 a0_3]] ?_; (with_reducible refine (quotient_above_full.calls a0_0 a0_1 a0_2 a0_3 t634 t635 _ A3.out).mono ?_); rintro e w11 ⟨rfl, hb⟩; refine ⟨_, rfl, ?_⟩; have n0_ := A_ (bb_ BK633.out hb); have n1_ := A_ (below_step (hb1_ HB.out GE633.out) hb); clear BK633; clear HB; have BK633 := n0_; have HB := n1_; clear n0_ n1_; (try clear hb); (try clear hb2); (try clear hk); (try clear hi); have hcz12_0 : w11.cell? ⟨gb633, 0, none⟩ = some (.bool a0_0) := bc_ BK633.out 0; have hcz12_1 : w11.cell? ⟨gb633, 1, none⟩ = some (.int .i64 a0_1) := bc_ BK633.out 1; have hcz12_2 : w11.cell? ⟨gb633, 2, none⟩ = some (.int .i64 a0_2) := bc_ BK633.out 2; have hcz12_3 : w11.cell? ⟨gb633, 3, none⟩ = some (.int .u64 a0_3) := bc_ BK633.out 3; have hcz12_4 : w11.cell? ⟨gb633, 4, none⟩ = some (.bool a0_4) := bc_ BK633.out 4; have hcz12_5 : w11.cell? ⟨gb633, 5, none⟩ = some (.int .i64 a0_5) := bc_ BK633.out 5; have hcz12_6 : w11.cell? ⟨gb633, 6, none⟩ = some (.int .i64 a0_6) := bc_ BK633.out 6; have hcz12_7 : w11.cell? ⟨gb633, 7, none⟩ = some (.int .u64 a0_7) := bc_ BK633.out 7; have hfz12_0 := blk_frozen BK633.out 0; have hfz12_1 := blk_frozen BK633.out 1; have hfz12_2 := blk_frozen BK633.out 2; have hfz12_3 := blk_frozen BK633.out 3; have hfz12_4 := blk_frozen BK633.out 4; have hfz12_5 := blk_frozen BK633.out 5; have hfz12_6 := blk_frozen BK633.out 6; have hfz12_7 := blk_frozen BK633.out 7) | ((with_reducible refine gate_callee (f := 111) rfl ?_); refine gl_ (some 21) Try.func111 #[.agg #[.bool a0_4, .int .i64 a0_5, .int .i64 a0_6, .int .u64 a0_7]] ?_; (with_reducible refine (quotient_above_full.calls a0_4 a0_5 a0_6 a0_7 t636 t637 _ A4.out).mono ?_); rintro e w13 ⟨rfl, hb⟩; refine ⟨_, rfl, ?_⟩; have n0_ := A_ (bb_ BK633.out hb); have n1_ := A_ (below_step (hb1_ HB.out GE633.out) hb); clear BK633; clear HB; have BK633 := n0_; have HB := n1_; clear n0_ n1_; (try clear hb); (try clear hb2); (try clear hk); (try clear hi)) | ((with_reducible refine gate_callee (f := 39) rfl ?_); refine gl_ (some 26) Try.func39 #[.int .u64 t634] ?_; (with_reducible refine (wide_Of.calls t634 t638 t639 _ A5.out).mono ?_); rintro e w14 ⟨rfl, hb⟩; refine ⟨_, rfl, ?_⟩; have n0_ := A_ (bb_ BK633.out hb); have n1_ := A_ (below_step (hb1_ HB.out GE633.out) hb); clear BK633; clear HB; have BK633 := n0_; have HB := n1_; clear n0_ n1_; (try clear hb); (try clear hb2); (try clear hk); (try clear hi)) | ((with_reducible refine gate_callee (f := 41) rfl ?_); refine gl_ (some 27) Try.func41 #[.agg #[.int .u64 t638, .int .u64 t639], .int .i64 64] ?_; (with_reducible refine (wide_Left.calls t638 t639 64 t640 t641 _ A6.out).mono ?_); rintro e w15 ⟨rfl, hb⟩; refine ⟨_, rfl, ?_⟩; have n0_ := A_ (bb_ BK633.out hb); have n1_ := A_ (below_step (hb1_ HB.out GE633.out) hb); clear BK633; clear HB; have BK633 := n0_; have HB := n1_; clear n0_ n1_; (try clear hb); (try clear hb2); (try clear hk); (try clear hi)) | ((with_reducible refine gate_callee (f := 112) rfl ?_); refine gl_ (some 29) Try.func112 #[.agg #[.int .u64 t640, .int .u64 t641], .int .u64 t636] ?_; (with_reducible refine (wide_Div.calls k t640 t641 t636 t642 t643 t644 t645 _ A7.out).mono ?_); rintro e w16 ⟨rfl, hb⟩; refine ⟨_, rfl, ?_⟩; have n0_ := A_ (bb_ BK633.out hb); have n1_ := A_ (below_step (hb1_ HB.out GE633.out) hb); clear BK633; clear HB; have BK633 := n0_; have HB := n1_; clear n0_ n1_; (try clear hb); (try clear hb2); (try clear hk); (try clear hi)) | ((with_reducible refine gate_dst (N := 9) rfl ?_); refine be_ 9 #[.int .u64 0, .int .u64 0] 42 ?_; intro gb646 hg w17 hbox hb; have n0_ := A_ (bb_ BK633.out hb); have n1_ := A_ (below_step (hb1_ HB.out GE633.out) hb); have n2_ := A_ (hbox); have n3_ := A_ (sz_ hg (hb1_ HB.out GE633.out)); have n4_ := A_ (sz_ hg (hb1_ HB.out GE633.out)); have n5_ := A_ (nl_ hg BK633.out); have n6_ := A_ (ng_ hg BK633.out); clear BK633; clear HB; have BK633 := n0_; have HB := n1_; have BK646 := n2_; have GW646 := n3_; have GE646 := n4_; have NB633_646 := n5_; have NB646_633 := n6_; clear n0_ n1_ n2_ n3_ n4_ n5_ n6_; clear hb hbox hg; have hnb18 := NB646_633.out; have hnc18 := NB633_646.out; have hcz19_0 : w17.cell? ⟨gb646, 0, none⟩ = some (.int .u64 0) := bc_ BK646.out 0; have hcz19_1 : w17.cell? ⟨gb646, 1, none⟩ = some (.int .u64 0) := bc_ BK646.out 1; have hfz19_0 := blk_frozen BK646.out 0; have hfz19_1 := blk_frozen BK646.out 1; have hcz20_0 : w17.cell? ⟨gb633, 0, none⟩ = some (.bool a0_0) := bc_ BK633.out 0; have hcz20_1 : w17.cell? ⟨gb633, 1, none⟩ = some (.int .i64 a0_1) := bc_ BK633.out 1; have hcz20_2 : w17.cell? ⟨gb633, 2, none⟩ = some (.int .i64 a0_2) := bc_ BK633.out 2; have hcz20_3 : w17.cell? ⟨gb633, 3, none⟩ = some (.int .u64 a0_3) := bc_ BK633.out 3; have hcz20_4 : w17.cell? ⟨gb633, 4, none⟩ = some (.bool a0_4) := bc_ BK633.out 4; have hcz20_5 : w17.cell? ⟨gb633, 5, none⟩ = some (.int .i64 a0_5) := bc_ BK633.out 5; have hcz20_6 : w17.cell? ⟨gb633, 6, none⟩ = some (.int .i64 a0_6) := bc_ BK633.out 6; have hcz20_7 : w17.cell? ⟨gb633, 7, none⟩ = some (.int .u64 a0_7) := bc_ BK633.out 7; have hfz20_0 := blk_frozen BK633.out 0; have hfz20_1 := blk_frozen BK633.out 1; have hfz20_2 := blk_frozen BK633.out 2; have hfz20_3 := blk_frozen BK633.out 3; have hfz20_4 := blk_frozen BK633.out 4; have hfz20_5 := blk_frozen BK633.out 5; have hfz20_6 := blk_frozen BK633.out 6; have hfz20_7 := blk_frozen BK633.out 7) | ((with_reducible refine gate_callee (f := 36) rfl ?_); refine gl_ (some 50) Try.func36 #[.int .i64 a1, .bool (a0_0 != a0_4), .agg #[.int .u64 t642, .int .u64 t643], .int .i64 (wrap64 ((wrap64 (t635 - t637)) - 64)), .bool (t644 != 0)] ?_; (with_reducible refine (round_Pack.calls a1 (a0_0 != a0_4) t642 t643 (wrap64 ((wrap64 (t635 - t637)) - 64)) (t644 != 0) t647 _ A8.out).mono ?_); rintro e w21 ⟨rfl, hb⟩; refine ⟨_, rfl, ?_⟩; have n0_ := A_ (blk_below (g := gb633) (o := .cells #[.bool a0_0, .int .i64 a0_1, .int .i64 a0_2, .int .u64 a0_3, .bool a0_4, .int .i64 a0_5, .int .i64 a0_6, .int .u64 a0_7] 103 (0, 0)) (bf2_ BK633.out NB633_646.out NB633_646.out) hb); have n1_ := A_ (blk_below (g := gb646) (o := .cells #[.int .u64 t642, .int .u64 t643] 42 (0, 0)) (by (with_reducible repeat (first | refine blk_drewN ?_ _ | refine blk_drew ?_ | refine blk_alloc ?_ _)); refine blk_put (cs := #[.int .u64 t642, .int .u64 0]) ?_ 1 _ rfl; (with_reducible repeat (first | refine blk_drewN ?_ _ | refine blk_drew ?_ | refine blk_alloc ?_ _)); refine blk_put (cs := #[.int .u64 0, .int .u64 0]) ?_ 0 _ rfl; (with_reducible repeat (first | refine blk_drewN ?_ _ | refine blk_drew ?_ | refine blk_alloc ?_ _)); exact BK646.out) hb); have n2_ := A_ (below_step (hb2_ HB.out GE633.out GE646.out) hb); clear BK633; clear BK646; clear HB; have BK633 := n0_; have BK646 := n1_; have HB := n2_; clear n0_ n1_ n2_; (try clear hb); (try clear hb2); (try clear hk); (try clear hi)))
 go_ret
 exact ⟨er_, hb2_ HB.out GE633.out GE646.out⟩
mutual
def quotient_parts.j0 : Nat → Int → Bool → Bool → Bool → Int → Int → Int → Bool → Int → Int → Int → Option (Int)
 | 0, _, _, _, _, _, _, _, _, _, _, _ => none
 | k + 1, x0, x7, x13, x649000, x649001, x649002, x649003, x650000, x650001, x650002, x650003 => if x13 = true then ((shape_Nan.f x0).bind fun t650 => (some t650)) else (if x649001 = 2 then (quotient_parts.j1 k x0 x7 true x649000 x649001 x649002 x649003 x650000 x650001 x650002 x650003) else (quotient_parts.j1 k x0 x7 (x650001 == 0) x649000 x649001 x649002 x649003 x650000 x650001 x650002 x650003))
def quotient_parts.j1 : Nat → Int → Bool → Bool → Bool → Int → Int → Int → Bool → Int → Int → Int → Option (Int)
 | 0, _, _, _, _, _, _, _, _, _, _, _ => none
 | k + 1, x0, x7, x36, x649000, x649001, x649002, x649003, x650000, x650001, x650002, x650003 => if x36 = true then ((shape_Inf.f x0 x7).bind fun t651 => (some t651)) else (if x649001 = 0 then (quotient_parts.j2 k x0 x7 true x649000 x649001 x649002 x649003 x650000 x650001 x650002 x650003) else (quotient_parts.j2 k x0 x7 (x650001 == 2) x649000 x649001 x649002 x649003 x650000 x650001 x650002 x650003))
def quotient_parts.j2 : Nat → Int → Bool → Bool → Bool → Int → Int → Int → Bool → Int → Int → Int → Option (Int)
 | 0, _, _, _, _, _, _, _, _, _, _, _ => none
 | k + 1, x0, x7, x48, x649000, x649001, x649002, x649003, x650000, x650001, x650002, x650003 => if x48 = true then ((shape_Zero.f x0 x7).bind fun t652 => (some t652)) else ((quotient_fraction_value.f k x649000 x649001 x649002 x649003 x650000 x650001 x650002 x650003 x0).bind fun t653 => (some t653))
end
def quotient_parts.f (k : Nat) (a0 : Int) (a1_0 : Bool) (a1_1 : Int) (a1_2 : Int) (a1_3 : Int) (a2_0 : Bool) (a2_1 : Int) (a2_2 : Int) (a2_3 : Int) : Option (Int) := if a1_1 = 3 then (quotient_parts.j0 k a0 (a1_0 != a2_0) true a1_0 a1_1 a1_2 a1_3 a2_0 a2_1 a2_2 a2_3) else (if a2_1 = 3 then (quotient_parts.j0 k a0 (a1_0 != a2_0) true a1_0 a1_1 a1_2 a1_3 a2_0 a2_1 a2_2 a2_3) else (if a1_1 = a2_1 then (quotient_parts.j0 k a0 (a1_0 != a2_0) (a1_1 != 1) a1_0 a1_1 a1_2 a1_3 a2_0 a2_1 a2_2 a2_3) else (quotient_parts.j0 k a0 (a1_0 != a2_0) false a1_0 a1_1 a1_2 a1_3 a2_0 a2_1 a2_2 a2_3)))
theorem quotient_parts.mono_l : ∀ k, (∀ y0 y1 y2 y3 y4 y5 y6 y7 y8 y9 y10, LeO (quotient_parts.j0 k y0 y1 y2 y3 y4 y5 y6 y7 y8 y9 y10) (quotient_parts.j0 (k + 1) y0 y1 y2 y3 y4 y5 y6 y7 y8 y9 y10)) ∧ (∀ y0 y1 y2 y3 y4 y5 y6 y7 y8 y9 y10, LeO (quotient_parts.j1 k y0 y1 y2 y3 y4 y5 y6 y7 y8 y9 y10) (quotient_parts.j1 (k + 1) y0 y1 y2 y3 y4 y5 y6 y7 y8 y9 y10)) ∧ (∀ y0 y1 y2 y3 y4 y5 y6 y7 y8 y9 y10, LeO (quotient_parts.j2 k y0 y1 y2 y3 y4 y5 y6 y7 y8 y9 y10) (quotient_parts.j2 (k + 1) y0 y1 y2 y3 y4 y5 y6 y7 y8 y9 y10))
 | 0 => ⟨fun _ _ _ _ _ _ _ _ _ _ _ r h => by simp [quotient_parts.j0] at h, fun _ _ _ _ _ _ _ _ _ _ _ r h => by simp [quotient_parts.j1] at h, fun _ _ _ _ _ _ _ _ _ _ _ r h => by simp [quotient_parts.j2] at h⟩
 | k + 1 => by
  obtain ⟨ih0, ih1, ih2⟩ := quotient_parts.mono_l k
  refine ⟨?_, ?_, ?_⟩
  ·intro y0 y1 y2 y3 y4 y5 y6 y7 y8 y9 y10
   unfold quotient_parts.j0
   repeat' first
   | (with_reducible exact ih0 _ _ _ _ _ _ _ _ _ _ _)
   | (with_reducible exact ih1 _ _ _ _ _ _ _ _ _ _ _)
   | (with_reducible exact ih2 _ _ _ _ _ _ _ _ _ _ _)
   | (with_reducible exact quotient_fraction_value.mono _ _ _ _ _ _ _ _ _ _)
   | (with_reducible exact LeO.refl _)
   | (with_reducible exact LeO.none _)
   | (with_reducible refine LeO.ite ?_ ?_)
   | (with_reducible refine LeO.bind ?_ (fun _ => ?_))
   | exact ih0 _ _ _ _ _ _ _ _ _ _ _
   | exact ih1 _ _ _ _ _ _ _ _ _ _ _
   | exact ih2 _ _ _ _ _ _ _ _ _ _ _
   | exact quotient_fraction_value.mono _ _ _ _ _ _ _ _ _ _
   | exact LeO.none _
   | refine LeO.ite ?_ ?_
   | refine LeO.bind ?_ (fun _ => ?_)
  ·intro y0 y1 y2 y3 y4 y5 y6 y7 y8 y9 y10
   unfold quotient_parts.j1
   repeat' first
   | (with_reducible exact ih0 _ _ _ _ _ _ _ _ _ _ _)
   | (with_reducible exact ih1 _ _ _ _ _ _ _ _ _ _ _)
   | (with_reducible exact ih2 _ _ _ _ _ _ _ _ _ _ _)
   | (with_reducible exact quotient_fraction_value.mono _ _ _ _ _ _ _ _ _ _)
   | (with_reducible exact LeO.refl _)
   | (with_reducible exact LeO.none _)
   | (with_reducible refine LeO.ite ?_ ?_)
   | (with_reducible refine LeO.bind ?_ (fun _ => ?_))
   | exact ih0 _ _ _ _ _ _ _ _ _ _ _
   | exact ih1 _ _ _ _ _ _ _ _ _ _ _
   | exact ih2 _ _ _ _ _ _ _ _ _ _ _
   | exact quotient_fraction_value.mono _ _ _ _ _ _ _ _ _ _
   | exact LeO.none _
   | refine LeO.ite ?_ ?_
   | refine LeO.bind ?_ (fun _ => ?_)
  ·intro y0 y1 y2 y3 y4 y5 y6 y7 y8 y9 y10
   unfold quotient_parts.j2
   repeat' first
   | (with_reducible exact ih0 _ _ _ _ _ _ _ _ _ _ _)
   | (with_reducible exact ih1 _ _ _ _ _ _ _ _ _ _ _)
   | (with_reducible exact ih2 _ _ _ _ _ _ _ _ _ _ _)
   | (with_reducible exact quotient_fraction_value.mono _ _ _ _ _ _ _ _ _ _)
   | (with_reducible exact LeO.refl _)
   | (with_reducible exact LeO.none _)
   | (with_reducible refine LeO.ite ?_ ?_)
   | (with_reducible refine LeO.bind ?_ (fun _ => ?_))
   | exact ih0 _ _ _ _ _ _ _ _ _ _ _
   | exact ih1 _ _ _ _ _ _ _ _ _ _ _
   | exact ih2 _ _ _ _ _ _ _ _ _ _ _
   | exact quotient_fraction_value.mono _ _ _ _ _ _ _ _ _ _
   | exact LeO.none _
   | refine LeO.ite ?_ ?_
   | refine LeO.bind ?_ (fun _ => ?_)
theorem quotient_parts.mono : ∀ a0 a1 a2 a3 a4 a5 a6 a7 a8 k, LeO (quotient_parts.f k a0 a1 a2 a3 a4 a5 a6 a7 a8) (quotient_parts.f (k + 1) a0 a1 a2 a3 a4 a5 a6 a7 a8) := by
 intro a0 a1 a2 a3 a4 a5 a6 a7 a8 k
 obtain ⟨ih0, ih1, ih2⟩ := quotient_parts.mono_l k
 unfold quotient_parts.f
 repeat' first
   | (with_reducible exact ih0 _ _ _ _ _ _ _ _ _ _ _)
   | (with_reducible exact ih1 _ _ _ _ _ _ _ _ _ _ _)
   | (with_reducible exact ih2 _ _ _ _ _ _ _ _ _ _ _)
   | (with_reducible exact quotient_fraction_value.mono _ _ _ _ _ _ _ _ _ _)
   | (with_reducible exact LeO.refl _)
   | (with_reducible exact LeO.none _)
   | (with_reducible refine LeO.ite ?_ ?_)
   | (with_reducible refine LeO.bind ?_ (fun _ => ?_))
   | exact ih0 _ _ _ _ _ _ _ _ _ _ _
   | exact ih1 _ _ _ _ _ _ _ _ _ _ _
   | exact ih2 _ _ _ _ _ _ _ _ _ _ _
   | exact quotient_fraction_value.mono _ _ _ _ _ _ _ _ _ _
   | exact LeO.none _
   | refine LeO.ite ?_ ?_
   | refine LeO.bind ?_ (fun _ => ?_)
theorem quotient_parts.calls (k : Nat) (a0 : Int) (a1_0 : Bool) (a1_1 : Int) (a1_2 : Int) (a1_3 : Int) (a2_0 : Bool) (a2_1 : Int) (a2_2 : Int) (a2_3 : Int) (r : Int) (w : World) (h : quotient_parts.f k a0 a1_0 a1_1 a1_2 a1_3 a2_0 a2_1 a2_2 a2_3 = some r) :
  Calls Try.prog 64 #[.int .i64 a0, .agg #[.bool a1_0, .int .i64 a1_1, .int .i64 a1_2, .int .u64 a1_3], .agg #[.bool a2_0, .int .i64 a2_1, .int .i64 a2_2, .int .u64 a2_3]] w fun e w' => e = .returned (.int .u64 r) ∧ Below w.heap.size w w' := by
 have hu38 := Try.underlying38
 have hu101 := Try.underlying101
 have hu103 := Try.underlying103
 have HB := A_ (Below.refl w.heap.size w)
 have H : (if a1_1 = 3 then (quotient_parts.j0 k a0 (a1_0 != a2_0) true a1_0 a1_1 a1_2 a1_3 a2_0 a2_1 a2_2 a2_3) else (if a2_1 = 3 then (quotient_parts.j0 k a0 (a1_0 != a2_0) true a1_0 a1_1 a1_2 a1_3 a2_0 a2_1 a2_2 a2_3) else (if a1_1 = a2_1 then (quotient_parts.j0 k a0 (a1_0 != a2_0) (a1_1 != 1) a1_0 a1_1 a1_2 a1_3 a2_0 a2_1 a2_2 a2_3) else (quotient_parts.j0 k a0 (a1_0 != a2_0) false a1_0 a1_1 a1_2 a1_3 a2_0 a2_1 a2_2 a2_3)))) = some r := h
 clear h;have HC4 := A_ H;clear H
 go_enter Try.func64, Try.ntmps64
 go_upto_region 2 with (first | ((with_reducible refine gate_dst (N := 4) rfl ?_); refine be_ 4 #[.bool a1_0, .int .i64 a1_1, .int .i64 a1_2, .int .u64 a1_3] 38 ?_; intro gb648 hg w5 hbox hb; have n0_ := A_ (below_step (hb_ HB.out) hb); have n1_ := A_ (hbox); have n2_ := A_ (sz_ hg (hb_ HB.out)); have n3_ := A_ (sz_ hg (hb_ HB.out)); clear HB; have HB := n0_; have BK648 := n1_; have GW648 := n2_; have GE648 := n3_; clear n0_ n1_ n2_ n3_; clear hb hbox hg) | ((with_reducible refine gate_dst (N := 5) rfl ?_); refine be_ 5 #[.bool a2_0, .int .i64 a2_1, .int .i64 a2_2, .int .u64 a2_3] 38 ?_; intro gb649 hg w6 hbox hb; have n0_ := A_ (bb_ BK648.out hb); have n1_ := A_ (below_step (hb1_ HB.out GE648.out) hb); have n2_ := A_ (hbox); have n3_ := A_ (sz_ hg (hb1_ HB.out GE648.out)); have n4_ := A_ (sz_ hg (hb1_ HB.out GE648.out)); have n5_ := A_ (nl_ hg BK648.out); have n6_ := A_ (ng_ hg BK648.out); clear BK648; clear HB; have BK648 := n0_; have HB := n1_; have BK649 := n2_; have GW649 := n3_; have GE649 := n4_; have NB648_649 := n5_; have NB649_648 := n6_; clear n0_ n1_ n2_ n3_ n4_ n5_ n6_; clear hb hbox hg; have hnb7 := NB648_649.out; have hnc7 := NB649_648.out; have hcz8_0 : w6.cell? ⟨gb648, 0, none⟩ = some (.bool a1_0) := bc_ BK648.out 0; have hcz8_1 : w6.cell? ⟨gb648, 1, none⟩ = some (.int .i64 a1_1) := bc_ BK648.out 1; have hcz8_2 : w6.cell? ⟨gb648, 2, none⟩ = some (.int .i64 a1_2) := bc_ BK648.out 2; have hcz8_3 : w6.cell? ⟨gb648, 3, none⟩ = some (.int .u64 a1_3) := bc_ BK648.out 3; have hfz8_0 := blk_frozen BK648.out 0; have hfz8_1 := blk_frozen BK648.out 1; have hfz8_2 := blk_frozen BK648.out 2; have hfz8_3 := blk_frozen BK648.out 3; have hcz9_0 : w6.cell? ⟨gb649, 0, none⟩ = some (.bool a2_0) := bc_ BK649.out 0; have hcz9_1 : w6.cell? ⟨gb649, 1, none⟩ = some (.int .i64 a2_1) := bc_ BK649.out 1; have hcz9_2 : w6.cell? ⟨gb649, 2, none⟩ = some (.int .i64 a2_2) := bc_ BK649.out 2; have hcz9_3 : w6.cell? ⟨gb649, 3, none⟩ = some (.int .u64 a2_3) := bc_ BK649.out 3; have hfz9_0 := blk_frozen BK649.out 0; have hfz9_1 := blk_frozen BK649.out 1; have hfz9_2 := blk_frozen BK649.out 2; have hfz9_3 := blk_frozen BK649.out 3))
 (try simp only [Act.put, lI_, l0_, lS_])
 go_cut [13] (fun v13 wc => ∃ (kq : Nat) (x13_3 : Bool), v13 = .bool x13_3 ∧ Aside0 (quotient_parts.j0 kq a0 (a1_0 != a2_0) x13_3 a1_0 a1_1 a1_2 a1_3 a2_0 a2_1 a2_2 a2_3 = some r) ∧ Aside0 (kq ≤ k) ∧ Aside0 (wc.heap[gb648]? = some (.cells #[.bool a1_0, .int .i64 a1_1, .int .i64 a1_2, .int .u64 a1_3] 38 (0, 0))) ∧ Aside0 (wc.heap[gb649]? = some (.cells #[.bool a2_0, .int .i64 a2_1, .int .i64 a2_2, .int .u64 a2_3] 38 (0, 0))) ∧ Aside0 (Below w.heap.size w wc))
 case first =>
  have H := HC4.out
  clear HC4
  by_cases c10 : a1_1 = 3
  ·rw [if_pos c10] at H
   have c10b0 : (a1_1 == 3) = true := beq_iff_eq.mpr c10
   have c10b1 : (a1_1 != 3) = false := bne_eq_false_iff_eq.mpr c10
   clear c10
   (first | rw [c10b0] | (simp only [i64_w, i32_w]; rw [c10b0]) | skip)
   have H' := A_ H
   clear H
   have hnb11 := NB648_649.out
   have hnc11 := NB649_648.out
   have hcz12_0 : w6.cell? ⟨gb648, 0, none⟩ = some (.bool a1_0) := bc_ BK648.out 0
   have hcz12_1 : w6.cell? ⟨gb648, 1, none⟩ = some (.int .i64 a1_1) := bc_ BK648.out 1
   have hcz12_2 : w6.cell? ⟨gb648, 2, none⟩ = some (.int .i64 a1_2) := bc_ BK648.out 2
   have hcz12_3 : w6.cell? ⟨gb648, 3, none⟩ = some (.int .u64 a1_3) := bc_ BK648.out 3
   have hfz12_0 := blk_frozen BK648.out 0
   have hfz12_1 := blk_frozen BK648.out 1
   have hfz12_2 := blk_frozen BK648.out 2
   have hfz12_3 := blk_frozen BK648.out 3
   go_wp2
   go_meet
   case rel => exact ⟨_, (true), sm_, H', ⟨by first | omega | exact Nat.le_refl _⟩, ⟨bk_ BK648.out⟩, ⟨bk_ BK649.out⟩, ⟨hb2_ HB.out GE648.out GE649.out⟩⟩
  ·rw [if_neg c10] at H
   have c10b0 : (a1_1 == 3) = false := beq_eq_false_iff_ne.mpr c10
   have c10b1 : (a1_1 != 3) = true := bne_iff_ne.mpr c10
   (first | rw [c10b0] | (simp only [i64_w, i32_w]; rw [c10b0]) | skip)
   by_cases c13 : a2_1 = 3
   ·rw [if_pos c13] at H
    have c13b0 : (a2_1 == 3) = true := beq_iff_eq.mpr c13
    have c13b1 : (a2_1 != 3) = false := bne_eq_false_iff_eq.mpr c13
    clear c13
    have H' := A_ H
    clear H
    have hnb14 := NB648_649.out
    have hnc14 := NB649_648.out
    have hcz15_0 : w6.cell? ⟨gb648, 0, none⟩ = some (.bool a1_0) := bc_ BK648.out 0
    have hcz15_1 : w6.cell? ⟨gb648, 1, none⟩ = some (.int .i64 a1_1) := bc_ BK648.out 1
    have hcz15_2 : w6.cell? ⟨gb648, 2, none⟩ = some (.int .i64 a1_2) := bc_ BK648.out 2
    have hcz15_3 : w6.cell? ⟨gb648, 3, none⟩ = some (.int .u64 a1_3) := bc_ BK648.out 3
    have hfz15_0 := blk_frozen BK648.out 0
    have hfz15_1 := blk_frozen BK648.out 1
    have hfz15_2 := blk_frozen BK648.out 2
    have hfz15_3 := blk_frozen BK648.out 3
    have hcz16_0 : w6.cell? ⟨gb649, 0, none⟩ = some (.bool a2_0) := bc_ BK649.out 0
    have hcz16_1 : w6.cell? ⟨gb649, 1, none⟩ = some (.int .i64 a2_1) := bc_ BK649.out 1
    have hcz16_2 : w6.cell? ⟨gb649, 2, none⟩ = some (.int .i64 a2_2) := bc_ BK649.out 2
    have hcz16_3 : w6.cell? ⟨gb649, 3, none⟩ = some (.int .u64 a2_3) := bc_ BK649.out 3
    have hfz16_0 := blk_frozen BK649.out 0
    have hfz16_1 := blk_frozen BK649.out 1
    have hfz16_2 := blk_frozen BK649.out 2
    have hfz16_3 := blk_frozen BK649.out 3
    go_wp2
    go_meet
    case rel => exact ⟨_, (true), sm_, H', ⟨by first | omega | exact Nat.le_refl _⟩, ⟨bk_ BK648.out⟩, ⟨bk_ BK649.out⟩, ⟨hb2_ HB.out GE648.out GE649.out⟩⟩
   ·rw [if_neg c13] at H
    have c13b0 : (a2_1 == 3) = false := beq_eq_false_iff_ne.mpr c13
    have c13b1 : (a2_1 != 3) = true := bne_iff_ne.mpr c13
    by_cases c17 : a1_1 = a2_1
    ·rw [if_pos c17] at H
     have c17b0 : (a1_1 == a2_1) = true := beq_iff_eq.mpr c17
     have c17b1 : (a1_1 != a2_1) = false := bne_eq_false_iff_eq.mpr c17
     clear c17
     have H' := A_ H
     clear H
     have hnb18 := NB648_649.out
     have hnc18 := NB649_648.out
     have hcz19_0 : w6.cell? ⟨gb648, 0, none⟩ = some (.bool a1_0) := bc_ BK648.out 0
     have hcz19_1 : w6.cell? ⟨gb648, 1, none⟩ = some (.int .i64 a1_1) := bc_ BK648.out 1
     have hcz19_2 : w6.cell? ⟨gb648, 2, none⟩ = some (.int .i64 a1_2) := bc_ BK648.out 2
     have hcz19_3 : w6.cell? ⟨gb648, 3, none⟩ = some (.int .u64 a1_3) := bc_ BK648.out 3
     have hfz19_0 := blk_frozen BK648.out 0
     have hfz19_1 := blk_frozen BK648.out 1
     have hfz19_2 := blk_frozen BK648.out 2
     have hfz19_3 := blk_frozen BK648.out 3
     have hcz20_0 : w6.cell? ⟨gb649, 0, none⟩ = some (.bool a2_0) := bc_ BK649.out 0
     have hcz20_1 : w6.cell? ⟨gb649, 1, none⟩ = some (.int .i64 a2_1) := bc_ BK649.out 1
     have hcz20_2 : w6.cell? ⟨gb649, 2, none⟩ = some (.int .i64 a2_2) := bc_ BK649.out 2
     have hcz20_3 : w6.cell? ⟨gb649, 3, none⟩ = some (.int .u64 a2_3) := bc_ BK649.out 3
     have hfz20_0 := blk_frozen BK649.out 0
     have hfz20_1 := blk_frozen BK649.out 1
     have hfz20_2 := blk_frozen BK649.out 2
     have hfz20_3 := blk_frozen BK649.out 3
     go_wp2
     go_meet
     case rel => exact ⟨_, ((a1_1 != 1)), sm_, H', ⟨by first | omega | exact Nat.le_refl _⟩, ⟨bk_ BK648.out⟩, ⟨bk_ BK649.out⟩, ⟨hb2_ HB.out GE648.out GE649.out⟩⟩
    ·rw [if_neg c17] at H
     have c17b0 : (a1_1 == a2_1) = false := beq_eq_false_iff_ne.mpr c17
     have c17b1 : (a1_1 != a2_1) = true := bne_iff_ne.mpr c17
     have H' := A_ H
     clear H
     have hnb21 := NB648_649.out
     have hnc21 := NB649_648.out
     have hcz22_0 : w6.cell? ⟨gb648, 0, none⟩ = some (.bool a1_0) := bc_ BK648.out 0
     have hcz22_1 : w6.cell? ⟨gb648, 1, none⟩ = some (.int .i64 a1_1) := bc_ BK648.out 1
     have hcz22_2 : w6.cell? ⟨gb648, 2, none⟩ = some (.int .i64 a1_2) := bc_ BK648.out 2
     have hcz22_3 : w6.cell? ⟨gb648, 3, none⟩ = some (.int .u64 a1_3) := bc_ BK648.out 3
     have hfz22_0 := blk_frozen BK648.out 0
     have hfz22_1 := blk_frozen BK648.out 1
     have hfz22_2 := blk_frozen BK648.out 2
     have hfz22_3 := blk_frozen BK648.out 3
     have hcz23_0 : w6.cell? ⟨gb649, 0, none⟩ = some (.bool a2_0) := bc_ BK649.out 0
     have hcz23_1 : w6.cell? ⟨gb649, 1, none⟩ = some (.int .i64 a2_1) := bc_ BK649.out 1
     have hcz23_2 : w6.cell? ⟨gb649, 2, none⟩ = some (.int .i64 a2_2) := bc_ BK649.out 2
     have hcz23_3 : w6.cell? ⟨gb649, 3, none⟩ = some (.int .u64 a2_3) := bc_ BK649.out 3
     have hfz23_0 := blk_frozen BK649.out 0
     have hfz23_1 := blk_frozen BK649.out 1
     have hfz23_2 := blk_frozen BK649.out 2
     have hfz23_3 := blk_frozen BK649.out 3
     go_wp2
     go_meet
     case rel => exact ⟨_, (false), sm_, H', ⟨by first | omega | exact Nat.le_refl _⟩, ⟨bk_ BK648.out⟩, ⟨bk_ BK649.out⟩, ⟨hb2_ HB.out GE648.out GE649.out⟩⟩
 case rest =>
  clear HC4
  try clear c1
  try clear c2
  try clear p2
  try clear c6
  try clear c7
  try clear c10
  try clear c10b0
  try clear c10b1
  try clear c11
  try clear c13
  try clear c13b0
  try clear c13b1
  try clear c14
  try clear c17
  try clear c17b0
  try clear c17b1
  try clear c18
  try clear c21
  try clear hcz12_0
  try clear hcz12_1
  try clear hcz12_2
  try clear hcz12_3
  try clear hcz15_0
  try clear hcz15_1
  try clear hcz15_2
  try clear hcz15_3
  try clear hcz16_0
  try clear hcz16_1
  try clear hcz16_2
  try clear hcz16_3
  try clear hcz19_0
  try clear hcz19_1
  try clear hcz19_2
  try clear hcz19_3
  try clear hcz20_0
  try clear hcz20_1
  try clear hcz20_2
  try clear hcz20_3
  try clear hcz22_0
  try clear hcz22_1
  try clear hcz22_2
  try clear hcz22_3
  try clear hcz23_0
  try clear hcz23_1
  try clear hcz23_2
  try clear hcz23_3
  try clear hcz8_0
  try clear hcz8_1
  try clear hcz8_2
  try clear hcz8_3
  try clear hcz9_0
  try clear hcz9_1
  try clear hcz9_2
  try clear hcz9_3
  try clear hfz12_0
  try clear hfz12_1
  try clear hfz12_2
  try clear hfz12_3
  try clear hfz15_0
  try clear hfz15_1
  try clear hfz15_2
  try clear hfz15_3
  try clear hfz16_0
  try clear hfz16_1
  try clear hfz16_2
  try clear hfz16_3
  try clear hfz19_0
  try clear hfz19_1
  try clear hfz19_2
  try clear hfz19_3
  try clear hfz20_0
  try clear hfz20_1
  try clear hfz20_2
  try clear hfz20_3
  try clear hfz22_0
  try clear hfz22_1
  try clear hfz22_2
  try clear hfz22_3
  try clear hfz23_0
  try clear hfz23_1
  try clear hfz23_2
  try clear hfz23_3
  try clear hfz8_0
  try clear hfz8_1
  try clear hfz8_2
  try clear hfz8_3
  try clear hfz9_0
  try clear hfz9_1
  try clear hfz9_2
  try clear hfz9_3
  obtain ⟨kq, x13_3, rfl, HA, HJ3, BK648, BK649, HB⟩ := hcut
  cases kq with
  | zero => exact absurd HA.out (by simp [quotient_parts.j0])
  | succ kj3 =>
   have H := HA.out
   clear HA
   simp only [quotient_parts.j0] at H
   by_cases c24 : x13_3 = true
   ·subst c24
    have H1 : ((shape_Nan.f a0).bind fun t650 => (some t650)) = some r := by rw [if_pos rfl] at H; exact H
    clear H;have H := H1;clear H1
    replace H := ob_ H
    obtain ⟨t650, A250, H⟩ := H
    replace H : (some t650) = some r := H
    have A25 := A_ A250;clear A250
    obtain rfl := Option.some.inj H
    go_wp2_with (first | ((with_reducible refine gate_callee (f := 34) rfl ?_); refine gl_ (some 35) Try.func34 #[.int .i64 a0] ?_; (with_reducible refine (shape_Nan.calls a0 t650 _ A25.out).mono ?_); rintro e w26 ⟨rfl, hb⟩; refine ⟨_, rfl, ?_⟩; have n0_ := A_ (bb_ BK648.out hb); have n1_ := A_ (bb_ BK649.out hb); have n2_ := A_ (below_step (hb2_ HB.out GE648.out GE649.out) hb); clear BK648; clear BK649; clear HB; have BK648 := n0_; have BK649 := n1_; have HB := n2_; clear n0_ n1_ n2_; (try clear hb); (try clear hb2); (try clear hk); (try clear hi)))
    go_ret
    exact ⟨er_, hb2_ HB.out GE648.out GE649.out⟩
   ·replace c24 := Bool.eq_false_iff.mpr c24
    subst c24
    have H1 : (if a1_1 = 2 then (quotient_parts.j1 kj3 a0 (a1_0 != a2_0) true a1_0 a1_1 a1_2 a1_3 a2_0 a2_1 a2_2 a2_3) else (quotient_parts.j1 kj3 a0 (a1_0 != a2_0) (a2_1 == 0) a1_0 a1_1 a1_2 a1_3 a2_0 a2_1 a2_2 a2_3)) = some r := by rw [if_neg (show ¬ (false = true) by decide)] at H; exact H
    clear H;have H := H1;clear H1;have HC27 := A_ H;clear H
    go_upto_region 4 with (fail)
    go_cut [36] (fun v36 wc => ∃ (kq : Nat) (x36_26 : Bool), v36 = .bool x36_26 ∧ Aside0 (quotient_parts.j1 kq a0 (a1_0 != a2_0) x36_26 a1_0 a1_1 a1_2 a1_3 a2_0 a2_1 a2_2 a2_3 = some r) ∧ Aside0 (kq ≤ kj3) ∧ Aside0 (wc.heap[gb648]? = some (.cells #[.bool a1_0, .int .i64 a1_1, .int .i64 a1_2, .int .u64 a1_3] 38 (0, 0))) ∧ Aside0 (wc.heap[gb649]? = some (.cells #[.bool a2_0, .int .i64 a2_1, .int .i64 a2_2, .int .u64 a2_3] 38 (0, 0))) ∧ Aside0 (Below w.heap.size w wc))
    case first =>
     have H := HC27.out
     clear HC27
     by_cases c28 : a1_1 = 2
     ·rw [if_pos c28] at H
      have c28b0 : (a1_1 == 2) = true := beq_iff_eq.mpr c28
      have c28b1 : (a1_1 != 2) = false := bne_eq_false_iff_eq.mpr c28
      clear c28
      (first | rw [c28b0] | (simp only [i64_w, i32_w]; rw [c28b0]) | skip)
      have H' := A_ H
      clear H
      have hnb29 := NB648_649.out
      have hnc29 := NB649_648.out
      have hcz30_0 : wc.cell? ⟨gb648, 0, none⟩ = some (.bool a1_0) := bc_ BK648.out 0
      have hcz30_1 : wc.cell? ⟨gb648, 1, none⟩ = some (.int .i64 a1_1) := bc_ BK648.out 1
      have hcz30_2 : wc.cell? ⟨gb648, 2, none⟩ = some (.int .i64 a1_2) := bc_ BK648.out 2
      have hcz30_3 : wc.cell? ⟨gb648, 3, none⟩ = some (.int .u64 a1_3) := bc_ BK648.out 3
      have hfz30_0 := blk_frozen BK648.out 0
      have hfz30_1 := blk_frozen BK648.out 1
      have hfz30_2 := blk_frozen BK648.out 2
      have hfz30_3 := blk_frozen BK648.out 3
      go_wp2
      go_meet
      case rel => exact ⟨_, (true), sm_, H', ⟨by have := HJ3.out; first | omega | exact Nat.le_refl _⟩, ⟨bk_ BK648.out⟩, ⟨bk_ BK649.out⟩, ⟨hb2_ HB.out GE648.out GE649.out⟩⟩
     ·rw [if_neg c28] at H
      have c28b0 : (a1_1 == 2) = false := beq_eq_false_iff_ne.mpr c28
      have c28b1 : (a1_1 != 2) = true := bne_iff_ne.mpr c28
      (first | rw [c28b0] | (simp only [i64_w, i32_w]; rw [c28b0]) | skip)
      have H' := A_ H
      clear H
      have hnb31 := NB648_649.out
      have hnc31 := NB649_648.out
      have hcz32_0 : wc.cell? ⟨gb648, 0, none⟩ = some (.bool a1_0) := bc_ BK648.out 0
      have hcz32_1 : wc.cell? ⟨gb648, 1, none⟩ = some (.int .i64 a1_1) := bc_ BK648.out 1
      have hcz32_2 : wc.cell? ⟨gb648, 2, none⟩ = some (.int .i64 a1_2) := bc_ BK648.out 2
      have hcz32_3 : wc.cell? ⟨gb648, 3, none⟩ = some (.int .u64 a1_3) := bc_ BK648.out 3
      have hfz32_0 := blk_frozen BK648.out 0
      have hfz32_1 := blk_frozen BK648.out 1
      have hfz32_2 := blk_frozen BK648.out 2
      have hfz32_3 := blk_frozen BK648.out 3
      have hcz33_0 : wc.cell? ⟨gb649, 0, none⟩ = some (.bool a2_0) := bc_ BK649.out 0
      have hcz33_1 : wc.cell? ⟨gb649, 1, none⟩ = some (.int .i64 a2_1) := bc_ BK649.out 1
      have hcz33_2 : wc.cell? ⟨gb649, 2, none⟩ = some (.int .i64 a2_2) := bc_ BK649.out 2
      have hcz33_3 : wc.cell? ⟨gb649, 3, none⟩ = some (.int .u64 a2_3) := bc_ BK649.out 3
      have hfz33_0 := blk_frozen BK649.out 0
      have hfz33_1 := blk_frozen BK649.out 1
      have hfz33_2 := blk_frozen BK649.out 2
      have hfz33_3 := blk_frozen BK649.out 3
      go_wp2
      go_meet
      case rel => exact ⟨_, ((a2_1 == 0)), sm_, H', ⟨by have := HJ3.out; first | omega | exact Nat.le_refl _⟩, ⟨bk_ BK648.out⟩, ⟨bk_ BK649.out⟩, ⟨hb2_ HB.out GE648.out GE649.out⟩⟩
    case rest =>
     clear HC27
     try clear c1
     try clear c2
     try clear p2
     try clear c3
     try clear c6
     try clear c7
     try clear c10
     try clear c10b0
     try clear c10b1
     try clear c11
     try clear c13
     try clear c13b0
     try clear c13b1
     try clear c14
     try clear c17
     try clear c17b0
     try clear c17b1
     try clear c18
     try clear c21
     try clear c24
     try clear c28
     try clear c28b0
     try clear c28b1
     try clear c29
     try clear c31
     try clear hcz12_0
     try clear hcz12_1
     try clear hcz12_2
     try clear hcz12_3
     try clear hcz15_0
     try clear hcz15_1
     try clear hcz15_2
     try clear hcz15_3
     try clear hcz16_0
     try clear hcz16_1
     try clear hcz16_2
     try clear hcz16_3
     try clear hcz19_0
     try clear hcz19_1
     try clear hcz19_2
     try clear hcz19_3
     try clear hcz20_0
     try clear hcz20_1
     try clear hcz20_2
     try clear hcz20_3
     try clear hcz22_0
     try clear hcz22_1
     try clear hcz22_2
     try clear hcz22_3
     try clear hcz23_0
     try clear hcz23_1
     try clear hcz23_2
     try clear hcz23_3
     try clear hcz30_0
     try clear hcz30_1
     try clear hcz30_2
     try clear hcz30_3
     try clear hcz32_0
     try clear hcz32_1
     try clear hcz32_2
     try clear hcz32_3
     try clear hcz33_0
     try clear hcz33_1
     try clear hcz33_2
     try clear hcz33_3
     try clear hcz8_0
     try clear hcz8_1
     try clear hcz8_2
     try clear hcz8_3
     try clear hcz9_0
     try clear hcz9_1
     try clear hcz9_2
     try clear hcz9_3
     try clear hfz12_0
     try clear hfz12_1
     try clear hfz12_2
     try clear hfz12_3
     try clear hfz15_0
     try clear hfz15_1
     try clear hfz15_2
     try clear hfz15_3
     try clear hfz16_0
     try clear hfz16_1
     try clear hfz16_2
     try clear hfz16_3
     try clear hfz19_0
     try clear hfz19_1
     try clear hfz19_2
     try clear hfz19_3
     try clear hfz20_0
     try clear hfz20_1
     try clear hfz20_2
     try clear hfz20_3
     try clear hfz22_0
     try clear hfz22_1
     try clear hfz22_2
     try clear hfz22_3
     try clear hfz23_0
     try clear hfz23_1
     try clear hfz23_2
     try clear hfz23_3
     try clear hfz30_0
     try clear hfz30_1
     try clear hfz30_2
     try clear hfz30_3
     try clear hfz32_0
     try clear hfz32_1
     try clear hfz32_2
     try clear hfz32_3
     try clear hfz33_0
     try clear hfz33_1
     try clear hfz33_2
     try clear hfz33_3
     try clear hfz8_0
     try clear hfz8_1
     try clear hfz8_2
     try clear hfz8_3
     try clear hfz9_0
     try clear hfz9_1
     try clear hfz9_2
     try clear hfz9_3
     try clear p2
     obtain ⟨kq, x36_26, rfl, HA, HJ26, BK648, BK649, HB⟩ := hcut
     cases kq with
     | zero => exact absurd HA.out (by simp [quotient_parts.j1])
     | succ kj26 =>
      have H := HA.out
      clear HA
      simp only [quotient_parts.j1] at H
      by_cases c34 : x36_26 = true
      ·subst c34
       have H1 : ((shape_Inf.f a0 (a1_0 != a2_0)).bind fun t651 => (some t651)) = some r := by rw [if_pos rfl] at H; exact H
       clear H;have H := H1;clear H1
       replace H := ob_ H
       obtain ⟨t651, A350, H⟩ := H
       replace H : (some t651) = some r := H
       have A35 := A_ A350;clear A350
       obtain rfl := Option.some.inj H
       go_wp2_with (first | ((with_reducible refine gate_callee (f := 42) rfl ?_); refine gl_ (some 47) Try.func42 #[.int .i64 a0, .bool (a1_0 != a2_0)] ?_; (with_reducible refine (shape_Inf.calls a0 (a1_0 != a2_0) t651 _ A35.out).mono ?_); rintro e w36 ⟨rfl, hb⟩; refine ⟨_, rfl, ?_⟩; have n0_ := A_ (bb_ BK648.out hb); have n1_ := A_ (bb_ BK649.out hb); have n2_ := A_ (below_step (hb2_ HB.out GE648.out GE649.out) hb); clear BK648; clear BK649; clear HB; have BK648 := n0_; have BK649 := n1_; have HB := n2_; clear n0_ n1_ n2_; (try clear hb); (try clear hb2); (try clear hk); (try clear hi)))
       go_ret
       exact ⟨er_, hb2_ HB.out GE648.out GE649.out⟩
      ·replace c34 := Bool.eq_false_iff.mpr c34
       subst c34
       have H1 : (if a1_1 = 0 then (quotient_parts.j2 kj26 a0 (a1_0 != a2_0) true a1_0 a1_1 a1_2 a1_3 a2_0 a2_1 a2_2 a2_3) else (quotient_parts.j2 kj26 a0 (a1_0 != a2_0) (a2_1 == 2) a1_0 a1_1 a1_2 a1_3 a2_0 a2_1 a2_2 a2_3)) = some r := by rw [if_neg (show ¬ (false = true) by decide)] at H; exact H
       clear H;have H := H1;clear H1;have HC37 := A_ H;clear H
       go_upto_region 6 with (fail)
       go_cut [48] (fun v48 wc => ∃ (kq : Nat) (x48_36 : Bool), v48 = .bool x48_36 ∧ Aside0 (quotient_parts.j2 kq a0 (a1_0 != a2_0) x48_36 a1_0 a1_1 a1_2 a1_3 a2_0 a2_1 a2_2 a2_3 = some r) ∧ Aside0 (kq ≤ kj26) ∧ Aside0 (wc.heap[gb648]? = some (.cells #[.bool a1_0, .int .i64 a1_1, .int .i64 a1_2, .int .u64 a1_3] 38 (0, 0))) ∧ Aside0 (wc.heap[gb649]? = some (.cells #[.bool a2_0, .int .i64 a2_1, .int .i64 a2_2, .int .u64 a2_3] 38 (0, 0))) ∧ Aside0 (Below w.heap.size w wc))
       case first =>
        have H := HC37.out
        clear HC37
        by_cases c38 : a1_1 = 0
        ·rw [if_pos c38] at H
         have c38b0 : (a1_1 == 0) = true := beq_iff_eq.mpr c38
         have c38b1 : (a1_1 != 0) = false := bne_eq_false_iff_eq.mpr c38
         clear c38
         (first | rw [c38b0] | (simp only [i64_w, i32_w]; rw [c38b0]) | skip)
         have H' := A_ H
         clear H
         have hnb39 := NB648_649.out
         have hnc39 := NB649_648.out
         have hcz40_0 : wc.cell? ⟨gb648, 0, none⟩ = some (.bool a1_0) := bc_ BK648.out 0
         have hcz40_1 : wc.cell? ⟨gb648, 1, none⟩ = some (.int .i64 a1_1) := bc_ BK648.out 1
         have hcz40_2 : wc.cell? ⟨gb648, 2, none⟩ = some (.int .i64 a1_2) := bc_ BK648.out 2
         have hcz40_3 : wc.cell? ⟨gb648, 3, none⟩ = some (.int .u64 a1_3) := bc_ BK648.out 3
         have hfz40_0 := blk_frozen BK648.out 0
         have hfz40_1 := blk_frozen BK648.out 1
         have hfz40_2 := blk_frozen BK648.out 2
         have hfz40_3 := blk_frozen BK648.out 3
         go_wp2
         go_meet
         case rel => exact ⟨_, (true), sm_, H', ⟨by have := HJ3.out; have := HJ26.out; first | omega | exact Nat.le_refl _⟩, ⟨bk_ BK648.out⟩, ⟨bk_ BK649.out⟩, ⟨hb2_ HB.out GE648.out GE649.out⟩⟩
        ·rw [if_neg c38] at H
         have c38b0 : (a1_1 == 0) = false := beq_eq_false_iff_ne.mpr c38
         have c38b1 : (a1_1 != 0) = true := bne_iff_ne.mpr c38
         (first | rw [c38b0] | (simp only [i64_w, i32_w]; rw [c38b0]) | skip)
         have H' := A_ H
         clear H
         have hnb41 := NB648_649.out
         have hnc41 := NB649_648.out
         have hcz42_0 : wc.cell? ⟨gb648, 0, none⟩ = some (.bool a1_0) := bc_ BK648.out 0
         have hcz42_1 : wc.cell? ⟨gb648, 1, none⟩ = some (.int .i64 a1_1) := bc_ BK648.out 1
         have hcz42_2 : wc.cell? ⟨gb648, 2, none⟩ = some (.int .i64 a1_2) := bc_ BK648.out 2
         have hcz42_3 : wc.cell? ⟨gb648, 3, none⟩ = some (.int .u64 a1_3) := bc_ BK648.out 3
         have hfz42_0 := blk_frozen BK648.out 0
         have hfz42_1 := blk_frozen BK648.out 1
         have hfz42_2 := blk_frozen BK648.out 2
         have hfz42_3 := blk_frozen BK648.out 3
         have hcz43_0 : wc.cell? ⟨gb649, 0, none⟩ = some (.bool a2_0) := bc_ BK649.out 0
         have hcz43_1 : wc.cell? ⟨gb649, 1, none⟩ = some (.int .i64 a2_1) := bc_ BK649.out 1
         have hcz43_2 : wc.cell? ⟨gb649, 2, none⟩ = some (.int .i64 a2_2) := bc_ BK649.out 2
         have hcz43_3 : wc.cell? ⟨gb649, 3, none⟩ = some (.int .u64 a2_3) := bc_ BK649.out 3
         have hfz43_0 := blk_frozen BK649.out 0
         have hfz43_1 := blk_frozen BK649.out 1
         have hfz43_2 := blk_frozen BK649.out 2
         have hfz43_3 := blk_frozen BK649.out 3
         go_wp2
         go_meet
         case rel => exact ⟨_, ((a2_1 == 2)), sm_, H', ⟨by have := HJ3.out; have := HJ26.out; first | omega | exact Nat.le_refl _⟩, ⟨bk_ BK648.out⟩, ⟨bk_ BK649.out⟩, ⟨hb2_ HB.out GE648.out GE649.out⟩⟩
       case rest =>
        clear HC37
        try clear c1
        try clear c2
        try clear p2
        try clear c3
        try clear c4
        try clear c6
        try clear c7
        try clear c10
        try clear c10b0
        try clear c10b1
        try clear c11
        try clear c13
        try clear c13b0
        try clear c13b1
        try clear c14
        try clear c17
        try clear c17b0
        try clear c17b1
        try clear c18
        try clear c21
        try clear c24
        try clear c28
        try clear c28b0
        try clear c28b1
        try clear c29
        try clear c31
        try clear c34
        try clear c38
        try clear c38b0
        try clear c38b1
        try clear c39
        try clear c41
        try clear c42
        try clear hcz12_0
        try clear hcz12_1
        try clear hcz12_2
        try clear hcz12_3
        try clear hcz15_0
        try clear hcz15_1
        try clear hcz15_2
        try clear hcz15_3
        try clear hcz16_0
        try clear hcz16_1
        try clear hcz16_2
        try clear hcz16_3
        try clear hcz19_0
        try clear hcz19_1
        try clear hcz19_2
        try clear hcz19_3
        try clear hcz20_0
        try clear hcz20_1
        try clear hcz20_2
        try clear hcz20_3
        try clear hcz22_0
        try clear hcz22_1
        try clear hcz22_2
        try clear hcz22_3
        try clear hcz23_0
        try clear hcz23_1
        try clear hcz23_2
        try clear hcz23_3
        try clear hcz30_0
        try clear hcz30_1
        try clear hcz30_2
        try clear hcz30_3
        try clear hcz32_0
        try clear hcz32_1
        try clear hcz32_2
        try clear hcz32_3
        try clear hcz33_0
        try clear hcz33_1
        try clear hcz33_2
        try clear hcz33_3
        try clear hcz40_0
        try clear hcz40_1
        try clear hcz40_2
        try clear hcz40_3
        try clear hcz42_0
        try clear hcz42_1
        try clear hcz42_2
        try clear hcz42_3
        try clear hcz43_0
        try clear hcz43_1
        try clear hcz43_2
        try clear hcz43_3
        try clear hcz8_0
        try clear hcz8_1
        try clear hcz8_2
        try clear hcz8_3
        try clear hcz9_0
        try clear hcz9_1
        try clear hcz9_2
        try clear hcz9_3
        try clear hfz12_0
        try clear hfz12_1
        try clear hfz12_2
        try clear hfz12_3
        try clear hfz15_0
        try clear hfz15_1
        try clear hfz15_2
        try clear hfz15_3
        try clear hfz16_0
        try clear hfz16_1
        try clear hfz16_2
        try clear hfz16_3
        try clear hfz19_0
        try clear hfz19_1
        try clear hfz19_2
        try clear hfz19_3
        try clear hfz20_0
        try clear hfz20_1
        try clear hfz20_2
        try clear hfz20_3
        try clear hfz22_0
        try clear hfz22_1
        try clear hfz22_2
        try clear hfz22_3
        try clear hfz23_0
        try clear hfz23_1
        try clear hfz23_2
        try clear hfz23_3
        try clear hfz30_0
        try clear hfz30_1
        try clear hfz30_2
        try clear hfz30_3
        try clear hfz32_0
        try clear hfz32_1
        try clear hfz32_2
        try clear hfz32_3
        try clear hfz33_0
        try clear hfz33_1
        try clear hfz33_2
        try clear hfz33_3
        try clear hfz40_0
        try clear hfz40_1
        try clear hfz40_2
        try clear hfz40_3
        try clear hfz42_0
        try clear hfz42_1
        try clear hfz42_2
        try clear hfz42_3
        try clear hfz43_0
        try clear hfz43_1
        try clear hfz43_2
        try clear hfz43_3
        try clear hfz8_0
        try clear hfz8_1
        try clear hfz8_2
        try clear hfz8_3
        try clear hfz9_0
        try clear hfz9_1
        try clear hfz9_2
        try clear hfz9_3
        try clear p2
        obtain ⟨kq, x48_36, rfl, HA, HJ36, BK648, BK649, HB⟩ := hcut
        cases kq with
        | zero => exact absurd HA.out (by simp [quotient_parts.j2])
        | succ kj36 =>
         have H := HA.out
         clear HA
         simp only [quotient_parts.j2] at H
         by_cases c44 : x48_36 = true
         ·subst c44
          have H1 : ((shape_Zero.f a0 (a1_0 != a2_0)).bind fun t652 => (some t652)) = some r := by rw [if_pos rfl] at H; exact H
          clear H;have H := H1;clear H1
          replace H := ob_ H
          obtain ⟨t652, A450, H⟩ := H
          replace H : (some t652) = some r := H
          have A45 := A_ A450;clear A450
          obtain rfl := Option.some.inj H
          go_wp2_with (first | ((with_reducible refine gate_callee (f := 30) rfl ?_); refine gl_ (some 59) Try.func30 #[.int .i64 a0, .bool (a1_0 != a2_0)] ?_; (with_reducible refine (shape_Zero.calls a0 (a1_0 != a2_0) t652 _ A45.out).mono ?_); rintro e w46 ⟨rfl, hb⟩; refine ⟨_, rfl, ?_⟩; have n0_ := A_ (bb_ BK648.out hb); have n1_ := A_ (bb_ BK649.out hb); have n2_ := A_ (below_step (hb2_ HB.out GE648.out GE649.out) hb); clear BK648; clear BK649; clear HB; have BK648 := n0_; have BK649 := n1_; have HB := n2_; clear n0_ n1_ n2_; (try clear hb); (try clear hb2); (try clear hk); (try clear hi)))
          go_ret
          exact ⟨er_, hb2_ HB.out GE648.out GE649.out⟩
         ·replace c44 := Bool.eq_false_iff.mpr c44
          subst c44
          have H1 : ((quotient_fraction_value.f kj36 a1_0 a1_1 a1_2 a1_3 a2_0 a2_1 a2_2 a2_3 a0).bind fun t653 => (some t653)) = some r := by rw [if_neg (show ¬ (false = true) by decide)] at H; exact H
          clear H;have H := H1;clear H1
          replace H := ob_ H
          obtain ⟨t653, A470, H⟩ := H
          replace H : (some t653) = some r := H
          have A47 := A_ A470;clear A470
          obtain rfl := Option.some.inj H
          have hnb48 := NB648_649.out
          have hnc48 := NB649_648.out
          have hcz49_0 : wc.cell? ⟨gb648, 0, none⟩ = some (.bool a1_0) := bc_ BK648.out 0
          have hcz49_1 : wc.cell? ⟨gb648, 1, none⟩ = some (.int .i64 a1_1) := bc_ BK648.out 1
          have hcz49_2 : wc.cell? ⟨gb648, 2, none⟩ = some (.int .i64 a1_2) := bc_ BK648.out 2
          have hcz49_3 : wc.cell? ⟨gb648, 3, none⟩ = some (.int .u64 a1_3) := bc_ BK648.out 3
          have hfz49_0 := blk_frozen BK648.out 0
          have hfz49_1 := blk_frozen BK648.out 1
          have hfz49_2 := blk_frozen BK648.out 2
          have hfz49_3 := blk_frozen BK648.out 3
          have hcz50_0 : wc.cell? ⟨gb649, 0, none⟩ = some (.bool a2_0) := bc_ BK649.out 0
          have hcz50_1 : wc.cell? ⟨gb649, 1, none⟩ = some (.int .i64 a2_1) := bc_ BK649.out 1
          have hcz50_2 : wc.cell? ⟨gb649, 2, none⟩ = some (.int .i64 a2_2) := bc_ BK649.out 2
          have hcz50_3 : wc.cell? ⟨gb649, 3, none⟩ = some (.int .u64 a2_3) := bc_ BK649.out 3
          have hfz50_0 := blk_frozen BK649.out 0
          have hfz50_1 := blk_frozen BK649.out 1
          have hfz50_2 := blk_frozen BK649.out 2
          have hfz50_3 := blk_frozen BK649.out 3
          go_wp2_with (first | ((with_reducible refine gate_callee (f := 95) rfl ?_); refine gl_ (some 66) Try.func95 #[.agg #[.bool a1_0, .int .i64 a1_1, .int .i64 a1_2, .int .u64 a1_3, .bool a2_0, .int .i64 a2_1, .int .i64 a2_2, .int .u64 a2_3], .int .i64 a0] ?_; (with_reducible refine (quotient_fraction_value.calls kj36 a1_0 a1_1 a1_2 a1_3 a2_0 a2_1 a2_2 a2_3 a0 t653 _ A47.out).mono ?_); rintro e w51 ⟨rfl, hb⟩; refine ⟨_, rfl, ?_⟩; have n0_ := A_ (bb_ BK648.out hb); have n1_ := A_ (bb_ BK649.out hb); have n2_ := A_ (below_step (hb2_ HB.out GE648.out GE649.out) hb); clear BK648; clear BK649; clear HB; have BK648 := n0_; have BK649 := n1_; have HB := n2_; clear n0_ n1_ n2_; (try clear hb); (try clear hb2); (try clear hk); (try clear hi)))
          go_ret
          exact ⟨er_, hb2_ HB.out GE648.out GE649.out⟩
def quotient_Div.j0 : Nat → Int → Int → Int → Bool → Option (Int)
 | 0, _, _, _, _ => none
 | k + 1, x0, x1, x2, x12 => if x12 = true then (some 0) else ((shape_Open.f k x0 x1).bind fun bt654 => ((shape_Open.f k x0 x2).bind fun bt658 => ((quotient_parts.f k x0 bt654.1 bt654.2.1 bt654.2.2.1 bt654.2.2.2 bt658.1 bt658.2.1 bt658.2.2.1 bt658.2.2.2).bind fun t662 => (some t662))))
def quotient_Div.f (k : Nat) (a0 : Int) (a1 : Int) (a2 : Int) : Option (Int) := if a0 = 32 then (quotient_Div.j0 k a0 a1 a2 false) else (quotient_Div.j0 k a0 a1 a2 (a0 != 64))
theorem quotient_Div.mono_l : ∀ k, (∀ y0 y1 y2 y3, LeO (quotient_Div.j0 k y0 y1 y2 y3) (quotient_Div.j0 (k + 1) y0 y1 y2 y3))
 | 0 => fun _ _ _ _ r h => by simp [quotient_Div.j0] at h
 | k + 1 => by
  have ih0 := quotient_Div.mono_l k
  ·intro y0 y1 y2 y3
   unfold quotient_Div.j0
   repeat' first
   | (with_reducible exact ih0 _ _ _ _)
   | (with_reducible exact quotient_parts.mono _ _ _ _ _ _ _ _ _ _)
   | (with_reducible exact shape_Open.mono _ _ _)
   | (with_reducible exact LeO.refl _)
   | (with_reducible exact LeO.none _)
   | (with_reducible refine LeO.ite ?_ ?_)
   | (with_reducible refine LeO.bind ?_ (fun _ => ?_))
   | exact ih0 _ _ _ _
   | exact quotient_parts.mono _ _ _ _ _ _ _ _ _ _
   | exact shape_Open.mono _ _ _
   | exact LeO.none _
   | refine LeO.ite ?_ ?_
   | refine LeO.bind ?_ (fun _ => ?_)
theorem quotient_Div.mono : ∀ a0 a1 a2 k, LeO (quotient_Div.f k a0 a1 a2) (quotient_Div.f (k + 1) a0 a1 a2) := by
 intro a0 a1 a2 k
 have ih0 := quotient_Div.mono_l k
 unfold quotient_Div.f
 repeat' first
   | (with_reducible exact ih0 _ _ _ _)
   | (with_reducible exact quotient_parts.mono _ _ _ _ _ _ _ _ _ _)
   | (with_reducible exact shape_Open.mono _ _ _)
   | (with_reducible exact LeO.refl _)
   | (with_reducible exact LeO.none _)
   | (with_reducible refine LeO.ite ?_ ?_)
   | (with_reducible refine LeO.bind ?_ (fun _ => ?_))
   | exact ih0 _ _ _ _
   | exact quotient_parts.mono _ _ _ _ _ _ _ _ _ _
   | exact shape_Open.mono _ _ _
   | exact LeO.none _
   | refine LeO.ite ?_ ?_
   | refine LeO.bind ?_ (fun _ => ?_)
theorem quotient_Div.calls (k : Nat) (a0 : Int) (a1 : Int) (a2 : Int) (r : Int) (w : World) (h : quotient_Div.f k a0 a1 a2 = some r) :
  Calls Try.prog 27 #[.int .i64 a0, .int .u64 a1, .int .u64 a2] w fun e w' => e = .returned (.int .u64 r) ∧ Below w.heap.size w w' := by
 have HB := A_ (Below.refl w.heap.size w)
 have H : (if a0 = 32 then (quotient_Div.j0 k a0 a1 a2 false) else (quotient_Div.j0 k a0 a1 a2 (a0 != 64))) = some r := h
 clear h;have HC4 := A_ H;clear H
 go_enter Try.func27, Try.ntmps27
 go_upto_region 1 with (fail)
 go_cut [12] (fun v12 wc => ∃ (kq : Nat) (x12_3 : Bool), v12 = .bool x12_3 ∧ Aside0 (quotient_Div.j0 kq a0 a1 a2 x12_3 = some r) ∧ Aside0 (kq ≤ k) ∧ Aside0 (Below w.heap.size w wc))
 case first =>
  have H := HC4.out
  clear HC4
  by_cases c5 : a0 = 32
  ·rw [if_pos c5] at H
   have c5b0 : (a0 == 32) = true := beq_iff_eq.mpr c5
   have c5b1 : (a0 != 32) = false := bne_eq_false_iff_eq.mpr c5
   clear c5
   (first | rw [c5b0] | (simp only [i64_w, i32_w]; rw [c5b0]) | skip)
   have H' := A_ H
   clear H
   go_wp2
   go_meet
   case rel => exact ⟨_, (false), sm_, H', ⟨by first | omega | exact Nat.le_refl _⟩, ⟨hb_ HB.out⟩⟩
  ·rw [if_neg c5] at H
   have c5b0 : (a0 == 32) = false := beq_eq_false_iff_ne.mpr c5
   have c5b1 : (a0 != 32) = true := bne_iff_ne.mpr c5
   (first | rw [c5b0] | (simp only [i64_w, i32_w]; rw [c5b0]) | skip)
   have H' := A_ H
   clear H
   go_wp2
   go_meet
   case rel => exact ⟨_, ((a0 != 64)), sm_, H', ⟨by first | omega | exact Nat.le_refl _⟩, ⟨hb_ HB.out⟩⟩
 case rest =>
  clear HC4
  try clear c2
  try clear p2
  try clear c5
  try clear c5b0
  try clear c5b1
  obtain ⟨kq, x12_3, rfl, HA, HJ3, HB⟩ := hcut
  cases kq with
  | zero => exact absurd HA.out (by simp [quotient_Div.j0])
  | succ kj3 =>
   have H := HA.out
   clear HA
   simp only [quotient_Div.j0] at H
   by_cases c6 : x12_3 = true
   ·subst c6
    have H1 : (some 0) = some r := by rw [if_pos rfl] at H; exact H
    clear H;have H := H1;clear H1
    obtain rfl := Option.some.inj H
    go_wp2
    go_ret
    exact ⟨er_, hb_ HB.out⟩
   ·replace c6 := Bool.eq_false_iff.mpr c6
    subst c6
    have H1 : ((shape_Open.f kj3 a0 a1).bind fun bt654 => ((shape_Open.f kj3 a0 a2).bind fun bt658 => ((quotient_parts.f kj3 a0 bt654.1 bt654.2.1 bt654.2.2.1 bt654.2.2.2 bt658.1 bt658.2.1 bt658.2.2.1 bt658.2.2.2).bind fun t662 => (some t662)))) = some r := by rw [if_neg (show ¬ (false = true) by decide)] at H; exact H
    clear H;have H := H1;clear H1
    replace H := ob_ H
    obtain ⟨⟨t654, t655, t656, t657⟩, A70, H⟩ := H
    replace H : ((shape_Open.f kj3 a0 a2).bind fun bt658 => ((quotient_parts.f kj3 a0 t654 t655 t656 t657 bt658.1 bt658.2.1 bt658.2.2.1 bt658.2.2.2).bind fun t662 => (some t662))) = some r := H
    have A7 := A_ A70;clear A70
    replace H := ob_ H
    obtain ⟨⟨t658, t659, t660, t661⟩, A80, H⟩ := H
    replace H : ((quotient_parts.f kj3 a0 t654 t655 t656 t657 t658 t659 t660 t661).bind fun t662 => (some t662)) = some r := H
    have A8 := A_ A80;clear A80
    replace H := ob_ H
    obtain ⟨t662, A90, H⟩ := H
    replace H : (some t662) = some r := H
    have A9 := A_ A90;clear A90
    obtain rfl := Option.some.inj H
    go_wp2_with (first | ((with_reducible refine gate_callee (f := 31) rfl ?_); refine gl_ (some 16) Try.func31 #[.int .i64 a0, .int .u64 a1] ?_; (with_reducible refine (shape_Open.calls kj3 a0 a1 t654 t655 t656 t657 _ A7.out).mono ?_); rintro e w10 ⟨rfl, hb⟩; refine ⟨_, rfl, ?_⟩; have n0_ := A_ (below_step (hb_ HB.out) hb); clear HB; have HB := n0_; clear n0_; (try clear hb); (try clear hb2); (try clear hk); (try clear hi)) | ((with_reducible refine gate_callee (f := 31) rfl ?_); refine gl_ (some 19) Try.func31 #[.int .i64 a0, .int .u64 a2] ?_; (with_reducible refine (shape_Open.calls kj3 a0 a2 t658 t659 t660 t661 _ A8.out).mono ?_); rintro e w11 ⟨rfl, hb⟩; refine ⟨_, rfl, ?_⟩; have n0_ := A_ (below_step (hb_ HB.out) hb); clear HB; have HB := n0_; clear n0_; (try clear hb); (try clear hb2); (try clear hk); (try clear hi)) | ((with_reducible refine gate_callee (f := 64) rfl ?_); refine gl_ (some 20) Try.func64 #[.int .i64 a0, .agg #[.bool t654, .int .i64 t655, .int .i64 t656, .int .u64 t657], .agg #[.bool t658, .int .i64 t659, .int .i64 t660, .int .u64 t661]] ?_; (with_reducible refine (quotient_parts.calls kj3 a0 t654 t655 t656 t657 t658 t659 t660 t661 t662 _ A9.out).mono ?_); rintro e w12 ⟨rfl, hb⟩; refine ⟨_, rfl, ?_⟩; have n0_ := A_ (below_step (hb_ HB.out) hb); clear HB; have HB := n0_; clear n0_; (try clear hb); (try clear hb2); (try clear hk); (try clear hi)))
    go_ret
    exact ⟨er_, hb_ HB.out⟩
def round_Whole.f (a0 : Int) (a1 : Bool) (a2 : Int) : Option (Int) := if a1 = true then ((wide_Of.f a2).bind fun bt221 => ((round_Pack.f a0 (decide (a2 > 0)) bt221.1 bt221.2 0 false).bind fun t223 => (some t223))) else ((wide_Of.f a2).bind fun bt224 => ((round_Pack.f a0 false bt224.1 bt224.2 0 false).bind fun t226 => (some t226)))
theorem round_Whole.calls (a0 : Int) (a1 : Bool) (a2 : Int) (r : Int) (w : World) (h : round_Whole.f a0 a1 a2 = some r) :
  Calls Try.prog 65 #[.int .i64 a0, .bool a1, .int .u64 a2] w fun e w' => e = .returned (.int .u64 r) ∧ Below w.heap.size w w' := by
 have HB := A_ (Below.refl w.heap.size w)
 have H : (if a1 = true then ((wide_Of.f a2).bind fun bt221 => ((round_Pack.f a0 (decide (a2 > 0)) bt221.1 bt221.2 0 false).bind fun t223 => (some t223))) else ((wide_Of.f a2).bind fun bt224 => ((round_Pack.f a0 false bt224.1 bt224.2 0 false).bind fun t226 => (some t226)))) = some r := h
 clear h
 by_cases c4 : a1 = true
 ·subst c4
  have H1 : ((wide_Of.f a2).bind fun bt221 => ((round_Pack.f a0 (decide (a2 > 0)) bt221.1 bt221.2 0 false).bind fun t223 => (some t223))) = some r := by rw [if_pos rfl] at H; exact H
  clear H;have H := H1;clear H1
  replace H := ob_ H
  obtain ⟨⟨t221, t222⟩, A50, H⟩ := H
  replace H : ((round_Pack.f a0 (decide (a2 > 0)) t221 t222 0 false).bind fun t223 => (some t223)) = some r := H
  have A5 := A_ A50;clear A50
  replace H := ob_ H
  obtain ⟨t223, A60, H⟩ := H
  replace H : (some t223) = some r := H
  have A6 := A_ A60;clear A60
  obtain rfl := Option.some.inj H
  go_enter Try.func65, Try.ntmps65
  go_wp2_with (first | ((with_reducible refine gate_callee (f := 39) rfl ?_); refine gl_ (some 14) Try.func39 #[.int .u64 a2] ?_; (with_reducible refine (wide_Of.calls a2 t221 t222 _ A5.out).mono ?_); rintro e w7 ⟨rfl, hb⟩; refine ⟨_, rfl, ?_⟩; have n0_ := A_ (below_step (hb_ HB.out) hb); clear HB; have HB := n0_; clear n0_; (try clear hb); (try clear hb2); (try clear hk); (try clear hi)) | ((with_reducible refine gate_callee (f := 36) rfl ?_); refine gl_ (some 15) Try.func36 #[.int .i64 a0, .bool (decide (a2 > 0)), .agg #[.int .u64 t221, .int .u64 t222], .int .i64 0, .bool false] ?_; (with_reducible refine (round_Pack.calls a0 (decide (a2 > 0)) t221 t222 0 false t223 _ A6.out).mono ?_); rintro e w8 ⟨rfl, hb⟩; refine ⟨_, rfl, ?_⟩; have n0_ := A_ (below_step (hb_ HB.out) hb); clear HB; have HB := n0_; clear n0_; (try clear hb); (try clear hb2); (try clear hk); (try clear hi)))
  go_ret
  exact ⟨er_, hb_ HB.out⟩
 ·replace c4 := Bool.eq_false_iff.mpr c4
  subst c4
  have H1 : ((wide_Of.f a2).bind fun bt224 => ((round_Pack.f a0 false bt224.1 bt224.2 0 false).bind fun t226 => (some t226))) = some r := by rw [if_neg (show ¬ (false = true) by decide)] at H; exact H
  clear H;have H := H1;clear H1
  replace H := ob_ H
  obtain ⟨⟨t224, t225⟩, A90, H⟩ := H
  replace H : ((round_Pack.f a0 false t224 t225 0 false).bind fun t226 => (some t226)) = some r := H
  have A9 := A_ A90;clear A90
  replace H := ob_ H
  obtain ⟨t226, A100, H⟩ := H
  replace H : (some t226) = some r := H
  have A10 := A_ A100;clear A100
  obtain rfl := Option.some.inj H
  go_enter Try.func65, Try.ntmps65
  go_wp2_with (first | ((with_reducible refine gate_callee (f := 39) rfl ?_); refine gl_ (some 14) Try.func39 #[.int .u64 a2] ?_; (with_reducible refine (wide_Of.calls a2 t224 t225 _ A9.out).mono ?_); rintro e w11 ⟨rfl, hb⟩; refine ⟨_, rfl, ?_⟩; have n0_ := A_ (below_step (hb_ HB.out) hb); clear HB; have HB := n0_; clear n0_; (try clear hb); (try clear hb2); (try clear hk); (try clear hi)) | ((with_reducible refine gate_callee (f := 36) rfl ?_); refine gl_ (some 15) Try.func36 #[.int .i64 a0, .bool false, .agg #[.int .u64 t224, .int .u64 t225], .int .i64 0, .bool false] ?_; (with_reducible refine (round_Pack.calls a0 false t224 t225 0 false t226 _ A10.out).mono ?_); rintro e w12 ⟨rfl, hb⟩; refine ⟨_, rfl, ?_⟩; have n0_ := A_ (below_step (hb_ HB.out) hb); clear HB; have HB := n0_; clear n0_; (try clear hb); (try clear hb2); (try clear hk); (try clear hi)))
  go_ret
  exact ⟨er_, hb_ HB.out⟩
def quotient_Inverse.f (k : Nat) (a0 : Int) (a1 : Int) : Option (Int) := (round_Whole.f a0 false 1).bind fun t663 => ((quotient_Div.f k a0 t663 a1).bind fun t664 => (some t664))
theorem quotient_Inverse.mono : ∀ a0 a1 k, LeO (quotient_Inverse.f k a0 a1) (quotient_Inverse.f (k + 1) a0 a1) := by
 intro a0 a1 k
 unfold quotient_Inverse.f
 repeat' first
   | (with_reducible exact quotient_Div.mono _ _ _ _)
   | (with_reducible exact LeO.refl _)
   | (with_reducible exact LeO.none _)
   | (with_reducible refine LeO.ite ?_ ?_)
   | (with_reducible refine LeO.bind ?_ (fun _ => ?_))
   | exact quotient_Div.mono _ _ _ _
   | exact LeO.none _
   | refine LeO.ite ?_ ?_
   | refine LeO.bind ?_ (fun _ => ?_)
theorem quotient_Inverse.calls (k : Nat) (a0 : Int) (a1 : Int) (r : Int) (w : World) (h : quotient_Inverse.f k a0 a1 = some r) :
  Calls Try.prog 28 #[.int .i64 a0, .int .u64 a1] w fun e w' => e = .returned (.int .u64 r) ∧ Below w.heap.size w w' := by
 have HB := A_ (Below.refl w.heap.size w)
 have H : ((round_Whole.f a0 false 1).bind fun t663 => ((quotient_Div.f k a0 t663 a1).bind fun t664 => (some t664))) = some r := h
 clear h
 replace H := ob_ H
 obtain ⟨t663, A30, H⟩ := H
 replace H : ((quotient_Div.f k a0 t663 a1).bind fun t664 => (some t664)) = some r := H
 have A3 := A_ A30;clear A30
 replace H := ob_ H
 obtain ⟨t664, A40, H⟩ := H
 replace H : (some t664) = some r := H
 have A4 := A_ A40;clear A40
 obtain rfl := Option.some.inj H
 go_enter Try.func28, Try.ntmps28
 go_wp2_with (first | ((with_reducible refine gate_callee (f := 65) rfl ?_); refine gl_ (some 7) Try.func65 #[.int .i64 a0, .bool false, .int .u64 1] ?_; (with_reducible refine (round_Whole.calls a0 false 1 t663 _ A3.out).mono ?_); rintro e w5 ⟨rfl, hb⟩; refine ⟨_, rfl, ?_⟩; have n0_ := A_ (below_step (hb_ HB.out) hb); clear HB; have HB := n0_; clear n0_; (try clear hb); (try clear hb2); (try clear hk); (try clear hi)) | ((with_reducible refine gate_callee (f := 27) rfl ?_); refine gl_ (some 9) Try.func27 #[.int .i64 a0, .int .u64 t663, .int .u64 a1] ?_; (with_reducible refine (quotient_Div.calls k a0 t663 a1 t664 _ A4.out).mono ?_); rintro e w6 ⟨rfl, hb⟩; refine ⟨_, rfl, ?_⟩; have n0_ := A_ (below_step (hb_ HB.out) hb); clear HB; have HB := n0_; clear n0_; (try clear hb); (try clear hb2); (try clear hk); (try clear hi)))
 go_ret
 exact ⟨er_, hb_ HB.out⟩
def L06_awake.f (k : Nat)  : Option (Bool) := (quotient_Div.f k 64 4607182418800017408 4613937818241073152).bind fun t665 => (if t665 = 4599676419421066581 then ((quotient_Inverse.f k 32 2147483648).bind fun t666 => (some (t666 == 4286578688))) else (some false))
theorem L06_awake.mono : ∀ k, LeO (L06_awake.f k ) (L06_awake.f (k + 1) ) := by
 intro  k
 unfold L06_awake.f
 repeat' first
   | (with_reducible exact quotient_Div.mono _ _ _ _)
   | (with_reducible exact quotient_Inverse.mono _ _ _)
   | (with_reducible exact LeO.refl _)
   | (with_reducible exact LeO.none _)
   | (with_reducible refine LeO.ite ?_ ?_)
   | (with_reducible refine LeO.bind ?_ (fun _ => ?_))
   | exact quotient_Div.mono _ _ _ _
   | exact quotient_Inverse.mono _ _ _
   | exact LeO.none _
   | refine LeO.ite ?_ ?_
   | refine LeO.bind ?_ (fun _ => ?_)
theorem L06_awake.calls (k : Nat)  (r : Bool) (w : World) (h : L06_awake.f k  = some r) :
  Calls Try.prog 26 #[] w fun e w' => e = .returned (.bool r) ∧ Below w.heap.size w w' := by
 have HB := A_ (Below.refl w.heap.size w)
 have H : ((quotient_Div.f k 64 4607182418800017408 4613937818241073152).bind fun t665 => (if t665 = 4599676419421066581 then ((quotient_Inverse.f k 32 2147483648).bind fun t666 => (some (t666 == 4286578688))) else (some false))) = some r := h
 clear h
 replace H := ob_ H
 obtain ⟨t665, A10, H⟩ := H
 replace H : (if t665 = 4599676419421066581 then ((quotient_Inverse.f k 32 2147483648).bind fun t666 => (some (t666 == 4286578688))) else (some false)) = some r := H
 have A1 := A_ A10;clear A10
 by_cases c2 : t665 = 4599676419421066581
 ·rw [if_pos c2] at H
  have c2b0 : (t665 == 4599676419421066581) = true := beq_iff_eq.mpr c2
  have c2b1 : (t665 != 4599676419421066581) = false := bne_eq_false_iff_eq.mpr c2
  clear c2
  replace H := ob_ H
  obtain ⟨t666, A30, H⟩ := H
  replace H : (some (t666 == 4286578688)) = some r := H
  have A3 := A_ A30;clear A30
  obtain rfl := Option.some.inj H
  go_enter Try.func26, Try.ntmps26
  go_wp2_with (first | ((with_reducible refine gate_callee (f := 27) rfl ?_); refine gl_ (some 1) Try.func27 #[.int .i64 64, .int .u64 4607182418800017408, .int .u64 4613937818241073152] ?_; (with_reducible refine (quotient_Div.calls k 64 4607182418800017408 4613937818241073152 t665 _ A1.out).mono ?_); rintro e w4 ⟨rfl, hb⟩; refine ⟨_, rfl, ?_⟩; have n0_ := A_ (below_step (hb_ HB.out) hb); clear HB; have HB := n0_; clear n0_; (try clear hb); (try clear hb2); (try clear hk); (try clear hi)) | (go_at_call 28; (with_reducible refine (quotient_Inverse.calls k 32 2147483648 t666 _ A3.out).mono ?_); rintro e w5 ⟨rfl, hb⟩; have n0_ := A_ (below_step (hb_ HB.out) hb); clear HB; have HB := n0_; clear n0_; (try clear hb); (try clear hb2); (try clear hk); (try clear hi)))
  go_ret
  exact ⟨er_, hb_ HB.out⟩
 ·rw [if_neg c2] at H
  have c2b0 : (t665 == 4599676419421066581) = false := beq_eq_false_iff_ne.mpr c2
  have c2b1 : (t665 != 4599676419421066581) = true := bne_iff_ne.mpr c2
  obtain rfl := Option.some.inj H
  go_enter Try.func26, Try.ntmps26
  go_wp2_with (first | ((with_reducible refine gate_callee (f := 27) rfl ?_); refine gl_ (some 1) Try.func27 #[.int .i64 64, .int .u64 4607182418800017408, .int .u64 4613937818241073152] ?_; (with_reducible refine (quotient_Div.calls k 64 4607182418800017408 4613937818241073152 t665 _ A1.out).mono ?_); rintro e w6 ⟨rfl, hb⟩; refine ⟨_, rfl, ?_⟩; have n0_ := A_ (below_step (hb_ HB.out) hb); clear HB; have HB := n0_; clear n0_; (try clear hb); (try clear hb2); (try clear hk); (try clear hi)))
  go_ret
  exact ⟨er_, hb_ HB.out⟩
def r2_B.f (a0 : Int) : Option (Int) := if a0 = 32 then (some 127) else (some 1023)
theorem r2_B.calls (a0 : Int) (r : Int) (w : World) (h : r2_B.f a0 = some r) :
  Calls Try.prog 18 #[.int .i64 a0] w fun e w' => e = .returned (.int .i64 r) ∧ Drawn0 w w' := by
 have H : (if a0 = 32 then (some 127) else (some 1023)) = some r := h
 clear h
 by_cases c2 : a0 = 32
 ·rw [if_pos c2] at H
  have c2b0 : (a0 == 32) = true := beq_iff_eq.mpr c2
  have c2b1 : (a0 != 32) = false := bne_eq_false_iff_eq.mpr c2
  clear c2
  obtain rfl := Option.some.inj H
  go_enter Try.func18, Try.ntmps18
  go_wp2
  go_ret
  exact ⟨sm_, by repeat (first | exact Drawn0.refl _ | apply Drawn0.step)⟩
 ·rw [if_neg c2] at H
  have c2b0 : (a0 == 32) = false := beq_eq_false_iff_ne.mpr c2
  have c2b1 : (a0 != 32) = true := bne_iff_ne.mpr c2
  obtain rfl := Option.some.inj H
  go_enter Try.func18, Try.ntmps18
  go_wp2
  go_ret
  exact ⟨sm_, by repeat (first | exact Drawn0.refl _ | apply Drawn0.step)⟩
def r2_E.f (a0 : Int) : Option (Int) := if a0 = 32 then (some 8) else (some 11)
theorem r2_E.calls (a0 : Int) (r : Int) (w : World) (h : r2_E.f a0 = some r) :
  Calls Try.prog 89 #[.int .i64 a0] w fun e w' => e = .returned (.int .i64 r) ∧ Drawn0 w w' := by
 have H : (if a0 = 32 then (some 8) else (some 11)) = some r := h
 clear h
 by_cases c2 : a0 = 32
 ·rw [if_pos c2] at H
  have c2b0 : (a0 == 32) = true := beq_iff_eq.mpr c2
  have c2b1 : (a0 != 32) = false := bne_eq_false_iff_eq.mpr c2
  clear c2
  obtain rfl := Option.some.inj H
  go_enter Try.func89, Try.ntmps89
  go_wp2
  go_ret
  exact ⟨sm_, by repeat (first | exact Drawn0.refl _ | apply Drawn0.step)⟩
 ·rw [if_neg c2] at H
  have c2b0 : (a0 == 32) = false := beq_eq_false_iff_ne.mpr c2
  have c2b1 : (a0 != 32) = true := bne_iff_ne.mpr c2
  obtain rfl := Option.some.inj H
  go_enter Try.func89, Try.ntmps89
  go_wp2
  go_ret
  exact ⟨sm_, by repeat (first | exact Drawn0.refl _ | apply Drawn0.step)⟩
def r2_F.f (a0 : Int) : Option (Int) := (r2_E.f a0).bind fun t234 => (some (wrap64 ((wrap64 (a0 - 1)) - t234)))
theorem r2_F.calls (a0 : Int) (r : Int) (w : World) (h : r2_F.f a0 = some r) :
  Calls Try.prog 52 #[.int .i64 a0] w fun e w' => e = .returned (.int .i64 r) ∧ Drawn0 w w' := by
 have H : ((r2_E.f a0).bind fun t234 => (some (wrap64 ((wrap64 (a0 - 1)) - t234)))) = some r := h
 clear h
 replace H := ob_ H
 obtain ⟨t234, A20, H⟩ := H
 replace H : (some (wrap64 ((wrap64 (a0 - 1)) - t234))) = some r := H
 have A2 := A_ A20;clear A20
 obtain rfl := Option.some.inj H
 go_enter Try.func52, Try.ntmps52
 go_wp2_with (first | ((with_reducible refine gate_callee (f := 89) rfl ?_); refine gl_ (some 6) Try.func89 #[.int .i64 a0] ?_; (with_reducible refine (r2_E.calls a0 t234 _ A2.out).mono ?_); rintro e w' ⟨rfl, ⟨nd, rfl⟩⟩; refine ⟨_, rfl, ?_⟩))
 go_ret
 exact ⟨sm_, by repeat (first | exact Drawn0.refl _ | apply Drawn0.step)⟩
def r2_Make.f (k : Nat) (a0 : Int) (a1 : Bool) (a2 : Int) (a3 : Int) : Option (Int) := (r2_F.f a0).bind fun t235 => ((r2_Two.f k t235).bind fun t236 => (if a1 = true then ((r2_Two.f k (wrap64 (a0 - 1))).bind fun t237 => (some (IntKind.u64.wrap ((IntKind.u64.wrap ((IntKind.u64.wrap ((IntKind.u64.wrap (a2)) * t236)) + a3)) + t237)))) else (some (IntKind.u64.wrap ((IntKind.u64.wrap ((IntKind.u64.wrap (a2)) * t236)) + a3)))))
theorem r2_Make.mono : ∀ a0 a1 a2 a3 k, LeO (r2_Make.f k a0 a1 a2 a3) (r2_Make.f (k + 1) a0 a1 a2 a3) := by
 intro a0 a1 a2 a3 k
 unfold r2_Make.f
 repeat' first
   | (with_reducible exact r2_Two.mono _ _)
   | (with_reducible exact LeO.refl _)
   | (with_reducible exact LeO.none _)
   | (with_reducible refine LeO.ite ?_ ?_)
   | (with_reducible refine LeO.bind ?_ (fun _ => ?_))
   | exact r2_Two.mono _ _
   | exact LeO.none _
   | refine LeO.ite ?_ ?_
   | refine LeO.bind ?_ (fun _ => ?_)
theorem r2_Make.calls (k : Nat) (a0 : Int) (a1 : Bool) (a2 : Int) (a3 : Int) (r : Int) (w : World) (h : r2_Make.f k a0 a1 a2 a3 = some r) :
  Calls Try.prog 17 #[.int .i64 a0, .bool a1, .int .i64 a2, .int .u64 a3] w fun e w' => e = .returned (.int .u64 r) ∧ Drawn0 w w' := by
 have H : ((r2_F.f a0).bind fun t235 => ((r2_Two.f k t235).bind fun t236 => (if a1 = true then ((r2_Two.f k (wrap64 (a0 - 1))).bind fun t237 => (some (IntKind.u64.wrap ((IntKind.u64.wrap ((IntKind.u64.wrap ((IntKind.u64.wrap (a2)) * t236)) + a3)) + t237)))) else (some (IntKind.u64.wrap ((IntKind.u64.wrap ((IntKind.u64.wrap (a2)) * t236)) + a3)))))) = some r := h
 clear h
 replace H := ob_ H
 obtain ⟨t235, A50, H⟩ := H
 replace H : ((r2_Two.f k t235).bind fun t236 => (if a1 = true then ((r2_Two.f k (wrap64 (a0 - 1))).bind fun t237 => (some (IntKind.u64.wrap ((IntKind.u64.wrap ((IntKind.u64.wrap ((IntKind.u64.wrap (a2)) * t236)) + a3)) + t237)))) else (some (IntKind.u64.wrap ((IntKind.u64.wrap ((IntKind.u64.wrap (a2)) * t236)) + a3))))) = some r := H
 have A5 := A_ A50;clear A50
 replace H := ob_ H
 obtain ⟨t236, A60, H⟩ := H
 replace H : (if a1 = true then ((r2_Two.f k (wrap64 (a0 - 1))).bind fun t237 => (some (IntKind.u64.wrap ((IntKind.u64.wrap ((IntKind.u64.wrap ((IntKind.u64.wrap (a2)) * t236)) + a3)) + t237)))) else (some (IntKind.u64.wrap ((IntKind.u64.wrap ((IntKind.u64.wrap (a2)) * t236)) + a3)))) = some r := H
 have A6 := A_ A60;clear A60
 by_cases c7 : a1 = true
 ·subst c7
  have H1 : ((r2_Two.f k (wrap64 (a0 - 1))).bind fun t237 => (some (IntKind.u64.wrap ((IntKind.u64.wrap ((IntKind.u64.wrap ((IntKind.u64.wrap (a2)) * t236)) + a3)) + t237)))) = some r := by rw [if_pos rfl] at H; exact H
  clear H;have H := H1;clear H1
  replace H := ob_ H
  obtain ⟨t237, A80, H⟩ := H
  replace H : (some (IntKind.u64.wrap ((IntKind.u64.wrap ((IntKind.u64.wrap ((IntKind.u64.wrap (a2)) * t236)) + a3)) + t237))) = some r := H
  have A8 := A_ A80;clear A80
  obtain rfl := Option.some.inj H
  go_enter Try.func17, Try.ntmps17
  go_wp2_with (first | ((with_reducible refine gate_callee (f := 52) rfl ?_); refine gl_ (some 13) Try.func52 #[.int .i64 a0] ?_; (with_reducible refine (r2_F.calls a0 t235 _ A5.out).mono ?_); rintro e w' ⟨rfl, ⟨nd, rfl⟩⟩; refine ⟨_, rfl, ?_⟩) | ((with_reducible refine gate_callee (f := 51) rfl ?_); refine gl_ (some 14) Try.func51 #[.int .i64 t235] ?_; (with_reducible refine (r2_Two.calls k t235 t236 _ A6.out).mono ?_); rintro e w' ⟨rfl, ⟨nd, rfl⟩⟩; refine ⟨_, rfl, ?_⟩) | ((with_reducible refine gate_callee (f := 51) rfl ?_); refine gl_ (some 22) Try.func51 #[.int .i64 (wrap64 (a0 - 1))] ?_; (with_reducible refine (r2_Two.calls k (wrap64 (a0 - 1)) t237 _ A8.out).mono ?_); rintro e w' ⟨rfl, ⟨nd, rfl⟩⟩; refine ⟨_, rfl, ?_⟩))
  go_ret
  exact ⟨sm_, by repeat (first | exact Drawn0.refl _ | apply Drawn0.step)⟩
 ·replace c7 := Bool.eq_false_iff.mpr c7
  subst c7
  have H1 : (some (IntKind.u64.wrap ((IntKind.u64.wrap ((IntKind.u64.wrap (a2)) * t236)) + a3))) = some r := by rw [if_neg (show ¬ (false = true) by decide)] at H; exact H
  clear H;have H := H1;clear H1
  obtain rfl := Option.some.inj H
  go_enter Try.func17, Try.ntmps17
  go_wp2_with (first | ((with_reducible refine gate_callee (f := 52) rfl ?_); refine gl_ (some 13) Try.func52 #[.int .i64 a0] ?_; (with_reducible refine (r2_F.calls a0 t235 _ A5.out).mono ?_); rintro e w' ⟨rfl, ⟨nd, rfl⟩⟩; refine ⟨_, rfl, ?_⟩) | ((with_reducible refine gate_callee (f := 51) rfl ?_); refine gl_ (some 14) Try.func51 #[.int .i64 t235] ?_; (with_reducible refine (r2_Two.calls k t235 t236 _ A6.out).mono ?_); rintro e w' ⟨rfl, ⟨nd, rfl⟩⟩; refine ⟨_, rfl, ?_⟩))
  go_ret
  exact ⟨sm_, by repeat (first | exact Drawn0.refl _ | apply Drawn0.step)⟩
def r5_One.f (k : Nat) (a0 : Int) : Option (Int) := (r2_B.f a0).bind fun t320 => ((r2_Make.f k a0 false t320 0).bind fun t321 => (some t321))
theorem r5_One.mono : ∀ a0 k, LeO (r5_One.f k a0) (r5_One.f (k + 1) a0) := by
 intro a0 k
 unfold r5_One.f
 repeat' first
   | (with_reducible exact r2_Make.mono _ _ _ _ _)
   | (with_reducible exact LeO.refl _)
   | (with_reducible exact LeO.none _)
   | (with_reducible refine LeO.ite ?_ ?_)
   | (with_reducible refine LeO.bind ?_ (fun _ => ?_))
   | exact r2_Make.mono _ _ _ _ _
   | exact LeO.none _
   | refine LeO.ite ?_ ?_
   | refine LeO.bind ?_ (fun _ => ?_)
theorem r5_One.calls (k : Nat) (a0 : Int) (r : Int) (w : World) (h : r5_One.f k a0 = some r) :
  Calls Try.prog 23 #[.int .i64 a0] w fun e w' => e = .returned (.int .u64 r) ∧ Drawn0 w w' := by
 have H : ((r2_B.f a0).bind fun t320 => ((r2_Make.f k a0 false t320 0).bind fun t321 => (some t321))) = some r := h
 clear h
 replace H := ob_ H
 obtain ⟨t320, A20, H⟩ := H
 replace H : ((r2_Make.f k a0 false t320 0).bind fun t321 => (some t321)) = some r := H
 have A2 := A_ A20;clear A20
 replace H := ob_ H
 obtain ⟨t321, A30, H⟩ := H
 replace H : (some t321) = some r := H
 have A3 := A_ A30;clear A30
 obtain rfl := Option.some.inj H
 go_enter Try.func23, Try.ntmps23
 go_wp2_with (first | ((with_reducible refine gate_callee (f := 18) rfl ?_); refine gl_ (some 5) Try.func18 #[.int .i64 a0] ?_; (with_reducible refine (r2_B.calls a0 t320 _ A2.out).mono ?_); rintro e w' ⟨rfl, ⟨nd, rfl⟩⟩; refine ⟨_, rfl, ?_⟩) | ((with_reducible refine gate_callee (f := 17) rfl ?_); refine gl_ (some 6) Try.func17 #[.int .i64 a0, .bool false, .int .i64 t320, .int .u64 0] ?_; (with_reducible refine (r2_Make.calls k a0 false t320 0 t321 _ A3.out).mono ?_); rintro e w' ⟨rfl, ⟨nd, rfl⟩⟩; refine ⟨_, rfl, ?_⟩))
 go_ret
 exact ⟨sm_, by repeat (first | exact Drawn0.refl _ | apply Drawn0.step)⟩
def r2_Top.f (k : Nat) (a0 : Int) : Option (Int) := (r2_E.f a0).bind fun t331 => ((r2_Two.f k t331).bind fun t332 => (some (wrap64 ((wrap64 (t332)) - 1))))
theorem r2_Top.mono : ∀ a0 k, LeO (r2_Top.f k a0) (r2_Top.f (k + 1) a0) := by
 intro a0 k
 unfold r2_Top.f
 repeat' first
   | (with_reducible exact r2_Two.mono _ _)
   | (with_reducible exact LeO.refl _)
   | (with_reducible exact LeO.none _)
   | (with_reducible refine LeO.ite ?_ ?_)
   | (with_reducible refine LeO.bind ?_ (fun _ => ?_))
   | exact r2_Two.mono _ _
   | exact LeO.none _
   | refine LeO.ite ?_ ?_
   | refine LeO.bind ?_ (fun _ => ?_)
theorem r2_Top.calls (k : Nat) (a0 : Int) (r : Int) (w : World) (h : r2_Top.f k a0 = some r) :
  Calls Try.prog 88 #[.int .i64 a0] w fun e w' => e = .returned (.int .i64 r) ∧ Drawn0 w w' := by
 have H : ((r2_E.f a0).bind fun t331 => ((r2_Two.f k t331).bind fun t332 => (some (wrap64 ((wrap64 (t332)) - 1))))) = some r := h
 clear h
 replace H := ob_ H
 obtain ⟨t331, A20, H⟩ := H
 replace H : ((r2_Two.f k t331).bind fun t332 => (some (wrap64 ((wrap64 (t332)) - 1)))) = some r := H
 have A2 := A_ A20;clear A20
 replace H := ob_ H
 obtain ⟨t332, A30, H⟩ := H
 replace H : (some (wrap64 ((wrap64 (t332)) - 1))) = some r := H
 have A3 := A_ A30;clear A30
 obtain rfl := Option.some.inj H
 go_enter Try.func88, Try.ntmps88
 go_wp2_with (first | ((with_reducible refine gate_callee (f := 89) rfl ?_); refine gl_ (some 4) Try.func89 #[.int .i64 a0] ?_; (with_reducible refine (r2_E.calls a0 t331 _ A2.out).mono ?_); rintro e w' ⟨rfl, ⟨nd, rfl⟩⟩; refine ⟨_, rfl, ?_⟩) | ((with_reducible refine gate_callee (f := 51) rfl ?_); refine gl_ (some 5) Try.func51 #[.int .i64 t331] ?_; (with_reducible refine (r2_Two.calls k t331 t332 _ A3.out).mono ?_); rintro e w' ⟨rfl, ⟨nd, rfl⟩⟩; refine ⟨_, rfl, ?_⟩))
 go_ret
 exact ⟨sm_, by repeat (first | exact Drawn0.refl _ | apply Drawn0.step)⟩
def r2_Inf.f (k : Nat) (a0 : Int) (a1 : Bool) : Option (Int) := (r2_Top.f k a0).bind fun t348 => ((r2_Make.f k a0 a1 t348 0).bind fun t349 => (some t349))
theorem r2_Inf.mono : ∀ a0 a1 k, LeO (r2_Inf.f k a0 a1) (r2_Inf.f (k + 1) a0 a1) := by
 intro a0 a1 k
 unfold r2_Inf.f
 repeat' first
   | (with_reducible exact r2_Make.mono _ _ _ _ _)
   | (with_reducible exact r2_Top.mono _ _)
   | (with_reducible exact LeO.refl _)
   | (with_reducible exact LeO.none _)
   | (with_reducible refine LeO.ite ?_ ?_)
   | (with_reducible refine LeO.bind ?_ (fun _ => ?_))
   | exact r2_Make.mono _ _ _ _ _
   | exact r2_Top.mono _ _
   | exact LeO.none _
   | refine LeO.ite ?_ ?_
   | refine LeO.bind ?_ (fun _ => ?_)
theorem r2_Inf.calls (k : Nat) (a0 : Int) (a1 : Bool) (r : Int) (w : World) (h : r2_Inf.f k a0 a1 = some r) :
  Calls Try.prog 59 #[.int .i64 a0, .bool a1] w fun e w' => e = .returned (.int .u64 r) ∧ Drawn0 w w' := by
 have H : ((r2_Top.f k a0).bind fun t348 => ((r2_Make.f k a0 a1 t348 0).bind fun t349 => (some t349))) = some r := h
 clear h
 replace H := ob_ H
 obtain ⟨t348, A30, H⟩ := H
 replace H : ((r2_Make.f k a0 a1 t348 0).bind fun t349 => (some t349)) = some r := H
 have A3 := A_ A30;clear A30
 replace H := ob_ H
 obtain ⟨t349, A40, H⟩ := H
 replace H : (some t349) = some r := H
 have A4 := A_ A40;clear A40
 obtain rfl := Option.some.inj H
 go_enter Try.func59, Try.ntmps59
 go_wp2_with (first | ((with_reducible refine gate_callee (f := 88) rfl ?_); refine gl_ (some 8) Try.func88 #[.int .i64 a0] ?_; (with_reducible refine (r2_Top.calls k a0 t348 _ A3.out).mono ?_); rintro e w' ⟨rfl, ⟨nd, rfl⟩⟩; refine ⟨_, rfl, ?_⟩) | ((with_reducible refine gate_callee (f := 17) rfl ?_); refine gl_ (some 9) Try.func17 #[.int .i64 a0, .bool a1, .int .i64 t348, .int .u64 0] ?_; (with_reducible refine (r2_Make.calls k a0 a1 t348 0 t349 _ A4.out).mono ?_); rintro e w' ⟨rfl, ⟨nd, rfl⟩⟩; refine ⟨_, rfl, ?_⟩))
 go_ret
 exact ⟨sm_, by repeat (first | exact Drawn0.refl _ | apply Drawn0.step)⟩
def r2_Nan.f (k : Nat) (a0 : Int) : Option (Int) := (r2_Top.f k a0).bind fun t344 => ((r2_F.f a0).bind fun t345 => ((r2_Two.f k (wrap64 (t345 - 1))).bind fun t346 => ((r2_Make.f k a0 false t344 t346).bind fun t347 => (some t347))))
theorem r2_Nan.mono : ∀ a0 k, LeO (r2_Nan.f k a0) (r2_Nan.f (k + 1) a0) := by
 intro a0 k
 unfold r2_Nan.f
 repeat' first
   | (with_reducible exact r2_Make.mono _ _ _ _ _)
   | (with_reducible exact r2_Top.mono _ _)
   | (with_reducible exact r2_Two.mono _ _)
   | (with_reducible exact LeO.refl _)
   | (with_reducible exact LeO.none _)
   | (with_reducible refine LeO.ite ?_ ?_)
   | (with_reducible refine LeO.bind ?_ (fun _ => ?_))
   | exact r2_Make.mono _ _ _ _ _
   | exact r2_Top.mono _ _
   | exact r2_Two.mono _ _
   | exact LeO.none _
   | refine LeO.ite ?_ ?_
   | refine LeO.bind ?_ (fun _ => ?_)
theorem r2_Nan.calls (k : Nat) (a0 : Int) (r : Int) (w : World) (h : r2_Nan.f k a0 = some r) :
  Calls Try.prog 58 #[.int .i64 a0] w fun e w' => e = .returned (.int .u64 r) ∧ Drawn0 w w' := by
 have H : ((r2_Top.f k a0).bind fun t344 => ((r2_F.f a0).bind fun t345 => ((r2_Two.f k (wrap64 (t345 - 1))).bind fun t346 => ((r2_Make.f k a0 false t344 t346).bind fun t347 => (some t347))))) = some r := h
 clear h
 replace H := ob_ H
 obtain ⟨t344, A20, H⟩ := H
 replace H : ((r2_F.f a0).bind fun t345 => ((r2_Two.f k (wrap64 (t345 - 1))).bind fun t346 => ((r2_Make.f k a0 false t344 t346).bind fun t347 => (some t347)))) = some r := H
 have A2 := A_ A20;clear A20
 replace H := ob_ H
 obtain ⟨t345, A30, H⟩ := H
 replace H : ((r2_Two.f k (wrap64 (t345 - 1))).bind fun t346 => ((r2_Make.f k a0 false t344 t346).bind fun t347 => (some t347))) = some r := H
 have A3 := A_ A30;clear A30
 replace H := ob_ H
 obtain ⟨t346, A40, H⟩ := H
 replace H : ((r2_Make.f k a0 false t344 t346).bind fun t347 => (some t347)) = some r := H
 have A4 := A_ A40;clear A40
 replace H := ob_ H
 obtain ⟨t347, A50, H⟩ := H
 replace H : (some t347) = some r := H
 have A5 := A_ A50;clear A50
 obtain rfl := Option.some.inj H
 go_enter Try.func58, Try.ntmps58
 go_wp2_with (first | ((with_reducible refine gate_callee (f := 88) rfl ?_); refine gl_ (some 5) Try.func88 #[.int .i64 a0] ?_; (with_reducible refine (r2_Top.calls k a0 t344 _ A2.out).mono ?_); rintro e w' ⟨rfl, ⟨nd, rfl⟩⟩; refine ⟨_, rfl, ?_⟩) | ((with_reducible refine gate_callee (f := 52) rfl ?_); refine gl_ (some 7) Try.func52 #[.int .i64 a0] ?_; (with_reducible refine (r2_F.calls a0 t345 _ A3.out).mono ?_); rintro e w' ⟨rfl, ⟨nd, rfl⟩⟩; refine ⟨_, rfl, ?_⟩) | ((with_reducible refine gate_callee (f := 51) rfl ?_); refine gl_ (some 9) Try.func51 #[.int .i64 (wrap64 (t345 - 1))] ?_; (with_reducible refine (r2_Two.calls k (wrap64 (t345 - 1)) t346 _ A4.out).mono ?_); rintro e w' ⟨rfl, ⟨nd, rfl⟩⟩; refine ⟨_, rfl, ?_⟩) | ((with_reducible refine gate_callee (f := 17) rfl ?_); refine gl_ (some 10) Try.func17 #[.int .i64 a0, .bool false, .int .i64 t344, .int .u64 t346] ?_; (with_reducible refine (r2_Make.calls k a0 false t344 t346 t347 _ A5.out).mono ?_); rintro e w' ⟨rfl, ⟨nd, rfl⟩⟩; refine ⟨_, rfl, ?_⟩))
 go_ret
 exact ⟨sm_, by repeat (first | exact Drawn0.refl _ | apply Drawn0.step)⟩
def r2_Exp.f (k : Nat) (a0 : Int) (a1 : Int) : Option (Int) := (r2_Cut.f a0 a1).bind fun t322 => ((r2_F.f a0).bind fun t323 => ((r2_Two.f k t323).bind fun t324 => (if t324 = 0 then (none) else ((r2_E.f a0).bind fun t325 => ((r2_Two.f k t325).bind fun t326 => (if t326 = 0 then (none) else (some (wrap64 (Int.tmod (IntKind.u64.wrap (Int.tdiv t322 t324)) t326)))))))))
theorem r2_Exp.mono : ∀ a0 a1 k, LeO (r2_Exp.f k a0 a1) (r2_Exp.f (k + 1) a0 a1) := by
 intro a0 a1 k
 unfold r2_Exp.f
 repeat' first
   | (with_reducible exact r2_Two.mono _ _)
   | (with_reducible exact LeO.refl _)
   | (with_reducible exact LeO.none _)
   | (with_reducible refine LeO.ite ?_ ?_)
   | (with_reducible refine LeO.bind ?_ (fun _ => ?_))
   | exact r2_Two.mono _ _
   | exact LeO.none _
   | refine LeO.ite ?_ ?_
   | refine LeO.bind ?_ (fun _ => ?_)
theorem r2_Exp.calls (k : Nat) (a0 : Int) (a1 : Int) (r : Int) (w : World) (h : r2_Exp.f k a0 a1 = some r) :
  Calls Try.prog 85 #[.int .i64 a0, .int .u64 a1] w fun e w' => e = .returned (.int .i64 r) ∧ Drawn0 w w' := by
 have H : ((r2_Cut.f a0 a1).bind fun t322 => ((r2_F.f a0).bind fun t323 => ((r2_Two.f k t323).bind fun t324 => (if t324 = 0 then (none) else ((r2_E.f a0).bind fun t325 => ((r2_Two.f k t325).bind fun t326 => (if t326 = 0 then (none) else (some (wrap64 (Int.tmod (IntKind.u64.wrap (Int.tdiv t322 t324)) t326)))))))))) = some r := h
 clear h
 replace H := ob_ H
 obtain ⟨t322, A30, H⟩ := H
 replace H : ((r2_F.f a0).bind fun t323 => ((r2_Two.f k t323).bind fun t324 => (if t324 = 0 then (none) else ((r2_E.f a0).bind fun t325 => ((r2_Two.f k t325).bind fun t326 => (if t326 = 0 then (none) else (some (wrap64 (Int.tmod (IntKind.u64.wrap (Int.tdiv t322 t324)) t326))))))))) = some r := H
 have A3 := A_ A30;clear A30
 replace H := ob_ H
 obtain ⟨t323, A40, H⟩ := H
 replace H : ((r2_Two.f k t323).bind fun t324 => (if t324 = 0 then (none) else ((r2_E.f a0).bind fun t325 => ((r2_Two.f k t325).bind fun t326 => (if t326 = 0 then (none) else (some (wrap64 (Int.tmod (IntKind.u64.wrap (Int.tdiv t322 t324)) t326)))))))) = some r := H
 have A4 := A_ A40;clear A40
 replace H := ob_ H
 obtain ⟨t324, A50, H⟩ := H
 replace H : (if t324 = 0 then (none) else ((r2_E.f a0).bind fun t325 => ((r2_Two.f k t325).bind fun t326 => (if t326 = 0 then (none) else (some (wrap64 (Int.tmod (IntKind.u64.wrap (Int.tdiv t322 t324)) t326))))))) = some r := H
 have A5 := A_ A50;clear A50
 by_cases c6 : t324 = 0
 ·rw [if_pos c6] at H
  exact absurd H (by simp)
 ·rw [if_neg c6] at H
  have c6b0 : (t324 == 0) = false := beq_eq_false_iff_ne.mpr c6
  have c6b1 : (t324 != 0) = true := bne_iff_ne.mpr c6
  replace H := ob_ H
  obtain ⟨t325, A70, H⟩ := H
  replace H : ((r2_Two.f k t325).bind fun t326 => (if t326 = 0 then (none) else (some (wrap64 (Int.tmod (IntKind.u64.wrap (Int.tdiv t322 t324)) t326))))) = some r := H
  have A7 := A_ A70;clear A70
  replace H := ob_ H
  obtain ⟨t326, A80, H⟩ := H
  replace H : (if t326 = 0 then (none) else (some (wrap64 (Int.tmod (IntKind.u64.wrap (Int.tdiv t322 t324)) t326)))) = some r := H
  have A8 := A_ A80;clear A80
  by_cases c9 : t326 = 0
  ·rw [if_pos c9] at H
   exact absurd H (by simp)
  ·rw [if_neg c9] at H
   have c9b0 : (t326 == 0) = false := beq_eq_false_iff_ne.mpr c9
   have c9b1 : (t326 != 0) = true := bne_iff_ne.mpr c9
   obtain rfl := Option.some.inj H
   go_enter Try.func85, Try.ntmps85
   go_wp2_with (first | (go_at_call 49; (with_reducible refine (r2_Cut.calls a0 a1 t322 _ A3.out).mono ?_); rintro e w' ⟨rfl, ⟨nd, rfl⟩⟩; (try first | exact ⟨rfl, _, World.drewN_drewN _ _ _⟩ | exact ⟨rfl, _, Eq.trans (World.drewN_drewN _ _ _) (congrArg (World.drewN _) (Nat.add_assoc _ _ _))⟩)) | (go_at_call 52; (with_reducible refine (r2_F.calls a0 t323 _ A4.out).mono ?_); rintro e w' ⟨rfl, ⟨nd, rfl⟩⟩; (try first | exact ⟨rfl, _, World.drewN_drewN _ _ _⟩ | exact ⟨rfl, _, Eq.trans (World.drewN_drewN _ _ _) (congrArg (World.drewN _) (Nat.add_assoc _ _ _))⟩)) | (go_at_call 51; (with_reducible refine (r2_Two.calls k t323 t324 _ A5.out).mono ?_); rintro e w' ⟨rfl, ⟨nd, rfl⟩⟩; (try first | exact ⟨rfl, _, World.drewN_drewN _ _ _⟩ | exact ⟨rfl, _, Eq.trans (World.drewN_drewN _ _ _) (congrArg (World.drewN _) (Nat.add_assoc _ _ _))⟩)) | (go_at_call 89; (with_reducible refine (r2_E.calls a0 t325 _ A7.out).mono ?_); rintro e w' ⟨rfl, ⟨nd, rfl⟩⟩; (try first | exact ⟨rfl, _, World.drewN_drewN _ _ _⟩ | exact ⟨rfl, _, Eq.trans (World.drewN_drewN _ _ _) (congrArg (World.drewN _) (Nat.add_assoc _ _ _))⟩)) | (go_at_call 51; (with_reducible refine (r2_Two.calls k t325 t326 _ A8.out).mono ?_); rintro e w' ⟨rfl, ⟨nd, rfl⟩⟩; (try first | exact ⟨rfl, _, World.drewN_drewN _ _ _⟩ | exact ⟨rfl, _, Eq.trans (World.drewN_drewN _ _ _) (congrArg (World.drewN _) (Nat.add_assoc _ _ _))⟩)))
   repeat (go_quiet (first | (go_at_call 49; (with_reducible refine (r2_Cut.calls a0 a1 t322 _ A3.out).mono ?_); rintro e w' ⟨rfl, ⟨nd, rfl⟩⟩; (try first | exact ⟨rfl, _, World.drewN_drewN _ _ _⟩ | exact ⟨rfl, _, Eq.trans (World.drewN_drewN _ _ _) (congrArg (World.drewN _) (Nat.add_assoc _ _ _))⟩)) | (go_at_call 52; (with_reducible refine (r2_F.calls a0 t323 _ A4.out).mono ?_); rintro e w' ⟨rfl, ⟨nd, rfl⟩⟩; (try first | exact ⟨rfl, _, World.drewN_drewN _ _ _⟩ | exact ⟨rfl, _, Eq.trans (World.drewN_drewN _ _ _) (congrArg (World.drewN _) (Nat.add_assoc _ _ _))⟩)) | (go_at_call 51; (with_reducible refine (r2_Two.calls k t323 t324 _ A5.out).mono ?_); rintro e w' ⟨rfl, ⟨nd, rfl⟩⟩; (try first | exact ⟨rfl, _, World.drewN_drewN _ _ _⟩ | exact ⟨rfl, _, Eq.trans (World.drewN_drewN _ _ _) (congrArg (World.drewN _) (Nat.add_assoc _ _ _))⟩)) | (go_at_call 89; (with_reducible refine (r2_E.calls a0 t325 _ A7.out).mono ?_); rintro e w' ⟨rfl, ⟨nd, rfl⟩⟩; (try first | exact ⟨rfl, _, World.drewN_drewN _ _ _⟩ | exact ⟨rfl, _, Eq.trans (World.drewN_drewN _ _ _) (congrArg (World.drewN _) (Nat.add_assoc _ _ _))⟩)) | (go_at_call 51; (with_reducible refine (r2_Two.calls k t325 t326 _ A8.out).mono ?_); rintro e w' ⟨rfl, ⟨nd, rfl⟩⟩; (try first | exact ⟨rfl, _, World.drewN_drewN _ _ _⟩ | exact ⟨rfl, _, Eq.trans (World.drewN_drewN _ _ _) (congrArg (World.drewN _) (Nat.add_assoc _ _ _))⟩))); try go_wp2_with (first | (go_at_call 49; (with_reducible refine (r2_Cut.calls a0 a1 t322 _ A3.out).mono ?_); rintro e w' ⟨rfl, ⟨nd, rfl⟩⟩; (try first | exact ⟨rfl, _, World.drewN_drewN _ _ _⟩ | exact ⟨rfl, _, Eq.trans (World.drewN_drewN _ _ _) (congrArg (World.drewN _) (Nat.add_assoc _ _ _))⟩)) | (go_at_call 52; (with_reducible refine (r2_F.calls a0 t323 _ A4.out).mono ?_); rintro e w' ⟨rfl, ⟨nd, rfl⟩⟩; (try first | exact ⟨rfl, _, World.drewN_drewN _ _ _⟩ | exact ⟨rfl, _, Eq.trans (World.drewN_drewN _ _ _) (congrArg (World.drewN _) (Nat.add_assoc _ _ _))⟩)) | (go_at_call 51; (with_reducible refine (r2_Two.calls k t323 t324 _ A5.out).mono ?_); rintro e w' ⟨rfl, ⟨nd, rfl⟩⟩; (try first | exact ⟨rfl, _, World.drewN_drewN _ _ _⟩ | exact ⟨rfl, _, Eq.trans (World.drewN_drewN _ _ _) (congrArg (World.drewN _) (Nat.add_assoc _ _ _))⟩)) | (go_at_call 89; (with_reducible refine (r2_E.calls a0 t325 _ A7.out).mono ?_); rintro e w' ⟨rfl, ⟨nd, rfl⟩⟩; (try first | exact ⟨rfl, _, World.drewN_drewN _ _ _⟩ | exact ⟨rfl, _, Eq.trans (World.drewN_drewN _ _ _) (congrArg (World.drewN _) (Nat.add_assoc _ _ _))⟩)) | (go_at_call 51; (with_reducible refine (r2_Two.calls k t325 t326 _ A8.out).mono ?_); rintro e w' ⟨rfl, ⟨nd, rfl⟩⟩; (try first | exact ⟨rfl, _, World.drewN_drewN _ _ _⟩ | exact ⟨rfl, _, Eq.trans (World.drewN_drewN _ _ _) (congrArg (World.drewN _) (Nat.add_assoc _ _ _))⟩))))
   go_ret
   exact ⟨sm_, by repeat (first | exact Drawn0.refl _ | apply Drawn0.step)⟩
def r2_Frac.f (k : Nat) (a0 : Int) (a1 : Int) : Option (Int) := (r2_F.f a0).bind fun t327 => ((r2_Two.f k t327).bind fun t328 => (if t328 = 0 then (none) else (some (Int.tmod a1 t328))))
theorem r2_Frac.mono : ∀ a0 a1 k, LeO (r2_Frac.f k a0 a1) (r2_Frac.f (k + 1) a0 a1) := by
 intro a0 a1 k
 unfold r2_Frac.f
 repeat' first
   | (with_reducible exact r2_Two.mono _ _)
   | (with_reducible exact LeO.refl _)
   | (with_reducible exact LeO.none _)
   | (with_reducible refine LeO.ite ?_ ?_)
   | (with_reducible refine LeO.bind ?_ (fun _ => ?_))
   | exact r2_Two.mono _ _
   | exact LeO.none _
   | refine LeO.ite ?_ ?_
   | refine LeO.bind ?_ (fun _ => ?_)
theorem r2_Frac.calls (k : Nat) (a0 : Int) (a1 : Int) (r : Int) (w : World) (h : r2_Frac.f k a0 a1 = some r) :
  Calls Try.prog 86 #[.int .i64 a0, .int .u64 a1] w fun e w' => e = .returned (.int .u64 r) ∧ Drawn0 w w' := by
 have H : ((r2_F.f a0).bind fun t327 => ((r2_Two.f k t327).bind fun t328 => (if t328 = 0 then (none) else (some (Int.tmod a1 t328))))) = some r := h
 clear h
 replace H := ob_ H
 obtain ⟨t327, A30, H⟩ := H
 replace H : ((r2_Two.f k t327).bind fun t328 => (if t328 = 0 then (none) else (some (Int.tmod a1 t328)))) = some r := H
 have A3 := A_ A30;clear A30
 replace H := ob_ H
 obtain ⟨t328, A40, H⟩ := H
 replace H : (if t328 = 0 then (none) else (some (Int.tmod a1 t328))) = some r := H
 have A4 := A_ A40;clear A40
 by_cases c5 : t328 = 0
 ·rw [if_pos c5] at H
  exact absurd H (by simp)
 ·rw [if_neg c5] at H
  have c5b0 : (t328 == 0) = false := beq_eq_false_iff_ne.mpr c5
  have c5b1 : (t328 != 0) = true := bne_iff_ne.mpr c5
  obtain rfl := Option.some.inj H
  go_enter Try.func86, Try.ntmps86
  go_wp2_with (first | ((with_reducible refine gate_callee (f := 52) rfl ?_); refine gl_ (some 7) Try.func52 #[.int .i64 a0] ?_; (with_reducible refine (r2_F.calls a0 t327 _ A3.out).mono ?_); rintro e w' ⟨rfl, ⟨nd, rfl⟩⟩; refine ⟨_, rfl, ?_⟩) | ((with_reducible refine gate_callee (f := 51) rfl ?_); refine gl_ (some 8) Try.func51 #[.int .i64 t327] ?_; (with_reducible refine (r2_Two.calls k t327 t328 _ A4.out).mono ?_); rintro e w' ⟨rfl, ⟨nd, rfl⟩⟩; refine ⟨_, rfl, ?_⟩))
  go_ret
  exact ⟨sm_, by repeat (first | exact Drawn0.refl _ | apply Drawn0.step)⟩
end Go.Proofs.Ytbpmnmceajmmcaa.PA
