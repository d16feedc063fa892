/- What the Go functions that the statement QuotientScale reaches compute, and the mathematics on it, in the order in which one leans on the other; for every input. -/
import Derived.Test.YtbpmnmceajmmcaaVQuotientScale0
import Derived.Test.YtbpmnmceajmmcaaMQuotientScale0
import Derived.Test.YtbpmnmceajmmcaaMQuotientScale7
import Derived.Test.YtbpmnmceajmmcaaMQuotientScale1
import Derived.Test.YtbpmnmceajmmcaaMQuotientScale5
import Derived.Test.YtbpmnmceajmmcaaMQuotientScale6
import Derived.Test.YtbpmnmceajmmcaaMQuotientScale3
import Derived.Test.YtbpmnmceajmmcaaMQuotientScale2
import Derived.Test.YtbpmnmceajmmcaaMQuotientScale4
namespace Go.Proofs.Ytbpmnmceajmmcaa.PA
open Go.RowKit Go.Proofs.YtbpmnmceajmmcaaW.PrintWords Go.Proofs.YtbpmnmceajmmcaaW.PrintLast Go.Proofs.YtbpmnmceajmmcaaW.PrintMore
attribute [local go_sem] max2_int min2_int max_two min_two max_three min_three max_four min_four   -- for this text's walks alone
set_option linter.unusedVariables false
set_option linter.unusedSimpArgs false
set_option maxHeartbeats 8000000
set_option maxRecDepth 100000
mutual
def quotient_parts.j0 : Nat → Int → Bool → Bool → Bool → Int → Int → Int → Bool → Int → Int → Int → Option (Int)
 | 0, _, _, _, _, _, _, _, _, _, _, _ => none
 | k + 1, x0, x7, x13, x649000, x649001, x649002, x649003, x650000, x650001, x650002, x650003 => if x13 = true then ((shape_Nan.f x0).bind fun t650 => (some t650)) else (if x649001 = 2 then (quotient_parts.j1 k x0 x7 true x649000 x649001 x649002 x649003 x650000 x650001 x650002 x650003) else (quotient_parts.j1 k x0 x7 (x650001 == 0) x649000 x649001 x649002 x649003 x650000 x650001 x650002 x650003))
def quotient_parts.j1 : Nat → Int → Bool → Bool → Bool → Int → Int → Int → Bool → Int → Int → Int → Option (Int)
 | 0, _, _, _, _, _, _, _, _, _, _, _ => none
 | k + 1, x0, x7, x36, x649000, x649001, x649002, x649003, x650000, x650001, x650002, x650003 => if x36 = true then ((shape_Inf.f x0 x7).bind fun t651 => (some t651)) else (if x649001 = 0 then (quotient_parts.j2 k x0 x7 true x649000 x649001 x649002 x649003 x650000 x650001 x650002 x650003) else (quotient_parts.j2 k x0 x7 (x650001 == 2) x649000 x649001 x649002 x649003 x650000 x650001 x650002 x650003))
def quotient_parts.j2 : Nat → Int → Bool → Bool → Bool → Int → Int → Int → Bool → Int → Int → Int → Option (Int)
 | 0, _, _, _, _, _, _, _, _, _, _, _ => none
 | k + 1, x0, x7, x48, x649000, x649001, x649002, x649003, x650000, x650001, x650002, x650003 => if x48 = true then ((shape_Zero.f x0 x7).bind fun t652 => (some t652)) else ((quotient_fraction_value.f k x649000 x649001 x649002 x649003 x650000 x650001 x650002 x650003 x0).bind fun t653 => (some t653))
end
def quotient_parts.f (k : Nat) (a0 : Int) (a1_0 : Bool) (a1_1 : Int) (a1_2 : Int) (a1_3 : Int) (a2_0 : Bool) (a2_1 : Int) (a2_2 : Int) (a2_3 : Int) : Option (Int) := if a1_1 = 3 then (quotient_parts.j0 k a0 (a1_0 != a2_0) true a1_0 a1_1 a1_2 a1_3 a2_0 a2_1 a2_2 a2_3) else (if a2_1 = 3 then (quotient_parts.j0 k a0 (a1_0 != a2_0) true a1_0 a1_1 a1_2 a1_3 a2_0 a2_1 a2_2 a2_3) else (if a1_1 = a2_1 then (quotient_parts.j0 k a0 (a1_0 != a2_0) (a1_1 != 1) a1_0 a1_1 a1_2 a1_3 a2_0 a2_1 a2_2 a2_3) else (quotient_parts.j0 k a0 (a1_0 != a2_0) false a1_0 a1_1 a1_2 a1_3 a2_0 a2_1 a2_2 a2_3)))
theorem quotient_parts.mono_l : ∀ k, (∀ y0 y1 y2 y3 y4 y5 y6 y7 y8 y9 y10, LeO (quotient_parts.j0 k y0 y1 y2 y3 y4 y5 y6 y7 y8 y9 y10) (quotient_parts.j0 (k + 1) y0 y1 y2 y3 y4 y5 y6 y7 y8 y9 y10)) ∧ (∀ y0 y1 y2 y3 y4 y5 y6 y7 y8 y9 y10, LeO (quotient_parts.j1 k y0 y1 y2 y3 y4 y5 y6 y7 y8 y9 y10) (quotient_parts.j1 (k + 1) y0 y1 y2 y3 y4 y5 y6 y7 y8 y9 y10)) ∧ (∀ y0 y1 y2 y3 y4 y5 y6 y7 y8 y9 y10, LeO (quotient_parts.j2 k y0 y1 y2 y3 y4 y5 y6 y7 y8 y9 y10) (quotient_parts.j2 (k + 1) y0 y1 y2 y3 y4 y5 y6 y7 y8 y9 y10))
 | 0 => ⟨fun _ _ _ _ _ _ _ _ _ _ _ r h => by simp [quotient_parts.j0] at h, fun _ _ _ _ _ _ _ _ _ _ _ r h => by simp [quotient_parts.j1] at h, fun _ _ _ _ _ _ _ _ _ _ _ r h => by simp [quotient_parts.j2] at h⟩
 | k + 1 => by
  obtain ⟨ih0, ih1, ih2⟩ := quotient_parts.mono_l k
  refine ⟨?_, ?_, ?_⟩
  ·intro y0 y1 y2 y3 y4 y5 y6 y7 y8 y9 y10
   unfold quotient_parts.j0
   repeat' first
   | (with_reducible exact ih0 _ _ _ _ _ _ _ _ _ _ _)
   | (with_reducible exact ih1 _ _ _ _ _ _ _ _ _ _ _)
   | (with_reducible exact ih2 _ _ _ _ _ _ _ _ _ _ _)
   | (with_reducible exact quotient_fraction_value.mono _ _ _ _ _ _ _ _ _ _)
   | (with_reducible exact LeO.refl _)
   | (with_reducible exact LeO.none _)
   | (with_reducible refine LeO.ite ?_ ?_)
   | (with_reducible refine LeO.bind ?_ (fun _ => ?_))
   | exact ih0 _ _ _ _ _ _ _ _ _ _ _
   | exact ih1 _ _ _ _ _ _ _ _ _ _ _
   | exact ih2 _ _ _ _ _ _ _ _ _ _ _
   | exact quotient_fraction_value.mono _ _ _ _ _ _ _ _ _ _
   | exact LeO.none _
   | refine LeO.ite ?_ ?_
   | refine LeO.bind ?_ (fun _ => ?_)
  ·intro y0 y1 y2 y3 y4 y5 y6 y7 y8 y9 y10
   unfold quotient_parts.j1
   repeat' first
   | (with_reducible exact ih0 _ _ _ _ _ _ _ _ _ _ _)
   | (with_reducible exact ih1 _ _ _ _ _ _ _ _ _ _ _)
   | (with_reducible exact ih2 _ _ _ _ _ _ _ _ _ _ _)
   | (with_reducible exact quotient_fraction_value.mono _ _ _ _ _ _ _ _ _ _)
   | (with_reducible exact LeO.refl _)
   | (with_reducible exact LeO.none _)
   | (with_reducible refine LeO.ite ?_ ?_)
   | (with_reducible refine LeO.bind ?_ (fun _ => ?_))
   | exact ih0 _ _ _ _ _ _ _ _ _ _ _
   | exact ih1 _ _ _ _ _ _ _ _ _ _ _
   | exact ih2 _ _ _ _ _ _ _ _ _ _ _
   | exact quotient_fraction_value.mono _ _ _ _ _ _ _ _ _ _
   | exact LeO.none _
   | refine LeO.ite ?_ ?_
   | refine LeO.bind ?_ (fun _ => ?_)
  ·intro y0 y1 y2 y3 y4 y5 y6 y7 y8 y9 y10
   unfold quotient_parts.j2
   repeat' first
   | (with_reducible exact ih0 _ _ _ _ _ _ _ _ _ _ _)
   | (with_reducible exact ih1 _ _ _ _ _ _ _ _ _ _ _)
   | (with_reducible exact ih2 _ _ _ _ _ _ _ _ _ _ _)
   | (with_reducible exact quotient_fraction_value.mono _ _ _ _ _ _ _ _ _ _)
   | (with_reducible exact LeO.refl _)
   | (with_reducible exact LeO.none _)
   | (with_reducible refine LeO.ite ?_ ?_)
   | (with_reducible refine LeO.bind ?_ (fun _ => ?_))
   | exact ih0 _ _ _ _ _ _ _ _ _ _ _
   | exact ih1 _ _ _ _ _ _ _ _ _ _ _
   | exact ih2 _ _ _ _ _ _ _ _ _ _ _
   | exact quotient_fraction_value.mono _ _ _ _ _ _ _ _ _ _
   | exact LeO.none _
   | refine LeO.ite ?_ ?_
   | refine LeO.bind ?_ (fun _ => ?_)
theorem quotient_parts.mono : ∀ a0 a1 a2 a3 a4 a5 a6 a7 a8 k, LeO (quotient_parts.f k a0 a1 a2 a3 a4 a5 a6 a7 a8) (quotient_parts.f (k + 1) a0 a1 a2 a3 a4 a5 a6 a7 a8) := by
 intro a0 a1 a2 a3 a4 a5 a6 a7 a8 k
 obtain ⟨ih0, ih1, ih2⟩ := quotient_parts.mono_l k
 unfold quotient_parts.f
 repeat' first
   | (with_reducible exact ih0 _ _ _ _ _ _ _ _ _ _ _)
   | (with_reducible exact ih1 _ _ _ _ _ _ _ _ _ _ _)
   | (with_reducible exact ih2 _ _ _ _ _ _ _ _ _ _ _)
   | (with_reducible exact quotient_fraction_value.mono _ _ _ _ _ _ _ _ _ _)
   | (with_reducible exact LeO.refl _)
   | (with_reducible exact LeO.none _)
   | (with_reducible refine LeO.ite ?_ ?_)
   | (with_reducible refine LeO.bind ?_ (fun _ => ?_))
   | exact ih0 _ _ _ _ _ _ _ _ _ _ _
   | exact ih1 _ _ _ _ _ _ _ _ _ _ _
   | exact ih2 _ _ _ _ _ _ _ _ _ _ _
   | exact quotient_fraction_value.mono _ _ _ _ _ _ _ _ _ _
   | exact LeO.none _
   | refine LeO.ite ?_ ?_
   | refine LeO.bind ?_ (fun _ => ?_)
theorem quotient_parts.calls (k : Nat) (a0 : Int) (a1_0 : Bool) (a1_1 : Int) (a1_2 : Int) (a1_3 : Int) (a2_0 : Bool) (a2_1 : Int) (a2_2 : Int) (a2_3 : Int) (r : Int) (w : World) (h : quotient_parts.f k a0 a1_0 a1_1 a1_2 a1_3 a2_0 a2_1 a2_2 a2_3 = some r) :
  Calls Try.prog 64 #[.int .i64 a0, .agg #[.bool a1_0, .int .i64 a1_1, .int .i64 a1_2, .int .u64 a1_3], .agg #[.bool a2_0, .int .i64 a2_1, .int .i64 a2_2, .int .u64 a2_3]] w fun e w' => e = .returned (.int .u64 r) ∧ Below w.heap.size w w' := by
 have hu38 := Try.underlying38
 have hu101 := Try.underlying101
 have hu103 := Try.underlying103
 have HB := A_ (Below.refl w.heap.size w)
 have H : (if a1_1 = 3 then (quotient_parts.j0 k a0 (a1_0 != a2_0) true a1_0 a1_1 a1_2 a1_3 a2_0 a2_1 a2_2 a2_3) else (if a2_1 = 3 then (quotient_parts.j0 k a0 (a1_0 != a2_0) true a1_0 a1_1 a1_2 a1_3 a2_0 a2_1 a2_2 a2_3) else (if a1_1 = a2_1 then (quotient_parts.j0 k a0 (a1_0 != a2_0) (a1_1 != 1) a1_0 a1_1 a1_2 a1_3 a2_0 a2_1 a2_2 a2_3) else (quotient_parts.j0 k a0 (a1_0 != a2_0) false a1_0 a1_1 a1_2 a1_3 a2_0 a2_1 a2_2 a2_3)))) = some r := h
 clear h;have HC4 := A_ H;clear H
 go_enter Try.func64, Try.ntmps64
 go_upto_region 2 with (first | ((with_reducible refine gate_dst (N := 4) rfl ?_); refine be_ 4 #[.bool a1_0, .int .i64 a1_1, .int .i64 a1_2, .int .u64 a1_3] 38 ?_; intro gb648 hg w5 hbox hb; have n0_ := A_ (below_step (hb_ HB.out) hb); have n1_ := A_ (hbox); have n2_ := A_ (sz_ hg (hb_ HB.out)); have n3_ := A_ (sz_ hg (hb_ HB.out)); clear HB; have HB := n0_; have BK648 := n1_; have GW648 := n2_; have GE648 := n3_; clear n0_ n1_ n2_ n3_; clear hb hbox hg) | ((with_reducible refine gate_dst (N := 5) rfl ?_); refine be_ 5 #[.bool a2_0, .int .i64 a2_1, .int .i64 a2_2, .int .u64 a2_3] 38 ?_; intro gb649 hg w6 hbox hb; have n0_ := A_ (bb_ BK648.out hb); have n1_ := A_ (below_step (hb1_ HB.out GE648.out) hb); have n2_ := A_ (hbox); have n3_ := A_ (sz_ hg (hb1_ HB.out GE648.out)); have n4_ := A_ (sz_ hg (hb1_ HB.out GE648.out)); have n5_ := A_ (nl_ hg BK648.out); have n6_ := A_ (ng_ hg BK648.out); clear BK648; clear HB; have BK648 := n0_; have HB := n1_; have BK649 := n2_; have GW649 := n3_; have GE649 := n4_; have NB648_649 := n5_; have NB649_648 := n6_; clear n0_ n1_ n2_ n3_ n4_ n5_ n6_; clear hb hbox hg; have hnb7 := NB648_649.out; have hnc7 := NB649_648.out; have hcz8_0 : w6.cell? ⟨gb648, 0, none⟩ = some (.bool a1_0) := bc_ BK648.out 0; have hcz8_1 : w6.cell? ⟨gb648, 1, none⟩ = some (.int .i64 a1_1) := bc_ BK648.out 1; have hcz8_2 : w6.cell? ⟨gb648, 2, none⟩ = some (.int .i64 a1_2) := bc_ BK648.out 2; have hcz8_3 : w6.cell? ⟨gb648, 3, none⟩ = some (.int .u64 a1_3) := bc_ BK648.out 3; have hfz8_0 := blk_frozen BK648.out 0; have hfz8_1 := blk_frozen BK648.out 1; have hfz8_2 := blk_frozen BK648.out 2; have hfz8_3 := blk_frozen BK648.out 3; have hcz9_0 : w6.cell? ⟨gb649, 0, none⟩ = some (.bool a2_0) := bc_ BK649.out 0; have hcz9_1 : w6.cell? ⟨gb649, 1, none⟩ = some (.int .i64 a2_1) := bc_ BK649.out 1; have hcz9_2 : w6.cell? ⟨gb649, 2, none⟩ = some (.int .i64 a2_2) := bc_ BK649.out 2; have hcz9_3 : w6.cell? ⟨gb649, 3, none⟩ = some (.int .u64 a2_3) := bc_ BK649.out 3; have hfz9_0 := blk_frozen BK649.out 0; have hfz9_1 := blk_frozen BK649.out 1; have hfz9_2 := blk_frozen BK649.out 2; have hfz9_3 := blk_frozen BK649.out 3))
 (try simp only [Act.put, lI_, l0_, lS_])
 go_cut [13] (fun v13 wc => ∃ (kq : Nat) (x13_3 : Bool), v13 = .bool x13_3 ∧ Aside0 (quotient_parts.j0 kq a0 (a1_0 != a2_0) x13_3 a1_0 a1_1 a1_2 a1_3 a2_0 a2_1 a2_2 a2_3 = some r) ∧ Aside0 (kq ≤ k) ∧ Aside0 (wc.heap[gb648]? = some (.cells #[.bool a1_0, .int .i64 a1_1, .int .i64 a1_2, .int .u64 a1_3] 38 (0, 0))) ∧ Aside0 (wc.heap[gb649]? = some (.cells #[.bool a2_0, .int .i64 a2_1, .int .i64 a2_2, .int .u64 a2_3] 38 (0, 0))) ∧ Aside0 (Below w.heap.size w wc))
 case first =>
  have H := HC4.out
  clear HC4
  by_cases c10 : a1_1 = 3
  ·rw [if_pos c10] at H
   have c10b0 : (a1_1 == 3) = true := beq_iff_eq.mpr c10
   have c10b1 : (a1_1 != 3) = false := bne_eq_false_iff_eq.mpr c10
   clear c10
   (first | rw [c10b0] | (simp only [i64_w, i32_w]; rw [c10b0]) | skip)
   have H' := A_ H
   clear H
   have hnb11 := NB648_649.out
   have hnc11 := NB649_648.out
   have hcz12_0 : w6.cell? ⟨gb648, 0, none⟩ = some (.bool a1_0) := bc_ BK648.out 0
   have hcz12_1 : w6.cell? ⟨gb648, 1, none⟩ = some (.int .i64 a1_1) := bc_ BK648.out 1
   have hcz12_2 : w6.cell? ⟨gb648, 2, none⟩ = some (.int .i64 a1_2) := bc_ BK648.out 2
   have hcz12_3 : w6.cell? ⟨gb648, 3, none⟩ = some (.int .u64 a1_3) := bc_ BK648.out 3
   have hfz12_0 := blk_frozen BK648.out 0
   have hfz12_1 := blk_frozen BK648.out 1
   have hfz12_2 := blk_frozen BK648.out 2
   have hfz12_3 := blk_frozen BK648.out 3
   go_wp2
   go_meet
   case rel => exact ⟨_, (true), sm_, H', ⟨by first | omega | exact Nat.le_refl _⟩, ⟨bk_ BK648.out⟩, ⟨bk_ BK649.out⟩, ⟨hb2_ HB.out GE648.out GE649.out⟩⟩
  ·rw [if_neg c10] at H
   have c10b0 : (a1_1 == 3) = false := beq_eq_false_iff_ne.mpr c10
   have c10b1 : (a1_1 != 3) = true := bne_iff_ne.mpr c10
   (first | rw [c10b0] | (simp only [i64_w, i32_w]; rw [c10b0]) | skip)
   by_cases c13 : a2_1 = 3
   ·rw [if_pos c13] at H
    have c13b0 : (a2_1 == 3) = true := beq_iff_eq.mpr c13
    have c13b1 : (a2_1 != 3) = false := bne_eq_false_iff_eq.mpr c13
    clear c13
    have H' := A_ H
    clear H
    have hnb14 := NB648_649.out
    have hnc14 := NB649_648.out
    have hcz15_0 : w6.cell? ⟨gb648, 0, none⟩ = some (.bool a1_0) := bc_ BK648.out 0
    have hcz15_1 : w6.cell? ⟨gb648, 1, none⟩ = some (.int .i64 a1_1) := bc_ BK648.out 1
    have hcz15_2 : w6.cell? ⟨gb648, 2, none⟩ = some (.int .i64 a1_2) := bc_ BK648.out 2
    have hcz15_3 : w6.cell? ⟨gb648, 3, none⟩ = some (.int .u64 a1_3) := bc_ BK648.out 3
    have hfz15_0 := blk_frozen BK648.out 0
    have hfz15_1 := blk_frozen BK648.out 1
    have hfz15_2 := blk_frozen BK648.out 2
    have hfz15_3 := blk_frozen BK648.out 3
    have hcz16_0 : w6.cell? ⟨gb649, 0, none⟩ = some (.bool a2_0) := bc_ BK649.out 0
    have hcz16_1 : w6.cell? ⟨gb649, 1, none⟩ = some (.int .i64 a2_1) := bc_ BK649.out 1
    have hcz16_2 : w6.cell? ⟨gb649, 2, none⟩ = some (.int .i64 a2_2) := bc_ BK649.out 2
    have hcz16_3 : w6.cell? ⟨gb649, 3, none⟩ = some (.int .u64 a2_3) := bc_ BK649.out 3
    have hfz16_0 := blk_frozen BK649.out 0
    have hfz16_1 := blk_frozen BK649.out 1
    have hfz16_2 := blk_frozen BK649.out 2
    have hfz16_3 := blk_frozen BK649.out 3
    go_wp2
    go_meet
    case rel => exact ⟨_, (true), sm_, H', ⟨by first | omega | exact Nat.le_refl _⟩, ⟨bk_ BK648.out⟩, ⟨bk_ BK649.out⟩, ⟨hb2_ HB.out GE648.out GE649.out⟩⟩
   ·rw [if_neg c13] at H
    have c13b0 : (a2_1 == 3) = false := beq_eq_false_iff_ne.mpr c13
    have c13b1 : (a2_1 != 3) = true := bne_iff_ne.mpr c13
    by_cases c17 : a1_1 = a2_1
    ·rw [if_pos c17] at H
     have c17b0 : (a1_1 == a2_1) = true := beq_iff_eq.mpr c17
     have c17b1 : (a1_1 != a2_1) = false := bne_eq_false_iff_eq.mpr c17
     clear c17
     have H' := A_ H
     clear H
     have hnb18 := NB648_649.out
     have hnc18 := NB649_648.out
     have hcz19_0 : w6.cell? ⟨gb648, 0, none⟩ = some (.bool a1_0) := bc_ BK648.out 0
     have hcz19_1 : w6.cell? ⟨gb648, 1, none⟩ = some (.int .i64 a1_1) := bc_ BK648.out 1
     have hcz19_2 : w6.cell? ⟨gb648, 2, none⟩ = some (.int .i64 a1_2) := bc_ BK648.out 2
     have hcz19_3 : w6.cell? ⟨gb648, 3, none⟩ = some (.int .u64 a1_3) := bc_ BK648.out 3
     have hfz19_0 := blk_frozen BK648.out 0
     have hfz19_1 := blk_frozen BK648.out 1
     have hfz19_2 := blk_frozen BK648.out 2
     have hfz19_3 := blk_frozen BK648.out 3
     have hcz20_0 : w6.cell? ⟨gb649, 0, none⟩ = some (.bool a2_0) := bc_ BK649.out 0
     have hcz20_1 : w6.cell? ⟨gb649, 1, none⟩ = some (.int .i64 a2_1) := bc_ BK649.out 1
     have hcz20_2 : w6.cell? ⟨gb649, 2, none⟩ = some (.int .i64 a2_2) := bc_ BK649.out 2
     have hcz20_3 : w6.cell? ⟨gb649, 3, none⟩ = some (.int .u64 a2_3) := bc_ BK649.out 3
     have hfz20_0 := blk_frozen BK649.out 0
     have hfz20_1 := blk_frozen BK649.out 1
     have hfz20_2 := blk_frozen BK649.out 2
     have hfz20_3 := blk_frozen BK649.out 3
     go_wp2
     go_meet
     case rel => exact ⟨_, ((a1_1 != 1)), sm_, H', ⟨by first | omega | exact Nat.le_refl _⟩, ⟨bk_ BK648.out⟩, ⟨bk_ BK649.out⟩, ⟨hb2_ HB.out GE648.out GE649.out⟩⟩
    ·rw [if_neg c17] at H
     have c17b0 : (a1_1 == a2_1) = false := beq_eq_false_iff_ne.mpr c17
     have c17b1 : (a1_1 != a2_1) = true := bne_iff_ne.mpr c17
     have H' := A_ H
     clear H
     have hnb21 := NB648_649.out
     have hnc21 := NB649_648.out
     have hcz22_0 : w6.cell? ⟨gb648, 0, none⟩ = some (.bool a1_0) := bc_ BK648.out 0
     have hcz22_1 : w6.cell? ⟨gb648, 1, none⟩ = some (.int .i64 a1_1) := bc_ BK648.out 1
     have hcz22_2 : w6.cell? ⟨gb648, 2, none⟩ = some (.int .i64 a1_2) := bc_ BK648.out 2
     have hcz22_3 : w6.cell? ⟨gb648, 3, none⟩ = some (.int .u64 a1_3) := bc_ BK648.out 3
     have hfz22_0 := blk_frozen BK648.out 0
     have hfz22_1 := blk_frozen BK648.out 1
     have hfz22_2 := blk_frozen BK648.out 2
     have hfz22_3 := blk_frozen BK648.out 3
     have hcz23_0 : w6.cell? ⟨gb649, 0, none⟩ = some (.bool a2_0) := bc_ BK649.out 0
     have hcz23_1 : w6.cell? ⟨gb649, 1, none⟩ = some (.int .i64 a2_1) := bc_ BK649.out 1
     have hcz23_2 : w6.cell? ⟨gb649, 2, none⟩ = some (.int .i64 a2_2) := bc_ BK649.out 2
     have hcz23_3 : w6.cell? ⟨gb649, 3, none⟩ = some (.int .u64 a2_3) := bc_ BK649.out 3
     have hfz23_0 := blk_frozen BK649.out 0
     have hfz23_1 := blk_frozen BK649.out 1
     have hfz23_2 := blk_frozen BK649.out 2
     have hfz23_3 := blk_frozen BK649.out 3
     go_wp2
     go_meet
     case rel => exact ⟨_, (false), sm_, H', ⟨by first | omega | exact Nat.le_refl _⟩, ⟨bk_ BK648.out⟩, ⟨bk_ BK649.out⟩, ⟨hb2_ HB.out GE648.out GE649.out⟩⟩
 case rest =>
  clear HC4
  try clear c1
  try clear c2
  try clear p2
  try clear c6
  try clear c7
  try clear c10
  try clear c10b0
  try clear c10b1
  try clear c11
  try clear c13
  try clear c13b0
  try clear c13b1
  try clear c14
  try clear c17
  try clear c17b0
  try clear c17b1
  try clear c18
  try clear c21
  try clear hcz12_0
  try clear hcz12_1
  try clear hcz12_2
  try clear hcz12_3
  try clear hcz15_0
  try clear hcz15_1
  try clear hcz15_2
  try clear hcz15_3
  try clear hcz16_0
  try clear hcz16_1
  try clear hcz16_2
  try clear hcz16_3
  try clear hcz19_0
  try clear hcz19_1
  try clear hcz19_2
  try clear hcz19_3
  try clear hcz20_0
  try clear hcz20_1
  try clear hcz20_2
  try clear hcz20_3
  try clear hcz22_0
  try clear hcz22_1
  try clear hcz22_2
  try clear hcz22_3
  try clear hcz23_0
  try clear hcz23_1
  try clear hcz23_2
  try clear hcz23_3
  try clear hcz8_0
  try clear hcz8_1
  try clear hcz8_2
  try clear hcz8_3
  try clear hcz9_0
  try clear hcz9_1
  try clear hcz9_2
  try clear hcz9_3
  try clear hfz12_0
  try clear hfz12_1
  try clear hfz12_2
  try clear hfz12_3
  try clear hfz15_0
  try clear hfz15_1
  try clear hfz15_2
  try clear hfz15_3
  try clear hfz16_0
  try clear hfz16_1
  try clear hfz16_2
  try clear hfz16_3
  try clear hfz19_0
  try clear hfz19_1
  try clear hfz19_2
  try clear hfz19_3
  try clear hfz20_0
  try clear hfz20_1
  try clear hfz20_2
  try clear hfz20_3
  try clear hfz22_0
  try clear hfz22_1
  try clear hfz22_2
  try clear hfz22_3
  try clear hfz23_0
  try clear hfz23_1
  try clear hfz23_2
  try clear hfz23_3
  try clear hfz8_0
  try clear hfz8_1
  try clear hfz8_2
  try clear hfz8_3
  try clear hfz9_0
  try clear hfz9_1
  try clear hfz9_2
  try clear hfz9_3
  obtain ⟨kq, x13_3, rfl, HA, HJ3, BK648, BK649, HB⟩ := hcut
  cases kq with
  | zero => exact absurd HA.out (by simp [quotient_parts.j0])
  | succ kj3 =>
   have H := HA.out
   clear HA
   simp only [quotient_parts.j0] at H
   by_cases c24 : x13_3 = true
   ·subst c24
    have H1 : ((shape_Nan.f a0).bind fun t650 => (some t650)) = some r := by rw [if_pos rfl] at H; exact H
    clear H;have H := H1;clear H1
    replace H := ob_ H
    obtain ⟨t650, A250, H⟩ := H
    replace H : (some t650) = some r := H
    have A25 := A_ A250;clear A250
    obtain rfl := Option.some.inj H
    go_wp2_with (first | ((with_reducible refine gate_callee (f := 34) rfl ?_); refine gl_ (some 35) Try.func34 #[.int .i64 a0] ?_; (with_reducible refine (shape_Nan.calls a0 t650 _ A25.out).mono ?_); rintro e w26 ⟨rfl, hb⟩; refine ⟨_, rfl, ?_⟩; have n0_ := A_ (bb_ BK648.out hb); have n1_ := A_ (bb_ BK649.out hb); have n2_ := A_ (below_step (hb2_ HB.out GE648.out GE649.out) hb); clear BK648; clear BK649; clear HB; have BK648 := n0_; have BK649 := n1_; have HB := n2_; clear n0_ n1_ n2_; (try clear hb); (try clear hb2); (try clear hk); (try clear hi)))
    go_ret
    exact ⟨er_, hb2_ HB.out GE648.out GE649.out⟩
   ·replace c24 := Bool.eq_false_iff.mpr c24
    subst c24
    have H1 : (if a1_1 = 2 then (quotient_parts.j1 kj3 a0 (a1_0 != a2_0) true a1_0 a1_1 a1_2 a1_3 a2_0 a2_1 a2_2 a2_3) else (quotient_parts.j1 kj3 a0 (a1_0 != a2_0) (a2_1 == 0) a1_0 a1_1 a1_2 a1_3 a2_0 a2_1 a2_2 a2_3)) = some r := by rw [if_neg (show ¬ (false = true) by decide)] at H; exact H
    clear H;have H := H1;clear H1;have HC27 := A_ H;clear H
    go_upto_region 4 with (fail)
    go_cut [36] (fun v36 wc => ∃ (kq : Nat) (x36_26 : Bool), v36 = .bool x36_26 ∧ Aside0 (quotient_parts.j1 kq a0 (a1_0 != a2_0) x36_26 a1_0 a1_1 a1_2 a1_3 a2_0 a2_1 a2_2 a2_3 = some r) ∧ Aside0 (kq ≤ kj3) ∧ Aside0 (wc.heap[gb648]? = some (.cells #[.bool a1_0, .int .i64 a1_1, .int .i64 a1_2, .int .u64 a1_3] 38 (0, 0))) ∧ Aside0 (wc.heap[gb649]? = some (.cells #[.bool a2_0, .int .i64 a2_1, .int .i64 a2_2, .int .u64 a2_3] 38 (0, 0))) ∧ Aside0 (Below w.heap.size w wc))
    case first =>
     have H := HC27.out
     clear HC27
     by_cases c28 : a1_1 = 2
     ·rw [if_pos c28] at H
      have c28b0 : (a1_1 == 2) = true := beq_iff_eq.mpr c28
      have c28b1 : (a1_1 != 2) = false := bne_eq_false_iff_eq.mpr c28
      clear c28
      (first | rw [c28b0] | (simp only [i64_w, i32_w]; rw [c28b0]) | skip)
      have H' := A_ H
      clear H
      have hnb29 := NB648_649.out
      have hnc29 := NB649_648.out
      have hcz30_0 : wc.cell? ⟨gb648, 0, none⟩ = some (.bool a1_0) := bc_ BK648.out 0
      have hcz30_1 : wc.cell? ⟨gb648, 1, none⟩ = some (.int .i64 a1_1) := bc_ BK648.out 1
      have hcz30_2 : wc.cell? ⟨gb648, 2, none⟩ = some (.int .i64 a1_2) := bc_ BK648.out 2
      have hcz30_3 : wc.cell? ⟨gb648, 3, none⟩ = some (.int .u64 a1_3) := bc_ BK648.out 3
      have hfz30_0 := blk_frozen BK648.out 0
      have hfz30_1 := blk_frozen BK648.out 1
      have hfz30_2 := blk_frozen BK648.out 2
      have hfz30_3 := blk_frozen BK648.out 3
      go_wp2
      go_meet
      case rel => exact ⟨_, (true), sm_, H', ⟨by have := HJ3.out; first | omega | exact Nat.le_refl _⟩, ⟨bk_ BK648.out⟩, ⟨bk_ BK649.out⟩, ⟨hb2_ HB.out GE648.out GE649.out⟩⟩
     ·rw [if_neg c28] at H
      have c28b0 : (a1_1 == 2) = false := beq_eq_false_iff_ne.mpr c28
      have c28b1 : (a1_1 != 2) = true := bne_iff_ne.mpr c28
      (first | rw [c28b0] | (simp only [i64_w, i32_w]; rw [c28b0]) | skip)
      have H' := A_ H
      clear H
      have hnb31 := NB648_649.out
      have hnc31 := NB649_648.out
      have hcz32_0 : wc.cell? ⟨gb648, 0, none⟩ = some (.bool a1_0) := bc_ BK648.out 0
      have hcz32_1 : wc.cell? ⟨gb648, 1, none⟩ = some (.int .i64 a1_1) := bc_ BK648.out 1
      have hcz32_2 : wc.cell? ⟨gb648, 2, none⟩ = some (.int .i64 a1_2) := bc_ BK648.out 2
      have hcz32_3 : wc.cell? ⟨gb648, 3, none⟩ = some (.int .u64 a1_3) := bc_ BK648.out 3
      have hfz32_0 := blk_frozen BK648.out 0
      have hfz32_1 := blk_frozen BK648.out 1
      have hfz32_2 := blk_frozen BK648.out 2
      have hfz32_3 := blk_frozen BK648.out 3
      have hcz33_0 : wc.cell? ⟨gb649, 0, none⟩ = some (.bool a2_0) := bc_ BK649.out 0
      have hcz33_1 : wc.cell? ⟨gb649, 1, none⟩ = some (.int .i64 a2_1) := bc_ BK649.out 1
      have hcz33_2 : wc.cell? ⟨gb649, 2, none⟩ = some (.int .i64 a2_2) := bc_ BK649.out 2
      have hcz33_3 : wc.cell? ⟨gb649, 3, none⟩ = some (.int .u64 a2_3) := bc_ BK649.out 3
      have hfz33_0 := blk_frozen BK649.out 0
      have hfz33_1 := blk_frozen BK649.out 1
      have hfz33_2 := blk_frozen BK649.out 2
      have hfz33_3 := blk_frozen BK649.out 3
      go_wp2
      go_meet
      case rel => exact ⟨_, ((a2_1 == 0)), sm_, H', ⟨by have := HJ3.out; first | omega | exact Nat.le_refl _⟩, ⟨bk_ BK648.out⟩, ⟨bk_ BK649.out⟩, ⟨hb2_ HB.out GE648.out GE649.out⟩⟩
    case rest =>
     clear HC27
     try clear c1
     try clear c2
     try clear p2
     try clear c3
     try clear c6
     try clear c7
     try clear c10
     try clear c10b0
     try clear c10b1
     try clear c11
     try clear c13
     try clear c13b0
     try clear c13b1
     try clear c14
     try clear c17
     try clear c17b0
     try clear c17b1
     try clear c18
     try clear c21
     try clear c24
     try clear c28
     try clear c28b0
     try clear c28b1
     try clear c29
     try clear c31
     try clear hcz12_0
     try clear hcz12_1
     try clear hcz12_2
     try clear hcz12_3
     try clear hcz15_0
     try clear hcz15_1
     try clear hcz15_2
     try clear hcz15_3
     try clear hcz16_0
     try clear hcz16_1
     try clear hcz16_2
     try clear hcz16_3
     try clear hcz19_0
     try clear hcz19_1
     try clear hcz19_2
     try clear hcz19_3
     try clear hcz20_0
     try clear hcz20_1
     try clear hcz20_2
     try clear hcz20_3
     try clear hcz22_0
     try clear hcz22_1
     try clear hcz22_2
     try clear hcz22_3
     try clear hcz23_0
     try clear hcz23_1
     try clear hcz23_2
     try clear hcz23_3
     try clear hcz30_0
     try clear hcz30_1
     try clear hcz30_2
     try clear hcz30_3
     try clear hcz32_0
     try clear hcz32_1
     try clear hcz32_2
     try clear hcz32_3
     try clear hcz33_0
     try clear hcz33_1
     try clear hcz33_2
     try clear hcz33_3
     try clear hcz8_0
     try clear hcz8_1
     try clear hcz8_2
     try clear hcz8_3
     try clear hcz9_0
     try clear hcz9_1
     try clear hcz9_2
     try clear hcz9_3
     try clear hfz12_0
     try clear hfz12_1
     try clear hfz12_2
     try clear hfz12_3
     try clear hfz15_0
     try clear hfz15_1
     try clear hfz15_2
     try clear hfz15_3
     try clear hfz16_0
     try clear hfz16_1
     try clear hfz16_2
     try clear hfz16_3
     try clear hfz19_0
     try clear hfz19_1
     try clear hfz19_2
     try clear hfz19_3
     try clear hfz20_0
     try clear hfz20_1
     try clear hfz20_2
     try clear hfz20_3
     try clear hfz22_0
     try clear hfz22_1
     try clear hfz22_2
     try clear hfz22_3
     try clear hfz23_0
     try clear hfz23_1
     try clear hfz23_2
     try clear hfz23_3
     try clear hfz30_0
     try clear hfz30_1
     try clear hfz30_2
     try clear hfz30_3
     try clear hfz32_0
     try clear hfz32_1
     try clear hfz32_2
     try clear hfz32_3
     try clear hfz33_0
     try clear hfz33_1
     try clear hfz33_2
     try clear hfz33_3
     try clear hfz8_0
     try clear hfz8_1
     try clear hfz8_2
     try clear hfz8_3
     try clear hfz9_0
     try clear hfz9_1
     try clear hfz9_2
     try clear hfz9_3
     try clear p2
     obtain ⟨kq, x36_26, rfl, HA, HJ26, BK648, BK649, HB⟩ := hcut
     cases kq with
     | zero => exact absurd HA.out (by simp [quotient_parts.j1])
     | succ kj26 =>
      have H := HA.out
      clear HA
      simp only [quotient_parts.j1] at H
      by_cases c34 : x36_26 = true
      ·subst c34
       have H1 : ((shape_Inf.f a0 (a1_0 != a2_0)).bind fun t651 => (some t651)) = some r := by rw [if_pos rfl] at H; exact H
       clear H;have H := H1;clear H1
       replace H := ob_ H
       obtain ⟨t651, A350, H⟩ := H
       replace H : (some t651) = some r := H
       have A35 := A_ A350;clear A350
       obtain rfl := Option.some.inj H
       go_wp2_with (first | ((with_reducible refine gate_callee (f := 42) rfl ?_); refine gl_ (some 47) Try.func42 #[.int .i64 a0, .bool (a1_0 != a2_0)] ?_; (with_reducible refine (shape_Inf.calls a0 (a1_0 != a2_0) t651 _ A35.out).mono ?_); rintro e w36 ⟨rfl, hb⟩; refine ⟨_, rfl, ?_⟩; have n0_ := A_ (bb_ BK648.out hb); have n1_ := A_ (bb_ BK649.out hb); have n2_ := A_ (below_step (hb2_ HB.out GE648.out GE649.out) hb); clear BK648; clear BK649; clear HB; have BK648 := n0_; have BK649 := n1_; have HB := n2_; clear n0_ n1_ n2_; (try clear hb); (try clear hb2); (try clear hk); (try clear hi)))
       go_ret
       exact ⟨er_, hb2_ HB.out GE648.out GE649.out⟩
      ·replace c34 := Bool.eq_false_iff.mpr c34
       subst c34
       have H1 : (if a1_1 = 0 then (quotient_parts.j2 kj26 a0 (a1_0 != a2_0) true a1_0 a1_1 a1_2 a1_3 a2_0 a2_1 a2_2 a2_3) else (quotient_parts.j2 kj26 a0 (a1_0 != a2_0) (a2_1 == 2) a1_0 a1_1 a1_2 a1_3 a2_0 a2_1 a2_2 a2_3)) = some r := by rw [if_neg (show ¬ (false = true) by decide)] at H; exact H
       clear H;have H := H1;clear H1;have HC37 := A_ H;clear H
       go_upto_region 6 with (fail)
       go_cut [48] (fun v48 wc => ∃ (kq : Nat) (x48_36 : Bool), v48 = .bool x48_36 ∧ Aside0 (quotient_parts.j2 kq a0 (a1_0 != a2_0) x48_36 a1_0 a1_1 a1_2 a1_3 a2_0 a2_1 a2_2 a2_3 = some r) ∧ Aside0 (kq ≤ kj26) ∧ Aside0 (wc.heap[gb648]? = some (.cells #[.bool a1_0, .int .i64 a1_1, .int .i64 a1_2, .int .u64 a1_3] 38 (0, 0))) ∧ Aside0 (wc.heap[gb649]? = some (.cells #[.bool a2_0, .int .i64 a2_1, .int .i64 a2_2, .int .u64 a2_3] 38 (0, 0))) ∧ Aside0 (Below w.heap.size w wc))
       case first =>
        have H := HC37.out
        clear HC37
        by_cases c38 : a1_1 = 0
        ·rw [if_pos c38] at H
         have c38b0 : (a1_1 == 0) = true := beq_iff_eq.mpr c38
         have c38b1 : (a1_1 != 0) = false := bne_eq_false_iff_eq.mpr c38
         clear c38
         (first | rw [c38b0] | (simp only [i64_w, i32_w]; rw [c38b0]) | skip)
         have H' := A_ H
         clear H
         have hnb39 := NB648_649.out
         have hnc39 := NB649_648.out
         have hcz40_0 : wc.cell? ⟨gb648, 0, none⟩ = some (.bool a1_0) := bc_ BK648.out 0
         have hcz40_1 : wc.cell? ⟨gb648, 1, none⟩ = some (.int .i64 a1_1) := bc_ BK648.out 1
         have hcz40_2 : wc.cell? ⟨gb648, 2, none⟩ = some (.int .i64 a1_2) := bc_ BK648.out 2
         have hcz40_3 : wc.cell? ⟨gb648, 3, none⟩ = some (.int .u64 a1_3) := bc_ BK648.out 3
         have hfz40_0 := blk_frozen BK648.out 0
         have hfz40_1 := blk_frozen BK648.out 1
         have hfz40_2 := blk_frozen BK648.out 2
         have hfz40_3 := blk_frozen BK648.out 3
         go_wp2
         go_meet
         case rel => exact ⟨_, (true), sm_, H', ⟨by have := HJ3.out; have := HJ26.out; first | omega | exact Nat.le_refl _⟩, ⟨bk_ BK648.out⟩, ⟨bk_ BK649.out⟩, ⟨hb2_ HB.out GE648.out GE649.out⟩⟩
        ·rw [if_neg c38] at H
         have c38b0 : (a1_1 == 0) = false := beq_eq_false_iff_ne.mpr c38
         have c38b1 : (a1_1 != 0) = true := bne_iff_ne.mpr c38
         (first | rw [c38b0] | (simp only [i64_w, i32_w]; rw [c38b0]) | skip)
         have H' := A_ H
         clear H
         have hnb41 := NB648_649.out
         have hnc41 := NB649_648.out
         have hcz42_0 : wc.cell? ⟨gb648, 0, none⟩ = some (.bool a1_0) := bc_ BK648.out 0
         have hcz42_1 : wc.cell? ⟨gb648, 1, none⟩ = some (.int .i64 a1_1) := bc_ BK648.out 1
         have hcz42_2 : wc.cell? ⟨gb648, 2, none⟩ = some (.int .i64 a1_2) := bc_ BK648.out 2
         have hcz42_3 : wc.cell? ⟨gb648, 3, none⟩ = some (.int .u64 a1_3) := bc_ BK648.out 3
         have hfz42_0 := blk_frozen BK648.out 0
         have hfz42_1 := blk_frozen BK648.out 1
         have hfz42_2 := blk_frozen BK648.out 2
         have hfz42_3 := blk_frozen BK648.out 3
         have hcz43_0 : wc.cell? ⟨gb649, 0, none⟩ = some (.bool a2_0) := bc_ BK649.out 0
         have hcz43_1 : wc.cell? ⟨gb649, 1, none⟩ = some (.int .i64 a2_1) := bc_ BK649.out 1
         have hcz43_2 : wc.cell? ⟨gb649, 2, none⟩ = some (.int .i64 a2_2) := bc_ BK649.out 2
         have hcz43_3 : wc.cell? ⟨gb649, 3, none⟩ = some (.int .u64 a2_3) := bc_ BK649.out 3
         have hfz43_0 := blk_frozen BK649.out 0
         have hfz43_1 := blk_frozen BK649.out 1
         have hfz43_2 := blk_frozen BK649.out 2
         have hfz43_3 := blk_frozen BK649.out 3
         go_wp2
         go_meet
         case rel => exact ⟨_, ((a2_1 == 2)), sm_, H', ⟨by have := HJ3.out; have := HJ26.out; first | omega | exact Nat.le_refl _⟩, ⟨bk_ BK648.out⟩, ⟨bk_ BK649.out⟩, ⟨hb2_ HB.out GE648.out GE649.out⟩⟩
       case rest =>
        clear HC37
        try clear c1
        try clear c2
        try clear p2
        try clear c3
        try clear c4
        try clear c6
        try clear c7
        try clear c10
        try clear c10b0
        try clear c10b1
        try clear c11
        try clear c13
        try clear c13b0
        try clear c13b1
        try clear c14
        try clear c17
        try clear c17b0
        try clear c17b1
        try clear c18
        try clear c21
        try clear c24
        try clear c28
        try clear c28b0
        try clear c28b1
        try clear c29
        try clear c31
        try clear c34
        try clear c38
        try clear c38b0
        try clear c38b1
        try clear c39
        try clear c41
        try clear c42
        try clear hcz12_0
        try clear hcz12_1
        try clear hcz12_2
        try clear hcz12_3
        try clear hcz15_0
        try clear hcz15_1
        try clear hcz15_2
        try clear hcz15_3
        try clear hcz16_0
        try clear hcz16_1
        try clear hcz16_2
        try clear hcz16_3
        try clear hcz19_0
        try clear hcz19_1
        try clear hcz19_2
        try clear hcz19_3
        try clear hcz20_0
        try clear hcz20_1
        try clear hcz20_2
        try clear hcz20_3
        try clear hcz22_0
        try clear hcz22_1
        try clear hcz22_2
        try clear hcz22_3
        try clear hcz23_0
        try clear hcz23_1
        try clear hcz23_2
        try clear hcz23_3
        try clear hcz30_0
        try clear hcz30_1
        try clear hcz30_2
        try clear hcz30_3
        try clear hcz32_0
        try clear hcz32_1
        try clear hcz32_2
        try clear hcz32_3
        try clear hcz33_0
        try clear hcz33_1
        try clear hcz33_2
        try clear hcz33_3
        try clear hcz40_0
        try clear hcz40_1
        try clear hcz40_2
        try clear hcz40_3
        try clear hcz42_0
        try clear hcz42_1
        try clear hcz42_2
        try clear hcz42_3
        try clear hcz43_0
        try clear hcz43_1
        try clear hcz43_2
        try clear hcz43_3
        try clear hcz8_0
        try clear hcz8_1
        try clear hcz8_2
        try clear hcz8_3
        try clear hcz9_0
        try clear hcz9_1
        try clear hcz9_2
        try clear hcz9_3
        try clear hfz12_0
        try clear hfz12_1
        try clear hfz12_2
        try clear hfz12_3
        try clear hfz15_0
        try clear hfz15_1
        try clear hfz15_2
        try clear hfz15_3
        try clear hfz16_0
        try clear hfz16_1
        try clear hfz16_2
        try clear hfz16_3
        try clear hfz19_0
        try clear hfz19_1
        try clear hfz19_2
        try clear hfz19_3
        try clear hfz20_0
        try clear hfz20_1
        try clear hfz20_2
        try clear hfz20_3
        try clear hfz22_0
        try clear hfz22_1
        try clear hfz22_2
        try clear hfz22_3
        try clear hfz23_0
        try clear hfz23_1
        try clear hfz23_2
        try clear hfz23_3
        try clear hfz30_0
        try clear hfz30_1
        try clear hfz30_2
        try clear hfz30_3
        try clear hfz32_0
        try clear hfz32_1
        try clear hfz32_2
        try clear hfz32_3
        try clear hfz33_0
        try clear hfz33_1
        try clear hfz33_2
        try clear hfz33_3
        try clear hfz40_0
        try clear hfz40_1
        try clear hfz40_2
        try clear hfz40_3
        try clear hfz42_0
        try clear hfz42_1
        try clear hfz42_2
        try clear hfz42_3
        try clear hfz43_0
        try clear hfz43_1
        try clear hfz43_2
        try clear hfz43_3
        try clear hfz8_0
        try clear hfz8_1
        try clear hfz8_2
        try clear hfz8_3
        try clear hfz9_0
        try clear hfz9_1
        try clear hfz9_2
        try clear hfz9_3
        try clear p2
        obtain ⟨kq, x48_36, rfl, HA, HJ36, BK648, BK649, HB⟩ := hcut
        cases kq with
        | zero => exact absurd HA.out (by simp [quotient_parts.j2])
        | succ kj36 =>
         have H := HA.out
         clear HA
         simp only [quotient_parts.j2] at H
         by_cases c44 : x48_36 = true
         ·subst c44
          have H1 : ((shape_Zero.f a0 (a1_0 != a2_0)).bind fun t652 => (some t652)) = some r := by rw [if_pos rfl] at H; exact H
          clear H;have H := H1;clear H1
          replace H := ob_ H
          obtain ⟨t652, A450, H⟩ := H
          replace H : (some t652) = some r := H
          have A45 := A_ A450;clear A450
          obtain rfl := Option.some.inj H
          go_wp2_with (first | ((with_reducible refine gate_callee (f := 30) rfl ?_); refine gl_ (some 59) Try.func30 #[.int .i64 a0, .bool (a1_0 != a2_0)] ?_; (with_reducible refine (shape_Zero.calls a0 (a1_0 != a2_0) t652 _ A45.out).mono ?_); rintro e w46 ⟨rfl, hb⟩; refine ⟨_, rfl, ?_⟩; have n0_ := A_ (bb_ BK648.out hb); have n1_ := A_ (bb_ BK649.out hb); have n2_ := A_ (below_step (hb2_ HB.out GE648.out GE649.out) hb); clear BK648; clear BK649; clear HB; have BK648 := n0_; have BK649 := n1_; have HB := n2_; clear n0_ n1_ n2_; (try clear hb); (try clear hb2); (try clear hk); (try clear hi)))
          go_ret
          exact ⟨er_, hb2_ HB.out GE648.out GE649.out⟩
         ·replace c44 := Bool.eq_false_iff.mpr c44
          subst c44
          have H1 : ((quotient_fraction_value.f kj36 a1_0 a1_1 a1_2 a1_3 a2_0 a2_1 a2_2 a2_3 a0).bind fun t653 => (some t653)) = some r := by rw [if_neg (show ¬ (false = true) by decide)] at H; exact H
          clear H;have H := H1;clear H1
          replace H := ob_ H
          obtain ⟨t653, A470, H⟩ := H
          replace H : (some t653) = some r := H
          have A47 := A_ A470;clear A470
          obtain rfl := Option.some.inj H
          have hnb48 := NB648_649.out
          have hnc48 := NB649_648.out
          have hcz49_0 : wc.cell? ⟨gb648, 0, none⟩ = some (.bool a1_0) := bc_ BK648.out 0
          have hcz49_1 : wc.cell? ⟨gb648, 1, none⟩ = some (.int .i64 a1_1) := bc_ BK648.out 1
          have hcz49_2 : wc.cell? ⟨gb648, 2, none⟩ = some (.int .i64 a1_2) := bc_ BK648.out 2
          have hcz49_3 : wc.cell? ⟨gb648, 3, none⟩ = some (.int .u64 a1_3) := bc_ BK648.out 3
          have hfz49_0 := blk_frozen BK648.out 0
          have hfz49_1 := blk_frozen BK648.out 1
          have hfz49_2 := blk_frozen BK648.out 2
          have hfz49_3 := blk_frozen BK648.out 3
          have hcz50_0 : wc.cell? ⟨gb649, 0, none⟩ = some (.bool a2_0) := bc_ BK649.out 0
          have hcz50_1 : wc.cell? ⟨gb649, 1, none⟩ = some (.int .i64 a2_1) := bc_ BK649.out 1
          have hcz50_2 : wc.cell? ⟨gb649, 2, none⟩ = some (.int .i64 a2_2) := bc_ BK649.out 2
          have hcz50_3 : wc.cell? ⟨gb649, 3, none⟩ = some (.int .u64 a2_3) := bc_ BK649.out 3
          have hfz50_0 := blk_frozen BK649.out 0
          have hfz50_1 := blk_frozen BK649.out 1
          have hfz50_2 := blk_frozen BK649.out 2
          have hfz50_3 := blk_frozen BK649.out 3
          go_wp2_with (first | ((with_reducible refine gate_callee (f := 95) rfl ?_); refine gl_ (some 66) Try.func95 #[.agg #[.bool a1_0, .int .i64 a1_1, .int .i64 a1_2, .int .u64 a1_3, .bool a2_0, .int .i64 a2_1, .int .i64 a2_2, .int .u64 a2_3], .int .i64 a0] ?_; (with_reducible refine (quotient_fraction_value.calls kj36 a1_0 a1_1 a1_2 a1_3 a2_0 a2_1 a2_2 a2_3 a0 t653 _ A47.out).mono ?_); rintro e w51 ⟨rfl, hb⟩; refine ⟨_, rfl, ?_⟩; have n0_ := A_ (bb_ BK648.out hb); have n1_ := A_ (bb_ BK649.out hb); have n2_ := A_ (below_step (hb2_ HB.out GE648.out GE649.out) hb); clear BK648; clear BK649; clear HB; have BK648 := n0_; have BK649 := n1_; have HB := n2_; clear n0_ n1_ n2_; (try clear hb); (try clear hb2); (try clear hk); (try clear hi)))
          go_ret
          exact ⟨er_, hb2_ HB.out GE648.out GE649.out⟩
def quotient_Div.j0 : Nat → Int → Int → Int → Bool → Option (Int)
 | 0, _, _, _, _ => none
 | k + 1, x0, x1, x2, x12 => if x12 = true then (some 0) else ((shape_Open.f k x0 x1).bind fun bt654 => ((shape_Open.f k x0 x2).bind fun bt658 => ((quotient_parts.f k x0 bt654.1 bt654.2.1 bt654.2.2.1 bt654.2.2.2 bt658.1 bt658.2.1 bt658.2.2.1 bt658.2.2.2).bind fun t662 => (some t662))))
def quotient_Div.f (k : Nat) (a0 : Int) (a1 : Int) (a2 : Int) : Option (Int) := if a0 = 32 then (quotient_Div.j0 k a0 a1 a2 false) else (quotient_Div.j0 k a0 a1 a2 (a0 != 64))
theorem quotient_Div.mono_l : ∀ k, (∀ y0 y1 y2 y3, LeO (quotient_Div.j0 k y0 y1 y2 y3) (quotient_Div.j0 (k + 1) y0 y1 y2 y3))
 | 0 => fun _ _ _ _ r h => by simp [quotient_Div.j0] at h
 | k + 1 => by
  have ih0 := quotient_Div.mono_l k
  ·intro y0 y1 y2 y3
   unfold quotient_Div.j0
   repeat' first
   | (with_reducible exact ih0 _ _ _ _)
   | (with_reducible exact quotient_parts.mono _ _ _ _ _ _ _ _ _ _)
   | (with_reducible exact shape_Open.mono _ _ _)
   | (with_reducible exact LeO.refl _)
   | (with_reducible exact LeO.none _)
   | (with_reducible refine LeO.ite ?_ ?_)
   | (with_reducible refine LeO.bind ?_ (fun _ => ?_))
   | exact ih0 _ _ _ _
   | exact quotient_parts.mono _ _ _ _ _ _ _ _ _ _
   | exact shape_Open.mono _ _ _
   | exact LeO.none _
   | refine LeO.ite ?_ ?_
   | refine LeO.bind ?_ (fun _ => ?_)
theorem quotient_Div.mono : ∀ a0 a1 a2 k, LeO (quotient_Div.f k a0 a1 a2) (quotient_Div.f (k + 1) a0 a1 a2) := by
 intro a0 a1 a2 k
 have ih0 := quotient_Div.mono_l k
 unfold quotient_Div.f
 repeat' first
   | (with_reducible exact ih0 _ _ _ _)
   | (with_reducible exact quotient_parts.mono _ _ _ _ _ _ _ _ _ _)
   | (with_reducible exact shape_Open.mono _ _ _)
   | (with_reducible exact LeO.refl _)
   | (with_reducible exact LeO.none _)
   | (with_reducible refine LeO.ite ?_ ?_)
   | (with_reducible refine LeO.bind ?_ (fun _ => ?_))
   | exact ih0 _ _ _ _
   | exact quotient_parts.mono _ _ _ _ _ _ _ _ _ _
   | exact shape_Open.mono _ _ _
   | exact LeO.none _
   | refine LeO.ite ?_ ?_
   | refine LeO.bind ?_ (fun _ => ?_)
theorem quotient_Div.calls (k : Nat) (a0 : Int) (a1 : Int) (a2 : Int) (r : Int) (w : World) (h : quotient_Div.f k a0 a1 a2 = some r) :
  Calls Try.prog 27 #[.int .i64 a0, .int .u64 a1, .int .u64 a2] w fun e w' => e = .returned (.int .u64 r) ∧ Below w.heap.size w w' := by
 have HB := A_ (Below.refl w.heap.size w)
 have H : (if a0 = 32 then (quotient_Div.j0 k a0 a1 a2 false) else (quotient_Div.j0 k a0 a1 a2 (a0 != 64))) = some r := h
 clear h;have HC4 := A_ H;clear H
 go_enter Try.func27, Try.ntmps27
 go_upto_region 1 with (fail)
 go_cut [12] (fun v12 wc => ∃ (kq : Nat) (x12_3 : Bool), v12 = .bool x12_3 ∧ Aside0 (quotient_Div.j0 kq a0 a1 a2 x12_3 = some r) ∧ Aside0 (kq ≤ k) ∧ Aside0 (Below w.heap.size w wc))
 case first =>
  have H := HC4.out
  clear HC4
  by_cases c5 : a0 = 32
  ·rw [if_pos c5] at H
   have c5b0 : (a0 == 32) = true := beq_iff_eq.mpr c5
   have c5b1 : (a0 != 32) = false := bne_eq_false_iff_eq.mpr c5
   clear c5
   (first | rw [c5b0] | (simp only [i64_w, i32_w]; rw [c5b0]) | skip)
   have H' := A_ H
   clear H
   go_wp2
   go_meet
   case rel => exact ⟨_, (false), sm_, H', ⟨by first | omega | exact Nat.le_refl _⟩, ⟨hb_ HB.out⟩⟩
  ·rw [if_neg c5] at H
   have c5b0 : (a0 == 32) = false := beq_eq_false_iff_ne.mpr c5
   have c5b1 : (a0 != 32) = true := bne_iff_ne.mpr c5
   (first | rw [c5b0] | (simp only [i64_w, i32_w]; rw [c5b0]) | skip)
   have H' := A_ H
   clear H
   go_wp2
   go_meet
   case rel => exact ⟨_, ((a0 != 64)), sm_, H', ⟨by first | omega | exact Nat.le_refl _⟩, ⟨hb_ HB.out⟩⟩
 case rest =>
  clear HC4
  try clear c2
  try clear p2
  try clear c5
  try clear c5b0
  try clear c5b1
  obtain ⟨kq, x12_3, rfl, HA, HJ3, HB⟩ := hcut
  cases kq with
  | zero => exact absurd HA.out (by simp [quotient_Div.j0])
  | succ kj3 =>
   have H := HA.out
   clear HA
   simp only [quotient_Div.j0] at H
   by_cases c6 : x12_3 = true
   ·subst c6
    have H1 : (some 0) = some r := by rw [if_pos rfl] at H; exact H
    clear H;have H := H1;clear H1
    obtain rfl := Option.some.inj H
    go_wp2
    go_ret
    exact ⟨er_, hb_ HB.out⟩
   ·replace c6 := Bool.eq_false_iff.mpr c6
    subst c6
    have H1 : ((shape_Open.f kj3 a0 a1).bind fun bt654 => ((shape_Open.f kj3 a0 a2).bind fun bt658 => ((quotient_parts.f kj3 a0 bt654.1 bt654.2.1 bt654.2.2.1 bt654.2.2.2 bt658.1 bt658.2.1 bt658.2.2.1 bt658.2.2.2).bind fun t662 => (some t662)))) = some r := by rw [if_neg (show ¬ (false = true) by decide)] at H; exact H
    clear H;have H := H1;clear H1
    replace H := ob_ H
    obtain ⟨⟨t654, t655, t656, t657⟩, A70, H⟩ := H
    replace H : ((shape_Open.f kj3 a0 a2).bind fun bt658 => ((quotient_parts.f kj3 a0 t654 t655 t656 t657 bt658.1 bt658.2.1 bt658.2.2.1 bt658.2.2.2).bind fun t662 => (some t662))) = some r := H
    have A7 := A_ A70;clear A70
    replace H := ob_ H
    obtain ⟨⟨t658, t659, t660, t661⟩, A80, H⟩ := H
    replace H : ((quotient_parts.f kj3 a0 t654 t655 t656 t657 t658 t659 t660 t661).bind fun t662 => (some t662)) = some r := H
    have A8 := A_ A80;clear A80
    replace H := ob_ H
    obtain ⟨t662, A90, H⟩ := H
    replace H : (some t662) = some r := H
    have A9 := A_ A90;clear A90
    obtain rfl := Option.some.inj H
    go_wp2_with (first | ((with_reducible refine gate_callee (f := 31) rfl ?_); refine gl_ (some 16) Try.func31 #[.int .i64 a0, .int .u64 a1] ?_; (with_reducible refine (shape_Open.calls kj3 a0 a1 t654 t655 t656 t657 _ A7.out).mono ?_); rintro e w10 ⟨rfl, hb⟩; refine ⟨_, rfl, ?_⟩; have n0_ := A_ (below_step (hb_ HB.out) hb); clear HB; have HB := n0_; clear n0_; (try clear hb); (try clear hb2); (try clear hk); (try clear hi)) | ((with_reducible refine gate_callee (f := 31) rfl ?_); refine gl_ (some 19) Try.func31 #[.int .i64 a0, .int .u64 a2] ?_; (with_reducible refine (shape_Open.calls kj3 a0 a2 t658 t659 t660 t661 _ A8.out).mono ?_); rintro e w11 ⟨rfl, hb⟩; refine ⟨_, rfl, ?_⟩; have n0_ := A_ (below_step (hb_ HB.out) hb); clear HB; have HB := n0_; clear n0_; (try clear hb); (try clear hb2); (try clear hk); (try clear hi)) | ((with_reducible refine gate_callee (f := 64) rfl ?_); refine gl_ (some 20) Try.func64 #[.int .i64 a0, .agg #[.bool t654, .int .i64 t655, .int .i64 t656, .int .u64 t657], .agg #[.bool t658, .int .i64 t659, .int .i64 t660, .int .u64 t661]] ?_; (with_reducible refine (quotient_parts.calls kj3 a0 t654 t655 t656 t657 t658 t659 t660 t661 t662 _ A9.out).mono ?_); rintro e w12 ⟨rfl, hb⟩; refine ⟨_, rfl, ?_⟩; have n0_ := A_ (below_step (hb_ HB.out) hb); clear HB; have HB := n0_; clear n0_; (try clear hb); (try clear hb2); (try clear hk); (try clear hi)))
    go_ret
    exact ⟨er_, hb_ HB.out⟩
def round_Whole.f (a0 : Int) (a1 : Bool) (a2 : Int) : Option (Int) := if a1 = true then ((wide_Of.f a2).bind fun bt221 => ((round_Pack.f a0 (decide (a2 > 0)) bt221.1 bt221.2 0 false).bind fun t223 => (some t223))) else ((wide_Of.f a2).bind fun bt224 => ((round_Pack.f a0 false bt224.1 bt224.2 0 false).bind fun t226 => (some t226)))
theorem round_Whole.calls (a0 : Int) (a1 : Bool) (a2 : Int) (r : Int) (w : World) (h : round_Whole.f a0 a1 a2 = some r) :
  Calls Try.prog 65 #[.int .i64 a0, .bool a1, .int .u64 a2] w fun e w' => e = .returned (.int .u64 r) ∧ Below w.heap.size w w' := by
 have HB := A_ (Below.refl w.heap.size w)
 have H : (if a1 = true then ((wide_Of.f a2).bind fun bt221 => ((round_Pack.f a0 (decide (a2 > 0)) bt221.1 bt221.2 0 false).bind fun t223 => (some t223))) else ((wide_Of.f a2).bind fun bt224 => ((round_Pack.f a0 false bt224.1 bt224.2 0 false).bind fun t226 => (some t226)))) = some r := h
 clear h
 by_cases c4 : a1 = true
 ·subst c4
  have H1 : ((wide_Of.f a2).bind fun bt221 => ((round_Pack.f a0 (decide (a2 > 0)) bt221.1 bt221.2 0 false).bind fun t223 => (some t223))) = some r := by rw [if_pos rfl] at H; exact H
  clear H;have H := H1;clear H1
  replace H := ob_ H
  obtain ⟨⟨t221, t222⟩, A50, H⟩ := H
  replace H : ((round_Pack.f a0 (decide (a2 > 0)) t221 t222 0 false).bind fun t223 => (some t223)) = some r := H
  have A5 := A_ A50;clear A50
  replace H := ob_ H
  obtain ⟨t223, A60, H⟩ := H
  replace H : (some t223) = some r := H
  have A6 := A_ A60;clear A60
  obtain rfl := Option.some.inj H
  go_enter Try.func65, Try.ntmps65
  go_wp2_with (first | ((with_reducible refine gate_callee (f := 39) rfl ?_); refine gl_ (some 14) Try.func39 #[.int .u64 a2] ?_; (with_reducible refine (wide_Of.calls a2 t221 t222 _ A5.out).mono ?_); rintro e w7 ⟨rfl, hb⟩; refine ⟨_, rfl, ?_⟩; have n0_ := A_ (below_step (hb_ HB.out) hb); clear HB; have HB := n0_; clear n0_; (try clear hb); (try clear hb2); (try clear hk); (try clear hi)) | ((with_reducible refine gate_callee (f := 36) rfl ?_); refine gl_ (some 15) Try.func36 #[.int .i64 a0, .bool (decide (a2 > 0)), .agg #[.int .u64 t221, .int .u64 t222], .int .i64 0, .bool false] ?_; (with_reducible refine (round_Pack.calls a0 (decide (a2 > 0)) t221 t222 0 false t223 _ A6.out).mono ?_); rintro e w8 ⟨rfl, hb⟩; refine ⟨_, rfl, ?_⟩; have n0_ := A_ (below_step (hb_ HB.out) hb); clear HB; have HB := n0_; clear n0_; (try clear hb); (try clear hb2); (try clear hk); (try clear hi)))
  go_ret
  exact ⟨er_, hb_ HB.out⟩
 ·replace c4 := Bool.eq_false_iff.mpr c4
  subst c4
  have H1 : ((wide_Of.f a2).bind fun bt224 => ((round_Pack.f a0 false bt224.1 bt224.2 0 false).bind fun t226 => (some t226))) = some r := by rw [if_neg (show ¬ (false = true) by decide)] at H; exact H
  clear H;have H := H1;clear H1
  replace H := ob_ H
  obtain ⟨⟨t224, t225⟩, A90, H⟩ := H
  replace H : ((round_Pack.f a0 false t224 t225 0 false).bind fun t226 => (some t226)) = some r := H
  have A9 := A_ A90;clear A90
  replace H := ob_ H
  obtain ⟨t226, A100, H⟩ := H
  replace H : (some t226) = some r := H
  have A10 := A_ A100;clear A100
  obtain rfl := Option.some.inj H
  go_enter Try.func65, Try.ntmps65
  go_wp2_with (first | ((with_reducible refine gate_callee (f := 39) rfl ?_); refine gl_ (some 14) Try.func39 #[.int .u64 a2] ?_; (with_reducible refine (wide_Of.calls a2 t224 t225 _ A9.out).mono ?_); rintro e w11 ⟨rfl, hb⟩; refine ⟨_, rfl, ?_⟩; have n0_ := A_ (below_step (hb_ HB.out) hb); clear HB; have HB := n0_; clear n0_; (try clear hb); (try clear hb2); (try clear hk); (try clear hi)) | ((with_reducible refine gate_callee (f := 36) rfl ?_); refine gl_ (some 15) Try.func36 #[.int .i64 a0, .bool false, .agg #[.int .u64 t224, .int .u64 t225], .int .i64 0, .bool false] ?_; (with_reducible refine (round_Pack.calls a0 false t224 t225 0 false t226 _ A10.out).mono ?_); rintro e w12 ⟨rfl, hb⟩; refine ⟨_, rfl, ?_⟩; have n0_ := A_ (below_step (hb_ HB.out) hb); clear HB; have HB := n0_; clear n0_; (try clear hb); (try clear hb2); (try clear hk); (try clear hi)))
  go_ret
  exact ⟨er_, hb_ HB.out⟩
def quotient_Inverse.f (k : Nat) (a0 : Int) (a1 : Int) : Option (Int) := (round_Whole.f a0 false 1).bind fun t663 => ((quotient_Div.f k a0 t663 a1).bind fun t664 => (some t664))
theorem quotient_Inverse.mono : ∀ a0 a1 k, LeO (quotient_Inverse.f k a0 a1) (quotient_Inverse.f (k + 1) a0 a1) := by
 intro a0 a1 k
 unfold quotient_Inverse.f
 repeat' first
   | (with_reducible exact quotient_Div.mono _ _ _ _)
   | (with_reducible exact LeO.refl _)
   | (with_reducible exact LeO.none _)
   | (with_reducible refine LeO.ite ?_ ?_)
   | (with_reducible refine LeO.bind ?_ (fun _ => ?_))
   | exact quotient_Div.mono _ _ _ _
   | exact LeO.none _
   | refine LeO.ite ?_ ?_
   | refine LeO.bind ?_ (fun _ => ?_)
theorem quotient_Inverse.calls (k : Nat) (a0 : Int) (a1 : Int) (r : Int) (w : World) (h : quotient_Inverse.f k a0 a1 = some r) :
  Calls Try.prog 28 #[.int .i64 a0, .int .u64 a1] w fun e w' => e = .returned (.int .u64 r) ∧ Below w.heap.size w w' := by
 have HB := A_ (Below.refl w.heap.size w)
 have H : ((round_Whole.f a0 false 1).bind fun t663 => ((quotient_Div.f k a0 t663 a1).bind fun t664 => (some t664))) = some r := h
 clear h
 replace H := ob_ H
 obtain ⟨t663, A30, H⟩ := H
 replace H : ((quotient_Div.f k a0 t663 a1).bind fun t664 => (some t664)) = some r := H
 have A3 := A_ A30;clear A30
 replace H := ob_ H
 obtain ⟨t664, A40, H⟩ := H
 replace H : (some t664) = some r := H
 have A4 := A_ A40;clear A40
 obtain rfl := Option.some.inj H
 go_enter Try.func28, Try.ntmps28
 go_wp2_with (first | ((with_reducible refine gate_callee (f := 65) rfl ?_); refine gl_ (some 7) Try.func65 #[.int .i64 a0, .bool false, .int .u64 1] ?_; (with_reducible refine (round_Whole.calls a0 false 1 t663 _ A3.out).mono ?_); rintro e w5 ⟨rfl, hb⟩; refine ⟨_, rfl, ?_⟩; have n0_ := A_ (below_step (hb_ HB.out) hb); clear HB; have HB := n0_; clear n0_; (try clear hb); (try clear hb2); (try clear hk); (try clear hi)) | ((with_reducible refine gate_callee (f := 27) rfl ?_); refine gl_ (some 9) Try.func27 #[.int .i64 a0, .int .u64 t663, .int .u64 a1] ?_; (with_reducible refine (quotient_Div.calls k a0 t663 a1 t664 _ A4.out).mono ?_); rintro e w6 ⟨rfl, hb⟩; refine ⟨_, rfl, ?_⟩; have n0_ := A_ (below_step (hb_ HB.out) hb); clear HB; have HB := n0_; clear n0_; (try clear hb); (try clear hb2); (try clear hk); (try clear hi)))
 go_ret
 exact ⟨er_, hb_ HB.out⟩
def L06_awake.f (k : Nat)  : Option (Bool) := (quotient_Div.f k 64 4607182418800017408 4613937818241073152).bind fun t665 => (if t665 = 4599676419421066581 then ((quotient_Inverse.f k 32 2147483648).bind fun t666 => (some (t666 == 4286578688))) else (some false))
theorem L06_awake.mono : ∀ k, LeO (L06_awake.f k ) (L06_awake.f (k + 1) ) := by
 intro  k
 unfold L06_awake.f
 repeat' first
   | (with_reducible exact quotient_Div.mono _ _ _ _)
   | (with_reducible exact quotient_Inverse.mono _ _ _)
   | (with_reducible exact LeO.refl _)
   | (with_reducible exact LeO.none _)
   | (with_reducible refine LeO.ite ?_ ?_)
   | (with_reducible refine LeO.bind ?_ (fun _ => ?_))
   | exact quotient_Div.mono _ _ _ _
   | exact quotient_Inverse.mono _ _ _
   | exact LeO.none _
   | refine LeO.ite ?_ ?_
   | refine LeO.bind ?_ (fun _ => ?_)
theorem L06_awake.calls (k : Nat)  (r : Bool) (w : World) (h : L06_awake.f k  = some r) :
  Calls Try.prog 26 #[] w fun e w' => e = .returned (.bool r) ∧ Below w.heap.size w w' := by
 have HB := A_ (Below.refl w.heap.size w)
 have H : ((quotient_Div.f k 64 4607182418800017408 4613937818241073152).bind fun t665 => (if t665 = 4599676419421066581 then ((quotient_Inverse.f k 32 2147483648).bind fun t666 => (some (t666 == 4286578688))) else (some false))) = some r := h
 clear h
 replace H := ob_ H
 obtain ⟨t665, A10, H⟩ := H
 replace H : (if t665 = 4599676419421066581 then ((quotient_Inverse.f k 32 2147483648).bind fun t666 => (some (t666 == 4286578688))) else (some false)) = some r := H
 have A1 := A_ A10;clear A10
 by_cases c2 : t665 = 4599676419421066581
 ·rw [if_pos c2] at H
  have c2b0 : (t665 == 4599676419421066581) = true := beq_iff_eq.mpr c2
  have c2b1 : (t665 != 4599676419421066581) = false := bne_eq_false_iff_eq.mpr c2
  clear c2
  replace H := ob_ H
  obtain ⟨t666, A30, H⟩ := H
  replace H : (some (t666 == 4286578688)) = some r := H
  have A3 := A_ A30;clear A30
  obtain rfl := Option.some.inj H
  go_enter Try.func26, Try.ntmps26
  go_wp2_with (first | ((with_reducible refine gate_callee (f := 27) rfl ?_); refine gl_ (some 1) Try.func27 #[.int .i64 64, .int .u64 4607182418800017408, .int .u64 4613937818241073152] ?_; (with_reducible refine (quotient_Div.calls k 64 4607182418800017408 4613937818241073152 t665 _ A1.out).mono ?_); rintro e w4 ⟨rfl, hb⟩; refine ⟨_, rfl, ?_⟩; have n0_ := A_ (below_step (hb_ HB.out) hb); clear HB; have HB := n0_; clear n0_; (try clear hb); (try clear hb2); (try clear hk); (try clear hi)) | (go_at_call 28; (with_reducible refine (quotient_Inverse.calls k 32 2147483648 t666 _ A3.out).mono ?_); rintro e w5 ⟨rfl, hb⟩; have n0_ := A_ (below_step (hb_ HB.out) hb); clear HB; have HB := n0_; clear n0_; (try clear hb); (try clear hb2); (try clear hk); (try clear hi)))
  go_ret
  exact ⟨er_, hb_ HB.out⟩
 ·rw [if_neg c2] at H
  have c2b0 : (t665 == 4599676419421066581) = false := beq_eq_false_iff_ne.mpr c2
  have c2b1 : (t665 != 4599676419421066581) = true := bne_iff_ne.mpr c2
  obtain rfl := Option.some.inj H
  go_enter Try.func26, Try.ntmps26
  go_wp2_with (first | ((with_reducible refine gate_callee (f := 27) rfl ?_); refine gl_ (some 1) Try.func27 #[.int .i64 64, .int .u64 4607182418800017408, .int .u64 4613937818241073152] ?_; (with_reducible refine (quotient_Div.calls k 64 4607182418800017408 4613937818241073152 t665 _ A1.out).mono ?_); rintro e w6 ⟨rfl, hb⟩; refine ⟨_, rfl, ?_⟩; have n0_ := A_ (below_step (hb_ HB.out) hb); clear HB; have HB := n0_; clear n0_; (try clear hb); (try clear hb2); (try clear hk); (try clear hi)))
  go_ret
  exact ⟨er_, hb_ HB.out⟩
def r2_B.f (a0 : Int) : Option (Int) := if a0 = 32 then (some 127) else (some 1023)
theorem r2_B.calls (a0 : Int) (r : Int) (w : World) (h : r2_B.f a0 = some r) :
  Calls Try.prog 18 #[.int .i64 a0] w fun e w' => e = .returned (.int .i64 r) ∧ Drawn0 w w' := by
 have H : (if a0 = 32 then (some 127) else (some 1023)) = some r := h
 clear h
 by_cases c2 : a0 = 32
 ·rw [if_pos c2] at H
  have c2b0 : (a0 == 32) = true := beq_iff_eq.mpr c2
  have c2b1 : (a0 != 32) = false := bne_eq_false_iff_eq.mpr c2
  clear c2
  obtain rfl := Option.some.inj H
  go_enter Try.func18, Try.ntmps18
  go_wp2
  go_ret
  exact ⟨sm_, by repeat (first | exact Drawn0.refl _ | apply Drawn0.step)⟩
 ·rw [if_neg c2] at H
  have c2b0 : (a0 == 32) = false := beq_eq_false_iff_ne.mpr c2
  have c2b1 : (a0 != 32) = true := bne_iff_ne.mpr c2
  obtain rfl := Option.some.inj H
  go_enter Try.func18, Try.ntmps18
  go_wp2
  go_ret
  exact ⟨sm_, by repeat (first | exact Drawn0.refl _ | apply Drawn0.step)⟩
def r2_E.f (a0 : Int) : Option (Int) := if a0 = 32 then (some 8) else (some 11)
theorem r2_E.calls (a0 : Int) (r : Int) (w : World) (h : r2_E.f a0 = some r) :
  Calls Try.prog 89 #[.int .i64 a0] w fun e w' => e = .returned (.int .i64 r) ∧ Drawn0 w w' := by
 have H : (if a0 = 32 then (some 8) else (some 11)) = some r := h
 clear h
 by_cases c2 : a0 = 32
 ·rw [if_pos c2] at H
  have c2b0 : (a0 == 32) = true := beq_iff_eq.mpr c2
  have c2b1 : (a0 != 32) = false := bne_eq_false_iff_eq.mpr c2
  clear c2
  obtain rfl := Option.some.inj H
  go_enter Try.func89, Try.ntmps89
  go_wp2
  go_ret
  exact ⟨sm_, by repeat (first | exact Drawn0.refl _ | apply Drawn0.step)⟩
 ·rw [if_neg c2] at H
  have c2b0 : (a0 == 32) = false := beq_eq_false_iff_ne.mpr c2
  have c2b1 : (a0 != 32) = true := bne_iff_ne.mpr c2
  obtain rfl := Option.some.inj H
  go_enter Try.func89, Try.ntmps89
  go_wp2
  go_ret
  exact ⟨sm_, by repeat (first | exact Drawn0.refl _ | apply Drawn0.step)⟩
def r2_F.f (a0 : Int) : Option (Int) := (r2_E.f a0).bind fun t234 => (some (wrap64 ((wrap64 (a0 - 1)) - t234)))
theorem r2_F.calls (a0 : Int) (r : Int) (w : World) (h : r2_F.f a0 = some r) :
  Calls Try.prog 52 #[.int .i64 a0] w fun e w' => e = .returned (.int .i64 r) ∧ Drawn0 w w' := by
 have H : ((r2_E.f a0).bind fun t234 => (some (wrap64 ((wrap64 (a0 - 1)) - t234)))) = some r := h
 clear h
 replace H := ob_ H
 obtain ⟨t234, A20, H⟩ := H
 replace H : (some (wrap64 ((wrap64 (a0 - 1)) - t234))) = some r := H
 have A2 := A_ A20;clear A20
 obtain rfl := Option.some.inj H
 go_enter Try.func52, Try.ntmps52
 go_wp2_with (first | ((with_reducible refine gate_callee (f := 89) rfl ?_); refine gl_ (some 6) Try.func89 #[.int .i64 a0] ?_; (with_reducible refine (r2_E.calls a0 t234 _ A2.out).mono ?_); rintro e w' ⟨rfl, ⟨nd, rfl⟩⟩; refine ⟨_, rfl, ?_⟩))
 go_ret
 exact ⟨sm_, by repeat (first | exact Drawn0.refl _ | apply Drawn0.step)⟩
def r2_Make.f (k : Nat) (a0 : Int) (a1 : Bool) (a2 : Int) (a3 : Int) : Option (Int) := (r2_F.f a0).bind fun t235 => ((r2_Two.f k t235).bind fun t236 => (if a1 = true then ((r2_Two.f k (wrap64 (a0 - 1))).bind fun t237 => (some (IntKind.u64.wrap ((IntKind.u64.wrap ((IntKind.u64.wrap ((IntKind.u64.wrap (a2)) * t236)) + a3)) + t237)))) else (some (IntKind.u64.wrap ((IntKind.u64.wrap ((IntKind.u64.wrap (a2)) * t236)) + a3)))))
theorem r2_Make.mono : ∀ a0 a1 a2 a3 k, LeO (r2_Make.f k a0 a1 a2 a3) (r2_Make.f (k + 1) a0 a1 a2 a3) := by
 intro a0 a1 a2 a3 k
 unfold r2_Make.f
 repeat' first
   | (with_reducible exact r2_Two.mono _ _)
   | (with_reducible exact LeO.refl _)
   | (with_reducible exact LeO.none _)
   | (with_reducible refine LeO.ite ?_ ?_)
   | (with_reducible refine LeO.bind ?_ (fun _ => ?_))
   | exact r2_Two.mono _ _
   | exact LeO.none _
   | refine LeO.ite ?_ ?_
   | refine LeO.bind ?_ (fun _ => ?_)
theorem r2_Make.calls (k : Nat) (a0 : Int) (a1 : Bool) (a2 : Int) (a3 : Int) (r : Int) (w : World) (h : r2_Make.f k a0 a1 a2 a3 = some r) :
  Calls Try.prog 17 #[.int .i64 a0, .bool a1, .int .i64 a2, .int .u64 a3] w fun e w' => e = .returned (.int .u64 r) ∧ Drawn0 w w' := by
 have H : ((r2_F.f a0).bind fun t235 => ((r2_Two.f k t235).bind fun t236 => (if a1 = true then ((r2_Two.f k (wrap64 (a0 - 1))).bind fun t237 => (some (IntKind.u64.wrap ((IntKind.u64.wrap ((IntKind.u64.wrap ((IntKind.u64.wrap (a2)) * t236)) + a3)) + t237)))) else (some (IntKind.u64.wrap ((IntKind.u64.wrap ((IntKind.u64.wrap (a2)) * t236)) + a3)))))) = some r := h
 clear h
 replace H := ob_ H
 obtain ⟨t235, A50, H⟩ := H
 replace H : ((r2_Two.f k t235).bind fun t236 => (if a1 = true then ((r2_Two.f k (wrap64 (a0 - 1))).bind fun t237 => (some (IntKind.u64.wrap ((IntKind.u64.wrap ((IntKind.u64.wrap ((IntKind.u64.wrap (a2)) * t236)) + a3)) + t237)))) else (some (IntKind.u64.wrap ((IntKind.u64.wrap ((IntKind.u64.wrap (a2)) * t236)) + a3))))) = some r := H
 have A5 := A_ A50;clear A50
 replace H := ob_ H
 obtain ⟨t236, A60, H⟩ := H
 replace H : (if a1 = true then ((r2_Two.f k (wrap64 (a0 - 1))).bind fun t237 => (some (IntKind.u64.wrap ((IntKind.u64.wrap ((IntKind.u64.wrap ((IntKind.u64.wrap (a2)) * t236)) + a3)) + t237)))) else (some (IntKind.u64.wrap ((IntKind.u64.wrap ((IntKind.u64.wrap (a2)) * t236)) + a3)))) = some r := H
 have A6 := A_ A60;clear A60
 by_cases c7 : a1 = true
 ·subst c7
  have H1 : ((r2_Two.f k (wrap64 (a0 - 1))).bind fun t237 => (some (IntKind.u64.wrap ((IntKind.u64.wrap ((IntKind.u64.wrap ((IntKind.u64.wrap (a2)) * t236)) + a3)) + t237)))) = some r := by rw [if_pos rfl] at H; exact H
  clear H;have H := H1;clear H1
  replace H := ob_ H
  obtain ⟨t237, A80, H⟩ := H
  replace H : (some (IntKind.u64.wrap ((IntKind.u64.wrap ((IntKind.u64.wrap ((IntKind.u64.wrap (a2)) * t236)) + a3)) + t237))) = some r := H
  have A8 := A_ A80;clear A80
  obtain rfl := Option.some.inj H
  go_enter Try.func17, Try.ntmps17
  go_wp2_with (first | ((with_reducible refine gate_callee (f := 52) rfl ?_); refine gl_ (some 13) Try.func52 #[.int .i64 a0] ?_; (with_reducible refine (r2_F.calls a0 t235 _ A5.out).mono ?_); rintro e w' ⟨rfl, ⟨nd, rfl⟩⟩; refine ⟨_, rfl, ?_⟩) | ((with_reducible refine gate_callee (f := 51) rfl ?_); refine gl_ (some 14) Try.func51 #[.int .i64 t235] ?_; (with_reducible refine (r2_Two.calls k t235 t236 _ A6.out).mono ?_); rintro e w' ⟨rfl, ⟨nd, rfl⟩⟩; refine ⟨_, rfl, ?_⟩) | ((with_reducible refine gate_callee (f := 51) rfl ?_); refine gl_ (some 22) Try.func51 #[.int .i64 (wrap64 (a0 - 1))] ?_; (with_reducible refine (r2_Two.calls k (wrap64 (a0 - 1)) t237 _ A8.out).mono ?_); rintro e w' ⟨rfl, ⟨nd, rfl⟩⟩; refine ⟨_, rfl, ?_⟩))
  go_ret
  exact ⟨sm_, by repeat (first | exact Drawn0.refl _ | apply Drawn0.step)⟩
 ·replace c7 := Bool.eq_false_iff.mpr c7
  subst c7
  have H1 : (some (IntKind.u64.wrap ((IntKind.u64.wrap ((IntKind.u64.wrap (a2)) * t236)) + a3))) = some r := by rw [if_neg (show ¬ (false = true) by decide)] at H; exact H
  clear H;have H := H1;clear H1
  obtain rfl := Option.some.inj H
  go_enter Try.func17, Try.ntmps17
  go_wp2_with (first | ((with_reducible refine gate_callee (f := 52) rfl ?_); refine gl_ (some 13) Try.func52 #[.int .i64 a0] ?_; (with_reducible refine (r2_F.calls a0 t235 _ A5.out).mono ?_); rintro e w' ⟨rfl, ⟨nd, rfl⟩⟩; refine ⟨_, rfl, ?_⟩) | ((with_reducible refine gate_callee (f := 51) rfl ?_); refine gl_ (some 14) Try.func51 #[.int .i64 t235] ?_; (with_reducible refine (r2_Two.calls k t235 t236 _ A6.out).mono ?_); rintro e w' ⟨rfl, ⟨nd, rfl⟩⟩; refine ⟨_, rfl, ?_⟩))
  go_ret
  exact ⟨sm_, by repeat (first | exact Drawn0.refl _ | apply Drawn0.step)⟩
def L06_QuotientScale.j0 : Nat → Int → Int → Int → Bool → Option (Bool)
 | 0, _, _, _, _ => none
 | k + 1, x0, x1, x2, x24 => if x24 = true then (some true) else ((r2_B.f x0).bind fun t722 => ((r2_Make.f k x0 false (wrap64 (x2 + t722)) 0).bind fun t723 => ((quotient_Div.f k x0 x1 t723).bind fun t724 => ((product_Scale.f k x0 x1 (wrap64 (-x2))).bind fun t725 => (some (t724 == t725))))))
def L06_QuotientScale.f (k : Nat) (a0 : Int) (a1 : Int) (a2 : Int) : Option (Bool) := (L06_awake.f k).bind fun t718 => (if t718 = true then ((r2_Known.f a0).bind fun t719 => (if t719 = true then ((r2_B.f a0).bind fun t720 => (if a2 ≤ (wrap64 (-t720)) then (L06_QuotientScale.j0 k a0 a1 a2 true) else ((r2_B.f a0).bind fun t721 => (L06_QuotientScale.j0 k a0 a1 a2 (decide (a2 > t721)))))) else (L06_QuotientScale.j0 k a0 a1 a2 true))) else (some false))
theorem L06_QuotientScale.mono_l : ∀ k, (∀ y0 y1 y2 y3, LeO (L06_QuotientScale.j0 k y0 y1 y2 y3) (L06_QuotientScale.j0 (k + 1) y0 y1 y2 y3))
 | 0 => fun _ _ _ _ r h => by simp [L06_QuotientScale.j0] at h
 | k + 1 => by
  have ih0 := L06_QuotientScale.mono_l k
  ·intro y0 y1 y2 y3
   unfold L06_QuotientScale.j0
   repeat' first
   | (with_reducible exact ih0 _ _ _ _)
   | (with_reducible exact product_Scale.mono _ _ _ _)
   | (with_reducible exact quotient_Div.mono _ _ _ _)
   | (with_reducible exact L06_awake.mono _)
   | (with_reducible exact r2_Make.mono _ _ _ _ _)
   | (with_reducible exact LeO.refl _)
   | (with_reducible exact LeO.none _)
   | (with_reducible refine LeO.ite ?_ ?_)
   | (with_reducible refine LeO.bind ?_ (fun _ => ?_))
   | exact ih0 _ _ _ _
   | exact product_Scale.mono _ _ _ _
   | exact quotient_Div.mono _ _ _ _
   | exact L06_awake.mono _
   | exact r2_Make.mono _ _ _ _ _
   | exact LeO.none _
   | refine LeO.ite ?_ ?_
   | refine LeO.bind ?_ (fun _ => ?_)
theorem L06_QuotientScale.mono : ∀ a0 a1 a2 k, LeO (L06_QuotientScale.f k a0 a1 a2) (L06_QuotientScale.f (k + 1) a0 a1 a2) := by
 intro a0 a1 a2 k
 have ih0 := L06_QuotientScale.mono_l k
 unfold L06_QuotientScale.f
 repeat' first
   | (with_reducible exact ih0 _ _ _ _)
   | (with_reducible exact product_Scale.mono _ _ _ _)
   | (with_reducible exact quotient_Div.mono _ _ _ _)
   | (with_reducible exact L06_awake.mono _)
   | (with_reducible exact r2_Make.mono _ _ _ _ _)
   | (with_reducible exact LeO.refl _)
   | (with_reducible exact LeO.none _)
   | (with_reducible refine LeO.ite ?_ ?_)
   | (with_reducible refine LeO.bind ?_ (fun _ => ?_))
   | exact ih0 _ _ _ _
   | exact product_Scale.mono _ _ _ _
   | exact quotient_Div.mono _ _ _ _
   | exact L06_awake.mono _
   | exact r2_Make.mono _ _ _ _ _
   | exact LeO.none _
   | refine LeO.ite ?_ ?_
   | refine LeO.bind ?_ (fun _ => ?_)
theorem L06_QuotientScale.calls (k : Nat) (a0 : Int) (a1 : Int) (a2 : Int) (r : Bool) (w : World) (h : L06_QuotientScale.f k a0 a1 a2 = some r) (hr_ : Aside0 (r = true)) :
  Calls Try.prog 7 #[.int .i64 a0, .int .u64 a1, .int .i64 a2] w fun e w' => e = .returned (.bool r) ∧ Below w.heap.size w w' := by
 have HB := A_ (Below.refl w.heap.size w)
 have H : ((L06_awake.f k).bind fun t718 => (if t718 = true then ((r2_Known.f a0).bind fun t719 => (if t719 = true then ((r2_B.f a0).bind fun t720 => (if a2 ≤ (wrap64 (-t720)) then (L06_QuotientScale.j0 k a0 a1 a2 true) else ((r2_B.f a0).bind fun t721 => (L06_QuotientScale.j0 k a0 a1 a2 (decide (a2 > t721)))))) else (L06_QuotientScale.j0 k a0 a1 a2 true))) else (some false))) = some r := h
 clear h
 replace H := ob_ H
 obtain ⟨t718, A40, H⟩ := H
 replace H : (if t718 = true then ((r2_Known.f a0).bind fun t719 => (if t719 = true then ((r2_B.f a0).bind fun t720 => (if a2 ≤ (wrap64 (-t720)) then (L06_QuotientScale.j0 k a0 a1 a2 true) else ((r2_B.f a0).bind fun t721 => (L06_QuotientScale.j0 k a0 a1 a2 (decide (a2 > t721)))))) else (L06_QuotientScale.j0 k a0 a1 a2 true))) else (some false)) = some r := H
 have A4 := A_ A40;clear A40
 by_cases c5 : t718 = true
 ·subst c5
  have H1 : ((r2_Known.f a0).bind fun t719 => (if t719 = true then ((r2_B.f a0).bind fun t720 => (if a2 ≤ (wrap64 (-t720)) then (L06_QuotientScale.j0 k a0 a1 a2 true) else ((r2_B.f a0).bind fun t721 => (L06_QuotientScale.j0 k a0 a1 a2 (decide (a2 > t721)))))) else (L06_QuotientScale.j0 k a0 a1 a2 true))) = some r := by rw [if_pos rfl] at H; exact H
  clear H;have H := H1;clear H1;have HC6 := A_ H;clear H
  go_enter Try.func7, Try.ntmps7
  go_upto_region 3 with (first | ((with_reducible refine gate_callee (f := 26) rfl ?_); refine gl_ (some 7) Try.func26 #[] ?_; (with_reducible refine (L06_awake.calls k  true _ A4.out).mono ?_); rintro e w7 ⟨rfl, hb⟩; refine ⟨_, rfl, ?_⟩; have n0_ := A_ (below_step (hb_ HB.out) hb); clear HB; have HB := n0_; clear n0_; (try clear hb); (try clear hb2); (try clear hk); (try clear hi)))
  (try simp only [Act.put, lI_, l0_, lS_])
  go_cut [24] (fun v24 wc => ∃ (kq : Nat) (x24_5 : Bool), v24 = .bool x24_5 ∧ Aside0 (L06_QuotientScale.j0 kq a0 a1 a2 x24_5 = some r) ∧ Aside0 (kq ≤ k) ∧ Aside0 (Below w.heap.size w wc))
  case first =>
   have H := HC6.out
   clear HC6
   replace H := ob_ H
   obtain ⟨t719, A80, H⟩ := H
   replace H : (if t719 = true then ((r2_B.f a0).bind fun t720 => (if a2 ≤ (wrap64 (-t720)) then (L06_QuotientScale.j0 k a0 a1 a2 true) else ((r2_B.f a0).bind fun t721 => (L06_QuotientScale.j0 k a0 a1 a2 (decide (a2 > t721)))))) else (L06_QuotientScale.j0 k a0 a1 a2 true)) = some r := H
   have A8 := A_ A80;clear A80
   by_cases c9 : t719 = true
   ·subst c9
    have H1 : ((r2_B.f a0).bind fun t720 => (if a2 ≤ (wrap64 (-t720)) then (L06_QuotientScale.j0 k a0 a1 a2 true) else ((r2_B.f a0).bind fun t721 => (L06_QuotientScale.j0 k a0 a1 a2 (decide (a2 > t721)))))) = some r := by rw [if_pos rfl] at H; exact H
    clear H;have H := H1;clear H1
    replace H := ob_ H
    obtain ⟨t720, A100, H⟩ := H
    replace H : (if a2 ≤ (wrap64 (-t720)) then (L06_QuotientScale.j0 k a0 a1 a2 true) else ((r2_B.f a0).bind fun t721 => (L06_QuotientScale.j0 k a0 a1 a2 (decide (a2 > t721))))) = some r := H
    have A10 := A_ A100;clear A100
    by_cases c11 : a2 ≤ (wrap64 (-t720))
    ·rw [if_pos c11] at H
     have c11b0 : decide (a2 ≤ (wrap64 (-t720))) = true := decide_eq_true c11
     clear c11
     (first | rw [c11b0] | (simp only [i64_w, i32_w]; rw [c11b0]) | skip)
     have H' := A_ H
     clear H
     go_wp2_with (first | ((with_reducible refine gate_callee (f := 16) rfl ?_); refine gl_ (some 10) Try.func16 #[.int .i64 a0] ?_; (with_reducible refine (r2_Known.calls a0 true _ A8.out).mono ?_); rintro e w' ⟨rfl, ⟨nd, rfl⟩⟩; refine ⟨_, rfl, ?_⟩) | (go_at_call 18; (with_reducible refine (r2_B.calls a0 t720 _ A10.out).mono ?_); rintro e w' ⟨rfl, ⟨nd, rfl⟩⟩))
     go_meet
     case rel => exact ⟨_, (true), sm_, H', ⟨by first | omega | exact Nat.le_refl _⟩, ⟨hb_ HB.out⟩⟩
    ·rw [if_neg c11] at H
     have c11b0 : decide (a2 ≤ (wrap64 (-t720))) = false := decide_eq_false c11
     clear c11
     (first | rw [c11b0] | (simp only [i64_w, i32_w]; rw [c11b0]) | skip)
     replace H := ob_ H
     obtain ⟨t721, A120, H⟩ := H
     replace H : (L06_QuotientScale.j0 k a0 a1 a2 (decide (a2 > t721))) = some r := H
     have A12 := A_ A120;clear A120
     obtain rfl : t721 = t720 := Option.some.inj (A12.out.symm.trans A10.out)
     have H' := A_ H
     clear H
     go_wp2_with (first | ((with_reducible refine gate_callee (f := 16) rfl ?_); refine gl_ (some 10) Try.func16 #[.int .i64 a0] ?_; (with_reducible refine (r2_Known.calls a0 true _ A8.out).mono ?_); rintro e w' ⟨rfl, ⟨nd, rfl⟩⟩; refine ⟨_, rfl, ?_⟩) | (go_at_call 18; (with_reducible refine (r2_B.calls a0 t720 _ A10.out).mono ?_); rintro e w' ⟨rfl, ⟨nd, rfl⟩⟩) | (go_at_call 18; (with_reducible refine (r2_B.calls a0 t721 _ A12.out).mono ?_); rintro e w' ⟨rfl, ⟨nd, rfl⟩⟩))
     go_meet
     case rel => exact ⟨_, (decide (a2 > t721)), sm_, H', ⟨by first | omega | exact Nat.le_refl _⟩, ⟨hb_ HB.out⟩⟩
   ·replace c9 := Bool.eq_false_iff.mpr c9
    subst c9
    have H1 : (L06_QuotientScale.j0 k a0 a1 a2 true) = some r := by rw [if_neg (show ¬ (false = true) by decide)] at H; exact H
    clear H;have H := H1;clear H1
    have H' := A_ H
    clear H
    go_wp2_with (first | ((with_reducible refine gate_callee (f := 16) rfl ?_); refine gl_ (some 10) Try.func16 #[.int .i64 a0] ?_; (with_reducible refine (r2_Known.calls a0 false _ A8.out).mono ?_); rintro e w' ⟨rfl, ⟨nd, rfl⟩⟩; refine ⟨_, rfl, ?_⟩))
    go_meet
    case rel => exact ⟨_, (true), sm_, H', ⟨by first | omega | exact Nat.le_refl _⟩, ⟨hb_ HB.out⟩⟩
  case rest =>
   clear HC6
   try clear c1
   try clear c2
   try clear p2
   try clear c5
   try clear p6
   try clear c7
   try clear c9
   try clear c11
   try clear c11b0
   obtain ⟨kq, x24_5, rfl, HA, HJ5, HB⟩ := hcut
   cases kq with
   | zero => exact absurd HA.out (by simp [L06_QuotientScale.j0])
   | succ kj5 =>
    have H := HA.out
    clear HA
    simp only [L06_QuotientScale.j0] at H
    by_cases c13 : x24_5 = true
    ·subst c13
     have H1 : (some true) = some r := by rw [if_pos rfl] at H; exact H
     clear H;have H := H1;clear H1
     obtain rfl := Option.some.inj H
     go_wp2
     go_ret
     exact ⟨er_, hb_ HB.out⟩
    ·replace c13 := Bool.eq_false_iff.mpr c13
     subst c13
     have H1 : ((r2_B.f a0).bind fun t722 => ((r2_Make.f kj5 a0 false (wrap64 (a2 + t722)) 0).bind fun t723 => ((quotient_Div.f kj5 a0 a1 t723).bind fun t724 => ((product_Scale.f kj5 a0 a1 (wrap64 (-a2))).bind fun t725 => (some (t724 == t725)))))) = some r := by rw [if_neg (show ¬ (false = true) by decide)] at H; exact H
     clear H;have H := H1;clear H1
     replace H := ob_ H
     obtain ⟨t722, A140, H⟩ := H
     replace H : ((r2_Make.f kj5 a0 false (wrap64 (a2 + t722)) 0).bind fun t723 => ((quotient_Div.f kj5 a0 a1 t723).bind fun t724 => ((product_Scale.f kj5 a0 a1 (wrap64 (-a2))).bind fun t725 => (some (t724 == t725))))) = some r := H
     have A14 := A_ A140;clear A140
     replace H := ob_ H
     obtain ⟨t723, A150, H⟩ := H
     replace H : ((quotient_Div.f kj5 a0 a1 t723).bind fun t724 => ((product_Scale.f kj5 a0 a1 (wrap64 (-a2))).bind fun t725 => (some (t724 == t725)))) = some r := H
     have A15 := A_ A150;clear A150
     replace H := ob_ H
     obtain ⟨t724, A160, H⟩ := H
     replace H : ((product_Scale.f kj5 a0 a1 (wrap64 (-a2))).bind fun t725 => (some (t724 == t725))) = some r := H
     have A16 := A_ A160;clear A160
     replace H := ob_ H
     obtain ⟨t725, A170, H⟩ := H
     replace H : (some (t724 == t725)) = some r := H
     have A17 := A_ A170;clear A170
     obtain rfl := Option.some.inj H
     go_wp2_with (first | ((with_reducible refine gate_callee (f := 18) rfl ?_); refine gl_ (some 30) Try.func18 #[.int .i64 a0] ?_; (with_reducible refine (r2_B.calls a0 t722 _ A14.out).mono ?_); rintro e w' ⟨rfl, ⟨nd, rfl⟩⟩; refine ⟨_, rfl, ?_⟩) | ((with_reducible refine gate_callee (f := 17) rfl ?_); refine gl_ (some 32) Try.func17 #[.int .i64 a0, .bool false, .int .i64 (wrap64 (a2 + t722)), .int .u64 0] ?_; (with_reducible refine (r2_Make.calls kj5 a0 false (wrap64 (a2 + t722)) 0 t723 _ A15.out).mono ?_); rintro e w' ⟨rfl, ⟨nd, rfl⟩⟩; refine ⟨_, rfl, ?_⟩) | ((with_reducible refine gate_callee (f := 27) rfl ?_); refine gl_ (some 33) Try.func27 #[.int .i64 a0, .int .u64 a1, .int .u64 t723] ?_; (with_reducible refine (quotient_Div.calls kj5 a0 a1 t723 t724 _ A16.out).mono ?_); rintro e w18 ⟨rfl, hb⟩; refine ⟨_, rfl, ?_⟩; have n0_ := A_ (below_step (hb_ HB.out) hb); clear HB; have HB := n0_; clear n0_; (try clear hb); (try clear hb2); (try clear hk); (try clear hi)) | ((with_reducible refine gate_callee (f := 21) rfl ?_); refine gl_ (some 38) Try.func21 #[.int .i64 a0, .int .u64 a1, .int .i64 (wrap64 (-a2))] ?_; (with_reducible refine (product_Scale.calls kj5 a0 a1 (wrap64 (-a2)) t725 _ A17.out).mono ?_); rintro e w19 ⟨rfl, hb⟩; refine ⟨_, rfl, ?_⟩; have n0_ := A_ (below_step (hb_ HB.out) hb); clear HB; have HB := n0_; clear n0_; (try clear hb); (try clear hb2); (try clear hk); (try clear hi)))
     go_ret
     exact ⟨er_, hb_ HB.out⟩
 ·replace c5 := Bool.eq_false_iff.mpr c5
  subst c5
  have H1 : (some false) = some r := by rw [if_neg (show ¬ (false = true) by decide)] at H; exact H
  clear H;have H := H1;clear H1
  exact absurd ((Option.some.inj H).trans hr_.out) (by decide)
def L06_QuotientScale.Pure : Prop := ∀ (a0 : Int) (a1 : Int) (a2 : Int), (Lit.int .i64 a0).wf = true → (Lit.int .u64 a1).wf = true → (Lit.int .i64 a2).wf = true → ∃ k, L06_QuotientScale.f k a0 a1 a2 = some true
theorem L06_QuotientScale.walk (P : L06_QuotientScale.Pure) (a0 : Int) (a1 : Int) (a2 : Int) (w : World) (w0 : (Lit.int .i64 a0).wf = true) (w1 : (Lit.int .u64 a1).wf = true) (w2 : (Lit.int .i64 a2).wf = true) :
  Calls Try.prog 7 #[.int .i64 a0, .int .u64 a1, .int .i64 a2] w fun e w' => e = .returned (.bool true) ∧ Below w.heap.size w w' := by
 obtain ⟨k, h⟩ := P a0 a1 a2 w0 w1 w2
 refine (L06_QuotientScale.calls k a0 a1 a2 true w h ⟨rfl⟩).mono ?_
 rintro e w' ⟨rfl, hd⟩
 exact ⟨rfl, hd⟩
end Go.Proofs.Ytbpmnmceajmmcaa.PA
section
set_option linter.unusedVariables false
set_option linter.unusedSimpArgs false
namespace Go.Proofs.Ytbpmnmceajmmcaa.Th
open Go.RowKit Go.Proofs.YtbpmnmceajmmcaaW.PrintWords Go.Proofs.YtbpmnmceajmmcaaW.PrintLast Go.Proofs.YtbpmnmceajmmcaaW.PrintMore Go.Proofs.Ytbpmnmceajmmcaa.PA Bit Flo
theorem two_i {n : Int} (m : Nat) (h : n = m) (hm : m < 64) : Ev (fun k => r2_Two.f k n) ((2 ^ m : Nat) : Int) := by subst h; exact two_f m hm

theorem r2F32 : r2_F.f 32 = some 23 := by decide +kernel
theorem r2Tf32 : Ev (fun k => r2_Two.f k 23) ((8388608 : Nat) : Int) := by have h := two_i (n := 23) 23 rfl (by decide); rw [show (2 : Nat) ^ 23 = 8388608 by decide] at h; exact h
theorem r2Ts32 : Ev (fun k => r2_Two.f k (wrap64 (32 - 1))) ((2147483648 : Nat) : Int) := by have h := two_i (n := wrap64 (32 - 1)) 31 (by decide +kernel) (by decide); rw [show (2 : Nat) ^ 31 = 2147483648 by decide] at h; exact h
theorem r2Make32 (s : Bool) (e fr : Nat) (he : e ≤ 255) (hf : fr < 8388608) : Ev (fun k => r2_Make.f k 32 s e fr) ((mkN 32 (e * 8388608 + fr) s : Nat) : Int) := by
  unfold r2_Make.f
  refine Ev.bs r2F32 (Ev.bind r2Tf32 ?_)
  rw [u64_id (n := (e : Int)) (by omega) (by omega), u64_id (n := (e : Int) * ((8388608 : Nat) : Int)) (by omega) (by omega), u64_id (n := (e : Int) * ((8388608 : Nat) : Int) + fr) (by omega) (by omega)]
  unfold mkN
  rw [show sb 32 = 2147483648 by decide]
  cases s
  · exact Ev.neg (by decide) (Ev.out (by simp))
  · refine Ev.pos rfl (Ev.bind r2Ts32 (Ev.out ?_))
    rw [u64_id (by omega) (by omega)]; simp only [if_true]; omega
theorem r2F64 : r2_F.f 64 = some 52 := by decide +kernel
theorem r2Tf64 : Ev (fun k => r2_Two.f k 52) ((4503599627370496 : Nat) : Int) := by have h := two_i (n := 52) 52 rfl (by decide); rw [show (2 : Nat) ^ 52 = 4503599627370496 by decide] at h; exact h
theorem r2Ts64 : Ev (fun k => r2_Two.f k (wrap64 (64 - 1))) ((9223372036854775808 : Nat) : Int) := by have h := two_i (n := wrap64 (64 - 1)) 63 (by decide +kernel) (by decide); rw [show (2 : Nat) ^ 63 = 9223372036854775808 by decide] at h; exact h
theorem r2Make64 (s : Bool) (e fr : Nat) (he : e ≤ 2047) (hf : fr < 4503599627370496) : Ev (fun k => r2_Make.f k 64 s e fr) ((mkN 64 (e * 4503599627370496 + fr) s : Nat) : Int) := by
  unfold r2_Make.f
  refine Ev.bs r2F64 (Ev.bind r2Tf64 ?_)
  rw [u64_id (n := (e : Int)) (by omega) (by omega), u64_id (n := (e : Int) * ((4503599627370496 : Nat) : Int)) (by omega) (by omega), u64_id (n := (e : Int) * ((4503599627370496 : Nat) : Int) + fr) (by omega) (by omega)]
  unfold mkN
  rw [show sb 64 = 9223372036854775808 by decide]
  cases s
  · exact Ev.neg (by decide) (Ev.out (by simp))
  · refine Ev.pos rfl (Ev.bind r2Ts64 (Ev.out ?_))
    rw [u64_id (by omega) (by omega)]; simp only [if_true]; omega
theorem opn_mk (w : Int) (hw : w = 32 ∨ w = 64) (m : Nat) (s : Bool) (h : m < sb w) : opn w (mkN w m s) = if m = 0 then (s, 0, 0, 0) else if m < (fmt w).inf then (s, 1, (fmt w).ex m, ((fmt w).sg m : Int)) else if m = (fmt w).inf then (s, 2, 0, 0) else (false, 3, 0, 0) := by
  unfold opn; simp only [sg_mk w hw m s h, mag_mk w hw m s h]
end Go.Proofs.Ytbpmnmceajmmcaa.Th
end
section
set_option linter.unusedVariables false
set_option linter.unusedSimpArgs false
namespace Go.Proofs.Ytbpmnmceajmmcaa.Th
open Go.RowKit Go.Proofs.YtbpmnmceajmmcaaW.PrintWords Go.Proofs.YtbpmnmceajmmcaaW.PrintLast Go.Proofs.YtbpmnmceajmmcaaW.PrintMore Go.Proofs.Ytbpmnmceajmmcaa.PA Bit Flo Dig
theorem inf_pos (w : Int) (hw : w = 32 ∨ w = 64) : 0 < (fmt w).inf := by rcases hw with rfl | rfl <;> decide
theorem kinds (w : Int) (hw : w = 32 ∨ w = 64) (a : Nat) : (magN w a = 0 ∧ opn w a = (sgB w a, 0, 0, 0)) ∨ (0 < magN w a ∧ magN w a < (fmt w).inf ∧ opn w a = (sgB w a, 1, (fmt w).ex (magN w a), ((fmt w).sg (magN w a) : Int))) ∨ (magN w a = (fmt w).inf ∧ opn w a = (sgB w a, 2, 0, 0)) ∨ ((fmt w).inf < magN w a ∧ opn w a = (false, 3, 0, 0)) := by
  have h0 := inf_pos w hw
  unfold opn; simp only
  by_cases h1 : magN w a = 0
  · left; rw [if_pos h1]; exact ⟨h1, rfl⟩
  · right; rw [if_neg h1]
    by_cases h2 : magN w a < (fmt w).inf
    · left; rw [if_pos h2]; exact ⟨by omega, h2, rfl⟩
    · right; rw [if_neg h2]
      by_cases h3 : magN w a = (fmt w).inf
      · left; rw [if_pos h3]; exact ⟨h3, rfl⟩
      · right; rw [if_neg h3]; exact ⟨by omega, rfl⟩
theorem ex_bd (w : Int) (hw : w = 32 ∨ w = 64) (m : Nat) (h : m < (fmt w).inf) : -1074 ≤ (fmt w).ex m ∧ (fmt w).ex m ≤ 971 := by
  rcases hw with rfl | rfl
  · rw [fmt32, inf32] at h; rw [fmt32, ex32]; split <;> omega
  · rw [fmt64, inf64] at h; rw [fmt64, ex64]; split <;> omega
theorem sg_64 (w : Int) (hw : w = 32 ∨ w = 64) (m : Nat) : (fmt w).sg m < 9007199254740992 := by
  have h := (fmt w).sg_lt m
  rcases hw with rfl | rfl
  · rw [fmt32] at h ⊢; rw [show (2 : Nat) ^ (f32.f + 1) = 16777216 by decide] at h; omega
  · rw [fmt64] at h ⊢; rw [show (2 : Nat) ^ (f64.f + 1) = 9007199254740992 by decide] at h; omega
end Go.Proofs.Ytbpmnmceajmmcaa.Th
end
section
set_option linter.unusedVariables false
set_option linter.unusedSimpArgs false
namespace Go.Proofs.Ytbpmnmceajmmcaa.Th
open Flo
theorem fmt_bd (w : Int) : (fmt w).f < 100 ∧ (-5000 < (fmt w).low ∧ (fmt w).low < 0) ∧ (fmt w).top < 5000 := by
  unfold fmt; split <;> decide
theorem fmt_f (w : Int) : (fmt w).f ≤ 52 := by unfold fmt; split <;> decide
theorem pk_ex (w : Int) (S : Nat) (e : Int) (hS : S < 340282366920938463463374607431768211456) : pkm (fmt w) S e false = (fmt w).rnd ((S : Rat) * tw e) := by
  have h := fmt_bd w
  rw [← pkx_f, pkm_rnd _ h.1 h.2.1 h.2.2 S e false hS]
theorem pk_mo (w : Int) {x : Rat} {S : Nat} {e : Int} (hS : S < 340282366920938463463374607431768211456) (h0 : 9007199254740992 ≤ S) (h1 : (S : Rat) * tw e < x) (h2 : x < ((S + 1 : Nat) : Rat) * tw e) : pkm (fmt w) S e true = (fmt w).rnd x := by
  have h := fmt_bd w
  have h3 : 2 ^ ((fmt w).f + 1) ≤ S := by
    have : 2 ^ ((fmt w).f + 1) ≤ 2 ^ 53 := Nat.pow_le_pow_right (by decide) (by have := fmt_f w; omega)
    rw [show (2 : Nat) ^ 53 = 9007199254740992 by decide] at this
    omega
  rw [rnd_more _ h1 h2 h3, pkm_rnd _ h.1 h.2.1 h.2.2 S e true hS]
abbrev Pt := Bool × Int × Int × Int
noncomputable def pv (p : Pt) : Rat := if p.2.1 = 1 then (if p.1 then -((p.2.2.2.toNat : Rat) * tw p.2.2.1) else (p.2.2.2.toNat : Rat) * tw p.2.2.1) else 0
noncomputable def fx (w : Int) (s : Rat) (z : Bool) : Nat := if s = 0 then mkN w 0 z else if s < 0 then mkN w ((fmt w).rnd (-s)) true else mkN w ((fmt w).rnd s) false
noncomputable def divP (w : Int) (p q : Pt) : Nat :=
  if p.2.1 = 3 ∨ q.2.1 = 3 ∨ p.2.1 = 2 ∧ q.2.1 = 2 ∨ p.2.1 = 0 ∧ q.2.1 = 0 then nanN w else if p.2.1 = 2 ∨ q.2.1 = 0 then mkN w (fmt w).inf (p.1 != q.1)
  else if p.2.1 = 0 ∨ q.2.1 = 2 then mkN w 0 (p.1 != q.1) else fx w (pv p / pv q) (p.1 != q.1)
theorem fx_pos (w : Int) {s : Rat} (h : 0 < s) (z : Bool) : fx w s z = mkN w ((fmt w).rnd s) false := by
  unfold fx; rw [if_neg (by grind), if_neg (by grind)]
theorem fx_neg (w : Int) {s : Rat} (h : 0 < s) (z : Bool) : fx w (-s) z = mkN w ((fmt w).rnd s) true := by
  unfold fx; rw [if_neg (by grind), if_pos (by grind), Rat.neg_neg]
theorem fx_sg (w : Int) {s : Rat} (h : 0 < s) (n z : Bool) : fx w (if n then -s else s) z = mkN w ((fmt w).rnd s) n := by
  cases n
  · exact fx_pos w h z
  · exact fx_neg w h z
end Go.Proofs.Ytbpmnmceajmmcaa.Th
end
