/- What the Go functions that the statement SumTotals reaches compute, and the mathematics on it, in the order in which one leans on the other; for every input. -/
import Derived.Test.YtbpmnmceajmmcaaVSumTotals0
import Derived.Test.YtbpmnmceajmmcaaMSumTotals0
import Derived.Test.YtbpmnmceajmmcaaMSumTotals11
import Derived.Test.YtbpmnmceajmmcaaMSumTotals13
import Derived.Test.YtbpmnmceajmmcaaMSumTotals10
import Derived.Test.YtbpmnmceajmmcaaMSumTotals4
import Derived.Test.YtbpmnmceajmmcaaMSumTotals7
import Derived.Test.YtbpmnmceajmmcaaMSumTotals3
import Derived.Test.YtbpmnmceajmmcaaMSumTotals2
import Derived.Test.YtbpmnmceajmmcaaMSumTotals6
import Derived.Test.YtbpmnmceajmmcaaMSumTotals5
import Derived.Test.YtbpmnmceajmmcaaMSumTotals12
import Derived.Test.YtbpmnmceajmmcaaMSumTotals1
import Derived.Test.YtbpmnmceajmmcaaMSumTotals8
import Derived.Test.YtbpmnmceajmmcaaMSumTotals9
namespace Go.Proofs.Ytbpmnmceajmmcaa.PA
open Go.RowKit Go.Proofs.YtbpmnmceajmmcaaW.PrintWords Go.Proofs.YtbpmnmceajmmcaaW.PrintLast Go.Proofs.YtbpmnmceajmmcaaW.PrintMore
attribute [local go_sem] max2_int min2_int max_two min_two max_three min_three max_four min_four   -- for this text's walks alone
set_option linter.unusedVariables false
set_option linter.unusedSimpArgs false
set_option maxHeartbeats 8000000
set_option maxRecDepth 100000
def r4_parts.j0 : Nat → Int → Bool → Bool → Int → Int → Int → Bool → Int → Int → Int → Option (Int)
 | 0, _, _, _, _, _, _, _, _, _, _ => none
 | k + 1, x0, x31, x805000, x805001, x805002, x805003, x806000, x806001, x806002, x806003 => if x31 = true then ((r2_Nan.f k x0).bind fun t806 => (some t806)) else (if x805001 = 2 then ((r2_Inf.f k x0 x805000).bind fun t807 => (some t807)) else (if x806001 = 2 then ((r2_Inf.f k x0 x806000).bind fun t808 => (some t808)) else ((r4_exact.f k x0 x805000 x805001 x805002 x805003 x806000 x806001 x806002 x806003).bind fun t809 => (some t809))))
def r4_parts.f (k : Nat) (a0 : Int) (a1_0 : Bool) (a1_1 : Int) (a1_2 : Int) (a1_3 : Int) (a2_0 : Bool) (a2_1 : Int) (a2_2 : Int) (a2_3 : Int) : Option (Int) := if a1_1 = 3 then (r4_parts.j0 k a0 true a1_0 a1_1 a1_2 a1_3 a2_0 a2_1 a2_2 a2_3) else (if a2_1 = 3 then (r4_parts.j0 k a0 true a1_0 a1_1 a1_2 a1_3 a2_0 a2_1 a2_2 a2_3) else (if a1_1 = 2 then (if a2_1 = 2 then (r4_parts.j0 k a0 (a1_0 != a2_0) a1_0 a1_1 a1_2 a1_3 a2_0 a2_1 a2_2 a2_3) else (r4_parts.j0 k a0 false a1_0 a1_1 a1_2 a1_3 a2_0 a2_1 a2_2 a2_3)) else (r4_parts.j0 k a0 false a1_0 a1_1 a1_2 a1_3 a2_0 a2_1 a2_2 a2_3)))
theorem r4_parts.mono_l : ∀ k, (∀ y0 y1 y2 y3 y4 y5 y6 y7 y8 y9, LeO (r4_parts.j0 k y0 y1 y2 y3 y4 y5 y6 y7 y8 y9) (r4_parts.j0 (k + 1) y0 y1 y2 y3 y4 y5 y6 y7 y8 y9))
 | 0 => fun _ _ _ _ _ _ _ _ _ _ r h => by simp [r4_parts.j0] at h
 | k + 1 => by
  have ih0 := r4_parts.mono_l k
  ·intro y0 y1 y2 y3 y4 y5 y6 y7 y8 y9
   unfold r4_parts.j0
   repeat' first
   | (with_reducible exact ih0 _ _ _ _ _ _ _ _ _ _)
   | (with_reducible exact r2_Inf.mono _ _ _)
   | (with_reducible exact r2_Nan.mono _ _)
   | (with_reducible exact r4_exact.mono _ _ _ _ _ _ _ _ _ _)
   | (with_reducible exact LeO.refl _)
   | (with_reducible exact LeO.none _)
   | (with_reducible refine LeO.ite ?_ ?_)
   | (with_reducible refine LeO.bind ?_ (fun _ => ?_))
   | exact ih0 _ _ _ _ _ _ _ _ _ _
   | exact r2_Inf.mono _ _ _
   | exact r2_Nan.mono _ _
   | exact r4_exact.mono _ _ _ _ _ _ _ _ _ _
   | exact LeO.none _
   | refine LeO.ite ?_ ?_
   | refine LeO.bind ?_ (fun _ => ?_)
theorem r4_parts.mono : ∀ a0 a1 a2 a3 a4 a5 a6 a7 a8 k, LeO (r4_parts.f k a0 a1 a2 a3 a4 a5 a6 a7 a8) (r4_parts.f (k + 1) a0 a1 a2 a3 a4 a5 a6 a7 a8) := by
 intro a0 a1 a2 a3 a4 a5 a6 a7 a8 k
 have ih0 := r4_parts.mono_l k
 unfold r4_parts.f
 repeat' first
   | (with_reducible exact ih0 _ _ _ _ _ _ _ _ _ _)
   | (with_reducible exact r2_Inf.mono _ _ _)
   | (with_reducible exact r2_Nan.mono _ _)
   | (with_reducible exact r4_exact.mono _ _ _ _ _ _ _ _ _ _)
   | (with_reducible exact LeO.refl _)
   | (with_reducible exact LeO.none _)
   | (with_reducible refine LeO.ite ?_ ?_)
   | (with_reducible refine LeO.bind ?_ (fun _ => ?_))
   | exact ih0 _ _ _ _ _ _ _ _ _ _
   | exact r2_Inf.mono _ _ _
   | exact r2_Nan.mono _ _
   | exact r4_exact.mono _ _ _ _ _ _ _ _ _ _
   | exact LeO.none _
   | refine LeO.ite ?_ ?_
   | refine LeO.bind ?_ (fun _ => ?_)
theorem r4_parts.calls (k : Nat) (a0 : Int) (a1_0 : Bool) (a1_1 : Int) (a1_2 : Int) (a1_3 : Int) (a2_0 : Bool) (a2_1 : Int) (a2_2 : Int) (a2_3 : Int) (r : Int) (w : World) (h : r4_parts.f k a0 a1_0 a1_1 a1_2 a1_3 a2_0 a2_1 a2_2 a2_3 = some r) :
  Calls Try.prog 84 #[.int .i64 a0, .agg #[.bool a1_0, .int .i64 a1_1, .int .i64 a1_2, .int .u64 a1_3], .agg #[.bool a2_0, .int .i64 a2_1, .int .i64 a2_2, .int .u64 a2_3]] w fun e w' => e = .returned (.int .u64 r) ∧ Below w.heap.size w w' := by
 have hu57 := Try.underlying57
 have HB := A_ (Below.refl w.heap.size w)
 have H : (if a1_1 = 3 then (r4_parts.j0 k a0 true a1_0 a1_1 a1_2 a1_3 a2_0 a2_1 a2_2 a2_3) else (if a2_1 = 3 then (r4_parts.j0 k a0 true a1_0 a1_1 a1_2 a1_3 a2_0 a2_1 a2_2 a2_3) else (if a1_1 = 2 then (if a2_1 = 2 then (r4_parts.j0 k a0 (a1_0 != a2_0) a1_0 a1_1 a1_2 a1_3 a2_0 a2_1 a2_2 a2_3) else (r4_parts.j0 k a0 false a1_0 a1_1 a1_2 a1_3 a2_0 a2_1 a2_2 a2_3)) else (r4_parts.j0 k a0 false a1_0 a1_1 a1_2 a1_3 a2_0 a2_1 a2_2 a2_3)))) = some r := h
 clear h;have HC4 := A_ H;clear H
 go_enter Try.func84, Try.ntmps84
 go_upto_region 1 with (first | ((with_reducible refine gate_dst (N := 4) rfl ?_); refine be_ 4 #[.bool a1_0, .int .i64 a1_1, .int .i64 a1_2, .int .u64 a1_3] 57 ?_; intro gb804 hg w5 hbox hb; have n0_ := A_ (below_step (hb_ HB.out) hb); have n1_ := A_ (hbox); have n2_ := A_ (sz_ hg (hb_ HB.out)); have n3_ := A_ (sz_ hg (hb_ HB.out)); clear HB; have HB := n0_; have BK804 := n1_; have GW804 := n2_; have GE804 := n3_; clear n0_ n1_ n2_ n3_; clear hb hbox hg) | ((with_reducible refine gate_dst (N := 5) rfl ?_); refine be_ 5 #[.bool a2_0, .int .i64 a2_1, .int .i64 a2_2, .int .u64 a2_3] 57 ?_; intro gb805 hg w6 hbox hb; have n0_ := A_ (bb_ BK804.out hb); have n1_ := A_ (below_step (hb1_ HB.out GE804.out) hb); have n2_ := A_ (hbox); have n3_ := A_ (sz_ hg (hb1_ HB.out GE804.out)); have n4_ := A_ (sz_ hg (hb1_ HB.out GE804.out)); have n5_ := A_ (nl_ hg BK804.out); have n6_ := A_ (ng_ hg BK804.out); clear BK804; clear HB; have BK804 := n0_; have HB := n1_; have BK805 := n2_; have GW805 := n3_; have GE805 := n4_; have NB804_805 := n5_; have NB805_804 := n6_; clear n0_ n1_ n2_ n3_ n4_ n5_ n6_; clear hb hbox hg))
 (try simp only [Act.put, lI_, l0_, lS_])
 go_cut [31] (fun v31 wc => ∃ (kq : Nat) (x31_3 : Bool), v31 = .bool x31_3 ∧ Aside0 (r4_parts.j0 kq a0 x31_3 a1_0 a1_1 a1_2 a1_3 a2_0 a2_1 a2_2 a2_3 = some r) ∧ Aside0 (kq ≤ k) ∧ Aside0 (wc.heap[gb804]? = some (.cells #[.bool a1_0, .int .i64 a1_1, .int .i64 a1_2, .int .u64 a1_3] 57 (0, 0))) ∧ Aside0 (wc.heap[gb805]? = some (.cells #[.bool a2_0, .int .i64 a2_1, .int .i64 a2_2, .int .u64 a2_3] 57 (0, 0))) ∧ Aside0 (Below w.heap.size w wc))
 case first =>
  have H := HC4.out
  clear HC4
  by_cases c7 : a1_1 = 3
  ·rw [if_pos c7] at H
   have c7b0 : (a1_1 == 3) = true := beq_iff_eq.mpr c7
   have c7b1 : (a1_1 != 3) = false := bne_eq_false_iff_eq.mpr c7
   clear c7
   (first | rw [c7b0] | (simp only [i64_w, i32_w]; rw [c7b0]) | skip)
   have H' := A_ H
   clear H
   have hnb8 := NB804_805.out
   have hnc8 := NB805_804.out
   have hcz9_0 : w6.cell? ⟨gb804, 0, none⟩ = some (.bool a1_0) := bc_ BK804.out 0
   have hcz9_1 : w6.cell? ⟨gb804, 1, none⟩ = some (.int .i64 a1_1) := bc_ BK804.out 1
   have hcz9_2 : w6.cell? ⟨gb804, 2, none⟩ = some (.int .i64 a1_2) := bc_ BK804.out 2
   have hcz9_3 : w6.cell? ⟨gb804, 3, none⟩ = some (.int .u64 a1_3) := bc_ BK804.out 3
   have hfz9_0 := blk_frozen BK804.out 0
   have hfz9_1 := blk_frozen BK804.out 1
   have hfz9_2 := blk_frozen BK804.out 2
   have hfz9_3 := blk_frozen BK804.out 3
   go_wp2
   go_meet
   case rel => exact ⟨_, (true), sm_, H', ⟨by first | omega | exact Nat.le_refl _⟩, ⟨bk_ BK804.out⟩, ⟨bk_ BK805.out⟩, ⟨hb2_ HB.out GE804.out GE805.out⟩⟩
  ·rw [if_neg c7] at H
   have c7b0 : (a1_1 == 3) = false := beq_eq_false_iff_ne.mpr c7
   have c7b1 : (a1_1 != 3) = true := bne_iff_ne.mpr c7
   (first | rw [c7b0] | (simp only [i64_w, i32_w]; rw [c7b0]) | skip)
   by_cases c10 : a2_1 = 3
   ·rw [if_pos c10] at H
    have c10b0 : (a2_1 == 3) = true := beq_iff_eq.mpr c10
    have c10b1 : (a2_1 != 3) = false := bne_eq_false_iff_eq.mpr c10
    clear c10
    have H' := A_ H
    clear H
    have hnb11 := NB804_805.out
    have hnc11 := NB805_804.out
    have hcz12_0 : w6.cell? ⟨gb804, 0, none⟩ = some (.bool a1_0) := bc_ BK804.out 0
    have hcz12_1 : w6.cell? ⟨gb804, 1, none⟩ = some (.int .i64 a1_1) := bc_ BK804.out 1
    have hcz12_2 : w6.cell? ⟨gb804, 2, none⟩ = some (.int .i64 a1_2) := bc_ BK804.out 2
    have hcz12_3 : w6.cell? ⟨gb804, 3, none⟩ = some (.int .u64 a1_3) := bc_ BK804.out 3
    have hfz12_0 := blk_frozen BK804.out 0
    have hfz12_1 := blk_frozen BK804.out 1
    have hfz12_2 := blk_frozen BK804.out 2
    have hfz12_3 := blk_frozen BK804.out 3
    have hcz13_0 : w6.cell? ⟨gb805, 0, none⟩ = some (.bool a2_0) := bc_ BK805.out 0
    have hcz13_1 : w6.cell? ⟨gb805, 1, none⟩ = some (.int .i64 a2_1) := bc_ BK805.out 1
    have hcz13_2 : w6.cell? ⟨gb805, 2, none⟩ = some (.int .i64 a2_2) := bc_ BK805.out 2
    have hcz13_3 : w6.cell? ⟨gb805, 3, none⟩ = some (.int .u64 a2_3) := bc_ BK805.out 3
    have hfz13_0 := blk_frozen BK805.out 0
    have hfz13_1 := blk_frozen BK805.out 1
    have hfz13_2 := blk_frozen BK805.out 2
    have hfz13_3 := blk_frozen BK805.out 3
    go_wp2
    go_meet
    case rel => exact ⟨_, (true), sm_, H', ⟨by first | omega | exact Nat.le_refl _⟩, ⟨bk_ BK804.out⟩, ⟨bk_ BK805.out⟩, ⟨hb2_ HB.out GE804.out GE805.out⟩⟩
   ·rw [if_neg c10] at H
    have c10b0 : (a2_1 == 3) = false := beq_eq_false_iff_ne.mpr c10
    have c10b1 : (a2_1 != 3) = true := bne_iff_ne.mpr c10
    by_cases c14 : a1_1 = 2
    ·rw [if_pos c14] at H
     have c14b0 : (a1_1 == 2) = true := beq_iff_eq.mpr c14
     have c14b1 : (a1_1 != 2) = false := bne_eq_false_iff_eq.mpr c14
     clear c14
     by_cases c15 : a2_1 = 2
     ·rw [if_pos c15] at H
      have c15b0 : (a2_1 == 2) = true := beq_iff_eq.mpr c15
      have c15b1 : (a2_1 != 2) = false := bne_eq_false_iff_eq.mpr c15
      clear c15
      have H' := A_ H
      clear H
      have hnb16 := NB804_805.out
      have hnc16 := NB805_804.out
      have hcz17_0 : w6.cell? ⟨gb804, 0, none⟩ = some (.bool a1_0) := bc_ BK804.out 0
      have hcz17_1 : w6.cell? ⟨gb804, 1, none⟩ = some (.int .i64 a1_1) := bc_ BK804.out 1
      have hcz17_2 : w6.cell? ⟨gb804, 2, none⟩ = some (.int .i64 a1_2) := bc_ BK804.out 2
      have hcz17_3 : w6.cell? ⟨gb804, 3, none⟩ = some (.int .u64 a1_3) := bc_ BK804.out 3
      have hfz17_0 := blk_frozen BK804.out 0
      have hfz17_1 := blk_frozen BK804.out 1
      have hfz17_2 := blk_frozen BK804.out 2
      have hfz17_3 := blk_frozen BK804.out 3
      have hcz18_0 : w6.cell? ⟨gb805, 0, none⟩ = some (.bool a2_0) := bc_ BK805.out 0
      have hcz18_1 : w6.cell? ⟨gb805, 1, none⟩ = some (.int .i64 a2_1) := bc_ BK805.out 1
      have hcz18_2 : w6.cell? ⟨gb805, 2, none⟩ = some (.int .i64 a2_2) := bc_ BK805.out 2
      have hcz18_3 : w6.cell? ⟨gb805, 3, none⟩ = some (.int .u64 a2_3) := bc_ BK805.out 3
      have hfz18_0 := blk_frozen BK805.out 0
      have hfz18_1 := blk_frozen BK805.out 1
      have hfz18_2 := blk_frozen BK805.out 2
      have hfz18_3 := blk_frozen BK805.out 3
      go_wp2
      go_meet
      case rel => exact ⟨_, ((a1_0 != a2_0)), sm_, H', ⟨by first | omega | exact Nat.le_refl _⟩, ⟨bk_ BK804.out⟩, ⟨bk_ BK805.out⟩, ⟨hb2_ HB.out GE804.out GE805.out⟩⟩
     ·rw [if_neg c15] at H
      have c15b0 : (a2_1 == 2) = false := beq_eq_false_iff_ne.mpr c15
      have c15b1 : (a2_1 != 2) = true := bne_iff_ne.mpr c15
      have H' := A_ H
      clear H
      have hnb19 := NB804_805.out
      have hnc19 := NB805_804.out
      have hcz20_0 : w6.cell? ⟨gb804, 0, none⟩ = some (.bool a1_0) := bc_ BK804.out 0
      have hcz20_1 : w6.cell? ⟨gb804, 1, none⟩ = some (.int .i64 a1_1) := bc_ BK804.out 1
      have hcz20_2 : w6.cell? ⟨gb804, 2, none⟩ = some (.int .i64 a1_2) := bc_ BK804.out 2
      have hcz20_3 : w6.cell? ⟨gb804, 3, none⟩ = some (.int .u64 a1_3) := bc_ BK804.out 3
      have hfz20_0 := blk_frozen BK804.out 0
      have hfz20_1 := blk_frozen BK804.out 1
      have hfz20_2 := blk_frozen BK804.out 2
      have hfz20_3 := blk_frozen BK804.out 3
      have hcz21_0 : w6.cell? ⟨gb805, 0, none⟩ = some (.bool a2_0) := bc_ BK805.out 0
      have hcz21_1 : w6.cell? ⟨gb805, 1, none⟩ = some (.int .i64 a2_1) := bc_ BK805.out 1
      have hcz21_2 : w6.cell? ⟨gb805, 2, none⟩ = some (.int .i64 a2_2) := bc_ BK805.out 2
      have hcz21_3 : w6.cell? ⟨gb805, 3, none⟩ = some (.int .u64 a2_3) := bc_ BK805.out 3
      have hfz21_0 := blk_frozen BK805.out 0
      have hfz21_1 := blk_frozen BK805.out 1
      have hfz21_2 := blk_frozen BK805.out 2
      have hfz21_3 := blk_frozen BK805.out 3
      go_wp2
      go_meet
      case rel => exact ⟨_, (false), sm_, H', ⟨by first | omega | exact Nat.le_refl _⟩, ⟨bk_ BK804.out⟩, ⟨bk_ BK805.out⟩, ⟨hb2_ HB.out GE804.out GE805.out⟩⟩
    ·rw [if_neg c14] at H
     have c14b0 : (a1_1 == 2) = false := beq_eq_false_iff_ne.mpr c14
     have c14b1 : (a1_1 != 2) = true := bne_iff_ne.mpr c14
     have H' := A_ H
     clear H
     have hnb22 := NB804_805.out
     have hnc22 := NB805_804.out
     have hcz23_0 : w6.cell? ⟨gb804, 0, none⟩ = some (.bool a1_0) := bc_ BK804.out 0
     have hcz23_1 : w6.cell? ⟨gb804, 1, none⟩ = some (.int .i64 a1_1) := bc_ BK804.out 1
     have hcz23_2 : w6.cell? ⟨gb804, 2, none⟩ = some (.int .i64 a1_2) := bc_ BK804.out 2
     have hcz23_3 : w6.cell? ⟨gb804, 3, none⟩ = some (.int .u64 a1_3) := bc_ BK804.out 3
     have hfz23_0 := blk_frozen BK804.out 0
     have hfz23_1 := blk_frozen BK804.out 1
     have hfz23_2 := blk_frozen BK804.out 2
     have hfz23_3 := blk_frozen BK804.out 3
     have hcz24_0 : w6.cell? ⟨gb805, 0, none⟩ = some (.bool a2_0) := bc_ BK805.out 0
     have hcz24_1 : w6.cell? ⟨gb805, 1, none⟩ = some (.int .i64 a2_1) := bc_ BK805.out 1
     have hcz24_2 : w6.cell? ⟨gb805, 2, none⟩ = some (.int .i64 a2_2) := bc_ BK805.out 2
     have hcz24_3 : w6.cell? ⟨gb805, 3, none⟩ = some (.int .u64 a2_3) := bc_ BK805.out 3
     have hfz24_0 := blk_frozen BK805.out 0
     have hfz24_1 := blk_frozen BK805.out 1
     have hfz24_2 := blk_frozen BK805.out 2
     have hfz24_3 := blk_frozen BK805.out 3
     go_wp2
     go_meet
     case rel => exact ⟨_, (false), sm_, H', ⟨by first | omega | exact Nat.le_refl _⟩, ⟨bk_ BK804.out⟩, ⟨bk_ BK805.out⟩, ⟨hb2_ HB.out GE804.out GE805.out⟩⟩
 case rest =>
  clear HC4
  try clear c1
  try clear c2
  try clear p2
  try clear c7
  try clear c7b0
  try clear c7b1
  try clear c8
  try clear c10
  try clear c10b0
  try clear c10b1
  try clear c11
  try clear c14
  try clear c14b0
  try clear c14b1
  try clear c15
  try clear c15b0
  try clear c15b1
  try clear c16
  try clear c19
  try clear c22
  try clear hcz12_0
  try clear hcz12_1
  try clear hcz12_2
  try clear hcz12_3
  try clear hcz13_0
  try clear hcz13_1
  try clear hcz13_2
  try clear hcz13_3
  try clear hcz17_0
  try clear hcz17_1
  try clear hcz17_2
  try clear hcz17_3
  try clear hcz18_0
  try clear hcz18_1
  try clear hcz18_2
  try clear hcz18_3
  try clear hcz20_0
  try clear hcz20_1
  try clear hcz20_2
  try clear hcz20_3
  try clear hcz21_0
  try clear hcz21_1
  try clear hcz21_2
  try clear hcz21_3
  try clear hcz23_0
  try clear hcz23_1
  try clear hcz23_2
  try clear hcz23_3
  try clear hcz24_0
  try clear hcz24_1
  try clear hcz24_2
  try clear hcz24_3
  try clear hcz9_0
  try clear hcz9_1
  try clear hcz9_2
  try clear hcz9_3
  try clear hfz12_0
  try clear hfz12_1
  try clear hfz12_2
  try clear hfz12_3
  try clear hfz13_0
  try clear hfz13_1
  try clear hfz13_2
  try clear hfz13_3
  try clear hfz17_0
  try clear hfz17_1
  try clear hfz17_2
  try clear hfz17_3
  try clear hfz18_0
  try clear hfz18_1
  try clear hfz18_2
  try clear hfz18_3
  try clear hfz20_0
  try clear hfz20_1
  try clear hfz20_2
  try clear hfz20_3
  try clear hfz21_0
  try clear hfz21_1
  try clear hfz21_2
  try clear hfz21_3
  try clear hfz23_0
  try clear hfz23_1
  try clear hfz23_2
  try clear hfz23_3
  try clear hfz24_0
  try clear hfz24_1
  try clear hfz24_2
  try clear hfz24_3
  try clear hfz9_0
  try clear hfz9_1
  try clear hfz9_2
  try clear hfz9_3
  obtain ⟨kq, x31_3, rfl, HA, HJ3, BK804, BK805, HB⟩ := hcut
  cases kq with
  | zero => exact absurd HA.out (by simp [r4_parts.j0])
  | succ kj3 =>
   have H := HA.out
   clear HA
   simp only [r4_parts.j0] at H
   by_cases c25 : x31_3 = true
   ·subst c25
    have H1 : ((r2_Nan.f kj3 a0).bind fun t806 => (some t806)) = some r := by rw [if_pos rfl] at H; exact H
    clear H;have H := H1;clear H1
    replace H := ob_ H
    obtain ⟨t806, A260, H⟩ := H
    replace H : (some t806) = some r := H
    have A26 := A_ A260;clear A260
    obtain rfl := Option.some.inj H
    go_wp2_with (first | ((with_reducible refine gate_callee (f := 58) rfl ?_); refine gl_ (some 33) Try.func58 #[.int .i64 a0] ?_; (with_reducible refine (r2_Nan.calls kj3 a0 t806 _ A26.out).mono ?_); rintro e w' ⟨rfl, ⟨nd, rfl⟩⟩; refine ⟨_, rfl, ?_⟩))
    go_ret
    exact ⟨er_, hb2_ HB.out GE804.out GE805.out⟩
   ·replace c25 := Bool.eq_false_iff.mpr c25
    subst c25
    have H1 : (if a1_1 = 2 then ((r2_Inf.f kj3 a0 a1_0).bind fun t807 => (some t807)) else (if a2_1 = 2 then ((r2_Inf.f kj3 a0 a2_0).bind fun t808 => (some t808)) else ((r4_exact.f kj3 a0 a1_0 a1_1 a1_2 a1_3 a2_0 a2_1 a2_2 a2_3).bind fun t809 => (some t809)))) = some r := by rw [if_neg (show ¬ (false = true) by decide)] at H; exact H
    clear H;have H := H1;clear H1
    by_cases c27 : a1_1 = 2
    ·rw [if_pos c27] at H
     have c27b0 : (a1_1 == 2) = true := beq_iff_eq.mpr c27
     have c27b1 : (a1_1 != 2) = false := bne_eq_false_iff_eq.mpr c27
     clear c27
     replace H := ob_ H
     obtain ⟨t807, A280, H⟩ := H
     replace H : (some t807) = some r := H
     have A28 := A_ A280;clear A280
     obtain rfl := Option.some.inj H
     have hnb29 := NB804_805.out
     have hnc29 := NB805_804.out
     have hcz30_0 : wc.cell? ⟨gb804, 0, none⟩ = some (.bool a1_0) := bc_ BK804.out 0
     have hcz30_1 : wc.cell? ⟨gb804, 1, none⟩ = some (.int .i64 a1_1) := bc_ BK804.out 1
     have hcz30_2 : wc.cell? ⟨gb804, 2, none⟩ = some (.int .i64 a1_2) := bc_ BK804.out 2
     have hcz30_3 : wc.cell? ⟨gb804, 3, none⟩ = some (.int .u64 a1_3) := bc_ BK804.out 3
     have hfz30_0 := blk_frozen BK804.out 0
     have hfz30_1 := blk_frozen BK804.out 1
     have hfz30_2 := blk_frozen BK804.out 2
     have hfz30_3 := blk_frozen BK804.out 3
     go_wp2_with (first | ((with_reducible refine gate_callee (f := 59) rfl ?_); refine gl_ (some 40) Try.func59 #[.int .i64 a0, .bool a1_0] ?_; (with_reducible refine (r2_Inf.calls kj3 a0 a1_0 t807 _ A28.out).mono ?_); rintro e w' ⟨rfl, ⟨nd, rfl⟩⟩; refine ⟨_, rfl, ?_⟩))
     go_ret
     exact ⟨er_, hb2_ HB.out GE804.out GE805.out⟩
    ·rw [if_neg c27] at H
     have c27b0 : (a1_1 == 2) = false := beq_eq_false_iff_ne.mpr c27
     have c27b1 : (a1_1 != 2) = true := bne_iff_ne.mpr c27
     by_cases c31 : a2_1 = 2
     ·rw [if_pos c31] at H
      have c31b0 : (a2_1 == 2) = true := beq_iff_eq.mpr c31
      have c31b1 : (a2_1 != 2) = false := bne_eq_false_iff_eq.mpr c31
      clear c31
      replace H := ob_ H
      obtain ⟨t808, A320, H⟩ := H
      replace H : (some t808) = some r := H
      have A32 := A_ A320;clear A320
      obtain rfl := Option.some.inj H
      have hnb33 := NB804_805.out
      have hnc33 := NB805_804.out
      have hcz34_0 : wc.cell? ⟨gb804, 0, none⟩ = some (.bool a1_0) := bc_ BK804.out 0
      have hcz34_1 : wc.cell? ⟨gb804, 1, none⟩ = some (.int .i64 a1_1) := bc_ BK804.out 1
      have hcz34_2 : wc.cell? ⟨gb804, 2, none⟩ = some (.int .i64 a1_2) := bc_ BK804.out 2
      have hcz34_3 : wc.cell? ⟨gb804, 3, none⟩ = some (.int .u64 a1_3) := bc_ BK804.out 3
      have hfz34_0 := blk_frozen BK804.out 0
      have hfz34_1 := blk_frozen BK804.out 1
      have hfz34_2 := blk_frozen BK804.out 2
      have hfz34_3 := blk_frozen BK804.out 3
      have hcz35_0 : wc.cell? ⟨gb805, 0, none⟩ = some (.bool a2_0) := bc_ BK805.out 0
      have hcz35_1 : wc.cell? ⟨gb805, 1, none⟩ = some (.int .i64 a2_1) := bc_ BK805.out 1
      have hcz35_2 : wc.cell? ⟨gb805, 2, none⟩ = some (.int .i64 a2_2) := bc_ BK805.out 2
      have hcz35_3 : wc.cell? ⟨gb805, 3, none⟩ = some (.int .u64 a2_3) := bc_ BK805.out 3
      have hfz35_0 := blk_frozen BK805.out 0
      have hfz35_1 := blk_frozen BK805.out 1
      have hfz35_2 := blk_frozen BK805.out 2
      have hfz35_3 := blk_frozen BK805.out 3
      go_wp2_with (first | ((with_reducible refine gate_callee (f := 59) rfl ?_); refine gl_ (some 47) Try.func59 #[.int .i64 a0, .bool a2_0] ?_; (with_reducible refine (r2_Inf.calls kj3 a0 a2_0 t808 _ A32.out).mono ?_); rintro e w' ⟨rfl, ⟨nd, rfl⟩⟩; refine ⟨_, rfl, ?_⟩))
      go_ret
      exact ⟨er_, hb2_ HB.out GE804.out GE805.out⟩
     ·rw [if_neg c31] at H
      have c31b0 : (a2_1 == 2) = false := beq_eq_false_iff_ne.mpr c31
      have c31b1 : (a2_1 != 2) = true := bne_iff_ne.mpr c31
      replace H := ob_ H
      obtain ⟨t809, A360, H⟩ := H
      replace H : (some t809) = some r := H
      have A36 := A_ A360;clear A360
      obtain rfl := Option.some.inj H
      have hnb37 := NB804_805.out
      have hnc37 := NB805_804.out
      have hcz38_0 : wc.cell? ⟨gb804, 0, none⟩ = some (.bool a1_0) := bc_ BK804.out 0
      have hcz38_1 : wc.cell? ⟨gb804, 1, none⟩ = some (.int .i64 a1_1) := bc_ BK804.out 1
      have hcz38_2 : wc.cell? ⟨gb804, 2, none⟩ = some (.int .i64 a1_2) := bc_ BK804.out 2
      have hcz38_3 : wc.cell? ⟨gb804, 3, none⟩ = some (.int .u64 a1_3) := bc_ BK804.out 3
      have hfz38_0 := blk_frozen BK804.out 0
      have hfz38_1 := blk_frozen BK804.out 1
      have hfz38_2 := blk_frozen BK804.out 2
      have hfz38_3 := blk_frozen BK804.out 3
      have hcz39_0 : wc.cell? ⟨gb805, 0, none⟩ = some (.bool a2_0) := bc_ BK805.out 0
      have hcz39_1 : wc.cell? ⟨gb805, 1, none⟩ = some (.int .i64 a2_1) := bc_ BK805.out 1
      have hcz39_2 : wc.cell? ⟨gb805, 2, none⟩ = some (.int .i64 a2_2) := bc_ BK805.out 2
      have hcz39_3 : wc.cell? ⟨gb805, 3, none⟩ = some (.int .u64 a2_3) := bc_ BK805.out 3
      have hfz39_0 := blk_frozen BK805.out 0
      have hfz39_1 := blk_frozen BK805.out 1
      have hfz39_2 := blk_frozen BK805.out 2
      have hfz39_3 := blk_frozen BK805.out 3
      go_wp2_with (first | ((with_reducible refine gate_callee (f := 106) rfl ?_); refine gl_ (some 51) Try.func106 #[.int .i64 a0, .agg #[.bool a1_0, .int .i64 a1_1, .int .i64 a1_2, .int .u64 a1_3], .agg #[.bool a2_0, .int .i64 a2_1, .int .i64 a2_2, .int .u64 a2_3]] ?_; (with_reducible refine (r4_exact.calls kj3 a0 a1_0 a1_1 a1_2 a1_3 a2_0 a2_1 a2_2 a2_3 t809 _ A36.out).mono ?_); rintro e w40 ⟨rfl, hb⟩; refine ⟨_, rfl, ?_⟩; have n0_ := A_ (bb_ BK804.out hb); have n1_ := A_ (bb_ BK805.out hb); have n2_ := A_ (below_step (hb2_ HB.out GE804.out GE805.out) hb); clear BK804; clear BK805; clear HB; have BK804 := n0_; have BK805 := n1_; have HB := n2_; clear n0_ n1_ n2_; (try clear hb); (try clear hb2); (try clear hk); (try clear hi)))
      go_ret
      exact ⟨er_, hb2_ HB.out GE804.out GE805.out⟩
def r4_Add.f (k : Nat) (a0 : Int) (a1 : Int) (a2 : Int) : Option (Int) := (r2_Open.f k a0 a1).bind fun bt810 => ((r2_Open.f k a0 a2).bind fun bt814 => ((r4_parts.f k a0 bt810.1 bt810.2.1 bt810.2.2.1 bt810.2.2.2 bt814.1 bt814.2.1 bt814.2.2.1 bt814.2.2.2).bind fun t818 => (some t818)))
theorem r4_Add.mono : ∀ a0 a1 a2 k, LeO (r4_Add.f k a0 a1 a2) (r4_Add.f (k + 1) a0 a1 a2) := by
 intro a0 a1 a2 k
 unfold r4_Add.f
 repeat' first
   | (with_reducible exact r2_Open.mono _ _ _)
   | (with_reducible exact r4_parts.mono _ _ _ _ _ _ _ _ _ _)
   | (with_reducible exact LeO.refl _)
   | (with_reducible exact LeO.none _)
   | (with_reducible refine LeO.ite ?_ ?_)
   | (with_reducible refine LeO.bind ?_ (fun _ => ?_))
   | exact r2_Open.mono _ _ _
   | exact r4_parts.mono _ _ _ _ _ _ _ _ _ _
   | exact LeO.none _
   | refine LeO.ite ?_ ?_
   | refine LeO.bind ?_ (fun _ => ?_)
theorem r4_Add.calls (k : Nat) (a0 : Int) (a1 : Int) (a2 : Int) (r : Int) (w : World) (h : r4_Add.f k a0 a1 a2 = some r) :
  Calls Try.prog 45 #[.int .i64 a0, .int .u64 a1, .int .u64 a2] w fun e w' => e = .returned (.int .u64 r) ∧ Below w.heap.size w w' := by
 have HB := A_ (Below.refl w.heap.size w)
 have H : ((r2_Open.f k a0 a1).bind fun bt810 => ((r2_Open.f k a0 a2).bind fun bt814 => ((r4_parts.f k a0 bt810.1 bt810.2.1 bt810.2.2.1 bt810.2.2.2 bt814.1 bt814.2.1 bt814.2.2.1 bt814.2.2.2).bind fun t818 => (some t818)))) = some r := h
 clear h
 replace H := ob_ H
 obtain ⟨⟨t810, t811, t812, t813⟩, A40, H⟩ := H
 replace H : ((r2_Open.f k a0 a2).bind fun bt814 => ((r4_parts.f k a0 t810 t811 t812 t813 bt814.1 bt814.2.1 bt814.2.2.1 bt814.2.2.2).bind fun t818 => (some t818))) = some r := H
 have A4 := A_ A40;clear A40
 replace H := ob_ H
 obtain ⟨⟨t814, t815, t816, t817⟩, A50, H⟩ := H
 replace H : ((r4_parts.f k a0 t810 t811 t812 t813 t814 t815 t816 t817).bind fun t818 => (some t818)) = some r := H
 have A5 := A_ A50;clear A50
 replace H := ob_ H
 obtain ⟨t818, A60, H⟩ := H
 replace H : (some t818) = some r := H
 have A6 := A_ A60;clear A60
 obtain rfl := Option.some.inj H
 go_enter Try.func45, Try.ntmps45
 go_wp2_with (first | ((with_reducible refine gate_callee (f := 48) rfl ?_); refine gl_ (some 10) Try.func48 #[.int .i64 a0, .int .u64 a1] ?_; (with_reducible refine (r2_Open.calls k a0 a1 t810 t811 t812 t813 _ A4.out).mono ?_); rintro e w7 ⟨rfl, hb⟩; refine ⟨_, rfl, ?_⟩; have n0_ := A_ (below_step (hb_ HB.out) hb); clear HB; have HB := n0_; clear n0_; (try clear hb); (try clear hb2); (try clear hk); (try clear hi)) | ((with_reducible refine gate_callee (f := 48) rfl ?_); refine gl_ (some 13) Try.func48 #[.int .i64 a0, .int .u64 a2] ?_; (with_reducible refine (r2_Open.calls k a0 a2 t814 t815 t816 t817 _ A5.out).mono ?_); rintro e w8 ⟨rfl, hb⟩; refine ⟨_, rfl, ?_⟩; have n0_ := A_ (below_step (hb_ HB.out) hb); clear HB; have HB := n0_; clear n0_; (try clear hb); (try clear hb2); (try clear hk); (try clear hi)) | ((with_reducible refine gate_callee (f := 84) rfl ?_); refine gl_ (some 14) Try.func84 #[.int .i64 a0, .agg #[.bool t810, .int .i64 t811, .int .i64 t812, .int .u64 t813], .agg #[.bool t814, .int .i64 t815, .int .i64 t816, .int .u64 t817]] ?_; (with_reducible refine (r4_parts.calls k a0 t810 t811 t812 t813 t814 t815 t816 t817 t818 _ A6.out).mono ?_); rintro e w9 ⟨rfl, hb⟩; refine ⟨_, rfl, ?_⟩; have n0_ := A_ (below_step (hb_ HB.out) hb); clear HB; have HB := n0_; clear n0_; (try clear hb); (try clear hb2); (try clear hk); (try clear hi)))
 go_ret
 exact ⟨er_, hb_ HB.out⟩
def L04_SumTotals.l0 : Nat → Int → Int → Int → List Int → Int → Int → Option (Bool)
 | 0, _, _, _, _, _, _ => none
 | k + 1, x0, x5, x6, x22, x23, x24 => if x24 < x23 then (if 0 ≤ x24 then (if x24 < (x22.length : Int) then ((r4_Add.f k x0 x6 (rd x22 x24)).bind fun t884 => (L04_SumTotals.l0 k x0 x5 t884 x22 x23 (wrap64 (x24 + 1)))) else (none)) else (none)) else (some (x5 == x6))
def L04_SumTotals.f (k : Nat) (a0 : Int) (l1 : List Int) : Option (Bool) := (L04_awake.f k).bind fun t880 => (if t880 = true then (if (l1.length : Int) > 100 then (some true) else ((sum_Total.f k a0 l1).bind fun t881 => ((r2_Known.f a0).bind fun t882 => (if t882 = true then (L04_SumTotals.l0 k a0 t881 0 l1 (l1.length : Int) 0) else (some (t881 == 0)))))) else (some false))
theorem L04_SumTotals.mono_l : ∀ k, (∀ y0 y1 y2 y3 y4 y5, LeO (L04_SumTotals.l0 k y0 y1 y2 y3 y4 y5) (L04_SumTotals.l0 (k + 1) y0 y1 y2 y3 y4 y5))
 | 0 => fun _ _ _ _ _ _ r h => by simp [L04_SumTotals.l0] at h
 | k + 1 => by
  have ih0 := L04_SumTotals.mono_l k
  ·intro y0 y1 y2 y3 y4 y5
   unfold L04_SumTotals.l0
   repeat' first
   | (with_reducible exact ih0 _ _ _ _ _ _)
   | (with_reducible exact sum_Total.mono _ _ _)
   | (with_reducible exact L04_awake.mono _)
   | (with_reducible exact r4_Add.mono _ _ _ _)
   | (with_reducible exact LeO.refl _)
   | (with_reducible exact LeO.none _)
   | (with_reducible refine LeO.ite ?_ ?_)
   | (with_reducible refine LeO.bind ?_ (fun _ => ?_))
   | exact ih0 _ _ _ _ _ _
   | exact sum_Total.mono _ _ _
   | exact L04_awake.mono _
   | exact r4_Add.mono _ _ _ _
   | exact LeO.none _
   | refine LeO.ite ?_ ?_
   | refine LeO.bind ?_ (fun _ => ?_)
theorem L04_SumTotals.mono : ∀ a0 a1 k, LeO (L04_SumTotals.f k a0 a1) (L04_SumTotals.f (k + 1) a0 a1) := by
 intro a0 a1 k
 have ih0 := L04_SumTotals.mono_l k
 unfold L04_SumTotals.f
 repeat' first
   | (with_reducible exact ih0 _ _ _ _ _ _)
   | (with_reducible exact sum_Total.mono _ _ _)
   | (with_reducible exact L04_awake.mono _)
   | (with_reducible exact r4_Add.mono _ _ _ _)
   | (with_reducible exact LeO.refl _)
   | (with_reducible exact LeO.none _)
   | (with_reducible refine LeO.ite ?_ ?_)
   | (with_reducible refine LeO.bind ?_ (fun _ => ?_))
   | exact ih0 _ _ _ _ _ _
   | exact sum_Total.mono _ _ _
   | exact L04_awake.mono _
   | exact r4_Add.mono _ _ _ _
   | exact LeO.none _
   | refine LeO.ite ?_ ?_
   | refine LeO.bind ?_ (fun _ => ?_)
theorem L04_SumTotals.calls (k : Nat) (a0 : Int) (A1 : Option Addr) (c1 : Nat) (l1 : List Int) (r : Bool) (w : World) (hr1 : Kd.C (Kd.int .u64) w A1 l1.length l1) (hc1 : l1.length ≤ c1) (h : L04_SumTotals.f k a0 l1 = some r) (hr_ : Aside0 (r = true)) :
  Calls Try.prog 14 #[.int .i64 a0, .slice A1 l1.length c1] w fun e w' => e = .returned (.bool r) ∧ Below w.heap.size w w' := by
 have HR1 := A_ hr1;have HC1 := A_ hc1;clear hr1 hc1
 have HB := A_ (Below.refl w.heap.size w)
 have H : ((L04_awake.f k).bind fun t880 => (if t880 = true then (if (l1.length : Int) > 100 then (some true) else ((sum_Total.f k a0 l1).bind fun t881 => ((r2_Known.f a0).bind fun t882 => (if t882 = true then (L04_SumTotals.l0 k a0 t881 0 l1 (l1.length : Int) 0) else (some (t881 == 0)))))) else (some false))) = some r := h
 clear h
 replace H := ob_ H
 obtain ⟨t880, A30, H⟩ := H
 replace H : (if t880 = true then (if (l1.length : Int) > 100 then (some true) else ((sum_Total.f k a0 l1).bind fun t881 => ((r2_Known.f a0).bind fun t882 => (if t882 = true then (L04_SumTotals.l0 k a0 t881 0 l1 (l1.length : Int) 0) else (some (t881 == 0)))))) else (some false)) = some r := H
 have A3 := A_ A30;clear A30
 by_cases c4 : t880 = true
 ·subst c4
  have H1 : (if (l1.length : Int) > 100 then (some true) else ((sum_Total.f k a0 l1).bind fun t881 => ((r2_Known.f a0).bind fun t882 => (if t882 = true then (L04_SumTotals.l0 k a0 t881 0 l1 (l1.length : Int) 0) else (some (t881 == 0)))))) = some r := by rw [if_pos rfl] at H; exact H
  clear H;have H := H1;clear H1
  by_cases c5 : (l1.length : Int) > 100
  ·rw [if_pos c5] at H
   have c5b0 : decide (100 < (l1.length : Int)) = true := decide_eq_true c5
   have c5b1 : decide (100 < l1.length) = true := decide_eq_true (by omega)
   clear c5
   obtain rfl := Option.some.inj H
   go_enter Try.func14, Try.ntmps14
   go_wp2_with (first | ((with_reducible refine gate_callee (f := 43) rfl ?_); refine gl_ (some 9) Try.func43 #[] ?_; (with_reducible refine (L04_awake.calls k  true _ A3.out).mono ?_); rintro e w6 ⟨rfl, hb⟩; refine ⟨_, rfl, ?_⟩; have n0_ := A_ (below_step (hb_ HB.out) hb); clear HB; have HB := n0_; clear n0_; (try clear hb); (try clear hb2); (try clear hk); (try clear hi)))
   go_ret
   exact ⟨er_, hb_ HB.out⟩
  ·rw [if_neg c5] at H
   have c5b0 : decide (100 < (l1.length : Int)) = false := decide_eq_false c5
   have c5b1 : decide (100 < l1.length) = false := decide_eq_false (by omega)
   clear c5
   replace H := ob_ H
   obtain ⟨t881, A70, H⟩ := H
   replace H : ((r2_Known.f a0).bind fun t882 => (if t882 = true then (L04_SumTotals.l0 k a0 t881 0 l1 (l1.length : Int) 0) else (some (t881 == 0)))) = some r := H
   have A7 := A_ A70;clear A70
   replace H := ob_ H
   obtain ⟨t882, A80, H⟩ := H
   replace H : (if t882 = true then (L04_SumTotals.l0 k a0 t881 0 l1 (l1.length : Int) 0) else (some (t881 == 0))) = some r := H
   have A8 := A_ A80;clear A80
   by_cases c9 : t882 = true
   ·subst c9
    have H1 : (L04_SumTotals.l0 k a0 t881 0 l1 (l1.length : Int) 0) = some r := by rw [if_pos rfl] at H; exact H
    clear H;have H := H1;clear H1
    have H' := A_ H
    clear H
    go_enter Try.func14, Try.ntmps14
    go_wp2_with (first | ((with_reducible refine gate_callee (f := 43) rfl ?_); refine gl_ (some 9) Try.func43 #[] ?_; (with_reducible refine (L04_awake.calls k  true _ A3.out).mono ?_); rintro e w10 ⟨rfl, hb⟩; refine ⟨_, rfl, ?_⟩; have n0_ := A_ (below_step (hb_ HB.out) hb); clear HB; have HB := n0_; clear n0_; (try clear hb); (try clear hb2); (try clear hk); (try clear hi)) | ((with_reducible refine gate_callee (f := 50) rfl ?_); refine gl_ (some 16) Try.func50 #[.int .i64 a0, .slice A1 l1.length c1] ?_; (with_reducible refine (sum_Total.calls k a0 _ _ l1 t881 _ ?side1 ?side2 A7.out).mono ?_); (case side1 => repeat (first | exact (Kd.C_below HR1.out HB.out) | (with_reducible refine Kd.C_alloc ?_ _) | (with_reducible refine Kd.C_drewN ?_ _) | (with_reducible refine Kd.C_drew ?_))); (case side2 => exact HC1.out); rintro e w11 ⟨rfl, hb⟩; refine ⟨_, rfl, ?_⟩; have n0_ := A_ (below_step (hb_ HB.out) hb); clear HB; have HB := n0_; clear n0_; (try clear hb); (try clear hb2); (try clear hk); (try clear hi)) | ((with_reducible refine gate_callee (f := 16) rfl ?_); refine gl_ (some 18) Try.func16 #[.int .i64 a0] ?_; (with_reducible refine (r2_Known.calls a0 true _ A8.out).mono ?_); rintro e w' ⟨rfl, ⟨nd, rfl⟩⟩; refine ⟨_, rfl, ?_⟩))
    go_loopg [6, 24] k (fun kq v6 v24 w' => ∃ (x6_1 : Int) (x24_1 : Int), v6 = .int .u64 x6_1 ∧ v24 = .int .i64 x24_1 ∧ Aside0 (L04_SumTotals.l0 kq a0 t881 x6_1 l1 (l1.length : Int) x24_1 = some r) ∧ Aside0 (kq ≤ k) ∧ Aside0 (Below w.heap.size w w'))
    case atStart => exact ⟨(0), (0), sm_, sm_, H', ⟨Nat.le_refl _⟩, ⟨hb_ HB.out⟩⟩
    case round =>
     clear H'
     try clear c1
     try clear p2
     try clear c4
     try clear c5
     try clear c5b0
     try clear c5b1
     try clear c9
     obtain ⟨x6_1, x24_1, rfl, rfl, HA, HK1, HB⟩ := hrel
     cases gk with
     | zero => exact absurd HA.out (by simp [L04_SumTotals.l0])
     | succ k1 =>
      have H := HA.out
      clear HA
      simp only [L04_SumTotals.l0] at H
      by_cases c12 : x24_1 < (l1.length : Int)
      ·rw [if_pos c12] at H
       have c12b0 : decide (x24_1 < (l1.length : Int)) = true := decide_eq_true c12
       clear c12
       by_cases c13 : 0 ≤ x24_1
       ·rw [if_pos c13] at H
        have c13b0 : decide (0 ≤ x24_1) = true := decide_eq_true c13
        clear c13
        by_cases c14 : x24_1 < (l1.length : Int)
        ·rw [if_pos c14] at H
         have c14b0 : decide (x24_1 < (l1.length : Int)) = true := decide_eq_true c14
         clear c14
         replace H := ob_ H
         obtain ⟨t884, A150, H⟩ := H
         replace H : (L04_SumTotals.l0 k1 a0 t881 t884 l1 (l1.length : Int) (wrap64 (x24_1 + 1))) = some r := H
         have A15 := A_ A150;clear A150
         have H' := A_ H
         clear H
         have p883 : 0 ≤ (x24_1 : Int) := of_decide_eq_true (by first | (with_reducible assumption) | assumption)
         have q883 : x24_1 < (l1.length : Int) := of_decide_eq_true (by first | (with_reducible assumption) | assumption)
         obtain ⟨ad883, e883, hx883_0⟩ := Kd.at_int HR1.out x24_1 p883 q883
         cases e883
         replace hx883_0 := (HB.out.cell (World.block_lt_of_cell? w _ hx883_0)).trans hx883_0
         replace p883 := eq_true p883
         replace q883 := eq_true q883
         go_wp2_with (first | ((with_reducible refine gate_callee (f := 45) rfl ?_); refine gl_ (some 31) Try.func45 #[.int .i64 a0, .int .u64 x6_1, .int .u64 (rd l1 x24_1)] ?_; (with_reducible refine (r4_Add.calls k1 a0 x6_1 (rd l1 x24_1) t884 _ A15.out).mono ?_); rintro e w16 ⟨rfl, hb⟩; refine ⟨_, rfl, ?_⟩; have n0_ := A_ (below_step (hb_ HB.out) hb); clear HB; have HB := n0_; clear n0_; (try clear hb); (try clear hb2); (try clear hk); (try clear hi)))
         go_roundg k1
         case measure => have := HK1.out; omega
         case rel => exact ⟨(t884), (wrap64 (x24_1 + 1)), sm_, sm_, H', ⟨by have := HK1.out; omega⟩, ⟨hb_ HB.out⟩⟩
        ·rw [if_neg c14] at H
         exact absurd H (by simp)
       ·rw [if_neg c13] at H
        exact absurd H (by simp)
      ·rw [if_neg c12] at H
       have c12b0 : decide (x24_1 < (l1.length : Int)) = false := decide_eq_false c12
       clear c12
       obtain rfl := Option.some.inj H
       go_wp2
       go_ret
       exact ⟨er_, hb_ HB.out⟩
   ·replace c9 := Bool.eq_false_iff.mpr c9
    subst c9
    have H1 : (some (t881 == 0)) = some r := by rw [if_neg (show ¬ (false = true) by decide)] at H; exact H
    clear H;have H := H1;clear H1
    obtain rfl := Option.some.inj H
    go_enter Try.func14, Try.ntmps14
    go_wp2_with (first | ((with_reducible refine gate_callee (f := 43) rfl ?_); refine gl_ (some 9) Try.func43 #[] ?_; (with_reducible refine (L04_awake.calls k  true _ A3.out).mono ?_); rintro e w17 ⟨rfl, hb⟩; refine ⟨_, rfl, ?_⟩; have n0_ := A_ (below_step (hb_ HB.out) hb); clear HB; have HB := n0_; clear n0_; (try clear hb); (try clear hb2); (try clear hk); (try clear hi)) | ((with_reducible refine gate_callee (f := 50) rfl ?_); refine gl_ (some 16) Try.func50 #[.int .i64 a0, .slice A1 l1.length c1] ?_; (with_reducible refine (sum_Total.calls k a0 _ _ l1 t881 _ ?side1 ?side2 A7.out).mono ?_); (case side1 => repeat (first | exact (Kd.C_below HR1.out HB.out) | (with_reducible refine Kd.C_alloc ?_ _) | (with_reducible refine Kd.C_drewN ?_ _) | (with_reducible refine Kd.C_drew ?_))); (case side2 => exact HC1.out); rintro e w18 ⟨rfl, hb⟩; refine ⟨_, rfl, ?_⟩; have n0_ := A_ (below_step (hb_ HB.out) hb); clear HB; have HB := n0_; clear n0_; (try clear hb); (try clear hb2); (try clear hk); (try clear hi)) | ((with_reducible refine gate_callee (f := 16) rfl ?_); refine gl_ (some 18) Try.func16 #[.int .i64 a0] ?_; (with_reducible refine (r2_Known.calls a0 false _ A8.out).mono ?_); rintro e w' ⟨rfl, ⟨nd, rfl⟩⟩; refine ⟨_, rfl, ?_⟩))
    go_ret
    exact ⟨er_, hb_ HB.out⟩
 ·replace c4 := Bool.eq_false_iff.mpr c4
  subst c4
  have H1 : (some false) = some r := by rw [if_neg (show ¬ (false = true) by decide)] at H; exact H
  clear H;have H := H1;clear H1
  exact absurd ((Option.some.inj H).trans hr_.out) (by decide)
def L04_SumTotals.Pure : Prop := ∀ (a0 : Int) (l1 : List Int), (Lit.int .i64 a0).wf = true → l1.length ≤ maxLen → l1.length * 8 ≤ 140737488351232 → (∀ x ∈ l1, (Lit.int .u64 x).wf = true) → ∃ k, L04_SumTotals.f k a0 l1 = some true
theorem L04_SumTotals.walk (P : L04_SumTotals.Pure) (a0 : Int) (a1 : Option Addr) (len1 cap1 : Nat) (z1 : List Int) (w : World) (w0 : (Lit.int .i64 a0).wf = true) (w1 : (a1 = none ∧ len1 = 0 ∧ cap1 = 0 ∧ z1 = []) ∨ ∃ x, a1 = some x ∧ len1 ≤ cap1 ∧ cap1 ≤ maxLen ∧ z1.length = cap1 ∧ (∀ i, i < z1.length → w.cell? (x.add i) = some (.int .u64 (z1.getD i 0))) ∧ ∀ n ∈ z1, (Lit.int .u64 n).wf = true) (y1 : len1 * 8 ≤ 140737488351232) :
  Calls Try.prog 14 #[.int .i64 a0, .slice a1 len1 cap1] w fun e w' => e = .returned (.bool true) ∧ Below w.heap.size w w' := by
 obtain ⟨l1, rfl, hr1, hm1, hw1, hc1⟩ := ReadsInt.ofRowC w1
 obtain ⟨k, h⟩ := P a0 l1 w0 hm1 y1 hw1
 refine (L04_SumTotals.calls k a0 _ _ l1 true w (Kd.C_of_reads (d := (0 : Int)) (h1 := fun _ => rfl) hr1) hc1 h ⟨rfl⟩).mono ?_
 rintro e w' ⟨rfl, hd⟩
 exact ⟨rfl, hd⟩
end Go.Proofs.Ytbpmnmceajmmcaa.PA
section
set_option linter.unusedVariables false
set_option linter.unusedSimpArgs false
namespace Go.Proofs.Ytbpmnmceajmmcaa.Th
open Go.RowKit Go.Proofs.YtbpmnmceajmmcaaW.PrintWords Go.Proofs.YtbpmnmceajmmcaaW.PrintLast Go.Proofs.YtbpmnmceajmmcaaW.PrintMore Go.Proofs.Ytbpmnmceajmmcaa.PA Bit Flo
theorem two_i {n : Int} (m : Nat) (h : n = m) (hm : m < 64) : Ev (fun k => r2_Two.f k n) ((2 ^ m : Nat) : Int) := by subst h; exact two_f m hm

theorem r2E32 : r2_E.f 32 = some 8 := by decide +kernel
theorem r2F32 : r2_F.f 32 = some 23 := by decide +kernel
theorem r2B32 : r2_B.f 32 = some 127 := by decide +kernel
theorem r2Tf32 : Ev (fun k => r2_Two.f k 23) ((8388608 : Nat) : Int) := by have h := two_i (n := 23) 23 rfl (by decide); rw [show (2 : Nat) ^ 23 = 8388608 by decide] at h; exact h
theorem r2Te32 : Ev (fun k => r2_Two.f k 8) ((256 : Nat) : Int) := by have h := two_i (n := 8) 8 rfl (by decide); rw [show (2 : Nat) ^ 8 = 256 by decide] at h; exact h
theorem r2Ts32 : Ev (fun k => r2_Two.f k (wrap64 (32 - 1))) ((2147483648 : Nat) : Int) := by have h := two_i (n := wrap64 (32 - 1)) 31 (by decide +kernel) (by decide); rw [show (2 : Nat) ^ 31 = 2147483648 by decide] at h; exact h
theorem r2Th32 : Ev (fun k => r2_Two.f k (wrap64 (23 - 1))) ((4194304 : Nat) : Int) := by have h := two_i (n := wrap64 (23 - 1)) 22 (by decide +kernel) (by decide); rw [show (2 : Nat) ^ 22 = 4194304 by decide] at h; exact h
theorem r2Exp32 (a : Nat) (ha : a < 18446744073709551616) : Ev (fun k => r2_Exp.f k 32 a) ((a / 8388608 % 256 : Nat) : Int) := by
  unfold r2_Exp.f
  refine Ev.bs (r2Cut 32 a (by decide)) (Ev.bs r2F32 (Ev.bind r2Tf32 (Ev.neg (by decide) (Ev.bs r2E32 (Ev.bind r2Te32 (Ev.neg (by decide) (Ev.out ?_)))))))
  have hc : cutN 32 a = a % 4294967296 := by unfold cutN; rw [if_pos rfl]
  rw [hc, Int.tdiv_eq_ediv_of_nonneg (by omega), u64_id (by omega) (by omega), Int.tmod_eq_emod_of_nonneg (by omega), w64_id (by omega) (by omega)]
  omega
theorem r2Frac32 (a : Nat) (ha : a < 18446744073709551616) : Ev (fun k => r2_Frac.f k 32 a) ((a % 8388608 : Nat) : Int) := by
  unfold r2_Frac.f
  refine Ev.bs r2F32 (Ev.bind r2Tf32 (Ev.neg (by decide) (Ev.out ?_)))
  rw [Int.tmod_eq_emod_of_nonneg (by omega)]; omega
theorem r2Top32 : Ev (fun k => r2_Top.f k 32) ((255 : Nat) : Int) := by
  unfold r2_Top.f
  exact Ev.bs r2E32 (Ev.bind r2Te32 (Ev.out (by decide +kernel)))
theorem r2Make32 (s : Bool) (e fr : Nat) (he : e ≤ 255) (hf : fr < 8388608) : Ev (fun k => r2_Make.f k 32 s e fr) ((mkN 32 (e * 8388608 + fr) s : Nat) : Int) := by
  unfold r2_Make.f
  refine Ev.bs r2F32 (Ev.bind r2Tf32 ?_)
  rw [u64_id (n := (e : Int)) (by omega) (by omega), u64_id (n := (e : Int) * ((8388608 : Nat) : Int)) (by omega) (by omega), u64_id (n := (e : Int) * ((8388608 : Nat) : Int) + fr) (by omega) (by omega)]
  unfold mkN
  rw [show sb 32 = 2147483648 by decide]
  cases s
  · exact Ev.neg (by decide) (Ev.out (by simp))
  · refine Ev.pos rfl (Ev.bind r2Ts32 (Ev.out ?_))
    rw [u64_id (by omega) (by omega)]; simp only [if_true]; omega
theorem r2Nan32 : Ev (fun k => r2_Nan.f k 32) ((nanN 32 : Nat) : Int) := by
  unfold r2_Nan.f
  refine Ev.bind r2Top32 (Ev.bs r2F32 (Ev.bind r2Th32 (Ev.bind (r2Make32 false 255 4194304 (by decide) (by decide)) (Ev.out (by decide)))))
theorem r2Inf32 (s : Bool) : Ev (fun k => r2_Inf.f k 32 s) ((mkN 32 f32.inf s : Nat) : Int) := by
  unfold r2_Inf.f
  have h := r2Make32 s 255 0 (by decide) (by decide)
  exact Ev.bind r2Top32 (Ev.bind h (Ev.out (by rw [inf32])))
theorem r2Open32 (a : Nat) (ha : a < 18446744073709551616) : Ev (fun k => r2_Open.f k 32 a) (opn 32 a) := by
  rw [opn32]
  unfold r2_Open.f
  refine Ev.bind (r2Exp32 a ha) (Ev.bind (r2Frac32 a ha) (Ev.bind (r2Neg 32 (by decide) a ha) (Ev.bind r2Top32 ?_)))
  unfold sgB
  rw [show sb 32 = 2147483648 by decide]
  have hP : a % 2147483648 % 8388608 = a % 8388608 := by omega
  have hQ : a % 2147483648 / 8388608 = a / 8388608 % 256 := by omega
  have hT : a / 8388608 % 256 < 256 := Nat.mod_lt _ (by decide)
  have hE : a % 2147483648 = a / 8388608 % 256 * 8388608 + a % 8388608 := by omega
  rw [hP, hQ, hE]
  generalize a / 8388608 % 256 = e at *
  have hF : a % 8388608 < 8388608 := Nat.mod_lt _ (by decide)
  generalize a % 8388608 = fr at *
  generalize decide (a / 2147483648 % 2 = 1) = s
  by_cases h1 : e = 255
  · subst h1
    refine Ev.pos rfl ?_
    by_cases h2 : fr = 0
    · subst h2
      refine Ev.pos rfl (Ev.out ?_)
      rw [if_neg (by omega), if_neg (by omega), if_pos (by omega)]
    · refine Ev.neg (by omega) (Ev.out ?_)
      rw [if_neg (by omega), if_neg (by omega), if_neg (by omega)]
  · refine Ev.neg (by omega) ?_
    by_cases h2 : e = 0
    · subst h2
      refine Ev.pos rfl ?_
      by_cases h3 : fr = 0
      · subst h3
        refine Ev.pos rfl (Ev.out ?_)
        rw [Nat.zero_mul, Nat.zero_add, if_pos rfl]
      · refine Ev.neg (by omega) (Ev.bs r2B32 (Ev.bs r2F32 (Ev.out ?_)))
        rw [if_neg (by omega), if_pos (by omega), if_pos (by omega), if_pos (by omega), show wrap64 (wrap64 (1 - 127) - 23) = (-149 : Int) by decide +kernel]
        simp
    · refine Ev.neg (by omega) (Ev.bs r2B32 (Ev.bs r2F32 (Ev.bs r2F32 (Ev.bind r2Tf32 (Ev.out ?_)))))
      rw [if_neg (by omega), if_pos (by omega), if_neg (by omega), if_neg (by omega)]
      rw [w64_id (n := ((e : Nat) : Int) - 127) (by omega) (by omega), w64_id (by omega) (by omega), u64_id (by omega) (by omega)]
      congr 2
      congr 1
      omega

theorem r2E64 : r2_E.f 64 = some 11 := by decide +kernel
theorem r2F64 : r2_F.f 64 = some 52 := by decide +kernel
theorem r2B64 : r2_B.f 64 = some 1023 := by decide +kernel
theorem r2Tf64 : Ev (fun k => r2_Two.f k 52) ((4503599627370496 : Nat) : Int) := by have h := two_i (n := 52) 52 rfl (by decide); rw [show (2 : Nat) ^ 52 = 4503599627370496 by decide] at h; exact h
theorem r2Te64 : Ev (fun k => r2_Two.f k 11) ((2048 : Nat) : Int) := by have h := two_i (n := 11) 11 rfl (by decide); rw [show (2 : Nat) ^ 11 = 2048 by decide] at h; exact h
theorem r2Ts64 : Ev (fun k => r2_Two.f k (wrap64 (64 - 1))) ((9223372036854775808 : Nat) : Int) := by have h := two_i (n := wrap64 (64 - 1)) 63 (by decide +kernel) (by decide); rw [show (2 : Nat) ^ 63 = 9223372036854775808 by decide] at h; exact h
theorem r2Th64 : Ev (fun k => r2_Two.f k (wrap64 (52 - 1))) ((2251799813685248 : Nat) : Int) := by have h := two_i (n := wrap64 (52 - 1)) 51 (by decide +kernel) (by decide); rw [show (2 : Nat) ^ 51 = 2251799813685248 by decide] at h; exact h
theorem r2Exp64 (a : Nat) (ha : a < 18446744073709551616) : Ev (fun k => r2_Exp.f k 64 a) ((a / 4503599627370496 % 2048 : Nat) : Int) := by
  unfold r2_Exp.f
  refine Ev.bs (r2Cut 64 a (by decide)) (Ev.bs r2F64 (Ev.bind r2Tf64 (Ev.neg (by decide) (Ev.bs r2E64 (Ev.bind r2Te64 (Ev.neg (by decide) (Ev.out ?_)))))))
  have hc : cutN 64 a = a % 18446744073709551616 := by unfold cutN; rw [if_neg (by decide), if_pos rfl]; omega
  rw [hc, Int.tdiv_eq_ediv_of_nonneg (by omega), u64_id (by omega) (by omega), Int.tmod_eq_emod_of_nonneg (by omega), w64_id (by omega) (by omega)]
  omega
theorem r2Frac64 (a : Nat) (ha : a < 18446744073709551616) : Ev (fun k => r2_Frac.f k 64 a) ((a % 4503599627370496 : Nat) : Int) := by
  unfold r2_Frac.f
  refine Ev.bs r2F64 (Ev.bind r2Tf64 (Ev.neg (by decide) (Ev.out ?_)))
  rw [Int.tmod_eq_emod_of_nonneg (by omega)]; omega
theorem r2Top64 : Ev (fun k => r2_Top.f k 64) ((2047 : Nat) : Int) := by
  unfold r2_Top.f
  exact Ev.bs r2E64 (Ev.bind r2Te64 (Ev.out (by decide +kernel)))
theorem r2Make64 (s : Bool) (e fr : Nat) (he : e ≤ 2047) (hf : fr < 4503599627370496) : Ev (fun k => r2_Make.f k 64 s e fr) ((mkN 64 (e * 4503599627370496 + fr) s : Nat) : Int) := by
  unfold r2_Make.f
  refine Ev.bs r2F64 (Ev.bind r2Tf64 ?_)
  rw [u64_id (n := (e : Int)) (by omega) (by omega), u64_id (n := (e : Int) * ((4503599627370496 : Nat) : Int)) (by omega) (by omega), u64_id (n := (e : Int) * ((4503599627370496 : Nat) : Int) + fr) (by omega) (by omega)]
  unfold mkN
  rw [show sb 64 = 9223372036854775808 by decide]
  cases s
  · exact Ev.neg (by decide) (Ev.out (by simp))
  · refine Ev.pos rfl (Ev.bind r2Ts64 (Ev.out ?_))
    rw [u64_id (by omega) (by omega)]; simp only [if_true]; omega
theorem r2Nan64 : Ev (fun k => r2_Nan.f k 64) ((nanN 64 : Nat) : Int) := by
  unfold r2_Nan.f
  refine Ev.bind r2Top64 (Ev.bs r2F64 (Ev.bind r2Th64 (Ev.bind (r2Make64 false 2047 2251799813685248 (by decide) (by decide)) (Ev.out (by decide)))))
theorem r2Inf64 (s : Bool) : Ev (fun k => r2_Inf.f k 64 s) ((mkN 64 f64.inf s : Nat) : Int) := by
  unfold r2_Inf.f
  have h := r2Make64 s 2047 0 (by decide) (by decide)
  exact Ev.bind r2Top64 (Ev.bind h (Ev.out (by rw [inf64])))
theorem r2Open64 (a : Nat) (ha : a < 18446744073709551616) : Ev (fun k => r2_Open.f k 64 a) (opn 64 a) := by
  rw [opn64]
  unfold r2_Open.f
  refine Ev.bind (r2Exp64 a ha) (Ev.bind (r2Frac64 a ha) (Ev.bind (r2Neg 64 (by decide) a ha) (Ev.bind r2Top64 ?_)))
  unfold sgB
  rw [show sb 64 = 9223372036854775808 by decide]
  have hP : a % 9223372036854775808 % 4503599627370496 = a % 4503599627370496 := by omega
  have hQ : a % 9223372036854775808 / 4503599627370496 = a / 4503599627370496 % 2048 := by omega
  have hT : a / 4503599627370496 % 2048 < 2048 := Nat.mod_lt _ (by decide)
  have hE : a % 9223372036854775808 = a / 4503599627370496 % 2048 * 4503599627370496 + a % 4503599627370496 := by omega
  rw [hP, hQ, hE]
  generalize a / 4503599627370496 % 2048 = e at *
  have hF : a % 4503599627370496 < 4503599627370496 := Nat.mod_lt _ (by decide)
  generalize a % 4503599627370496 = fr at *
  generalize decide (a / 9223372036854775808 % 2 = 1) = s
  by_cases h1 : e = 2047
  · subst h1
    refine Ev.pos rfl ?_
    by_cases h2 : fr = 0
    · subst h2
      refine Ev.pos rfl (Ev.out ?_)
      rw [if_neg (by omega), if_neg (by omega), if_pos (by omega)]
    · refine Ev.neg (by omega) (Ev.out ?_)
      rw [if_neg (by omega), if_neg (by omega), if_neg (by omega)]
  · refine Ev.neg (by omega) ?_
    by_cases h2 : e = 0
    · subst h2
      refine Ev.pos rfl ?_
      by_cases h3 : fr = 0
      · subst h3
        refine Ev.pos rfl (Ev.out ?_)
        rw [Nat.zero_mul, Nat.zero_add, if_pos rfl]
      · refine Ev.neg (by omega) (Ev.bs r2B64 (Ev.bs r2F64 (Ev.out ?_)))
        rw [if_neg (by omega), if_pos (by omega), if_pos (by omega), if_pos (by omega), show wrap64 (wrap64 (1 - 1023) - 52) = (-1074 : Int) by decide +kernel]
        simp
    · refine Ev.neg (by omega) (Ev.bs r2B64 (Ev.bs r2F64 (Ev.bs r2F64 (Ev.bind r2Tf64 (Ev.out ?_)))))
      rw [if_neg (by omega), if_pos (by omega), if_neg (by omega), if_neg (by omega)]
      rw [w64_id (n := ((e : Nat) : Int) - 1023) (by omega) (by omega), w64_id (by omega) (by omega), u64_id (by omega) (by omega)]
      congr 2
      congr 1
      omega
theorem r2Open (w : Int) (hw : w = 32 ∨ w = 64) (a : Nat) (ha : a < 18446744073709551616) : Ev (fun k => r2_Open.f k w a) (opn w a) := by
  rcases hw with rfl | rfl
  · exact r2Open32 a ha
  · exact r2Open64 a ha
theorem cut_mk (w : Int) (hw : w = 32 ∨ w = 64) (m : Nat) (s : Bool) (h : m < sb w) : cutN w (mkN w m s) = mkN w m s := by
  rw [cutN_eq w hw _ (mkN_lt w hw m s h), sg_mk w hw m s h, mag_mk w hw m s h]; rfl
end Go.Proofs.Ytbpmnmceajmmcaa.Th
end
section
set_option linter.unusedVariables false
set_option linter.unusedSimpArgs false
namespace Go.Proofs.Ytbpmnmceajmmcaa.Th
open Go.RowKit Go.Proofs.YtbpmnmceajmmcaaW.PrintWords Go.Proofs.YtbpmnmceajmmcaaW.PrintLast Go.Proofs.YtbpmnmceajmmcaaW.PrintMore Go.Proofs.Ytbpmnmceajmmcaa.PA Bit Flo Dig
theorem inf_pos (w : Int) (hw : w = 32 ∨ w = 64) : 0 < (fmt w).inf := by rcases hw with rfl | rfl <;> decide
theorem kinds (w : Int) (hw : w = 32 ∨ w = 64) (a : Nat) : (magN w a = 0 ∧ opn w a = (sgB w a, 0, 0, 0)) ∨ (0 < magN w a ∧ magN w a < (fmt w).inf ∧ opn w a = (sgB w a, 1, (fmt w).ex (magN w a), ((fmt w).sg (magN w a) : Int))) ∨ (magN w a = (fmt w).inf ∧ opn w a = (sgB w a, 2, 0, 0)) ∨ ((fmt w).inf < magN w a ∧ opn w a = (false, 3, 0, 0)) := by
  have h0 := inf_pos w hw
  unfold opn; simp only
  by_cases h1 : magN w a = 0
  · left; rw [if_pos h1]; exact ⟨h1, rfl⟩
  · right; rw [if_neg h1]
    by_cases h2 : magN w a < (fmt w).inf
    · left; rw [if_pos h2]; exact ⟨by omega, h2, rfl⟩
    · right; rw [if_neg h2]
      by_cases h3 : magN w a = (fmt w).inf
      · left; rw [if_pos h3]; exact ⟨h3, rfl⟩
      · right; rw [if_neg h3]; exact ⟨by omega, rfl⟩
theorem ex_bd (w : Int) (hw : w = 32 ∨ w = 64) (m : Nat) (h : m < (fmt w).inf) : -1074 ≤ (fmt w).ex m ∧ (fmt w).ex m ≤ 971 := by
  rcases hw with rfl | rfl
  · rw [fmt32, inf32] at h; rw [fmt32, ex32]; split <;> omega
  · rw [fmt64, inf64] at h; rw [fmt64, ex64]; split <;> omega
theorem sg_64 (w : Int) (hw : w = 32 ∨ w = 64) (m : Nat) : (fmt w).sg m < 9007199254740992 := by
  have h := (fmt w).sg_lt m
  rcases hw with rfl | rfl
  · rw [fmt32] at h ⊢; rw [show (2 : Nat) ^ (f32.f + 1) = 16777216 by decide] at h; omega
  · rw [fmt64] at h ⊢; rw [show (2 : Nat) ^ (f64.f + 1) = 9007199254740992 by decide] at h; omega
end Go.Proofs.Ytbpmnmceajmmcaa.Th
end
section
set_option linter.unusedVariables false
set_option linter.unusedSimpArgs false
namespace Go.Proofs.Ytbpmnmceajmmcaa.Th
open Flo
theorem fmt_bd (w : Int) : (fmt w).f < 100 ∧ (-5000 < (fmt w).low ∧ (fmt w).low < 0) ∧ (fmt w).top < 5000 := by
  unfold fmt; split <;> decide
theorem fmt_f (w : Int) : (fmt w).f ≤ 52 := by unfold fmt; split <;> decide
theorem pk_ex (w : Int) (S : Nat) (e : Int) (hS : S < 340282366920938463463374607431768211456) : pkm (fmt w) S e false = (fmt w).rnd ((S : Rat) * tw e) := by
  have h := fmt_bd w
  rw [← pkx_f, pkm_rnd _ h.1 h.2.1 h.2.2 S e false hS]
theorem pk_mo (w : Int) {x : Rat} {S : Nat} {e : Int} (hS : S < 340282366920938463463374607431768211456) (h0 : 9007199254740992 ≤ S) (h1 : (S : Rat) * tw e < x) (h2 : x < ((S + 1 : Nat) : Rat) * tw e) : pkm (fmt w) S e true = (fmt w).rnd x := by
  have h := fmt_bd w
  have h3 : 2 ^ ((fmt w).f + 1) ≤ S := by
    have : 2 ^ ((fmt w).f + 1) ≤ 2 ^ 53 := Nat.pow_le_pow_right (by decide) (by have := fmt_f w; omega)
    rw [show (2 : Nat) ^ 53 = 9007199254740992 by decide] at this
    omega
  rw [rnd_more _ h1 h2 h3, pkm_rnd _ h.1 h.2.1 h.2.2 S e true hS]
abbrev Pt := Bool × Int × Int × Int
noncomputable def pv (p : Pt) : Rat := if p.2.1 = 1 then (if p.1 then -((p.2.2.2.toNat : Rat) * tw p.2.2.1) else (p.2.2.2.toNat : Rat) * tw p.2.2.1) else 0
noncomputable def fx (w : Int) (s : Rat) (z : Bool) : Nat := if s = 0 then mkN w 0 z else if s < 0 then mkN w ((fmt w).rnd (-s)) true else mkN w ((fmt w).rnd s) false
noncomputable def addP (w : Int) (p q : Pt) : Nat :=
  if p.2.1 = 3 ∨ q.2.1 = 3 then nanN w else if p.2.1 = 2 then (if q.2.1 = 2 ∧ p.1 ≠ q.1 then nanN w else mkN w (fmt w).inf p.1) else if q.2.1 = 2 then mkN w (fmt w).inf q.1
  else fx w (pv p + pv q) (p.1 && q.1)
theorem fx_pos (w : Int) {s : Rat} (h : 0 < s) (z : Bool) : fx w s z = mkN w ((fmt w).rnd s) false := by
  unfold fx; rw [if_neg (by grind), if_neg (by grind)]
theorem fx_neg (w : Int) {s : Rat} (h : 0 < s) (z : Bool) : fx w (-s) z = mkN w ((fmt w).rnd s) true := by
  unfold fx; rw [if_neg (by grind), if_pos (by grind), Rat.neg_neg]
theorem fx_zero (w : Int) (z : Bool) : fx w 0 z = mkN w 0 z := by unfold fx; rw [if_pos rfl]
theorem fx_sg (w : Int) {s : Rat} (h : 0 < s) (n z : Bool) : fx w (if n then -s else s) z = mkN w ((fmt w).rnd s) n := by
  cases n
  · exact fx_pos w h z
  · exact fx_neg w h z
theorem align_eq {sa sb : Nat} {ea eb : Int} (hab : eb ≤ ea) (h0 : 0 < sa) {u d : Nat} (hu : (u : Int) = min (ea - eb) 64) (hd : (d : Int) = ea - eb - u) :
    (sa : Rat) * tw ea = ((sa * 2 ^ u : Nat) : Rat) * tw (ea - u) ∧ ((sb / 2 ^ d : Nat) : Rat) * tw (ea - u) ≤ (sb : Rat) * tw eb ∧ (sb : Rat) * tw eb < ((sb / 2 ^ d + 1 : Nat) : Rat) * tw (ea - u) ∧
    (sb % 2 ^ d = 0 → (sb : Rat) * tw eb = ((sb / 2 ^ d : Nat) : Rat) * tw (ea - u)) ∧ (sb % 2 ^ d ≠ 0 → ((sb / 2 ^ d : Nat) : Rat) * tw (ea - u) < (sb : Rat) * tw eb ∧ u = 64) := by
  have hp : 0 < 2 ^ d := Nat.pow_pos (by decide)
  have e1 : tw (ea - u) = ((2 ^ d : Nat) : Rat) * tw eb := by rw [tw_sub_nat (ea - u) eb (by omega)]; congr 3; omega
  have T := tw_pos eb
  have h1 := Nat.div_add_mod sb (2 ^ d)
  have h2 := Nat.mod_lt sb hp
  have e3 : ∀ x : Nat, (x : Rat) * tw (ea - u) = ((2 ^ d * x : Nat) : Rat) * tw eb := fun x => by rw [e1, Nat.mul_comm]; push_cast; grind
  refine ⟨?_, ?_, ?_, ?_, ?_⟩
  · rw [tw_sub_nat ea (ea - u) (by omega), show (ea - (ea - (u : Int))).toNat = u by omega]; push_cast; grind
  · rw [e3]; exact mul_le (nat_le.2 (by omega)) T
  · rw [e3]; exact mul_lt (nat_lt.2 (by rw [Nat.mul_add]; omega)) T
  · intro h; rw [e3]; congr 2; omega
  · intro h
    refine ⟨?_, ?_⟩
    · rw [e3]; exact mul_lt (nat_lt.2 (by omega)) T
    · rcases Nat.eq_zero_or_pos d with h3 | h3
      · subst h3; rw [Nat.pow_zero, Nat.mod_one] at h; exact absurd rfl h
      · omega
end Go.Proofs.Ytbpmnmceajmmcaa.Th
end
section
set_option linter.unusedVariables false
set_option linter.unusedSimpArgs false
namespace Go.Proofs.Ytbpmnmceajmmcaa.Th
open Go.RowKit Go.Proofs.YtbpmnmceajmmcaaW.PrintWords Go.Proofs.YtbpmnmceajmmcaaW.PrintLast Go.Proofs.YtbpmnmceajmmcaaW.PrintMore Go.Proofs.Ytbpmnmceajmmcaa.PA Dig

theorem one_dg : Ev (fun k => r1_Of.f k 1) (dg 1) := of_dg 1 (by decide)
theorem cmp_nonneg (m n : Nat) : cmpN m n ≥ 0 ↔ n ≤ m := by unfold cmpN; split <;> (try split) <;> omega
theorem div_loop (A n : Nat) (hn0 : 0 < n) (hA : bl A < 100000000) (hn : bl n < 100000000) (s : Nat) : ∀ (q m : Nat), s < 100000000 → q * n + m = A → m < n * 2 ^ s →
    Ev (fun k => r1_Div.l0 k ((s : Int) - 1) (dg n) (dg q) (dg m)) (dg (A / n), dg (A % n)) := by
  induction s with
  | zero =>
    intro q m _ he hm
    refine Ev.step (fun _ => r1_Div.l0.eq_2 ..) ?_
    refine Ev.neg (by omega) (Ev.out ?_)
    rw [Nat.pow_zero, Nat.mul_one] at hm
    have h1 : A / n = q := by rw [← he, Nat.mul_comm, Nat.mul_add_div hn0, Nat.div_eq_of_lt hm, Nat.add_zero]
    have h2 : A % n = m := by rw [← he, Nat.mul_comm, Nat.mul_add_mod, Nat.mod_eq_of_lt hm]
    rw [h1, h2]
  | succ s ih =>
    intro q m hs he hm
    have e1 : (((s + 1 : Nat) : Int) - 1) = ((s : Nat) : Int) := by omega
    rw [e1]
    have hm2 : m ≤ A := by omega
    have hq2 : q ≤ A := Nat.le_trans (Nat.le_mul_of_pos_right q hn0) (by omega)
    have b1 := bl_mono hm2
    have b2 := bl_mono hq2
    have b3 := bl_shl n s
    have hw : wrap64 ((s : Int) - 1) = (s : Int) - 1 := w64_id (by omega) (by omega)
    refine Ev.step (fun _ => r1_Div.l0.eq_2 ..) ?_
    rw [hw]
    refine Ev.pos (by omega) (Ev.bind (shl_bl n s (by omega) (by omega)) (Ev.bind (cmp_bl m (n * 2 ^ s) (by omega) (by omega)) ?_))
    by_cases h : n * 2 ^ s ≤ m
    · refine Ev.pos ((cmp_nonneg _ _).2 h) (Ev.bind (sub_bl m (n * 2 ^ s) h (by omega)) (Ev.bind one_dg (Ev.bind (shl_bl 1 s (by omega) (by decide)) ?_)))
      have h3 : 2 ^ s ≤ A := Nat.le_trans (Nat.le_mul_of_pos_left _ hn0) (Nat.le_trans h hm2)
      have b4 := bl_mono h3
      rw [Nat.one_mul]
      refine Ev.bind (add_bl q (2 ^ s) (by omega) (by omega)) (ih (q + 2 ^ s) (m - n * 2 ^ s) (by omega) ?_ ?_)
      · rw [Nat.add_mul, Nat.mul_comm (2 ^ s) n]; omega
      · rw [Nat.pow_succ, ← Nat.mul_assoc] at hm; omega
    · exact Ev.neg (fun h' => h ((cmp_nonneg _ _).1 h')) (ih q m (by omega) he (by omega))
theorem div_dg (a b : Nat) (hb : 0 < b) (ha1 : bl a < 100000000) (hb1 : bl b < 100000000) : Ev (fun k => r1_Div.f k (dg a) (dg b)) (dg (a / b), dg (a % b)) := by
  unfold r1_Div.f
  refine Ev.bind (len_dg a (by omega)) (Ev.bind (len_dg b (by omega)) ?_)
  rw [w64_id (by omega) (by omega)]
  by_cases h : bl b ≤ bl a
  · rw [show ((bl a : Nat) : Int) - ((bl b : Nat) : Int) = (((bl a - bl b + 1 : Nat) : Int) - 1) by omega, ← dg_zero]
    have h4 := bl_pos.2 hb
    refine div_loop a b hb ha1 hb1 (bl a - bl b + 1) 0 a (by omega) (by simp) ?_
    have h1 := lt_two_bl a
    have h2 := two_bl_le hb
    have h3 : 2 ^ (bl b - 1) * 2 ^ (bl a - bl b + 1) ≤ b * 2 ^ (bl a - bl b + 1) := Nat.mul_le_mul_right _ h2
    rw [← Nat.pow_add, show bl b - 1 + (bl a - bl b + 1) = bl a by omega] at h3
    omega
  · refine Ev.step (fun _ => r1_Div.l0.eq_2 ..) ?_
    have h1 : a < b := by
      rcases Nat.lt_or_ge a b with h1 | h1
      · exact h1
      · exact absurd (bl_mono h1) h
    refine Ev.neg (by omega) (Ev.out ?_)
    rw [Nat.div_eq_of_lt h1, Nat.mod_eq_of_lt h1, dg_zero]
theorem dg_len_pos (n : Nat) : decide (((dg n).length : Int) > 0) = decide (0 < n) := by
  have := len_pos (n := n)
  by_cases h : 0 < n
  · rw [decide_eq_true h, decide_eq_true (by omega)]
  · rw [decide_eq_false h, decide_eq_false (by omega)]
theorem half_dg (a n : Nat) (ha : bl a < 100000000) (hn : n < 90000000) : Ev (fun k => r1_Half.f k (dg a) n) (dg (a / 2 ^ n), decide (0 < a % 2 ^ n)) := by
  unfold r1_Half.f
  have h1 := bl_two n
  refine Ev.bind one_dg (Ev.bind (shl_bl 1 n (by omega) (by decide)) ?_)
  rw [Nat.one_mul]
  refine Ev.bind (div_dg a (2 ^ n) (Nat.pow_pos (by decide)) ha (by omega)) (Ev.out ?_)
  rw [dg_len_pos]
end Go.Proofs.Ytbpmnmceajmmcaa.Th
end
section
set_option linter.unusedVariables false
set_option linter.unusedSimpArgs false
namespace Go.Proofs.Ytbpmnmceajmmcaa.Th
open Go.RowKit Go.Proofs.YtbpmnmceajmmcaaW.PrintWords Go.Proofs.YtbpmnmceajmmcaaW.PrintLast Go.Proofs.YtbpmnmceajmmcaaW.PrintMore Go.Proofs.Ytbpmnmceajmmcaa.PA Bit Dig Flo
theorem r2Fw (w : Int) (hw : w = 32 ∨ w = 64) : r2_F.f w = some (((fmt w).f : Nat) : Int) := by rcases hw with rfl | rfl <;> decide +kernel
theorem r3Low (w : Int) (hw : w = 32 ∨ w = 64) : r3_Low.f w = some (fmt w).low := by rcases hw with rfl | rfl <;> decide +kernel
theorem r2Topw (w : Int) (hw : w = 32 ∨ w = 64) : Ev (fun k => r2_Top.f k w) (((fmt w).top : Nat) : Int) := by rcases hw with rfl | rfl; exact r2Top32; exact r2Top64
theorem r2Tfw (w : Int) (hw : w = 32 ∨ w = 64) : Ev (fun k => r2_Two.f k (((fmt w).f : Nat) : Int)) ((2 ^ (fmt w).f : Nat) : Int) := two_f _ (by have := (fmt_f w); omega)
theorem r2Infw (w : Int) (hw : w = 32 ∨ w = 64) (s : Bool) : Ev (fun k => r2_Inf.f k w s) ((mkN w (fmt w).inf s : Nat) : Int) := by rcases hw with rfl | rfl; exact r2Inf32 s; exact r2Inf64 s
theorem r2Nanw (w : Int) (hw : w = 32 ∨ w = 64) : Ev (fun k => r2_Nan.f k w) ((nanN w : Nat) : Int) := by rcases hw with rfl | rfl; exact r2Nan32; exact r2Nan64
theorem r2Makew (w : Int) (hw : w = 32 ∨ w = 64) (s : Bool) (e fr : Nat) (he : e ≤ (fmt w).top) (hf : fr < 2 ^ (fmt w).f) : Ev (fun k => r2_Make.f k w s e fr) ((mkN w (e * 2 ^ (fmt w).f + fr) s : Nat) : Int) := by
  rcases hw with rfl | rfl
  · exact r2Make32 s e fr he hf
  · exact r2Make64 s e fr he hf
theorem len_zero (n : Nat) : ((dg n).length : Int) = 0 ↔ n = 0 := by
  have := @len_pos n
  omega
theorem quotS (a b : Nat) (hb : 0 < b) (ha1 : bl a < 10000000) (hb1 : bl b < 10000000) : Ev (fun k => r3_Quotient.f k (dg a) (dg b)) (dg (rne a b)) := by
  unfold r3_Quotient.f
  have hm : bl (a % b) ≤ bl a := bl_mono (Nat.mod_le _ _)
  have hq : bl (a / b) ≤ bl a := bl_mono (Nat.div_le_self _ _)
  have hs := bl_shl (a % b) 1
  refine Ev.bind (div_dg a b hb (by omega) (by omega)) (Ev.bind (shl_bl (a % b) 1 (by decide) (by omega)) ?_)
  rw [show a % b * 2 ^ 1 = 2 * (a % b) by omega] at *
  refine Ev.bind (cmp_bl _ b (by omega) (by omega)) ?_
  have yes : Ev (fun k => r3_Quotient.j0 k true (dg (a / b))) (dg (a / b + 1)) :=
    Ev.step (fun _ => r3_Quotient.j0.eq_2 ..) (Ev.pos rfl (Ev.bind (of_dg 1 (by decide)) (Ev.bind (add_bl (a / b) 1 (by omega) (by decide)) (Ev.out rfl))))
  have no : Ev (fun k => r3_Quotient.j0 k false (dg (a / b))) (dg (a / b)) :=
    Ev.step (fun _ => r3_Quotient.j0.eq_2 ..) (Ev.neg (by decide) (Ev.out rfl))
  unfold cmpN rne
  by_cases h1 : b < 2 * (a % b)
  · rw [if_neg (show ¬ 2 * (a % b) < b by omega), if_pos h1, if_pos (.inl h1)]
    exact Ev.pos (by decide) yes
  · by_cases h2 : 2 * (a % b) = b
    · rw [if_neg (show ¬ 2 * (a % b) < b by omega), if_neg h1]
      refine Ev.neg (by decide) (Ev.pos rfl (Ev.bs (uint_dg _) ?_))
      have e : (Int.tmod ((a / b % 18446744073709551616 : Nat) : Int) 2 == 1) = decide (a / b % 2 = 1) := by
        rw [Int.tmod_eq_emod_of_nonneg (by omega), Bool.eq_iff_iff]; simp; omega
      rw [e]
      by_cases h3 : a / b % 2 = 1
      · rw [decide_eq_true h3, if_pos (.inr ⟨h2, h3⟩)]; exact yes
      · rw [decide_eq_false h3, if_neg (by omega)]; exact no
    · rw [if_pos (show 2 * (a % b) < b by omega), if_neg (by omega)]
      exact Ev.neg (by decide) (Ev.neg (by decide) no)
theorem underS (a b : Nat) (s : Int) (ha1 : bl a < 1000000) (hb1 : bl b < 1000000) (hs : -1000000 < s ∧ s < 1000000) : Ev (fun k => r3_under.f k (dg a) (dg b) s) (decide ((a : Rat) * tw s < (b : Rat))) := by
  unfold r3_under.f
  have hc : ∀ m n : Nat, decide (cmpN m n < 0) = decide (m < n) := fun m n => by
    unfold cmpN
    by_cases h : m < n
    · rw [if_pos h, decide_eq_true h]; rfl
    · rw [if_neg h, decide_eq_false h]; split <;> rfl
  by_cases h : s ≥ 0
  · obtain ⟨n, rfl⟩ := Int.eq_ofNat_of_zero_le h
    have h2 := bl_shl a n
    refine Ev.pos h (Ev.bind (shl_bl a n (by omega) (by omega)) (Ev.bind (cmp_bl _ b (by omega) (by omega)) (Ev.out ?_)))
    rw [hc]
    refine decide_eq_decide.2 ?_
    rw [tw_nat, ← nat_lt]; push_cast; rfl
  · obtain ⟨n, hn⟩ := Int.eq_ofNat_of_zero_le (show 0 ≤ -s by omega)
    have h2 := bl_shl b n
    obtain rfl : s = -(n : Int) := by omega
    refine Ev.neg h ?_
    rw [w64_id (by omega) (by omega), Int.neg_neg]
    refine Ev.bind (shl_bl b n (by omega) (by omega)) (Ev.bind (cmp_bl a _ (by omega) (by omega)) (Ev.out ?_))
    rw [hc]
    refine decide_eq_decide.2 ?_
    have T := tw_pos (n : Int)
    have e1 : tw (-(n : Int)) * tw n = 1 := by rw [← tw_add, Int.add_left_neg, tw_zero]
    have e2 : ((b * 2 ^ n : Nat) : Rat) = (b : Rat) * tw n := by rw [tw_nat]; push_cast; rfl
    rw [← nat_lt, e2]
    constructor
    · intro h3
      refine lt_of_mul (t := tw n) ?_ T
      rw [Rat.mul_assoc, e1, Rat.mul_one]; exact h3
    · intro h3
      have := mul_lt h3 T
      rwa [Rat.mul_assoc, e1, Rat.mul_one] at this
theorem grainS (a b : Nat) (s : Int) (hb : 0 < b) (ha1 : bl a < 1000000) (hb1 : bl b < 1000000) (hs : -1000000 < s ∧ s < 1000000) : ∃ A B : Nat, 0 < B ∧ (∀ x : Rat, x * (b : Rat) = (a : Rat) * tw s → x * (B : Rat) = (A : Rat)) ∧ Ev (fun k => r3_grain.f k (dg a) (dg b) s) (dg (rne A B)) := by
  unfold r3_grain.f
  by_cases h : s ≥ 0
  · obtain ⟨n, rfl⟩ := Int.eq_ofNat_of_zero_le h
    have h2 := bl_shl a n
    refine ⟨a * 2 ^ n, b, hb, fun x hx => ?_, Ev.pos h (Ev.bind (shl_bl a n (by omega) (by omega)) (Ev.bind (quotS _ b hb (by omega) (by omega)) (Ev.out rfl)))⟩
    rw [hx, tw_nat]; push_cast; rfl
  · obtain ⟨n, hn⟩ := Int.eq_ofNat_of_zero_le (show 0 ≤ -s by omega)
    have h2 := bl_shl b n
    obtain rfl : s = -(n : Int) := by omega
    refine ⟨a, b * 2 ^ n, Nat.mul_pos hb (Nat.pow_pos (by decide)), fun x hx => ?_, ?_⟩
    · have e1 : tw (-(n : Int)) * tw n = 1 := by rw [← tw_add, Int.add_left_neg, tw_zero]
      have e2 : ((b * 2 ^ n : Nat) : Rat) = (b : Rat) * tw n := by rw [tw_nat]; push_cast; rfl
      rw [e2, ← Rat.mul_assoc, hx, Rat.mul_assoc, e1, Rat.mul_one]
    · refine Ev.neg h ?_
      rw [w64_id (by omega) (by omega), Int.neg_neg]
      exact Ev.bind (shl_bl b n (by omega) (by omega)) (Ev.bind (quotS a _ (Nat.mul_pos hb (Nat.pow_pos (by decide))) (by omega) (by omega)) (Ev.out rfl))
theorem finS (w : Int) (hw : w = 32 ∨ w = 64) (s : Bool) (q n : Nat) (hn : n < 2 ^ (fmt w).f * 2) (hl : 0 < q → 2 ^ (fmt w).f ≤ n) (hq : q < 1000000) :
    Ev (fun k => r3_Near.j2 k w s (((fmt w).f : Nat) : Int) ((q : Int) + (fmt w).low) (dg n)) ((mkN w (if (fmt w).top < q + 2 then (fmt w).inf else if n < 2 ^ (fmt w).f then n else (q + 1) * 2 ^ (fmt w).f + (n - 2 ^ (fmt w).f)) s : Nat) : Int) := by
  have hb := fmt_bd w
  have hp : 2 ^ (fmt w).f ≤ 4503599627370496 := by
    rw [show (4503599627370496 : Nat) = 2 ^ 52 by decide]; exact Nat.pow_le_pow_right (by decide) (fmt_f w)
  have ht := (fmt w).ht
  refine Ev.step (fun _ => r3_Near.j2.eq_2 ..) (Ev.bs (r3Low w hw) (Ev.bind (r2Topw w hw) ?_))
  rw [w64_id (n := (fmt w).low + ((fmt w).top : Int)) (by omega) (by omega), w64_id (by omega) (by omega)]
  by_cases c1 : (fmt w).top < q + 2
  · rw [if_pos c1]
    exact Ev.pos (by omega) (Ev.bind (r2Infw w hw s) (Ev.out rfl))
  · rw [if_neg c1]
    refine Ev.neg (by omega) (Ev.bs (uint_dg n) (Ev.bind (r2Tfw w hw) ?_))
    rw [Nat.mod_eq_of_lt (by omega)]
    by_cases c2 : n < 2 ^ (fmt w).f
    · rw [if_pos c2]
      have := r2Makew w hw s 0 n (Nat.zero_le _) c2
      rw [Nat.zero_mul, Nat.zero_add] at this
      exact Ev.pos (by exact_mod_cast c2) (Ev.bind this (Ev.out rfl))
    · rw [if_neg c2]
      have := r2Makew w hw s (q + 1) (n - 2 ^ (fmt w).f) (by omega) (by omega)
      refine Ev.neg (by intro k; exact c2 (by exact_mod_cast k)) (Ev.bs (r3Low w hw) (Ev.bind (r2Tfw w hw) ?_))
      rw [show (q : Int) + (fmt w).low - (fmt w).low = q by omega, w64_id (n := (q : Int)) (by omega) (by omega), w64_id (by omega) (by omega), u64_id (by omega) (by omega), show (n : Int) - ((2 ^ (fmt w).f : Nat) : Int) = ((n - 2 ^ (fmt w).f : Nat) : Int) by omega]
      exact Ev.bind this (Ev.out rfl)
theorem nearS (w : Int) (hw : w = 32 ∨ w = 64) (s : Bool) (a b : Nat) (kk : Int) (ha : 0 < a) (hb : 0 < b) (ha1 : bl a < 100000) (hb1 : bl b < 100000) (hk : -10000 < kk ∧ kk < 10000) (x : Rat) (hx : x * (b : Rat) = (a : Rat) * tw kk) :
    Ev (fun k => r3_Near.f k w s (dg a) (dg b) kk) ((mkN w ((fmt w).rnd x) s : Nat) : Int) := by
  have bd := fmt_bd w
  have hff := fmt_f w
  have h3 : ∀ n : Nat, 0 < n → 2 ^ bl n ≤ 2 * n := fun n h => by
    have h1 := two_bl_le h
    have h0 := bl_pos.2 h
    have : 2 ^ bl n = 2 ^ (bl n - 1) * 2 := by rw [← Nat.pow_succ]; congr 1; omega
    omega
  have mx_ : ∀ a b : Int, mx a b = max a b := fun a b => by unfold mx; split <;> omega
  unfold r3_Near.f
  refine Ev.bs (r2Fw w hw) (Ev.bind (len_dg a (by omega)) (Ev.bind (len_dg b (by omega)) (Ev.bs (r3Low w hw) (Ev.bs (r3Low w hw) ?_))))
  rw [w64_id (n := ((bl a : Nat) : Int) - ((bl b : Nat) : Int)) (by omega) (by omega), w64_id (n := ((bl a : Nat) : Int) - ((bl b : Nat) : Int) + kk) (by omega) (by omega), w64_id (by omega) (by omega), mx_]
  obtain ⟨q0, hq0⟩ : ∃ q0, max ((bl a : Int) - bl b + kk - (fmt w).f) (fmt w).low = q0 := ⟨_, rfl⟩
  rw [hq0]
  have hqb : (fmt w).low ≤ q0 ∧ q0 < 200000 := by omega
  have hB' : (0 : Rat) < (b : Rat) := by exact_mod_cast hb
  -- the test
  have hunder : Ev (fun k => r3_under.f k (dg a) (dg b) (kk - q0 - (fmt w).f)) (decide (x < tw (q0 + (fmt w).f))) := by
    have := underS a b (kk - q0 - (fmt w).f) (by omega) (by omega) (by omega)
    have e : decide ((a : Rat) * tw (kk - q0 - (fmt w).f) < (b : Rat)) = decide (x < tw (q0 + (fmt w).f)) := by
      refine decide_eq_decide.2 ?_
      have T := tw_pos (q0 + (fmt w).f)
      have e1 : tw kk = tw (kk - q0 - (fmt w).f) * tw (q0 + (fmt w).f) := by rw [← tw_add]; congr 1; omega
      constructor
      · intro h
        have := mul_lt h T
        rw [Rat.mul_assoc, ← e1, ← hx] at this
        exact lt_of_mul (t := (b : Rat)) (by grind) hB'
      · intro h
        have := mul_lt h hB'
        rw [hx, e1, ← Rat.mul_assoc] at this
        exact lt_of_mul (t := tw (q0 + (fmt w).f)) (by grind) T
    rw [e] at this
    exact this
  obtain ⟨q1, hq1⟩ : ∃ q1, (if (fmt w).low < q0 ∧ x < tw (q0 + (fmt w).f) then q0 - 1 else q0) = q1 := ⟨_, rfl⟩
  obtain ⟨d1, d2, d3⟩ := Fmt.Rnd.doc (fmt w) (h3 a ha) (lt_two_bl a) hb (h3 b hb) (lt_two_bl b) hx hq0.symm hq1.symm
  obtain ⟨q, hq⟩ := Int.eq_ofNat_of_zero_le (show 0 ≤ q1 - (fmt w).low by omega)
  have hqq : q1 = (q : Int) + (fmt w).low := by omega
  have hqn : q < 100000000 := by
    have : q1 ≤ q0 := by rw [← hq1]; split <;> omega
    omega
  obtain ⟨A, B, hBp, hAB, hg⟩ := grainS a b (kk - q1) hb (by omega) (by omega) (by omega)
  have hxe : x * (B : Rat) = (A : Rat) * tw (q + (fmt w).low) := by
    have T := tw_pos (-q1)
    have e1 : tw (-q1) * tw q1 = 1 := by rw [← tw_add, Int.add_left_neg, tw_zero]
    have e2 : tw (kk - q1) = tw kk * tw (-q1) := by rw [← tw_add]; congr 1
    have := hAB (x * tw (-q1)) (by rw [e2, ← Rat.mul_assoc, ← hx]; grind)
    rw [← this, ← hqq]
    grind
  have hx2 : x < tw (q + (fmt w).low + (fmt w).f + 1) := by rw [← hqq]; exact d2
  have hl2 : 0 < q → tw (q + (fmt w).low + (fmt w).f) ≤ x := fun h => by rw [← hqq]; exact d3 (by omega)
  obtain ⟨n1, n2⟩ := (fmt w).make_bd hx2 hl2 (fun h => (fmt w).near_lo hBp hxe h) ((fmt w).near_hi hBp hxe)
  have R := Fmt.Rnd.near (fmt w) hBp hxe hx2 hl2
  rw [(fmt w).rnd_of R, ← (fmt w).fin_eq n1 n2]
  have p2 : 2 ^ ((fmt w).f + 1) = 2 ^ (fmt w).f * 2 := Nat.pow_succ ..
  have pp := (fmt w).pow_pos
  generalize hN : rne A B = n at *
  have ln : bl n ≤ (fmt w).f + 2 := bl_le.2 (by rw [Nat.pow_succ]; omega)
  have hqs : q < 1000000 := by
    have : q1 ≤ q0 := by rw [← hq1]; split <;> omega
    omega
  have tail : Ev (fun k => r3_Near.j1 k w s kk (((fmt w).f : Nat) : Int) q1 (dg a) (dg b)) ((mkN w ((fmt w).fin q n) s : Nat) : Int) := by
    refine Ev.step (fun _ => r3_Near.j1.eq_2 ..) ?_
    rw [w64_id (n := kk - q1) (by omega) (by omega), w64_id (n := (((fmt w).f : Nat) : Int) + 1) (by omega) (by omega)]
    refine Ev.bind hg (Ev.bind (len_dg n (by omega)) ?_)
    by_cases c : n = 2 ^ ((fmt w).f + 1)
    · have hbn : bl n = (fmt w).f + 2 := by rw [c, bl_two]
      have hh := half_dg n 1 (by omega) (by decide)
      have e5 : n / 2 ^ 1 = 2 ^ (fmt w).f := by rw [c, Nat.pow_succ, Nat.pow_one]; omega
      rw [e5] at hh
      refine Ev.pos (by omega) (Ev.bind hh ?_)
      rw [w64_id (by omega) (by omega)]
      have := finS w hw s (q + 1) (2 ^ (fmt w).f) (by omega) (fun _ => Nat.le_refl _) (by omega)
      rw [show (((q + 1 : Nat) : Int) + (fmt w).low) = q1 + 1 by omega] at this
      have e6 : (fmt w).fin q n = (if (fmt w).top < q + 1 + 2 then (fmt w).inf else if 2 ^ (fmt w).f < 2 ^ (fmt w).f then 2 ^ (fmt w).f else (q + 1 + 1) * 2 ^ (fmt w).f + (2 ^ (fmt w).f - 2 ^ (fmt w).f)) := by
        unfold Fmt.fin
        rw [if_pos c, if_neg (Nat.lt_irrefl _), Nat.sub_self]
        rfl
      rw [e6]; exact this
    · have hbn : bl n ≤ (fmt w).f + 1 := bl_le.2 (by omega)
      refine Ev.neg (by omega) ?_
      have := finS w hw s q n (by omega) n2 hqs
      rw [← hqq] at this
      have e6 : (fmt w).fin q n = (if (fmt w).top < q + 2 then (fmt w).inf else if n < 2 ^ (fmt w).f then n else (q + 1) * 2 ^ (fmt w).f + (n - 2 ^ (fmt w).f)) := by
        unfold Fmt.fin
        rw [if_neg c]
      rw [e6]; exact this
  by_cases c : (fmt w).low < q0
  · refine Ev.pos c ?_
    rw [w64_id (n := kk - q0) (by omega) (by omega), w64_id (n := kk - q0 - ((fmt w).f : Int)) (by omega) (by omega)]
    refine Ev.bind hunder (Ev.step (fun _ => r3_Near.j0.eq_2 ..) ?_)
    by_cases c2 : x < tw (q0 + (fmt w).f)
    · rw [decide_eq_true c2]
      rw [if_pos ⟨c, c2⟩] at hq1
      refine Ev.pos rfl ?_
      rw [w64_id (by omega) (by omega), hq1]; exact tail
    · rw [decide_eq_false c2]
      rw [if_neg (fun h => c2 h.2)] at hq1
      refine Ev.neg (by decide) ?_
      rw [hq1]; exact tail
  · rw [if_neg (fun h => c h.1)] at hq1
    refine Ev.neg c (Ev.step (fun _ => r3_Near.j0.eq_2 ..) (Ev.neg (by decide) ?_))
    rw [hq1]; exact tail
theorem zero_mul' (w : Int) (hw : w = 32 ∨ w = 64) (s : Bool) : Ev (fun k => r2_Make.f k w s 0 0) ((mkN w 0 s : Nat) : Int) := by
  have := r2Makew w hw s 0 0 (Nat.zero_le _) ((fmt w).pow_pos)
  rwa [Nat.zero_mul] at this
theorem exactS (w : Int) (hw : w = 32 ∨ w = 64) (s : Bool) (n : Nat) (e : Int) (hn : bl n < 2900) : Ev (fun k => r3_Exact.f k w s (dg n) e) ((mkN w ((fmt w).rnd ((n : Rat) * tw e)) s : Nat) : Int) := by
  have bd := fmt_bd w
  have hff := fmt_f w
  have ht := (fmt w).ht
  unfold r3_Exact.f
  have z := zero_mul' w hw s
  by_cases h0 : n = 0
  · subst h0
    rw [show ((0 : Nat) : Rat) * tw e = 0 by simp, Fmt.rnd_zero]
    exact Ev.pos ((len_zero 0).2 rfl) (Ev.step (fun _ => r3_Exact.j0.eq_2 ..) (Ev.pos rfl (Ev.bind z (Ev.out rfl))))
  · refine Ev.neg (fun k => h0 ((len_zero n).1 k)) (Ev.step (fun _ => r3_Exact.j0.eq_2 ..) ?_)
    have hlt := lt_two_bl n
    by_cases c1 : e < -4000
    · have : (fmt w).rnd ((n : Rat) * tw e) = 0 := by
        refine (fmt w).rnd_of (Fmt.Rnd.tiny _ ?_)
        have h4 := mul_lt (nat_lt.2 hlt) (tw_pos e)
        rw [← tw_nat, ← tw_add] at h4
        have h5 : tw ((bl n : Nat) + e) ≤ tw ((fmt w).low - 1) := tw_le (by
          have : -1100 ≤ (fmt w).low := by unfold fmt; split <;> decide
          omega)
        grind
      rw [this]
      exact Ev.pos (decide_eq_true c1) (Ev.bind z (Ev.out rfl))
    · refine Ev.neg (fun k => c1 (of_decide_eq_true k)) ?_
      by_cases c2 : e > 4000
      · have : (fmt w).rnd ((n : Rat) * tw e) = (fmt w).inf := by
          refine (fmt w).rnd_inf ?_
          rw [(fmt w).val_inf]
          have h2 : ((1 : Nat) : Rat) ≤ (n : Rat) := nat_le.2 (by omega)
          have h3 := mul_le h2 (tw_pos e)
          have h4 : tw ((fmt w).top - 1 + (fmt w).low + (fmt w).f) ≤ tw e := tw_le (by
            have : ((fmt w).top : Int) - 1 + (fmt w).low + (fmt w).f ≤ 1100 := by unfold fmt; split <;> decide
            omega)
          have h5 : ((1 : Nat) : Rat) * tw e = tw e := by simp
          rw [h5] at h3
          exact Rat.le_trans h4 h3
        rw [this]
        exact Ev.pos c2 (Ev.bind (r2Infw w hw s) (Ev.out rfl))
      · refine Ev.neg c2 (Ev.bind (of_dg 1 (by decide)) (Ev.bind (nearS w hw s n 1 e (by omega) (by decide) (by omega) (by decide) (by omega) _ ?_) (Ev.out rfl)))
        simp
end Go.Proofs.Ytbpmnmceajmmcaa.Th
end
section
set_option linter.unusedVariables false
set_option linter.unusedSimpArgs false
namespace Go.Proofs.Ytbpmnmceajmmcaa.Th
open Go.RowKit Go.Proofs.YtbpmnmceajmmcaaW.PrintWords Go.Proofs.YtbpmnmceajmmcaaW.PrintLast Go.Proofs.YtbpmnmceajmmcaaW.PrintMore Go.Proofs.Ytbpmnmceajmmcaa.PA Bit Flo
theorem packE (w : Int) (hw : w = 32 ∨ w = 64) (s : Bool) (h l : Nat) (hh : h < 18446744073709551616) (hl : l < 18446744073709551616) (e : Int) (m : Bool) : round_Pack.f w s h l e m = some ((mkN w (pkm (fmt w) (wn h l) e m) s : Nat) : Int) := by
  unfold round_Pack.f
  rw [if_pos (by omega), if_pos hw, Int.toNat_natCast, Int.toNat_natCast]
theorem packV (w : Int) (hw : w = 32 ∨ w = 64) (s : Bool) (V : Nat) (hV : V < 340282366920938463463374607431768211456) (e : Int) (m : Bool) : round_Pack.f w s ((V / 18446744073709551616 : Nat) : Int) ((V % 18446744073709551616 : Nat) : Int) e m = some ((mkN w (pkm (fmt w) V e m) s : Nat) : Int) := by
  rw [packE w hw s _ _ (hi64 hV) (lo64 V), wn_div]
theorem pack1 (w : Int) (hw : w = 32 ∨ w = 64) (s : Bool) (n : Nat) (hn : n < 18446744073709551616) (e : Int) : round_Pack.f w s 0 n e false = some ((mkN w ((fmt w).rnd ((n : Rat) * tw e)) s : Nat) : Int) := by
  have := packE w hw s 0 n (by decide) hn e false
  rw [show wn 0 n = n by unfold wn; omega, pk_ex w n e (by omega)] at this
  exact this
theorem shN (w : Int) (hw : w = 32 ∨ w = 64) : shape_Nan.f w = some ((nanN w : Nat) : Int) := by rcases hw with rfl | rfl; exact shNan32; exact shNan64
theorem pv0 {p : Pt} (h : p.2.1 ≠ 1) : pv p = 0 := by unfold pv; rw [if_neg h]
theorem pv1 (s : Bool) (e : Int) (g : Nat) : pv (s, 1, e, (g : Int)) = if s then -((g : Rat) * tw e) else (g : Rat) * tw e := by
  unfold pv; rw [if_pos rfl]; simp
theorem pos_tw {g : Nat} (h : 0 < g) (e : Int) : 0 < (g : Rat) * tw e := Rat.mul_pos (by exact_mod_cast h) (tw_pos e)
def PtOk (p : Pt) : Prop := (p.2.1 = 0 ∨ p.2.1 = 1 ∨ p.2.1 = 2 ∨ p.2.1 = 3) ∧ (p.2.1 = 1 → 0 < p.2.2.2) ∧ (p.2.1 ≠ 1 → p.2.2.2 = 0 ∧ p.2.2.1 = 0) ∧ 0 ≤ p.2.2.2 ∧ p.2.2.2 < 9007199254740992 ∧ -1100 ≤ p.2.2.1 ∧ p.2.2.1 ≤ 1000
theorem opn_ok (w : Int) (hw : w = 32 ∨ w = 64) (a : Nat) : PtOk (opn w a) := by
  rcases kinds w hw a with ⟨_, h⟩ | ⟨h1, h2, h⟩ | ⟨_, h⟩ | ⟨_, h⟩ <;> rw [h]
  · exact ⟨.inl rfl, fun h => absurd h (by simp), fun _ => ⟨rfl, rfl⟩, by simp, by simp, by simp, by simp⟩
  · have h3 := ex_bd w hw _ h2
    have h4 := sg_64 w hw (magN w a)
    refine ⟨.inr (.inl rfl), fun _ => ?_, fun h => absurd rfl h, by simp, by simp; omega, by simp; omega, by simp; omega⟩
    have : 0 < (fmt w).val (magN w a) := (fmt w).val_pos.2 h1
    unfold Fmt.val at this
    rcases Nat.eq_zero_or_pos ((fmt w).sg (magN w a)) with h5 | h5
    · rw [h5] at this; simp at this
    · simp; omega
  · exact ⟨.inr (.inr (.inl rfl)), fun h => absurd h (by simp), fun _ => ⟨rfl, rfl⟩, by simp, by simp, by simp, by simp⟩
  · exact ⟨.inr (.inr (.inr rfl)), fun h => absurd h (by simp), fun _ => ⟨rfl, rfl⟩, by simp, by simp, by simp, by simp⟩
end Go.Proofs.Ytbpmnmceajmmcaa.Th
end
section
set_option linter.unusedVariables false
set_option linter.unusedSimpArgs false
namespace Go.Proofs.Ytbpmnmceajmmcaa.Th
open Go.RowKit Go.Proofs.YtbpmnmceajmmcaaW.PrintWords Go.Proofs.YtbpmnmceajmmcaaW.PrintLast Go.Proofs.YtbpmnmceajmmcaaW.PrintMore Go.Proofs.Ytbpmnmceajmmcaa.PA Bit Dig Flo
noncomputable def narG (w : Int) (s : Bool) (kd e : Int) (g : Nat) : Nat := if kd = 0 then mkN w 0 s else if kd = 1 then mkN w ((fmt w).rnd ((g : Rat) * tw e)) s else if kd = 2 then mkN w (fmt w).inf s else if kd = 3 then nanN w else 0
theorem narrowG (w : Int) (hw : w = 32 ∨ w = 64) (s : Bool) (kd e : Int) (g : Nat) (hg : g < 18446744073709551616) : round_Narrow.f w s kd e g = some ((narG w s kd e g : Nat) : Int) := by
  unfold round_Narrow.f narG
  by_cases h0 : kd = 0
  · rw [if_pos h0, if_pos h0, shZ w hw, Option.bind_some]
  · rw [if_neg h0, if_neg h0]
    by_cases h1 : kd = 1
    · rw [if_pos h1, if_pos h1, ofW g, Option.bind_some]
      show (round_Pack.f w s 0 (g : Int) e false).bind _ = _
      rw [pack1 w hw s g hg e, Option.bind_some]
    · rw [if_neg h1, if_neg h1]
      by_cases h2 : kd = 2
      · rw [if_pos h2, if_pos h2, shI w hw, Option.bind_some]
      · rw [if_neg h2, if_neg h2]
        by_cases h3 : kd = 3
        · rw [if_pos h3, if_pos h3, shN w hw, Option.bind_some]
        · rw [if_neg h3, if_neg h3]; rfl
theorem of_no {w : Int} (hw : ¬ (w = 32 ∨ w = 64)) : shape_of.f w = some (0, 0, false) := by unfold shape_of.f; rw [if_neg (by omega), if_neg (by omega)]
theorem zero_no {w : Int} (hw : ¬ (w = 32 ∨ w = 64)) (s : Bool) : shape_Zero.f w s = some 0 := by unfold shape_Zero.f; rw [of_no hw]; rfl
theorem bl53 {g : Nat} (h : g < 9007199254740992) : bl g ≤ 53 := bl_le.2 h
def Can (w : Int) (r : Nat) : Prop := r = nanN w ∨ ∃ m s, m ≤ (fmt w).inf ∧ r = mkN w m s
theorem inf_sb (w : Int) (hw : w = 32 ∨ w = 64) : (fmt w).inf < sb w ∧ nanN w < sb w ∧ (fmt w).inf < nanN w ∧ nanN w = mkN w (nanN w) false := by
  rcases hw with rfl | rfl
  · rw [fmt32, inf32]; exact ⟨by decide, by decide, by decide, by decide⟩
  · rw [fmt64, inf64]; exact ⟨by decide, by decide, by decide, by decide⟩
theorem can_fx (w : Int) (s : Rat) (z : Bool) : Can w (fx w s z) := by
  unfold fx
  split
  · exact .inr ⟨_, _, Nat.zero_le _, rfl⟩
  · split <;> exact .inr ⟨_, _, (fmt w).rnd_le _, rfl⟩
theorem can_cut {w : Int} (hw : w = 32 ∨ w = 64) {r : Nat} (h : Can w r) : cutN w r = r ∧ r < 18446744073709551616 := by
  have hs := inf_sb w hw
  have h2 : 2 * sb w ≤ 18446744073709551616 := by unfold sb; split <;> decide
  rcases h with rfl | ⟨m, s, hm, rfl⟩
  · rw [hs.2.2.2, cut_mk w hw _ _ hs.2.1, ← hs.2.2.2]; exact ⟨rfl, by omega⟩
  · rw [cut_mk w hw _ _ (by omega)]
    refine ⟨rfl, ?_⟩
    unfold mkN; split <;> omega
theorem wAdd {A B : Nat} (h : A + B < 340282366920938463463374607431768211456) : wide_Add.f (wH A) (wL A) (wH B) (wL B) = some (wH (A + B), wL (A + B)) := by
  have := addW (A / 18446744073709551616) (A % 18446744073709551616) (B / 18446744073709551616) (B % 18446744073709551616) (hi64 (by omega)) (lo64 A) (hi64 (by omega)) (lo64 B)
  rw [wn_div, wn_div, Nat.mod_eq_of_lt h] at this
  exact this
theorem wSub {A B : Nat} (h : A < 340282366920938463463374607431768211456) (hb : B ≤ A) : wide_Sub.f (wH A) (wL A) (wH B) (wL B) = some (wH (A - B), wL (A - B)) := by
  have := subW (A / 18446744073709551616) (A % 18446744073709551616) (B / 18446744073709551616) (B % 18446744073709551616) (hi64 (by omega)) (lo64 A) (hi64 (by omega)) (lo64 B)
  rw [wn_div, wn_div, show (A + (340282366920938463463374607431768211456 - B)) % 340282366920938463463374607431768211456 = A - B by omega] at this
  exact this
theorem wCmp (A B : Nat) : wide_Cmp.f (wH A) (wL A) (wH B) (wL B) = some (cmpN A B) := by
  have := cmpW (A / 18446744073709551616) (A % 18446744073709551616) (B / 18446744073709551616) (B % 18446744073709551616) (lo64 A) (lo64 B)
  rwa [wn_div, wn_div] at this
theorem wPack (w : Int) (hw : w = 32 ∨ w = 64) (s : Bool) (V : Nat) (hV : V < 340282366920938463463374607431768211456) (e : Int) (m : Bool) : round_Pack.f w s (wH V) (wL V) e m = some ((mkN w (pkm (fmt w) V e m) s : Nat) : Int) := packV w hw s V hV e m
theorem alignE (s t : Bool) (k1 k2 : Int) {g g2 : Nat} {e e2 : Int} (hg : g < 9007199254740992) (hg2 : g2 < 9007199254740992) (h1 : -1100 ≤ e2) (h2 : e2 ≤ e) (h3 : e ≤ 1000) {u d : Nat} (hu : (u : Int) = min (e - e2) 64) (hd : (d : Int) = e - e2 - u) :
    sum_align.f s k1 e g t k2 e2 g2 = some (wH (g * 2 ^ u), wL (g * 2 ^ u), wH (g2 / 2 ^ d), wL (g2 / 2 ^ d), e - u, decide (g2 % 2 ^ d ≠ 0)) := by
  have hp : 2 ^ u ≤ 18446744073709551616 := by
    have := Nat.pow_le_pow_right (show 0 < 2 by decide) (show u ≤ 64 by omega)
    rwa [show (2 : Nat) ^ 64 = 18446744073709551616 by decide] at this
  have hm : g * 2 ^ u < 340282366920938463463374607431768211456 := by
    have := Nat.mul_le_mul (show g ≤ 9007199254740992 by omega) hp
    omega
  unfold sum_align.f
  rw [ofW g, Option.bind_some, w64_id (n := e - e2) (by omega) (by omega)]
  have hmn : mn (e - e2) 64 = (u : Int) := by unfold mn; rw [hu]; split <;> omega
  rw [hmn]
  have hl := wLeft (V := g) (by omega) u (by omega) hm
  have hr := wRight (V := g2) (by omega) d (by omega)
  rw [(wSmall (V := g) (by omega)).1, (wSmall (V := g) (by omega)).2] at hl
  rw [(wSmall (V := g2) (by omega)).1, (wSmall (V := g2) (by omega)).2] at hr
  simp only
  rw [hl, Option.bind_some, ofW g2, Option.bind_some, w64_id (n := e - e2 - u) (by omega) (by omega), ← hd]
  simp only
  rw [hr, Option.bind_some, w64_id (n := e - u) (by omega) (by omega)]
theorem natSub {a b : Nat} (h : b ≤ a) : ((a - b : Nat) : Rat) = (a : Rat) - b := by
  obtain ⟨c, rfl⟩ := Nat.le.dest h
  rw [Nat.add_sub_cancel_left, Rat.natCast_add]; grind
theorem subMul (a b c : Rat) : (a - b) * c = a * c - b * c := by grind
theorem finOrd (w : Int) (hw : w = 32 ∨ w = 64) (s t : Bool) (k1 k2 : Int) {g g2 : Nat} {e e2 : Int} (g0 : 0 < g) (g20 : 0 < g2) (hg : g < 9007199254740992) (hg2 : g2 < 9007199254740992) (h1 : -1100 ≤ e2) (h2 : e2 ≤ e) (h3 : e ≤ 1000) :
    Ev (fun k => sum_finite.j0 k w s k1 e g t k2 e2 g2) ((fx w (pv (s, 1, e, (g : Int)) + pv (t, 1, e2, (g2 : Int))) (s && t) : Nat) : Int) := by
  obtain ⟨u, hu⟩ : ∃ u : Nat, (u : Int) = min (e - e2) 64 := ⟨(min (e - e2) 64).toNat, by omega⟩
  obtain ⟨d, hd⟩ : ∃ d : Nat, (d : Int) = e - e2 - u := ⟨(e - e2 - u).toNat, by omega⟩
  have al := alignE s t k1 k2 hg hg2 h1 h2 h3 hu hd
  obtain ⟨f1, f2, f3, f4, f5⟩ := align_eq (sa := g) (sb := g2) h2 g0 hu hd
  have hp : 2 ^ u ≤ 18446744073709551616 := by
    have := Nat.pow_le_pow_right (show 0 < 2 by decide) (show u ≤ 64 by omega)
    rwa [show (2 : Nat) ^ 64 = 18446744073709551616 by decide] at this
  have hm : g * 2 ^ u < 170141183460469231731687303715884105728 := by
    have := Nat.mul_le_mul (show g ≤ 9007199254740992 by omega) hp
    omega
  have hb : g2 / 2 ^ d ≤ g2 := Nat.div_le_self _ _
  have hA : g2 % 2 ^ d ≠ 0 → 18446744073709551616 ≤ g * 2 ^ u := fun h => by
    have := (f5 h).2
    rw [this, show (2 : Nat) ^ 64 = 18446744073709551616 by decide]
    omega
  have pX := pos_tw g0 e
  have pY := pos_tw g20 e2
  rw [pv1, pv1]
  generalize (g : Rat) * tw e = X at *
  generalize (g2 : Rat) * tw e2 = Y at *
  generalize hAA : g * 2 ^ u = A at *
  generalize hBB : g2 / 2 ^ d = B at *
  generalize hEE : e - (u : Int) = E at *
  have T := tw_pos E
  obtain ⟨lost, hl⟩ : ∃ l : Bool, decide (g2 % 2 ^ d ≠ 0) = l := ⟨_, rfl⟩
  rw [hl] at al
  have c0 : lost = false → Y = (B : Rat) * tw E := fun h => f4 (by rw [h] at hl; simpa using hl)
  have c1 : lost = true → (B : Rat) * tw E < Y ∧ 18446744073709551616 ≤ A := fun h => by
    rw [h] at hl
    have : g2 % 2 ^ d ≠ 0 := by simpa using hl
    exact ⟨(f5 this).1, hA this⟩
  clear f4 f5 hA hl
  have cast1 : ∀ n : Nat, ((n + 1 : Nat) : Rat) = (n : Rat) + 1 := fun n => by push_cast; rfl
  refine Ev.step (fun _ => sum_finite.j0.eq_2 ..) (Ev.bs al ?_)
  simp only
  by_cases hst : s = t
  · subst hst
    refine Ev.pos (by simp) (Ev.bs (wAdd (by omega)) (Ev.bs (wPack w hw s _ (by omega) E lost) (Ev.out ?_)))
    have e1 : (if s then -X else X) + (if s then -Y else Y) = if s then -(X + Y) else X + Y := by cases s <;> simp <;> grind
    rw [e1, fx_sg w (by grind)]
    cases hlo : lost
    · rw [pk_ex w _ _ (by omega), f1, c0 hlo, Rat.natCast_add, Rat.add_mul]
    · rw [pk_mo w (x := X + Y) (by omega) (by have := (c1 hlo).2; omega)]
      · have := (c1 hlo).1
        rw [Rat.natCast_add, Rat.add_mul, f1]; grind
      · rw [cast1, Rat.natCast_add, f1]
        rw [cast1] at f3
        grind
  · refine Ev.neg (by simpa using hst) (Ev.bs (wCmp A B) ?_)
    have e1 : (if s then -X else X) + (if t then -Y else Y) = if s then -(X - Y) else X - Y := by revert hst; cases s <;> cases t <;> simp <;> grind
    have e2' : (if s then -X else X) + (if t then -Y else Y) = if t then -(Y - X) else Y - X := by revert hst; cases s <;> cases t <;> simp <;> grind
    have ez : (s && t) = false := by revert hst; cases s <;> cases t <;> simp
    rcases Nat.lt_trichotomy A B with hc | hc | hc
    · have hlo : lost = false := by
        cases hlo : lost
        · rfl
        · have := (c1 hlo).2; omega
      rw [show cmpN A B = -1 by unfold cmpN; rw [if_pos hc]]
      refine Ev.neg (by decide) (Ev.pos rfl (Ev.bs (wSub (by omega) (by omega)) (Ev.bs (wPack w hw t _ (by omega) E false) (Ev.out ?_))))
      have hlt : (A : Rat) * tw E < (B : Rat) * tw E := mul_lt (nat_lt.2 hc) T
      rw [e2', fx_sg w (by rw [f1, c0 hlo]; grind), pk_ex w _ _ (by omega), f1, c0 hlo]
      rw [show ((B - A : Nat) : Rat) = (B : Rat) - A by rw [natSub (by omega)], subMul]
    · have hlo : lost = false := by
        cases hlo : lost
        · rfl
        · have := (c1 hlo).2; omega
      rw [show cmpN A B = 0 by unfold cmpN; rw [if_neg (by omega), if_neg (by omega)]]
      refine Ev.pos rfl (Ev.bs (shZ w hw false) (Ev.out ?_))
      rw [e1, f1, c0 hlo, hc, show (B : Rat) * tw E - (B : Rat) * tw E = 0 by grind, ez]
      cases s <;> simp [fx_zero]
    · rw [show cmpN A B = 1 by unfold cmpN; rw [if_neg (by omega), if_pos hc]]
      refine Ev.neg (by decide) (Ev.neg (by decide) (Ev.bs (wSub (by omega) (by omega)) ?_))
      cases hlo : lost
      · refine Ev.neg (by decide) (Ev.bs (wPack w hw s _ (by omega) E false) (Ev.out ?_))
        have hlt : (B : Rat) * tw E < (A : Rat) * tw E := mul_lt (nat_lt.2 hc) T
        rw [e1, fx_sg w (by rw [f1, c0 hlo]; grind), pk_ex w _ _ (by omega), f1, c0 hlo]
        rw [show ((A - B : Nat) : Rat) = (A : Rat) - B by rw [natSub (by omega)], subMul]
      · have h64 := (c1 hlo).2
        have hlt := (c1 hlo).1
        have hle : ((B + 1 : Nat) : Rat) * tw E ≤ (A : Rat) * tw E := mul_le (nat_le.2 (by omega)) T
        have w1 : wide_Sub.f (wH (A - B)) (wL (A - B)) 0 1 = some (wH (A - B - 1), wL (A - B - 1)) := by
          have := wSub (A := A - B) (B := 1) (by omega) (by omega)
          rwa [(wSmall (V := 1) (by decide)).1, (wSmall (V := 1) (by decide)).2] at this
        refine Ev.pos rfl (Ev.bs (show wide_Of.f 1 = some (0, 1) from rfl) (Ev.bs w1 (Ev.bs (wPack w hw s _ (by omega) E true) (Ev.out ?_))))
        rw [e1, fx_sg w (by rw [f1]; grind)]
        rw [pk_mo w (x := X - Y) (by omega) (by omega)]
        · rw [f1]
          have : ((A - B - 1 : Nat) : Rat) = (A : Rat) - B - 1 := by rw [natSub (by omega), natSub (by omega)]; rfl
          rw [this]
          rw [cast1] at f3
          grind
        · rw [f1, show A - B - 1 + 1 = A - B by omega, natSub (by omega)]
          grind
theorem pvF (s : Bool) {kd e : Int} {g : Nat} (h : kd = 1 ∨ g = 0) : pv (s, kd, e, (g : Int)) = if s then -((g : Rat) * tw e) else (g : Rat) * tw e := by
  rcases h with rfl | rfl
  · exact pv1 s e g
  · unfold pv
    simp only
    split
    · simp
    · cases s <;> simp
theorem toLow {g : Nat} {e lo : Int} {u : Nat} (h : (u : Int) = e - lo) : (g : Rat) * tw e = ((g * 2 ^ u : Nat) : Rat) * tw lo := by
  rw [show e = (u : Int) + lo by omega, tw_add, tw_nat]
  push_cast
  grind
theorem fx_sgn (w : Int) (n : Nat) (e : Int) (s : Bool) : fx w (if s then -((n : Rat) * tw e) else (n : Rat) * tw e) s = mkN w ((fmt w).rnd ((n : Rat) * tw e)) s := by
  rcases Nat.eq_zero_or_pos n with h | h
  · subst h
    rw [show ((0 : Nat) : Rat) * tw e = 0 by simp, Fmt.rnd_zero]
    cases s <;> simp [fx_zero, Rat.neg_zero]
  · exact fx_sg w (pos_tw h e) s s
theorem exactR (w : Int) (hw : w = 32 ∨ w = 64) (p q : Pt) (hp : PtOk p) (hq : PtOk q) : Ev (fun k => r4_exact.f k w p.1 p.2.1 p.2.2.1 p.2.2.2 q.1 q.2.1 q.2.2.1 q.2.2.2) ((fx w (pv p + pv q) (p.1 && q.1) : Nat) : Int) := by
  obtain ⟨s, kd, e, g⟩ := p
  obtain ⟨t, kd2, e2, g2⟩ := q
  obtain ⟨h1, h2, h0, h3, h4, h5, h6⟩ := hp
  obtain ⟨k1, k2, k0, k3, k4, k5, k6⟩ := hq
  simp only at h1 h2 h0 h3 h4 h5 h6 k1 k2 k0 k3 k4 k5 k6
  obtain ⟨g, rfl⟩ := Int.eq_ofNat_of_zero_le h3
  obtain ⟨g2, rfl⟩ := Int.eq_ofNat_of_zero_le k3
  simp only
  have f1 : kd = 1 ∨ g = 0 := by
    by_cases h : kd = 1
    · exact .inl h
    · have := (h0 h).1; exact .inr (by omega)
  have f2 : kd2 = 1 ∨ g2 = 0 := by
    by_cases h : kd2 = 1
    · exact .inl h
    · have := (k0 h).1; exact .inr (by omega)
  obtain ⟨lo, hlo⟩ : ∃ lo, mn e e2 = lo := ⟨_, rfl⟩
  have hl : lo ≤ e ∧ lo ≤ e2 ∧ (lo = e ∨ lo = e2) := by unfold mn at hlo; split at hlo <;> omega
  obtain ⟨u, hu⟩ := Int.eq_ofNat_of_zero_le (show 0 ≤ e - lo by omega)
  obtain ⟨v, hv⟩ := Int.eq_ofNat_of_zero_le (show 0 ≤ e2 - lo by omega)
  rw [pvF s f1, pvF t f2, toLow (g := g) hu.symm, toLow (g := g2) hv.symm]
  have b1 := bl53 (show g < 9007199254740992 by omega)
  have b2 := bl53 (show g2 < 9007199254740992 by omega)
  have b3 := bl_shl g u
  have b4 := bl_shl g2 v
  unfold r4_exact.f
  rw [hlo, w64_id (n := e - lo) (by omega) (by omega), w64_id (n := e2 - lo) (by omega) (by omega), hu, hv]
  refine Ev.bind (of_dg g (by omega)) (Ev.bind (shl_bl g u (by omega) (by omega)) (Ev.bind (of_dg g2 (by omega)) (Ev.bind (shl_bl g2 v (by omega) (by omega)) ?_)))
  generalize g * 2 ^ u = X at *
  generalize g2 * 2 ^ v = Y at *
  have b5 := bl_add X Y
  by_cases c1 : s = t
  · subst c1
    refine Ev.pos (by simp) (Ev.bind (add_bl X Y (by omega) (by omega)) (Ev.bind (exactS w hw s (X + Y) lo (by omega)) (Ev.out ?_)))
    rw [Bool.and_self, ← fx_sgn]
    congr 2
    push_cast
    cases s <;> simp <;> grind
  · refine Ev.neg (by simpa using c1) (Ev.bind (cmp_bl X Y (by omega) (by omega)) ?_)
    have hst : (s && t) = false := by cases s <;> cases t <;> simp at c1 ⊢
    rw [hst]
    unfold cmpN
    rcases Nat.lt_trichotomy X Y with c2 | c2 | c2
    · rw [if_pos c2]
      have b6 : bl (Y - X) ≤ bl Y := bl_mono (Nat.sub_le _ _)
      refine Ev.neg (by decide) (Ev.pos (by decide) (Ev.bind (sub_bl Y X (by omega) (by omega)) (Ev.bind (exactS w hw t (Y - X) lo (by omega)) (Ev.out ?_))))
      have P := pos_tw (show 0 < Y - X by omega) lo
      rw [← fx_sg w P t false]
      congr 2
      have e1 : ((Y - X : Nat) : Rat) = (Y : Rat) - (X : Rat) := by
        have : ((Y - X : Nat) : Rat) + (X : Rat) = (Y : Rat) := by exact_mod_cast congrArg (Nat.cast (R := Rat)) (show Y - X + X = Y by omega)
        grind
      rw [e1]
      cases s <;> cases t <;> simp at c1 ⊢ <;> grind
    · subst c2
      rw [if_neg (Nat.lt_irrefl _), if_neg (Nat.lt_irrefl _)]
      refine Ev.pos rfl (Ev.out ?_)
      rw [show (if s = true then -((X : Rat) * tw lo) else (X : Rat) * tw lo) + (if t = true then -((X : Rat) * tw lo) else (X : Rat) * tw lo) = 0 by cases s <;> cases t <;> simp at c1 ⊢ <;> grind, fx_zero]
      simp [mkN]
    · rw [if_neg (by omega), if_pos c2]
      have b6 : bl (X - Y) ≤ bl X := bl_mono (Nat.sub_le _ _)
      refine Ev.neg (by decide) (Ev.neg (by decide) (Ev.bind (sub_bl X Y (by omega) (by omega)) (Ev.bind (exactS w hw s (X - Y) lo (by omega)) (Ev.out ?_))))
      have P := pos_tw (show 0 < X - Y by omega) lo
      rw [← fx_sg w P s false]
      congr 2
      have e1 : ((X - Y : Nat) : Rat) = (X : Rat) - (Y : Rat) := by
        have : ((X - Y : Nat) : Rat) + (Y : Rat) = (X : Rat) := by exact_mod_cast congrArg (Nat.cast (R := Rat)) (show X - Y + Y = X by omega)
        grind
      rw [e1]
      cases s <;> cases t <;> simp at c1 ⊢ <;> grind
theorem partsR (w : Int) (hw : w = 32 ∨ w = 64) (p q : Pt) (hp : PtOk p) (hq : PtOk q) : Ev (fun k => r4_parts.f k w p.1 p.2.1 p.2.2.1 p.2.2.2 q.1 q.2.1 q.2.2.1 q.2.2.2) ((addP w p q : Nat) : Int) := by
  have ex := exactR w hw p q hp hq
  obtain ⟨s, kd, e, g⟩ := p
  obtain ⟨t, kd2, e2, g2⟩ := q
  simp only at ex ⊢
  unfold r4_parts.f
  by_cases n1 : kd = 3
  · subst n1
    refine Ev.pos rfl (Ev.step (fun _ => r4_parts.j0.eq_2 ..) (Ev.pos rfl (Ev.bind (r2Nanw w hw) (Ev.out ?_))))
    simp [addP]
  refine Ev.neg n1 ?_
  by_cases n2 : kd2 = 3
  · subst n2
    refine Ev.pos rfl (Ev.step (fun _ => r4_parts.j0.eq_2 ..) (Ev.pos rfl (Ev.bind (r2Nanw w hw) (Ev.out ?_))))
    simp [addP]
  refine Ev.neg n2 ?_
  by_cases i1 : kd = 2
  · subst i1
    refine Ev.pos rfl ?_
    by_cases i2 : kd2 = 2
    · subst i2
      refine Ev.pos rfl (Ev.step (fun _ => r4_parts.j0.eq_2 ..) ?_)
      by_cases c : s = t
      · subst c
        exact Ev.neg (by simp) (Ev.pos rfl (Ev.bind (r2Infw w hw s) (Ev.out (by simp [addP]))))
      · exact Ev.pos (by simpa using c) (Ev.bind (r2Nanw w hw) (Ev.out (by simp [addP, c])))
    · exact Ev.neg i2 (Ev.step (fun _ => r4_parts.j0.eq_2 ..) (Ev.neg (by decide) (Ev.pos rfl (Ev.bind (r2Infw w hw s) (Ev.out (by simp [addP, n2, i2]))))))
  · refine Ev.neg i1 (Ev.step (fun _ => r4_parts.j0.eq_2 ..) (Ev.neg (by decide) (Ev.neg i1 ?_)))
    by_cases i2 : kd2 = 2
    · subst i2
      exact Ev.pos rfl (Ev.bind (r2Infw w hw t) (Ev.out (by simp [addP, n1, i1])))
    · refine Ev.neg i2 (Ev.bind ex (Ev.out ?_))
      simp [addP, n1, n2, i1, i2]
theorem addR (w : Int) (hw : w = 32 ∨ w = 64) (a b : Nat) (ha : a < 18446744073709551616) (hb : b < 18446744073709551616) : Ev (fun k => r4_Add.f k w a b) ((addP w (opn w a) (opn w b) : Nat) : Int) := by
  unfold r4_Add.f
  exact Ev.bind (r2Open w hw a ha) (Ev.bind (r2Open w hw b hb) (Ev.bind (partsR w hw _ _ (opn_ok w hw a) (opn_ok w hw b)) (Ev.out rfl)))
end Go.Proofs.Ytbpmnmceajmmcaa.Th
end
