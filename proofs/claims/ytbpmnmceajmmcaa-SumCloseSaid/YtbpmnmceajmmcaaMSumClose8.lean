/- What the Go functions that the statement SumClose reaches compute, and the mathematics on it, in the order in which one leans on the other; for every input. -/
import Derived.Test.YtbpmnmceajmmcaaVSumClose0
import Derived.Test.YtbpmnmceajmmcaaMSumClose0
import Derived.Test.YtbpmnmceajmmcaaMSumClose6
import Derived.Test.YtbpmnmceajmmcaaMSumClose2
import Derived.Test.YtbpmnmceajmmcaaMSumClose1
import Derived.Test.YtbpmnmceajmmcaaMSumClose7
import Derived.Test.YtbpmnmceajmmcaaMSumClose3
namespace Go.Proofs.Ytbpmnmceajmmcaa.PA
open Go.RowKit Go.Proofs.YtbpmnmceajmmcaaW.PrintWords Go.Proofs.YtbpmnmceajmmcaaW.PrintLast Go.Proofs.YtbpmnmceajmmcaaW.PrintMore
attribute [local go_sem] max2_int min2_int max_two min_two max_three min_three max_four min_four   -- for this text's walks alone
set_option linter.unusedVariables false
set_option linter.unusedSimpArgs false
set_option maxHeartbeats 8000000
set_option maxRecDepth 100000
mutual
def sum_parts.j0 : Nat → Int → Bool → Bool → Int → Int → Int → Bool → Int → Int → Int → Option (Int)
 | 0, _, _, _, _, _, _, _, _, _, _ => none
 | k + 1, x0, x7, x294000, x294001, x294002, x294003, x295000, x295001, x295002, x295003 => if x7 = true then ((shape_Nan.f x0).bind fun t295 => (some t295)) else (if x294001 = 2 then (sum_parts.j1 k x0 true x294000 x294001 x294002 x294003 x295000 x295001 x295002 x295003) else (sum_parts.j1 k x0 (x295001 == 2) x294000 x294001 x294002 x294003 x295000 x295001 x295002 x295003))
def sum_parts.j1 : Nat → Int → Bool → Bool → Int → Int → Int → Bool → Int → Int → Int → Option (Int)
 | 0, _, _, _, _, _, _, _, _, _, _ => none
 | k + 1, x0, x18, x294000, x294001, x294002, x294003, x295000, x295001, x295002, x295003 => if x18 = true then ((sum_infinite.f k x0 x294000 x294001 x294002 x294003 x295000 x295001 x295002 x295003).bind fun t296 => (some t296)) else (if x294001 = 0 then (sum_parts.j2 k x0 (x295001 == 0) x294000 x294001 x294002 x294003 x295000 x295001 x295002 x295003) else (sum_parts.j2 k x0 false x294000 x294001 x294002 x294003 x295000 x295001 x295002 x295003))
def sum_parts.j2 : Nat → Int → Bool → Bool → Int → Int → Int → Bool → Int → Int → Int → Option (Int)
 | 0, _, _, _, _, _, _, _, _, _, _ => none
 | k + 1, x0, x31, x294000, x294001, x294002, x294003, x295000, x295001, x295002, x295003 => if x31 = true then (if x294000 = true then ((shape_Zero.f x0 x295000).bind fun t297 => (some t297)) else ((shape_Zero.f x0 false).bind fun t298 => (some t298))) else (if x294001 = 0 then ((round_Narrow.f x0 x295000 x295001 x295002 x295003).bind fun t299 => (some t299)) else (if x295001 = 0 then ((round_Narrow.f x0 x294000 x294001 x294002 x294003).bind fun t300 => (some t300)) else ((sum_finite.f k x0 x294000 x294001 x294002 x294003 x295000 x295001 x295002 x295003).bind fun t301 => (some t301))))
end
def sum_parts.f (k : Nat) (a0 : Int) (a1_0 : Bool) (a1_1 : Int) (a1_2 : Int) (a1_3 : Int) (a2_0 : Bool) (a2_1 : Int) (a2_2 : Int) (a2_3 : Int) : Option (Int) := if a1_1 = 3 then (sum_parts.j0 k a0 true a1_0 a1_1 a1_2 a1_3 a2_0 a2_1 a2_2 a2_3) else (sum_parts.j0 k a0 (a2_1 == 3) a1_0 a1_1 a1_2 a1_3 a2_0 a2_1 a2_2 a2_3)
theorem sum_parts.mono_l : ∀ k, (∀ y0 y1 y2 y3 y4 y5 y6 y7 y8 y9, LeO (sum_parts.j0 k y0 y1 y2 y3 y4 y5 y6 y7 y8 y9) (sum_parts.j0 (k + 1) y0 y1 y2 y3 y4 y5 y6 y7 y8 y9)) ∧ (∀ y0 y1 y2 y3 y4 y5 y6 y7 y8 y9, LeO (sum_parts.j1 k y0 y1 y2 y3 y4 y5 y6 y7 y8 y9) (sum_parts.j1 (k + 1) y0 y1 y2 y3 y4 y5 y6 y7 y8 y9)) ∧ (∀ y0 y1 y2 y3 y4 y5 y6 y7 y8 y9, LeO (sum_parts.j2 k y0 y1 y2 y3 y4 y5 y6 y7 y8 y9) (sum_parts.j2 (k + 1) y0 y1 y2 y3 y4 y5 y6 y7 y8 y9))
 | 0 => ⟨fun _ _ _ _ _ _ _ _ _ _ r h => by simp [sum_parts.j0] at h, fun _ _ _ _ _ _ _ _ _ _ r h => by simp [sum_parts.j1] at h, fun _ _ _ _ _ _ _ _ _ _ r h => by simp [sum_parts.j2] at h⟩
 | k + 1 => by
  obtain ⟨ih0, ih1, ih2⟩ := sum_parts.mono_l k
  refine ⟨?_, ?_, ?_⟩
  ·intro y0 y1 y2 y3 y4 y5 y6 y7 y8 y9
   unfold sum_parts.j0
   repeat' first
   | (with_reducible exact ih0 _ _ _ _ _ _ _ _ _ _)
   | (with_reducible exact ih1 _ _ _ _ _ _ _ _ _ _)
   | (with_reducible exact ih2 _ _ _ _ _ _ _ _ _ _)
   | (with_reducible exact sum_finite.mono _ _ _ _ _ _ _ _ _ _)
   | (with_reducible exact sum_infinite.mono _ _ _ _ _ _ _ _ _ _)
   | (with_reducible exact LeO.refl _)
   | (with_reducible exact LeO.none _)
   | (with_reducible refine LeO.ite ?_ ?_)
   | (with_reducible refine LeO.bind ?_ (fun _ => ?_))
   | exact ih0 _ _ _ _ _ _ _ _ _ _
   | exact ih1 _ _ _ _ _ _ _ _ _ _
   | exact ih2 _ _ _ _ _ _ _ _ _ _
   | exact sum_finite.mono _ _ _ _ _ _ _ _ _ _
   | exact sum_infinite.mono _ _ _ _ _ _ _ _ _ _
   | exact LeO.none _
   | refine LeO.ite ?_ ?_
   | refine LeO.bind ?_ (fun _ => ?_)
  ·intro y0 y1 y2 y3 y4 y5 y6 y7 y8 y9
   unfold sum_parts.j1
   repeat' first
   | (with_reducible exact ih0 _ _ _ _ _ _ _ _ _ _)
   | (with_reducible exact ih1 _ _ _ _ _ _ _ _ _ _)
   | (with_reducible exact ih2 _ _ _ _ _ _ _ _ _ _)
   | (with_reducible exact sum_finite.mono _ _ _ _ _ _ _ _ _ _)
   | (with_reducible exact sum_infinite.mono _ _ _ _ _ _ _ _ _ _)
   | (with_reducible exact LeO.refl _)
   | (with_reducible exact LeO.none _)
   | (with_reducible refine LeO.ite ?_ ?_)
   | (with_reducible refine LeO.bind ?_ (fun _ => ?_))
   | exact ih0 _ _ _ _ _ _ _ _ _ _
   | exact ih1 _ _ _ _ _ _ _ _ _ _
   | exact ih2 _ _ _ _ _ _ _ _ _ _
   | exact sum_finite.mono _ _ _ _ _ _ _ _ _ _
   | exact sum_infinite.mono _ _ _ _ _ _ _ _ _ _
   | exact LeO.none _
   | refine LeO.ite ?_ ?_
   | refine LeO.bind ?_ (fun _ => ?_)
  ·intro y0 y1 y2 y3 y4 y5 y6 y7 y8 y9
   unfold sum_parts.j2
   repeat' first
   | (with_reducible exact ih0 _ _ _ _ _ _ _ _ _ _)
   | (with_reducible exact ih1 _ _ _ _ _ _ _ _ _ _)
   | (with_reducible exact ih2 _ _ _ _ _ _ _ _ _ _)
   | (with_reducible exact sum_finite.mono _ _ _ _ _ _ _ _ _ _)
   | (with_reducible exact sum_infinite.mono _ _ _ _ _ _ _ _ _ _)
   | (with_reducible exact LeO.refl _)
   | (with_reducible exact LeO.none _)
   | (with_reducible refine LeO.ite ?_ ?_)
   | (with_reducible refine LeO.bind ?_ (fun _ => ?_))
   | exact ih0 _ _ _ _ _ _ _ _ _ _
   | exact ih1 _ _ _ _ _ _ _ _ _ _
   | exact ih2 _ _ _ _ _ _ _ _ _ _
   | exact sum_finite.mono _ _ _ _ _ _ _ _ _ _
   | exact sum_infinite.mono _ _ _ _ _ _ _ _ _ _
   | exact LeO.none _
   | refine LeO.ite ?_ ?_
   | refine LeO.bind ?_ (fun _ => ?_)
theorem sum_parts.mono : ∀ a0 a1 a2 a3 a4 a5 a6 a7 a8 k, LeO (sum_parts.f k a0 a1 a2 a3 a4 a5 a6 a7 a8) (sum_parts.f (k + 1) a0 a1 a2 a3 a4 a5 a6 a7 a8) := by
 intro a0 a1 a2 a3 a4 a5 a6 a7 a8 k
 obtain ⟨ih0, ih1, ih2⟩ := sum_parts.mono_l k
 unfold sum_parts.f
 repeat' first
   | (with_reducible exact ih0 _ _ _ _ _ _ _ _ _ _)
   | (with_reducible exact ih1 _ _ _ _ _ _ _ _ _ _)
   | (with_reducible exact ih2 _ _ _ _ _ _ _ _ _ _)
   | (with_reducible exact sum_finite.mono _ _ _ _ _ _ _ _ _ _)
   | (with_reducible exact sum_infinite.mono _ _ _ _ _ _ _ _ _ _)
   | (with_reducible exact LeO.refl _)
   | (with_reducible exact LeO.none _)
   | (with_reducible refine LeO.ite ?_ ?_)
   | (with_reducible refine LeO.bind ?_ (fun _ => ?_))
   | exact ih0 _ _ _ _ _ _ _ _ _ _
   | exact ih1 _ _ _ _ _ _ _ _ _ _
   | exact ih2 _ _ _ _ _ _ _ _ _ _
   | exact sum_finite.mono _ _ _ _ _ _ _ _ _ _
   | exact sum_infinite.mono _ _ _ _ _ _ _ _ _ _
   | exact LeO.none _
   | refine LeO.ite ?_ ?_
   | refine LeO.bind ?_ (fun _ => ?_)
theorem sum_parts.calls (k : Nat) (a0 : Int) (a1_0 : Bool) (a1_1 : Int) (a1_2 : Int) (a1_3 : Int) (a2_0 : Bool) (a2_1 : Int) (a2_2 : Int) (a2_3 : Int) (r : Int) (w : World) (h : sum_parts.f k a0 a1_0 a1_1 a1_2 a1_3 a2_0 a2_1 a2_2 a2_3 = some r) :
  Calls Try.prog 56 #[.int .i64 a0, .agg #[.bool a1_0, .int .i64 a1_1, .int .i64 a1_2, .int .u64 a1_3], .agg #[.bool a2_0, .int .i64 a2_1, .int .i64 a2_2, .int .u64 a2_3]] w fun e w' => e = .returned (.int .u64 r) ∧ Below w.heap.size w w' := by
 have hu38 := Try.underlying38
 have HB := A_ (Below.refl w.heap.size w)
 have H : (if a1_1 = 3 then (sum_parts.j0 k a0 true a1_0 a1_1 a1_2 a1_3 a2_0 a2_1 a2_2 a2_3) else (sum_parts.j0 k a0 (a2_1 == 3) a1_0 a1_1 a1_2 a1_3 a2_0 a2_1 a2_2 a2_3)) = some r := h
 clear h;have HC4 := A_ H;clear H
 go_enter Try.func56, Try.ntmps56
 go_upto_region 1 with (first | ((with_reducible refine gate_dst (N := 4) rfl ?_); refine be_ 4 #[.bool a1_0, .int .i64 a1_1, .int .i64 a1_2, .int .u64 a1_3] 38 ?_; intro gb293 hg w5 hbox hb; have BK293 := A_ (hbox); have GW293 := A_ (sz_ hg (hb_ HB.out)); have GE293 := A_ (sz_ hg (hb_ HB.out)); replace HB := A_ (below_step (hb_ HB.out) hb); clear hb hbox hg) | ((with_reducible refine gate_dst (N := 5) rfl ?_); refine be_ 5 #[.bool a2_0, .int .i64 a2_1, .int .i64 a2_2, .int .u64 a2_3] 38 ?_; intro gb294 hg w6 hbox hb; have BK294 := A_ (hbox); have GW294 := A_ (sz_ hg (hb1_ HB.out GE293.out)); have GE294 := A_ (sz_ hg (hb1_ HB.out GE293.out)); have NB293_294 := A_ (nl_ hg BK293.out); have NB294_293 := A_ (ng_ hg BK293.out); replace BK293 := A_ (bb_ BK293.out hb); replace HB := A_ (below_step (hb1_ HB.out GE293.out) hb); clear hb hbox hg))
 (try simp only [Act.put, lI_, l0_, lS_])
 go_cut [7] (fun v7 wc => ∃ (kq : Nat) (x7_3 : Bool), v7 = .bool x7_3 ∧ Aside0 (sum_parts.j0 kq a0 x7_3 a1_0 a1_1 a1_2 a1_3 a2_0 a2_1 a2_2 a2_3 = some r) ∧ Aside0 (kq ≤ k) ∧ Aside0 (wc.heap[gb293]? = some (.cells #[.bool a1_0, .int .i64 a1_1, .int .i64 a1_2, .int .u64 a1_3] 38 (0, 0))) ∧ Aside0 (wc.heap[gb294]? = some (.cells #[.bool a2_0, .int .i64 a2_1, .int .i64 a2_2, .int .u64 a2_3] 38 (0, 0))) ∧ Aside0 (Below w.heap.size w wc))
 case first =>
  have H := HC4.out
  clear HC4
  by_cases c7 : a1_1 = 3
  ·rw [if_pos c7] at H
   have c7b0 : (a1_1 == 3) = true := beq_iff_eq.mpr c7
   have c7b1 : (a1_1 != 3) = false := bne_eq_false_iff_eq.mpr c7
   clear c7
   (first | rw [c7b0] | (simp only [i64_w, i32_w]; rw [c7b0]) | skip)
   have H' := A_ H
   clear H
   have hnb8 := NB293_294.out
   have hnc8 := NB294_293.out
   have hcz9_0 := bv_ BK293.out 0
   have hcz9_1 := bv_ BK293.out 1
   have hcz9_2 := bv_ BK293.out 2
   have hcz9_3 := bv_ BK293.out 3
   have hfz9_0 := blk_frozen BK293.out 0
   have hfz9_1 := blk_frozen BK293.out 1
   have hfz9_2 := blk_frozen BK293.out 2
   have hfz9_3 := blk_frozen BK293.out 3
   go_wp2
   go_meet
   case rel => exact ⟨_, (true), sm_, H', ⟨by first | omega | exact Nat.le_refl _⟩, ⟨bk_ BK293.out⟩, ⟨bk_ BK294.out⟩, ⟨hb2_ HB.out GE293.out GE294.out⟩⟩
  ·rw [if_neg c7] at H
   have c7b0 : (a1_1 == 3) = false := beq_eq_false_iff_ne.mpr c7
   have c7b1 : (a1_1 != 3) = true := bne_iff_ne.mpr c7
   (first | rw [c7b0] | (simp only [i64_w, i32_w]; rw [c7b0]) | skip)
   have H' := A_ H
   clear H
   have hnb10 := NB293_294.out
   have hnc10 := NB294_293.out
   have hcz11_0 := bv_ BK293.out 0
   have hcz11_1 := bv_ BK293.out 1
   have hcz11_2 := bv_ BK293.out 2
   have hcz11_3 := bv_ BK293.out 3
   have hfz11_0 := blk_frozen BK293.out 0
   have hfz11_1 := blk_frozen BK293.out 1
   have hfz11_2 := blk_frozen BK293.out 2
   have hfz11_3 := blk_frozen BK293.out 3
   have hcz12_0 := bv_ BK294.out 0
   have hcz12_1 := bv_ BK294.out 1
   have hcz12_2 := bv_ BK294.out 2
   have hcz12_3 := bv_ BK294.out 3
   have hfz12_0 := blk_frozen BK294.out 0
   have hfz12_1 := blk_frozen BK294.out 1
   have hfz12_2 := blk_frozen BK294.out 2
   have hfz12_3 := blk_frozen BK294.out 3
   go_wp2
   go_meet
   case rel => exact ⟨_, ((a2_1 == 3)), sm_, H', ⟨by first | omega | exact Nat.le_refl _⟩, ⟨bk_ BK293.out⟩, ⟨bk_ BK294.out⟩, ⟨hb2_ HB.out GE293.out GE294.out⟩⟩
 case rest =>
  clear HC4
  try clear c1
  try clear p2
  try clear c5
  try clear c7
  try clear c7b0
  try clear c7b1
  try clear c8
  try clear c10
  try clear hcz11_0
  try clear hcz11_1
  try clear hcz11_2
  try clear hcz11_3
  try clear hcz12_0
  try clear hcz12_1
  try clear hcz12_2
  try clear hcz12_3
  try clear hcz9_0
  try clear hcz9_1
  try clear hcz9_2
  try clear hcz9_3
  try clear hfz11_0
  try clear hfz11_1
  try clear hfz11_2
  try clear hfz11_3
  try clear hfz12_0
  try clear hfz12_1
  try clear hfz12_2
  try clear hfz12_3
  try clear hfz9_0
  try clear hfz9_1
  try clear hfz9_2
  try clear hfz9_3
  obtain ⟨kq, x7_3, rfl, HA, HJ3, BK293, BK294, HB⟩ := hcut
  cases kq with
  | zero => exact absurd HA.out (by simp [sum_parts.j0])
  | succ kj3 =>
   have H := HA.out
   clear HA
   simp only [sum_parts.j0] at H
   by_cases c13 : x7_3 = true
   ·subst c13
    have H1 : ((shape_Nan.f a0).bind fun t295 => (some t295)) = some r := by rw [if_pos rfl] at H; exact H
    clear H;have H := H1;clear H1
    replace H := ob_ H
    obtain ⟨t295, A140, H⟩ := H
    replace H : (some t295) = some r := H
    have A14 := A_ A140;clear A140
    obtain rfl := Option.some.inj H
    go_wp2_with (first | ((with_reducible refine gate_callee (f := 34) rfl ?_); refine gl_ (some 17) Try.func34 #[.int .i64 a0] ?_; (with_reducible refine (shape_Nan.calls a0 t295 _ A14.out).mono ?_); rintro e w15 ⟨rfl, hb⟩; refine ⟨_, rfl, ?_⟩; replace BK293 := A_ (bb_ BK293.out hb); replace BK294 := A_ (bb_ BK294.out hb); replace HB := A_ (below_step (hb2_ HB.out GE293.out GE294.out) hb); (try clear hb); (try clear hb2); (try clear hk); (try clear hi)))
    go_ret
    exact ⟨er_, hb2_ HB.out GE293.out GE294.out⟩
   ·replace c13 := Bool.eq_false_iff.mpr c13
    subst c13
    have H1 : (if a1_1 = 2 then (sum_parts.j1 kj3 a0 true a1_0 a1_1 a1_2 a1_3 a2_0 a2_1 a2_2 a2_3) else (sum_parts.j1 kj3 a0 (a2_1 == 2) a1_0 a1_1 a1_2 a1_3 a2_0 a2_1 a2_2 a2_3)) = some r := by rw [if_neg (show ¬ (false = true) by decide)] at H; exact H
    clear H;have H := H1;clear H1;have HC16 := A_ H;clear H
    go_upto_region 3 with (fail)
    go_cut [18] (fun v18 wc => ∃ (kq : Nat) (x18_15 : Bool), v18 = .bool x18_15 ∧ Aside0 (sum_parts.j1 kq a0 x18_15 a1_0 a1_1 a1_2 a1_3 a2_0 a2_1 a2_2 a2_3 = some r) ∧ Aside0 (kq ≤ kj3) ∧ Aside0 (wc.heap[gb293]? = some (.cells #[.bool a1_0, .int .i64 a1_1, .int .i64 a1_2, .int .u64 a1_3] 38 (0, 0))) ∧ Aside0 (wc.heap[gb294]? = some (.cells #[.bool a2_0, .int .i64 a2_1, .int .i64 a2_2, .int .u64 a2_3] 38 (0, 0))) ∧ Aside0 (Below w.heap.size w wc))
    case first =>
     have H := HC16.out
     clear HC16
     by_cases c17 : a1_1 = 2
     ·rw [if_pos c17] at H
      have c17b0 : (a1_1 == 2) = true := beq_iff_eq.mpr c17
      have c17b1 : (a1_1 != 2) = false := bne_eq_false_iff_eq.mpr c17
      clear c17
      (first | rw [c17b0] | (simp only [i64_w, i32_w]; rw [c17b0]) | skip)
      have H' := A_ H
      clear H
      have hnb18 := NB293_294.out
      have hnc18 := NB294_293.out
      have hcz19_0 := bv_ BK293.out 0
      have hcz19_1 := bv_ BK293.out 1
      have hcz19_2 := bv_ BK293.out 2
      have hcz19_3 := bv_ BK293.out 3
      have hfz19_0 := blk_frozen BK293.out 0
      have hfz19_1 := blk_frozen BK293.out 1
      have hfz19_2 := blk_frozen BK293.out 2
      have hfz19_3 := blk_frozen BK293.out 3
      go_wp2
      go_meet
      case rel => exact ⟨_, (true), sm_, H', ⟨by have := HJ3.out; first | omega | exact Nat.le_refl _⟩, ⟨bk_ BK293.out⟩, ⟨bk_ BK294.out⟩, ⟨hb2_ HB.out GE293.out GE294.out⟩⟩
     ·rw [if_neg c17] at H
      have c17b0 : (a1_1 == 2) = false := beq_eq_false_iff_ne.mpr c17
      have c17b1 : (a1_1 != 2) = true := bne_iff_ne.mpr c17
      (first | rw [c17b0] | (simp only [i64_w, i32_w]; rw [c17b0]) | skip)
      have H' := A_ H
      clear H
      have hnb20 := NB293_294.out
      have hnc20 := NB294_293.out
      have hcz21_0 := bv_ BK293.out 0
      have hcz21_1 := bv_ BK293.out 1
      have hcz21_2 := bv_ BK293.out 2
      have hcz21_3 := bv_ BK293.out 3
      have hfz21_0 := blk_frozen BK293.out 0
      have hfz21_1 := blk_frozen BK293.out 1
      have hfz21_2 := blk_frozen BK293.out 2
      have hfz21_3 := blk_frozen BK293.out 3
      have hcz22_0 := bv_ BK294.out 0
      have hcz22_1 := bv_ BK294.out 1
      have hcz22_2 := bv_ BK294.out 2
      have hcz22_3 := bv_ BK294.out 3
      have hfz22_0 := blk_frozen BK294.out 0
      have hfz22_1 := blk_frozen BK294.out 1
      have hfz22_2 := blk_frozen BK294.out 2
      have hfz22_3 := blk_frozen BK294.out 3
      go_wp2
      go_meet
      case rel => exact ⟨_, ((a2_1 == 2)), sm_, H', ⟨by have := HJ3.out; first | omega | exact Nat.le_refl _⟩, ⟨bk_ BK293.out⟩, ⟨bk_ BK294.out⟩, ⟨hb2_ HB.out GE293.out GE294.out⟩⟩
    case rest =>
     clear HC16
     try clear c1
     try clear c2
     try clear p2
     try clear c3
     try clear c5
     try clear c7
     try clear c7b0
     try clear c7b1
     try clear c8
     try clear c10
     try clear c13
     try clear c17
     try clear c17b0
     try clear c17b1
     try clear c18
     try clear c20
     try clear hcz11_0
     try clear hcz11_1
     try clear hcz11_2
     try clear hcz11_3
     try clear hcz12_0
     try clear hcz12_1
     try clear hcz12_2
     try clear hcz12_3
     try clear hcz19_0
     try clear hcz19_1
     try clear hcz19_2
     try clear hcz19_3
     try clear hcz21_0
     try clear hcz21_1
     try clear hcz21_2
     try clear hcz21_3
     try clear hcz22_0
     try clear hcz22_1
     try clear hcz22_2
     try clear hcz22_3
     try clear hcz9_0
     try clear hcz9_1
     try clear hcz9_2
     try clear hcz9_3
     try clear hfz11_0
     try clear hfz11_1
     try clear hfz11_2
     try clear hfz11_3
     try clear hfz12_0
     try clear hfz12_1
     try clear hfz12_2
     try clear hfz12_3
     try clear hfz19_0
     try clear hfz19_1
     try clear hfz19_2
     try clear hfz19_3
     try clear hfz21_0
     try clear hfz21_1
     try clear hfz21_2
     try clear hfz21_3
     try clear hfz22_0
     try clear hfz22_1
     try clear hfz22_2
     try clear hfz22_3
     try clear hfz9_0
     try clear hfz9_1
     try clear hfz9_2
     try clear hfz9_3
     try clear p2
     obtain ⟨kq, x18_15, rfl, HA, HJ15, BK293, BK294, HB⟩ := hcut
     cases kq with
     | zero => exact absurd HA.out (by simp [sum_parts.j1])
     | succ kj15 =>
      have H := HA.out
      clear HA
      simp only [sum_parts.j1] at H
      by_cases c23 : x18_15 = true
      ·subst c23
       have H1 : ((sum_infinite.f kj15 a0 a1_0 a1_1 a1_2 a1_3 a2_0 a2_1 a2_2 a2_3).bind fun t296 => (some t296)) = some r := by rw [if_pos rfl] at H; exact H
       clear H;have H := H1;clear H1
       replace H := ob_ H
       obtain ⟨t296, A240, H⟩ := H
       replace H : (some t296) = some r := H
       have A24 := A_ A240;clear A240
       obtain rfl := Option.some.inj H
       have hnb25 := NB293_294.out
       have hnc25 := NB294_293.out
       have hcz26_0 := bv_ BK293.out 0
       have hcz26_1 := bv_ BK293.out 1
       have hcz26_2 := bv_ BK293.out 2
       have hcz26_3 := bv_ BK293.out 3
       have hfz26_0 := blk_frozen BK293.out 0
       have hfz26_1 := blk_frozen BK293.out 1
       have hfz26_2 := blk_frozen BK293.out 2
       have hfz26_3 := blk_frozen BK293.out 3
       have hcz27_0 := bv_ BK294.out 0
       have hcz27_1 := bv_ BK294.out 1
       have hcz27_2 := bv_ BK294.out 2
       have hcz27_3 := bv_ BK294.out 3
       have hfz27_0 := blk_frozen BK294.out 0
       have hfz27_1 := blk_frozen BK294.out 1
       have hfz27_2 := blk_frozen BK294.out 2
       have hfz27_3 := blk_frozen BK294.out 3
       go_wp2_with (first | ((with_reducible refine gate_callee (f := 91) rfl ?_); refine gl_ (some 30) Try.func91 #[.int .i64 a0, .agg #[.bool a1_0, .int .i64 a1_1, .int .i64 a1_2, .int .u64 a1_3], .agg #[.bool a2_0, .int .i64 a2_1, .int .i64 a2_2, .int .u64 a2_3]] ?_; (with_reducible refine (sum_infinite.calls kj15 a0 a1_0 a1_1 a1_2 a1_3 a2_0 a2_1 a2_2 a2_3 t296 _ A24.out).mono ?_); rintro e w28 ⟨rfl, hb⟩; refine ⟨_, rfl, ?_⟩; replace BK293 := A_ (bb_ BK293.out hb); replace BK294 := A_ (bb_ BK294.out hb); replace HB := A_ (below_step (hb2_ HB.out GE293.out GE294.out) hb); (try clear hb); (try clear hb2); (try clear hk); (try clear hi)))
       go_ret
       exact ⟨er_, hb2_ HB.out GE293.out GE294.out⟩
      ·replace c23 := Bool.eq_false_iff.mpr c23
       subst c23
       have H1 : (if a1_1 = 0 then (sum_parts.j2 kj15 a0 (a2_1 == 0) a1_0 a1_1 a1_2 a1_3 a2_0 a2_1 a2_2 a2_3) else (sum_parts.j2 kj15 a0 false a1_0 a1_1 a1_2 a1_3 a2_0 a2_1 a2_2 a2_3)) = some r := by rw [if_neg (show ¬ (false = true) by decide)] at H; exact H
       clear H;have H := H1;clear H1;have HC29 := A_ H;clear H
       go_upto_region 5 with (fail)
       go_cut [31] (fun v31 wc => ∃ (kq : Nat) (x31_28 : Bool), v31 = .bool x31_28 ∧ Aside0 (sum_parts.j2 kq a0 x31_28 a1_0 a1_1 a1_2 a1_3 a2_0 a2_1 a2_2 a2_3 = some r) ∧ Aside0 (kq ≤ kj15) ∧ Aside0 (wc.heap[gb293]? = some (.cells #[.bool a1_0, .int .i64 a1_1, .int .i64 a1_2, .int .u64 a1_3] 38 (0, 0))) ∧ Aside0 (wc.heap[gb294]? = some (.cells #[.bool a2_0, .int .i64 a2_1, .int .i64 a2_2, .int .u64 a2_3] 38 (0, 0))) ∧ Aside0 (Below w.heap.size w wc))
       case first =>
        have H := HC29.out
        clear HC29
        by_cases c30 : a1_1 = 0
        ·rw [if_pos c30] at H
         have c30b0 : (a1_1 == 0) = true := beq_iff_eq.mpr c30
         have c30b1 : (a1_1 != 0) = false := bne_eq_false_iff_eq.mpr c30
         clear c30
         (first | rw [c30b0] | (simp only [i64_w, i32_w]; rw [c30b0]) | skip)
         have H' := A_ H
         clear H
         have hnb31 := NB293_294.out
         have hnc31 := NB294_293.out
         have hcz32_0 := bv_ BK293.out 0
         have hcz32_1 := bv_ BK293.out 1
         have hcz32_2 := bv_ BK293.out 2
         have hcz32_3 := bv_ BK293.out 3
         have hfz32_0 := blk_frozen BK293.out 0
         have hfz32_1 := blk_frozen BK293.out 1
         have hfz32_2 := blk_frozen BK293.out 2
         have hfz32_3 := blk_frozen BK293.out 3
         have hcz33_0 := bv_ BK294.out 0
         have hcz33_1 := bv_ BK294.out 1
         have hcz33_2 := bv_ BK294.out 2
         have hcz33_3 := bv_ BK294.out 3
         have hfz33_0 := blk_frozen BK294.out 0
         have hfz33_1 := blk_frozen BK294.out 1
         have hfz33_2 := blk_frozen BK294.out 2
         have hfz33_3 := blk_frozen BK294.out 3
         go_wp2
         go_meet
         case rel => exact ⟨_, ((a2_1 == 0)), sm_, H', ⟨by have := HJ3.out; have := HJ15.out; first | omega | exact Nat.le_refl _⟩, ⟨bk_ BK293.out⟩, ⟨bk_ BK294.out⟩, ⟨hb2_ HB.out GE293.out GE294.out⟩⟩
        ·rw [if_neg c30] at H
         have c30b0 : (a1_1 == 0) = false := beq_eq_false_iff_ne.mpr c30
         have c30b1 : (a1_1 != 0) = true := bne_iff_ne.mpr c30
         (first | rw [c30b0] | (simp only [i64_w, i32_w]; rw [c30b0]) | skip)
         have H' := A_ H
         clear H
         have hnb34 := NB293_294.out
         have hnc34 := NB294_293.out
         have hcz35_0 := bv_ BK293.out 0
         have hcz35_1 := bv_ BK293.out 1
         have hcz35_2 := bv_ BK293.out 2
         have hcz35_3 := bv_ BK293.out 3
         have hfz35_0 := blk_frozen BK293.out 0
         have hfz35_1 := blk_frozen BK293.out 1
         have hfz35_2 := blk_frozen BK293.out 2
         have hfz35_3 := blk_frozen BK293.out 3
         go_wp2
         go_meet
         case rel => exact ⟨_, (false), sm_, H', ⟨by have := HJ3.out; have := HJ15.out; first | omega | exact Nat.le_refl _⟩, ⟨bk_ BK293.out⟩, ⟨bk_ BK294.out⟩, ⟨hb2_ HB.out GE293.out GE294.out⟩⟩
       case rest =>
        clear HC29
        try clear c1
        try clear c2
        try clear p2
        try clear c3
        try clear c5
        try clear c7
        try clear c7b0
        try clear c7b1
        try clear c8
        try clear c9
        try clear c10
        try clear c13
        try clear c17
        try clear c17b0
        try clear c17b1
        try clear c18
        try clear c20
        try clear c23
        try clear c25
        try clear c30
        try clear c30b0
        try clear c30b1
        try clear c31
        try clear c34
        try clear hcz11_0
        try clear hcz11_1
        try clear hcz11_2
        try clear hcz11_3
        try clear hcz12_0
        try clear hcz12_1
        try clear hcz12_2
        try clear hcz12_3
        try clear hcz19_0
        try clear hcz19_1
        try clear hcz19_2
        try clear hcz19_3
        try clear hcz21_0
        try clear hcz21_1
        try clear hcz21_2
        try clear hcz21_3
        try clear hcz22_0
        try clear hcz22_1
        try clear hcz22_2
        try clear hcz22_3
        try clear hcz26_0
        try clear hcz26_1
        try clear hcz26_2
        try clear hcz26_3
        try clear hcz27_0
        try clear hcz27_1
        try clear hcz27_2
        try clear hcz27_3
        try clear hcz32_0
        try clear hcz32_1
        try clear hcz32_2
        try clear hcz32_3
        try clear hcz33_0
        try clear hcz33_1
        try clear hcz33_2
        try clear hcz33_3
        try clear hcz35_0
        try clear hcz35_1
        try clear hcz35_2
        try clear hcz35_3
        try clear hcz9_0
        try clear hcz9_1
        try clear hcz9_2
        try clear hcz9_3
        try clear hfz11_0
        try clear hfz11_1
        try clear hfz11_2
        try clear hfz11_3
        try clear hfz12_0
        try clear hfz12_1
        try clear hfz12_2
        try clear hfz12_3
        try clear hfz19_0
        try clear hfz19_1
        try clear hfz19_2
        try clear hfz19_3
        try clear hfz21_0
        try clear hfz21_1
        try clear hfz21_2
        try clear hfz21_3
        try clear hfz22_0
        try clear hfz22_1
        try clear hfz22_2
        try clear hfz22_3
        try clear hfz26_0
        try clear hfz26_1
        try clear hfz26_2
        try clear hfz26_3
        try clear hfz27_0
        try clear hfz27_1
        try clear hfz27_2
        try clear hfz27_3
        try clear hfz32_0
        try clear hfz32_1
        try clear hfz32_2
        try clear hfz32_3
        try clear hfz33_0
        try clear hfz33_1
        try clear hfz33_2
        try clear hfz33_3
        try clear hfz35_0
        try clear hfz35_1
        try clear hfz35_2
        try clear hfz35_3
        try clear hfz9_0
        try clear hfz9_1
        try clear hfz9_2
        try clear hfz9_3
        try clear p2
        obtain ⟨kq, x31_28, rfl, HA, HJ28, BK293, BK294, HB⟩ := hcut
        cases kq with
        | zero => exact absurd HA.out (by simp [sum_parts.j2])
        | succ kj28 =>
         have H := HA.out
         clear HA
         simp only [sum_parts.j2] at H
         by_cases c36 : x31_28 = true
         ·subst c36
          have H1 : (if a1_0 = true then ((shape_Zero.f a0 a2_0).bind fun t297 => (some t297)) else ((shape_Zero.f a0 false).bind fun t298 => (some t298))) = some r := by rw [if_pos rfl] at H; exact H
          clear H;have H := H1;clear H1
          by_cases c37 : a1_0 = true
          ·subst c37
           have H1 : ((shape_Zero.f a0 a2_0).bind fun t297 => (some t297)) = some r := by rw [if_pos rfl] at H; exact H
           clear H;have H := H1;clear H1
           replace H := ob_ H
           obtain ⟨t297, A380, H⟩ := H
           replace H : (some t297) = some r := H
           have A38 := A_ A380;clear A380
           obtain rfl := Option.some.inj H
           have hnb39 := NB293_294.out
           have hnc39 := NB294_293.out
           have hcz40_0 := bv_ BK293.out 0
           have hcz40_1 := bv_ BK293.out 1
           have hcz40_2 := bv_ BK293.out 2
           have hcz40_3 := bv_ BK293.out 3
           have hfz40_0 := blk_frozen BK293.out 0
           have hfz40_1 := blk_frozen BK293.out 1
           have hfz40_2 := blk_frozen BK293.out 2
           have hfz40_3 := blk_frozen BK293.out 3
           have hcz41_0 := bv_ BK294.out 0
           have hcz41_1 := bv_ BK294.out 1
           have hcz41_2 := bv_ BK294.out 2
           have hcz41_3 := bv_ BK294.out 3
           have hfz41_0 := blk_frozen BK294.out 0
           have hfz41_1 := blk_frozen BK294.out 1
           have hfz41_2 := blk_frozen BK294.out 2
           have hfz41_3 := blk_frozen BK294.out 3
           go_wp2_with (first | ((with_reducible refine gate_callee (f := 30) rfl ?_); refine gl_ (some 47) Try.func30 #[.int .i64 a0, .bool a2_0] ?_; (with_reducible refine (shape_Zero.calls a0 a2_0 t297 _ A38.out).mono ?_); rintro e w42 ⟨rfl, hb⟩; refine ⟨_, rfl, ?_⟩; replace BK293 := A_ (bb_ BK293.out hb); replace BK294 := A_ (bb_ BK294.out hb); replace HB := A_ (below_step (hb2_ HB.out GE293.out GE294.out) hb); (try clear hb); (try clear hb2); (try clear hk); (try clear hi)))
           go_ret
           exact ⟨er_, hb2_ HB.out GE293.out GE294.out⟩
          ·replace c37 := Bool.eq_false_iff.mpr c37
           subst c37
           have H1 : ((shape_Zero.f a0 false).bind fun t298 => (some t298)) = some r := by rw [if_neg (show ¬ (false = true) by decide)] at H; exact H
           clear H;have H := H1;clear H1
           replace H := ob_ H
           obtain ⟨t298, A430, H⟩ := H
           replace H : (some t298) = some r := H
           have A43 := A_ A430;clear A430
           obtain rfl := Option.some.inj H
           have hnb44 := NB293_294.out
           have hnc44 := NB294_293.out
           have hcz45_0 := bv_ BK293.out 0
           have hcz45_1 := bv_ BK293.out 1
           have hcz45_2 := bv_ BK293.out 2
           have hcz45_3 := bv_ BK293.out 3
           have hfz45_0 := blk_frozen BK293.out 0
           have hfz45_1 := blk_frozen BK293.out 1
           have hfz45_2 := blk_frozen BK293.out 2
           have hfz45_3 := blk_frozen BK293.out 3
           go_wp2_with (first | ((with_reducible refine gate_callee (f := 30) rfl ?_); refine gl_ (some 47) Try.func30 #[.int .i64 a0, .bool false] ?_; (with_reducible refine (shape_Zero.calls a0 false t298 _ A43.out).mono ?_); rintro e w46 ⟨rfl, hb⟩; refine ⟨_, rfl, ?_⟩; replace BK293 := A_ (bb_ BK293.out hb); replace BK294 := A_ (bb_ BK294.out hb); replace HB := A_ (below_step (hb2_ HB.out GE293.out GE294.out) hb); (try clear hb); (try clear hb2); (try clear hk); (try clear hi)))
           go_ret
           exact ⟨er_, hb2_ HB.out GE293.out GE294.out⟩
         ·replace c36 := Bool.eq_false_iff.mpr c36
          subst c36
          have H1 : (if a1_1 = 0 then ((round_Narrow.f a0 a2_0 a2_1 a2_2 a2_3).bind fun t299 => (some t299)) else (if a2_1 = 0 then ((round_Narrow.f a0 a1_0 a1_1 a1_2 a1_3).bind fun t300 => (some t300)) else ((sum_finite.f kj28 a0 a1_0 a1_1 a1_2 a1_3 a2_0 a2_1 a2_2 a2_3).bind fun t301 => (some t301)))) = some r := by rw [if_neg (show ¬ (false = true) by decide)] at H; exact H
          clear H;have H := H1;clear H1
          by_cases c47 : a1_1 = 0
          ·rw [if_pos c47] at H
           have c47b0 : (a1_1 == 0) = true := beq_iff_eq.mpr c47
           have c47b1 : (a1_1 != 0) = false := bne_eq_false_iff_eq.mpr c47
           clear c47
           replace H := ob_ H
           obtain ⟨t299, A480, H⟩ := H
           replace H : (some t299) = some r := H
           have A48 := A_ A480;clear A480
           obtain rfl := Option.some.inj H
           have hnb49 := NB293_294.out
           have hnc49 := NB294_293.out
           have hcz50_0 := bv_ BK293.out 0
           have hcz50_1 := bv_ BK293.out 1
           have hcz50_2 := bv_ BK293.out 2
           have hcz50_3 := bv_ BK293.out 3
           have hfz50_0 := blk_frozen BK293.out 0
           have hfz50_1 := blk_frozen BK293.out 1
           have hfz50_2 := blk_frozen BK293.out 2
           have hfz50_3 := blk_frozen BK293.out 3
           have hcz51_0 := bv_ BK294.out 0
           have hcz51_1 := bv_ BK294.out 1
           have hcz51_2 := bv_ BK294.out 2
           have hcz51_3 := bv_ BK294.out 3
           have hfz51_0 := blk_frozen BK294.out 0
           have hfz51_1 := blk_frozen BK294.out 1
           have hfz51_2 := blk_frozen BK294.out 2
           have hfz51_3 := blk_frozen BK294.out 3
           go_wp2_with (first | ((with_reducible refine gate_callee (f := 40) rfl ?_); refine gl_ (some 54) Try.func40 #[.int .i64 a0, .agg #[.bool a2_0, .int .i64 a2_1, .int .i64 a2_2, .int .u64 a2_3]] ?_; (with_reducible refine (round_Narrow.calls a0 a2_0 a2_1 a2_2 a2_3 t299 _ A48.out).mono ?_); rintro e w52 ⟨rfl, hb⟩; refine ⟨_, rfl, ?_⟩; replace BK293 := A_ (bb_ BK293.out hb); replace BK294 := A_ (bb_ BK294.out hb); replace HB := A_ (below_step (hb2_ HB.out GE293.out GE294.out) hb); (try clear hb); (try clear hb2); (try clear hk); (try clear hi)))
           go_ret
           exact ⟨er_, hb2_ HB.out GE293.out GE294.out⟩
          ·rw [if_neg c47] at H
           have c47b0 : (a1_1 == 0) = false := beq_eq_false_iff_ne.mpr c47
           have c47b1 : (a1_1 != 0) = true := bne_iff_ne.mpr c47
           by_cases c53 : a2_1 = 0
           ·rw [if_pos c53] at H
            have c53b0 : (a2_1 == 0) = true := beq_iff_eq.mpr c53
            have c53b1 : (a2_1 != 0) = false := bne_eq_false_iff_eq.mpr c53
            clear c53
            replace H := ob_ H
            obtain ⟨t300, A540, H⟩ := H
            replace H : (some t300) = some r := H
            have A54 := A_ A540;clear A540
            obtain rfl := Option.some.inj H
            have hnb55 := NB293_294.out
            have hnc55 := NB294_293.out
            have hcz56_0 := bv_ BK293.out 0
            have hcz56_1 := bv_ BK293.out 1
            have hcz56_2 := bv_ BK293.out 2
            have hcz56_3 := bv_ BK293.out 3
            have hfz56_0 := blk_frozen BK293.out 0
            have hfz56_1 := blk_frozen BK293.out 1
            have hfz56_2 := blk_frozen BK293.out 2
            have hfz56_3 := blk_frozen BK293.out 3
            have hcz57_0 := bv_ BK294.out 0
            have hcz57_1 := bv_ BK294.out 1
            have hcz57_2 := bv_ BK294.out 2
            have hcz57_3 := bv_ BK294.out 3
            have hfz57_0 := blk_frozen BK294.out 0
            have hfz57_1 := blk_frozen BK294.out 1
            have hfz57_2 := blk_frozen BK294.out 2
            have hfz57_3 := blk_frozen BK294.out 3
            go_wp2_with (first | ((with_reducible refine gate_callee (f := 40) rfl ?_); refine gl_ (some 61) Try.func40 #[.int .i64 a0, .agg #[.bool a1_0, .int .i64 a1_1, .int .i64 a1_2, .int .u64 a1_3]] ?_; (with_reducible refine (round_Narrow.calls a0 a1_0 a1_1 a1_2 a1_3 t300 _ A54.out).mono ?_); rintro e w58 ⟨rfl, hb⟩; refine ⟨_, rfl, ?_⟩; replace BK293 := A_ (bb_ BK293.out hb); replace BK294 := A_ (bb_ BK294.out hb); replace HB := A_ (below_step (hb2_ HB.out GE293.out GE294.out) hb); (try clear hb); (try clear hb2); (try clear hk); (try clear hi)))
            go_ret
            exact ⟨er_, hb2_ HB.out GE293.out GE294.out⟩
           ·rw [if_neg c53] at H
            have c53b0 : (a2_1 == 0) = false := beq_eq_false_iff_ne.mpr c53
            have c53b1 : (a2_1 != 0) = true := bne_iff_ne.mpr c53
            replace H := ob_ H
            obtain ⟨t301, A590, H⟩ := H
            replace H : (some t301) = some r := H
            have A59 := A_ A590;clear A590
            obtain rfl := Option.some.inj H
            have hnb60 := NB293_294.out
            have hnc60 := NB294_293.out
            have hcz61_0 := bv_ BK293.out 0
            have hcz61_1 := bv_ BK293.out 1
            have hcz61_2 := bv_ BK293.out 2
            have hcz61_3 := bv_ BK293.out 3
            have hfz61_0 := blk_frozen BK293.out 0
            have hfz61_1 := blk_frozen BK293.out 1
            have hfz61_2 := blk_frozen BK293.out 2
            have hfz61_3 := blk_frozen BK293.out 3
            have hcz62_0 := bv_ BK294.out 0
            have hcz62_1 := bv_ BK294.out 1
            have hcz62_2 := bv_ BK294.out 2
            have hcz62_3 := bv_ BK294.out 3
            have hfz62_0 := blk_frozen BK294.out 0
            have hfz62_1 := blk_frozen BK294.out 1
            have hfz62_2 := blk_frozen BK294.out 2
            have hfz62_3 := blk_frozen BK294.out 3
            go_wp2_with (first | ((with_reducible refine gate_callee (f := 92) rfl ?_); refine gl_ (some 65) Try.func92 #[.int .i64 a0, .agg #[.bool a1_0, .int .i64 a1_1, .int .i64 a1_2, .int .u64 a1_3], .agg #[.bool a2_0, .int .i64 a2_1, .int .i64 a2_2, .int .u64 a2_3]] ?_; (with_reducible refine (sum_finite.calls kj28 a0 a1_0 a1_1 a1_2 a1_3 a2_0 a2_1 a2_2 a2_3 t301 _ A59.out).mono ?_); rintro e w63 ⟨rfl, hb⟩; refine ⟨_, rfl, ?_⟩; replace BK293 := A_ (bb_ BK293.out hb); replace BK294 := A_ (bb_ BK294.out hb); replace HB := A_ (below_step (hb2_ HB.out GE293.out GE294.out) hb); (try clear hb); (try clear hb2); (try clear hk); (try clear hi)))
            go_ret
            exact ⟨er_, hb2_ HB.out GE293.out GE294.out⟩
def sum_Add.f (k : Nat) (a0 : Int) (a1 : Int) (a2 : Int) : Option (Int) := (sum_known.f a0).bind fun t302 => (if t302 = true then ((shape_Open.f k a0 a1).bind fun bt303 => ((shape_Open.f k a0 a2).bind fun bt307 => ((sum_parts.f k a0 bt303.1 bt303.2.1 bt303.2.2.1 bt303.2.2.2 bt307.1 bt307.2.1 bt307.2.2.1 bt307.2.2.2).bind fun t311 => (some t311)))) else (some 0))
theorem sum_Add.mono : ∀ a0 a1 a2 k, LeO (sum_Add.f k a0 a1 a2) (sum_Add.f (k + 1) a0 a1 a2) := by
 intro a0 a1 a2 k
 unfold sum_Add.f
 repeat' first
   | (with_reducible exact shape_Open.mono _ _ _)
   | (with_reducible exact sum_parts.mono _ _ _ _ _ _ _ _ _ _)
   | (with_reducible exact LeO.refl _)
   | (with_reducible exact LeO.none _)
   | (with_reducible refine LeO.ite ?_ ?_)
   | (with_reducible refine LeO.bind ?_ (fun _ => ?_))
   | exact shape_Open.mono _ _ _
   | exact sum_parts.mono _ _ _ _ _ _ _ _ _ _
   | exact LeO.none _
   | refine LeO.ite ?_ ?_
   | refine LeO.bind ?_ (fun _ => ?_)
theorem sum_Add.calls (k : Nat) (a0 : Int) (a1 : Int) (a2 : Int) (r : Int) (w : World) (h : sum_Add.f k a0 a1 a2 = some r) :
  Calls Try.prog 20 #[.int .i64 a0, .int .u64 a1, .int .u64 a2] w fun e w' => e = .returned (.int .u64 r) ∧ Below w.heap.size w w' := by
 have HB := A_ (Below.refl w.heap.size w)
 have H : ((sum_known.f a0).bind fun t302 => (if t302 = true then ((shape_Open.f k a0 a1).bind fun bt303 => ((shape_Open.f k a0 a2).bind fun bt307 => ((sum_parts.f k a0 bt303.1 bt303.2.1 bt303.2.2.1 bt303.2.2.2 bt307.1 bt307.2.1 bt307.2.2.1 bt307.2.2.2).bind fun t311 => (some t311)))) else (some 0))) = some r := h
 clear h
 replace H := ob_ H
 obtain ⟨t302, A40, H⟩ := H
 replace H : (if t302 = true then ((shape_Open.f k a0 a1).bind fun bt303 => ((shape_Open.f k a0 a2).bind fun bt307 => ((sum_parts.f k a0 bt303.1 bt303.2.1 bt303.2.2.1 bt303.2.2.2 bt307.1 bt307.2.1 bt307.2.2.1 bt307.2.2.2).bind fun t311 => (some t311)))) else (some 0)) = some r := H
 have A4 := A_ A40;clear A40
 by_cases c5 : t302 = true
 ·subst c5
  have H1 : ((shape_Open.f k a0 a1).bind fun bt303 => ((shape_Open.f k a0 a2).bind fun bt307 => ((sum_parts.f k a0 bt303.1 bt303.2.1 bt303.2.2.1 bt303.2.2.2 bt307.1 bt307.2.1 bt307.2.2.1 bt307.2.2.2).bind fun t311 => (some t311)))) = some r := by rw [if_pos rfl] at H; exact H
  clear H;have H := H1;clear H1
  replace H := ob_ H
  obtain ⟨⟨t303, t304, t305, t306⟩, A60, H⟩ := H
  replace H : ((shape_Open.f k a0 a2).bind fun bt307 => ((sum_parts.f k a0 t303 t304 t305 t306 bt307.1 bt307.2.1 bt307.2.2.1 bt307.2.2.2).bind fun t311 => (some t311))) = some r := H
  have A6 := A_ A60;clear A60
  replace H := ob_ H
  obtain ⟨⟨t307, t308, t309, t310⟩, A70, H⟩ := H
  replace H : ((sum_parts.f k a0 t303 t304 t305 t306 t307 t308 t309 t310).bind fun t311 => (some t311)) = some r := H
  have A7 := A_ A70;clear A70
  replace H := ob_ H
  obtain ⟨t311, A80, H⟩ := H
  replace H : (some t311) = some r := H
  have A8 := A_ A80;clear A80
  obtain rfl := Option.some.inj H
  go_enter Try.func20, Try.ntmps20
  go_wp2_with (first | ((with_reducible refine gate_callee (f := 55) rfl ?_); refine gl_ (some 8) Try.func55 #[.int .i64 a0] ?_; (with_reducible refine (sum_known.calls a0 true _ A4.out).mono ?_); rintro e w' ⟨rfl, ⟨nd, rfl⟩⟩; refine ⟨_, rfl, ?_⟩) | ((with_reducible refine gate_callee (f := 31) rfl ?_); refine gl_ (some 13) Try.func31 #[.int .i64 a0, .int .u64 a1] ?_; (with_reducible refine (shape_Open.calls k a0 a1 t303 t304 t305 t306 _ A6.out).mono ?_); rintro e w9 ⟨rfl, hb⟩; refine ⟨_, rfl, ?_⟩; replace HB := A_ (below_step (hb_ HB.out) hb); (try clear hb); (try clear hb2); (try clear hk); (try clear hi)) | ((with_reducible refine gate_callee (f := 31) rfl ?_); refine gl_ (some 16) Try.func31 #[.int .i64 a0, .int .u64 a2] ?_; (with_reducible refine (shape_Open.calls k a0 a2 t307 t308 t309 t310 _ A7.out).mono ?_); rintro e w10 ⟨rfl, hb⟩; refine ⟨_, rfl, ?_⟩; replace HB := A_ (below_step (hb_ HB.out) hb); (try clear hb); (try clear hb2); (try clear hk); (try clear hi)) | ((with_reducible refine gate_callee (f := 56) rfl ?_); refine gl_ (some 17) Try.func56 #[.int .i64 a0, .agg #[.bool t303, .int .i64 t304, .int .i64 t305, .int .u64 t306], .agg #[.bool t307, .int .i64 t308, .int .i64 t309, .int .u64 t310]] ?_; (with_reducible refine (sum_parts.calls k a0 t303 t304 t305 t306 t307 t308 t309 t310 t311 _ A8.out).mono ?_); rintro e w11 ⟨rfl, hb⟩; refine ⟨_, rfl, ?_⟩; replace HB := A_ (below_step (hb_ HB.out) hb); (try clear hb); (try clear hb2); (try clear hk); (try clear hi)))
  go_ret
  exact ⟨er_, hb_ HB.out⟩
 ·replace c5 := Bool.eq_false_iff.mpr c5
  subst c5
  have H1 : (some 0) = some r := by rw [if_neg (show ¬ (false = true) by decide)] at H; exact H
  clear H;have H := H1;clear H1
  obtain rfl := Option.some.inj H
  go_enter Try.func20, Try.ntmps20
  go_wp2_with (first | ((with_reducible refine gate_callee (f := 55) rfl ?_); refine gl_ (some 8) Try.func55 #[.int .i64 a0] ?_; (with_reducible refine (sum_known.calls a0 false _ A4.out).mono ?_); rintro e w' ⟨rfl, ⟨nd, rfl⟩⟩; refine ⟨_, rfl, ?_⟩))
  go_ret
  exact ⟨er_, hb_ HB.out⟩
def sum_Sub.f (k : Nat) (a0 : Int) (a1 : Int) (a2 : Int) : Option (Int) := (sum_known.f a0).bind fun t761 => (if t761 = true then ((shape_Open.f k a0 a2).bind fun bt762 => ((shape_Open.f k a0 a1).bind fun bt767 => ((sum_parts.f k a0 bt767.1 bt767.2.1 bt767.2.2.1 bt767.2.2.2 (!bt762.1) bt762.2.1 bt762.2.2.1 bt762.2.2.2).bind fun t771 => (some t771)))) else (some 0))
theorem sum_Sub.mono : ∀ a0 a1 a2 k, LeO (sum_Sub.f k a0 a1 a2) (sum_Sub.f (k + 1) a0 a1 a2) := by
 intro a0 a1 a2 k
 unfold sum_Sub.f
 repeat' first
   | (with_reducible exact shape_Open.mono _ _ _)
   | (with_reducible exact sum_parts.mono _ _ _ _ _ _ _ _ _ _)
   | (with_reducible exact LeO.refl _)
   | (with_reducible exact LeO.none _)
   | (with_reducible refine LeO.ite ?_ ?_)
   | (with_reducible refine LeO.bind ?_ (fun _ => ?_))
   | exact shape_Open.mono _ _ _
   | exact sum_parts.mono _ _ _ _ _ _ _ _ _ _
   | exact LeO.none _
   | refine LeO.ite ?_ ?_
   | refine LeO.bind ?_ (fun _ => ?_)
theorem sum_Sub.calls (k : Nat) (a0 : Int) (a1 : Int) (a2 : Int) (r : Int) (w : World) (h : sum_Sub.f k a0 a1 a2 = some r) :
  Calls Try.prog 44 #[.int .i64 a0, .int .u64 a1, .int .u64 a2] w fun e w' => e = .returned (.int .u64 r) ∧ Below w.heap.size w w' := by
 have hu38 := Try.underlying38
 have HB := A_ (Below.refl w.heap.size w)
 have H : ((sum_known.f a0).bind fun t761 => (if t761 = true then ((shape_Open.f k a0 a2).bind fun bt762 => ((shape_Open.f k a0 a1).bind fun bt767 => ((sum_parts.f k a0 bt767.1 bt767.2.1 bt767.2.2.1 bt767.2.2.2 (!bt762.1) bt762.2.1 bt762.2.2.1 bt762.2.2.2).bind fun t771 => (some t771)))) else (some 0))) = some r := h
 clear h
 replace H := ob_ H
 obtain ⟨t761, A40, H⟩ := H
 replace H : (if t761 = true then ((shape_Open.f k a0 a2).bind fun bt762 => ((shape_Open.f k a0 a1).bind fun bt767 => ((sum_parts.f k a0 bt767.1 bt767.2.1 bt767.2.2.1 bt767.2.2.2 (!bt762.1) bt762.2.1 bt762.2.2.1 bt762.2.2.2).bind fun t771 => (some t771)))) else (some 0)) = some r := H
 have A4 := A_ A40;clear A40
 by_cases c5 : t761 = true
 ·subst c5
  have H1 : ((shape_Open.f k a0 a2).bind fun bt762 => ((shape_Open.f k a0 a1).bind fun bt767 => ((sum_parts.f k a0 bt767.1 bt767.2.1 bt767.2.2.1 bt767.2.2.2 (!bt762.1) bt762.2.1 bt762.2.2.1 bt762.2.2.2).bind fun t771 => (some t771)))) = some r := by rw [if_pos rfl] at H; exact H
  clear H;have H := H1;clear H1
  replace H := ob_ H
  obtain ⟨⟨t762, t763, t764, t765⟩, A60, H⟩ := H
  replace H : ((shape_Open.f k a0 a1).bind fun bt767 => ((sum_parts.f k a0 bt767.1 bt767.2.1 bt767.2.2.1 bt767.2.2.2 (!t762) t763 t764 t765).bind fun t771 => (some t771))) = some r := H
  have A6 := A_ A60;clear A60
  replace H := ob_ H
  obtain ⟨⟨t767, t768, t769, t770⟩, A70, H⟩ := H
  replace H : ((sum_parts.f k a0 t767 t768 t769 t770 (!t762) t763 t764 t765).bind fun t771 => (some t771)) = some r := H
  have A7 := A_ A70;clear A70
  replace H := ob_ H
  obtain ⟨t771, A80, H⟩ := H
  replace H : (some t771) = some r := H
  have A8 := A_ A80;clear A80
  obtain rfl := Option.some.inj H
  go_enter Try.func44, Try.ntmps44
  try go_wp2_with (first | ((with_reducible refine gate_callee (f := 55) rfl ?_); refine gl_ (some 9) Try.func55 #[.int .i64 a0] ?_; (with_reducible refine (sum_known.calls a0 true _ A4.out).mono ?_); rintro e w' ⟨rfl, ⟨nd, rfl⟩⟩; refine ⟨_, rfl, ?_⟩) | ((with_reducible refine gate_callee (f := 31) rfl ?_); refine gl_ (some 13) Try.func31 #[.int .i64 a0, .int .u64 a2] ?_; (with_reducible refine (shape_Open.calls k a0 a2 t762 t763 t764 t765 _ A6.out).mono ?_); rintro e w9 ⟨rfl, hb⟩; refine ⟨_, rfl, ?_⟩; replace HB := A_ (below_step (hb_ HB.out) hb); (try clear hb); (try clear hb2); (try clear hk); (try clear hi)) | ((with_reducible refine gate_dst (N := 7) rfl ?_); refine be_ 7 #[.bool false, .int .i64 0, .int .i64 0, .int .u64 0] 38 ?_; intro gb766 hg w10 hbox hb; have BK766 := A_ (hbox); have GW766 := A_ (sz_ hg (hb_ HB.out)); have GE766 := A_ (sz_ hg (hb_ HB.out)); replace HB := A_ (below_step (hb_ HB.out) hb); clear hb hbox hg; have hcz11_0 := bv_ BK766.out 0; have hcz11_1 := bv_ BK766.out 1; have hcz11_2 := bv_ BK766.out 2; have hcz11_3 := bv_ BK766.out 3; have hfz11_0 := blk_frozen BK766.out 0; have hfz11_1 := blk_frozen BK766.out 1; have hfz11_2 := blk_frozen BK766.out 2; have hfz11_3 := blk_frozen BK766.out 3))
  have n0_ : Aside0 ((((((w10.setCell ⟨gb766, 0, none⟩ (.bool t762)).setCell ⟨gb766, 1, none⟩ (.int .i64 t763)).setCell ⟨gb766, 2, none⟩ (.int .i64 t764)).setCell ⟨gb766, 3, none⟩ (.int .u64 t765)).setCell ⟨gb766, 0, none⟩ (.bool (!t762))).heap[gb766]? = some (.cells #[.bool (!t762), .int .i64 t763, .int .i64 t764, .int .u64 t765] 38 (0, 0))) := ⟨by (with_reducible repeat (first | refine blk_drewN ?_ _ | refine blk_drew ?_ | refine blk_alloc ?_ _)); refine blk_put (cs := #[.bool t762, .int .i64 t763, .int .i64 t764, .int .u64 t765]) ?_ 0 _ rfl; (with_reducible repeat (first | refine blk_drewN ?_ _ | refine blk_drew ?_ | refine blk_alloc ?_ _)); refine blk_put (cs := #[.bool t762, .int .i64 t763, .int .i64 t764, .int .u64 0]) ?_ 3 _ rfl; (with_reducible repeat (first | refine blk_drewN ?_ _ | refine blk_drew ?_ | refine blk_alloc ?_ _)); refine blk_put (cs := #[.bool t762, .int .i64 t763, .int .i64 0, .int .u64 0]) ?_ 2 _ rfl; (with_reducible repeat (first | refine blk_drewN ?_ _ | refine blk_drew ?_ | refine blk_alloc ?_ _)); refine blk_put (cs := #[.bool t762, .int .i64 0, .int .i64 0, .int .u64 0]) ?_ 1 _ rfl; (with_reducible repeat (first | refine blk_drewN ?_ _ | refine blk_drew ?_ | refine blk_alloc ?_ _)); refine blk_put (cs := #[.bool false, .int .i64 0, .int .i64 0, .int .u64 0]) ?_ 0 _ rfl; (with_reducible repeat (first | refine blk_drewN ?_ _ | refine blk_drew ?_ | refine blk_alloc ?_ _)); exact BK766.out⟩
  have n1_ : Aside0 (Below w.heap.size w (((((w10.setCell ⟨gb766, 0, none⟩ (.bool t762)).setCell ⟨gb766, 1, none⟩ (.int .i64 t763)).setCell ⟨gb766, 2, none⟩ (.int .i64 t764)).setCell ⟨gb766, 3, none⟩ (.int .u64 t765)).setCell ⟨gb766, 0, none⟩ (.bool (!t762)))) := ⟨hb1_ HB.out GE766.out⟩
  (try clear BK766);(try clear HB)
  generalize (((((w10.setCell ⟨gb766, 0, none⟩ (.bool t762)).setCell ⟨gb766, 1, none⟩ (.int .i64 t763)).setCell ⟨gb766, 2, none⟩ (.int .i64 t764)).setCell ⟨gb766, 3, none⟩ (.int .u64 t765)).setCell ⟨gb766, 0, none⟩ (.bool (!t762))) = w12 at n0_ n1_ ⊢
  have BK766 := n0_;have HB := n1_;clear n0_ n1_
  replace BK766 := A_ (blk_drew BK766.out)
  replace HB := A_ (below_drew1 HB.out)
  refine start_ (n := 7) (S := fun w' => w'.cell? ⟨gb766, 0, none⟩ = some (.bool (!t762)) ∧ w'.cell? ⟨gb766, 1, none⟩ = some (.int .i64 t763) ∧ w'.cell? ⟨gb766, 2, none⟩ = some (.int .i64 t764) ∧ w'.cell? ⟨gb766, 3, none⟩ = some (.int .u64 t765)) (ds := []) #[false, false, false, false, false, false, false] (by kernel_rfl) rfl rfl ⟨bc_ BK766.out 0, bc_ BK766.out 1, bc_ BK766.out 2, bc_ BK766.out 3⟩ (fun hHeld => ?_)
  generalize w12.drew = w13 at BK766 HB hHeld ⊢
  refine pu_ 0 (some 18) #[true, false, false, false, false, false, false] rfl rfl (by kernel_rfl) ?_
  refine pu_ 1 (some 19) #[true, true, false, false, false, false, false] rfl rfl (by kernel_rfl) ?_
  refine pu_ 2 (some 20) #[true, true, true, false, false, false, false] rfl rfl (by kernel_rfl) ?_
  refine tk4_ 4 (some 22) #[true, true, true, false, true, false, false] rfl rfl (by kernel_rfl) hHeld ?_
  refine one_ (i := 3) (N := some 21) #[true, true, true, true, true, false, false] rfl rfl (by kernel_rfl) (by decide) (fun K hK => ?_)
  refine goes_ Try.func31 (by kernel_rfl) rfl #[.int .i64 a0, .int .u64 a1] (by rfl) rfl rfl mp_ ?_
  with_reducible refine (shape_Open.calls k a0 a1 t767 t768 t769 t770 _ A7.out).mono ?_
  rintro e w14 ⟨rfl, hb⟩
  refine ⟨_, rfl, ?_⟩
  replace BK766 := A_ (bb_ BK766.out hb)
  replace HB := A_ (below_step (hb1_ HB.out GE766.out) hb);(try clear hb);(try clear hb2);(try clear hk);(try clear hi)
  refine hK.out _ _ ⟨bc_ BK766.out 0, bc_ BK766.out 1, bc_ BK766.out 2, bc_ BK766.out 3⟩ (fun hHeld => ?_)
  clear hK K
  refine norm_ (a' := ?_) ?_ ?_
  rotate_left
  ·show Act.put _ (some 21) _ = _
   simp only [Act.put, lI_, l0_, lS_, i64_w, i32_w]
   rfl
  refine one_ (i := 5) (N := some 23) #[true, true, true, true, true, true, false] rfl rfl (by kernel_rfl) (by decide) (fun K hK => ?_)
  refine goes_ Try.func56 (by kernel_rfl) rfl #[.int .i64 a0, .agg #[.bool t767, .int .i64 t768, .int .i64 t769, .int .u64 t770], .agg #[.bool (!t762), .int .i64 t763, .int .i64 t764, .int .u64 t765]] (by rfl) rfl rfl mp_ ?_
  with_reducible refine (sum_parts.calls k a0 t767 t768 t769 t770 (!t762) t763 t764 t765 t771 _ A8.out).mono ?_
  rintro e w15 ⟨rfl, hb⟩
  refine ⟨_, rfl, ?_⟩
  replace BK766 := A_ (bb_ BK766.out hb)
  replace HB := A_ (below_step (hb1_ HB.out GE766.out) hb);(try clear hb);(try clear hb2);(try clear hk);(try clear hi)
  refine hK.out _ _ ⟨bc_ BK766.out 0, bc_ BK766.out 1, bc_ BK766.out 2, bc_ BK766.out 3⟩ (fun hHeld => ?_)
  clear hK K
  refine norm_ (a' := ?_) ?_ ?_
  rotate_left
  ·show Act.put _ (some 23) _ = _
   simp only [Act.put, lI_, l0_, lS_, i64_w, i32_w]
   rfl
  refine pu_ 6 (some 6) #[true, true, true, true, true, true, true] rfl rfl (by kernel_rfl) ?_
  refine done_ (by kernel_rfl) ?_
  try go_wp2
  go_ret
  exact ⟨er_, hb1_ HB.out GE766.out⟩
 ·replace c5 := Bool.eq_false_iff.mpr c5
  subst c5
  have H1 : (some 0) = some r := by rw [if_neg (show ¬ (false = true) by decide)] at H; exact H
  clear H;have H := H1;clear H1
  obtain rfl := Option.some.inj H
  go_enter Try.func44, Try.ntmps44
  go_wp2_with (first | ((with_reducible refine gate_callee (f := 55) rfl ?_); refine gl_ (some 9) Try.func55 #[.int .i64 a0] ?_; (with_reducible refine (sum_known.calls a0 false _ A4.out).mono ?_); rintro e w' ⟨rfl, ⟨nd, rfl⟩⟩; refine ⟨_, rfl, ?_⟩))
  go_ret
  exact ⟨er_, hb_ HB.out⟩
def L04_awake.f (k : Nat)  : Option (Bool) := (sum_Add.f k 64 4607182418800017408 4368491638549381120).bind fun t772 => (if t772 = 4607182418800017408 then ((sum_Sub.f k 64 4607182418800017408 4607182418800017408).bind fun t773 => (if t773 = 0 then ((sum_Add.f k 32 1065353216 1065353216).bind fun t774 => (some (t774 == 1073741824))) else (some false))) else (some false))
theorem L04_awake.mono : ∀ k, LeO (L04_awake.f k ) (L04_awake.f (k + 1) ) := by
 intro  k
 unfold L04_awake.f
 repeat' first
   | (with_reducible exact sum_Add.mono _ _ _ _)
   | (with_reducible exact sum_Sub.mono _ _ _ _)
   | (with_reducible exact LeO.refl _)
   | (with_reducible exact LeO.none _)
   | (with_reducible refine LeO.ite ?_ ?_)
   | (with_reducible refine LeO.bind ?_ (fun _ => ?_))
   | exact sum_Add.mono _ _ _ _
   | exact sum_Sub.mono _ _ _ _
   | exact LeO.none _
   | refine LeO.ite ?_ ?_
   | refine LeO.bind ?_ (fun _ => ?_)
theorem L04_awake.calls (k : Nat)  (r : Bool) (w : World) (h : L04_awake.f k  = some r) :
  Calls Try.prog 43 #[] w fun e w' => e = .returned (.bool r) ∧ Below w.heap.size w w' := by
 have HB := A_ (Below.refl w.heap.size w)
 have H : ((sum_Add.f k 64 4607182418800017408 4368491638549381120).bind fun t772 => (if t772 = 4607182418800017408 then ((sum_Sub.f k 64 4607182418800017408 4607182418800017408).bind fun t773 => (if t773 = 0 then ((sum_Add.f k 32 1065353216 1065353216).bind fun t774 => (some (t774 == 1073741824))) else (some false))) else (some false))) = some r := h
 clear h
 replace H := ob_ H
 obtain ⟨t772, A10, H⟩ := H
 replace H : (if t772 = 4607182418800017408 then ((sum_Sub.f k 64 4607182418800017408 4607182418800017408).bind fun t773 => (if t773 = 0 then ((sum_Add.f k 32 1065353216 1065353216).bind fun t774 => (some (t774 == 1073741824))) else (some false))) else (some false)) = some r := H
 have A1 := A_ A10;clear A10
 by_cases c2 : t772 = 4607182418800017408
 ·rw [if_pos c2] at H
  have c2b0 : (t772 == 4607182418800017408) = true := beq_iff_eq.mpr c2
  have c2b1 : (t772 != 4607182418800017408) = false := bne_eq_false_iff_eq.mpr c2
  clear c2
  replace H := ob_ H
  obtain ⟨t773, A30, H⟩ := H
  replace H : (if t773 = 0 then ((sum_Add.f k 32 1065353216 1065353216).bind fun t774 => (some (t774 == 1073741824))) else (some false)) = some r := H
  have A3 := A_ A30;clear A30
  by_cases c4 : t773 = 0
  ·rw [if_pos c4] at H
   have c4b0 : (t773 == 0) = true := beq_iff_eq.mpr c4
   have c4b1 : (t773 != 0) = false := bne_eq_false_iff_eq.mpr c4
   clear c4
   replace H := ob_ H
   obtain ⟨t774, A50, H⟩ := H
   replace H : (some (t774 == 1073741824)) = some r := H
   have A5 := A_ A50;clear A50
   obtain rfl := Option.some.inj H
   go_enter Try.func43, Try.ntmps43
   go_wp2_with (first | ((with_reducible refine gate_callee (f := 20) rfl ?_); refine gl_ (some 3) Try.func20 #[.int .i64 64, .int .u64 4607182418800017408, .int .u64 4368491638549381120] ?_; (with_reducible refine (sum_Add.calls k 64 4607182418800017408 4368491638549381120 t772 _ A1.out).mono ?_); rintro e w6 ⟨rfl, hb⟩; refine ⟨_, rfl, ?_⟩; replace HB := A_ (below_step (hb_ HB.out) hb); (try clear hb); (try clear hb2); (try clear hk); (try clear hi)) | (go_at_call 44; (with_reducible refine (sum_Sub.calls k 64 4607182418800017408 4607182418800017408 t773 _ A3.out).mono ?_); rintro e w7 ⟨rfl, hb⟩; replace HB := A_ (below_step (hb_ HB.out) hb); (try clear hb); (try clear hb2); (try clear hk); (try clear hi)) | (go_at_call 20; (with_reducible refine (sum_Add.calls k 32 1065353216 1065353216 t774 _ A5.out).mono ?_); rintro e w8 ⟨rfl, hb⟩; replace HB := A_ (below_step (hb_ HB.out) hb); (try clear hb); (try clear hb2); (try clear hk); (try clear hi)))
   go_ret
   exact ⟨er_, hb_ HB.out⟩
  ·rw [if_neg c4] at H
   have c4b0 : (t773 == 0) = false := beq_eq_false_iff_ne.mpr c4
   have c4b1 : (t773 != 0) = true := bne_iff_ne.mpr c4
   obtain rfl := Option.some.inj H
   go_enter Try.func43, Try.ntmps43
   go_wp2_with (first | ((with_reducible refine gate_callee (f := 20) rfl ?_); refine gl_ (some 3) Try.func20 #[.int .i64 64, .int .u64 4607182418800017408, .int .u64 4368491638549381120] ?_; (with_reducible refine (sum_Add.calls k 64 4607182418800017408 4368491638549381120 t772 _ A1.out).mono ?_); rintro e w9 ⟨rfl, hb⟩; refine ⟨_, rfl, ?_⟩; replace HB := A_ (below_step (hb_ HB.out) hb); (try clear hb); (try clear hb2); (try clear hk); (try clear hi)) | (go_at_call 44; (with_reducible refine (sum_Sub.calls k 64 4607182418800017408 4607182418800017408 t773 _ A3.out).mono ?_); rintro e w10 ⟨rfl, hb⟩; replace HB := A_ (below_step (hb_ HB.out) hb); (try clear hb); (try clear hb2); (try clear hk); (try clear hi)))
   go_ret
   exact ⟨er_, hb_ HB.out⟩
 ·rw [if_neg c2] at H
  have c2b0 : (t772 == 4607182418800017408) = false := beq_eq_false_iff_ne.mpr c2
  have c2b1 : (t772 != 4607182418800017408) = true := bne_iff_ne.mpr c2
  obtain rfl := Option.some.inj H
  go_enter Try.func43, Try.ntmps43
  go_wp2_with (first | ((with_reducible refine gate_callee (f := 20) rfl ?_); refine gl_ (some 3) Try.func20 #[.int .i64 64, .int .u64 4607182418800017408, .int .u64 4368491638549381120] ?_; (with_reducible refine (sum_Add.calls k 64 4607182418800017408 4368491638549381120 t772 _ A1.out).mono ?_); rintro e w11 ⟨rfl, hb⟩; refine ⟨_, rfl, ?_⟩; replace HB := A_ (below_step (hb_ HB.out) hb); (try clear hb); (try clear hb2); (try clear hk); (try clear hi)))
  go_ret
  exact ⟨er_, hb_ HB.out⟩
def r2_B.f (a0 : Int) : Option (Int) := if a0 = 32 then (some 127) else (some 1023)
theorem r2_B.calls (a0 : Int) (r : Int) (w : World) (h : r2_B.f a0 = some r) :
  Calls Try.prog 18 #[.int .i64 a0] w fun e w' => e = .returned (.int .i64 r) ∧ Drawn0 w w' := by
 have H : (if a0 = 32 then (some 127) else (some 1023)) = some r := h
 clear h
 by_cases c2 : a0 = 32
 ·rw [if_pos c2] at H
  have c2b0 : (a0 == 32) = true := beq_iff_eq.mpr c2
  have c2b1 : (a0 != 32) = false := bne_eq_false_iff_eq.mpr c2
  clear c2
  obtain rfl := Option.some.inj H
  go_enter Try.func18, Try.ntmps18
  go_wp2
  go_ret
  exact ⟨sm_, by repeat (first | exact Drawn0.refl _ | apply Drawn0.step)⟩
 ·rw [if_neg c2] at H
  have c2b0 : (a0 == 32) = false := beq_eq_false_iff_ne.mpr c2
  have c2b1 : (a0 != 32) = true := bne_iff_ne.mpr c2
  obtain rfl := Option.some.inj H
  go_enter Try.func18, Try.ntmps18
  go_wp2
  go_ret
  exact ⟨sm_, by repeat (first | exact Drawn0.refl _ | apply Drawn0.step)⟩
def r2_E.f (a0 : Int) : Option (Int) := if a0 = 32 then (some 8) else (some 11)
theorem r2_E.calls (a0 : Int) (r : Int) (w : World) (h : r2_E.f a0 = some r) :
  Calls Try.prog 89 #[.int .i64 a0] w fun e w' => e = .returned (.int .i64 r) ∧ Drawn0 w w' := by
 have H : (if a0 = 32 then (some 8) else (some 11)) = some r := h
 clear h
 by_cases c2 : a0 = 32
 ·rw [if_pos c2] at H
  have c2b0 : (a0 == 32) = true := beq_iff_eq.mpr c2
  have c2b1 : (a0 != 32) = false := bne_eq_false_iff_eq.mpr c2
  clear c2
  obtain rfl := Option.some.inj H
  go_enter Try.func89, Try.ntmps89
  go_wp2
  go_ret
  exact ⟨sm_, by repeat (first | exact Drawn0.refl _ | apply Drawn0.step)⟩
 ·rw [if_neg c2] at H
  have c2b0 : (a0 == 32) = false := beq_eq_false_iff_ne.mpr c2
  have c2b1 : (a0 != 32) = true := bne_iff_ne.mpr c2
  obtain rfl := Option.some.inj H
  go_enter Try.func89, Try.ntmps89
  go_wp2
  go_ret
  exact ⟨sm_, by repeat (first | exact Drawn0.refl _ | apply Drawn0.step)⟩
def r2_F.f (a0 : Int) : Option (Int) := (r2_E.f a0).bind fun t234 => (some (wrap64 ((wrap64 (a0 - 1)) - t234)))
theorem r2_F.calls (a0 : Int) (r : Int) (w : World) (h : r2_F.f a0 = some r) :
  Calls Try.prog 52 #[.int .i64 a0] w fun e w' => e = .returned (.int .i64 r) ∧ Drawn0 w w' := by
 have H : ((r2_E.f a0).bind fun t234 => (some (wrap64 ((wrap64 (a0 - 1)) - t234)))) = some r := h
 clear h
 replace H := ob_ H
 obtain ⟨t234, A20, H⟩ := H
 replace H : (some (wrap64 ((wrap64 (a0 - 1)) - t234))) = some r := H
 have A2 := A_ A20;clear A20
 obtain rfl := Option.some.inj H
 go_enter Try.func52, Try.ntmps52
 go_wp2_with (first | ((with_reducible refine gate_callee (f := 89) rfl ?_); refine gl_ (some 6) Try.func89 #[.int .i64 a0] ?_; (with_reducible refine (r2_E.calls a0 t234 _ A2.out).mono ?_); rintro e w' ⟨rfl, ⟨nd, rfl⟩⟩; refine ⟨_, rfl, ?_⟩))
 go_ret
 exact ⟨sm_, by repeat (first | exact Drawn0.refl _ | apply Drawn0.step)⟩
def r2_Exp.f (k : Nat) (a0 : Int) (a1 : Int) : Option (Int) := (r2_Cut.f a0 a1).bind fun t322 => ((r2_F.f a0).bind fun t323 => ((r2_Two.f k t323).bind fun t324 => (if t324 = 0 then (none) else ((r2_E.f a0).bind fun t325 => ((r2_Two.f k t325).bind fun t326 => (if t326 = 0 then (none) else (some (wrap64 (Int.tmod (IntKind.u64.wrap (Int.tdiv t322 t324)) t326)))))))))
theorem r2_Exp.mono : ∀ a0 a1 k, LeO (r2_Exp.f k a0 a1) (r2_Exp.f (k + 1) a0 a1) := by
 intro a0 a1 k
 unfold r2_Exp.f
 repeat' first
   | (with_reducible exact r2_Two.mono _ _)
   | (with_reducible exact LeO.refl _)
   | (with_reducible exact LeO.none _)
   | (with_reducible refine LeO.ite ?_ ?_)
   | (with_reducible refine LeO.bind ?_ (fun _ => ?_))
   | exact r2_Two.mono _ _
   | exact LeO.none _
   | refine LeO.ite ?_ ?_
   | refine LeO.bind ?_ (fun _ => ?_)
theorem r2_Exp.calls (k : Nat) (a0 : Int) (a1 : Int) (r : Int) (w : World) (h : r2_Exp.f k a0 a1 = some r) :
  Calls Try.prog 85 #[.int .i64 a0, .int .u64 a1] w fun e w' => e = .returned (.int .i64 r) ∧ Drawn0 w w' := by
 have H : ((r2_Cut.f a0 a1).bind fun t322 => ((r2_F.f a0).bind fun t323 => ((r2_Two.f k t323).bind fun t324 => (if t324 = 0 then (none) else ((r2_E.f a0).bind fun t325 => ((r2_Two.f k t325).bind fun t326 => (if t326 = 0 then (none) else (some (wrap64 (Int.tmod (IntKind.u64.wrap (Int.tdiv t322 t324)) t326)))))))))) = some r := h
 clear h
 replace H := ob_ H
 obtain ⟨t322, A30, H⟩ := H
 replace H : ((r2_F.f a0).bind fun t323 => ((r2_Two.f k t323).bind fun t324 => (if t324 = 0 then (none) else ((r2_E.f a0).bind fun t325 => ((r2_Two.f k t325).bind fun t326 => (if t326 = 0 then (none) else (some (wrap64 (Int.tmod (IntKind.u64.wrap (Int.tdiv t322 t324)) t326))))))))) = some r := H
 have A3 := A_ A30;clear A30
 replace H := ob_ H
 obtain ⟨t323, A40, H⟩ := H
 replace H : ((r2_Two.f k t323).bind fun t324 => (if t324 = 0 then (none) else ((r2_E.f a0).bind fun t325 => ((r2_Two.f k t325).bind fun t326 => (if t326 = 0 then (none) else (some (wrap64 (Int.tmod (IntKind.u64.wrap (Int.tdiv t322 t324)) t326)))))))) = some r := H
 have A4 := A_ A40;clear A40
 replace H := ob_ H
 obtain ⟨t324, A50, H⟩ := H
 replace H : (if t324 = 0 then (none) else ((r2_E.f a0).bind fun t325 => ((r2_Two.f k t325).bind fun t326 => (if t326 = 0 then (none) else (some (wrap64 (Int.tmod (IntKind.u64.wrap (Int.tdiv t322 t324)) t326))))))) = some r := H
 have A5 := A_ A50;clear A50
 by_cases c6 : t324 = 0
 ·rw [if_pos c6] at H
  exact absurd H (by simp)
 ·rw [if_neg c6] at H
  have c6b0 : (t324 == 0) = false := beq_eq_false_iff_ne.mpr c6
  have c6b1 : (t324 != 0) = true := bne_iff_ne.mpr c6
  replace H := ob_ H
  obtain ⟨t325, A70, H⟩ := H
  replace H : ((r2_Two.f k t325).bind fun t326 => (if t326 = 0 then (none) else (some (wrap64 (Int.tmod (IntKind.u64.wrap (Int.tdiv t322 t324)) t326))))) = some r := H
  have A7 := A_ A70;clear A70
  replace H := ob_ H
  obtain ⟨t326, A80, H⟩ := H
  replace H : (if t326 = 0 then (none) else (some (wrap64 (Int.tmod (IntKind.u64.wrap (Int.tdiv t322 t324)) t326)))) = some r := H
  have A8 := A_ A80;clear A80
  by_cases c9 : t326 = 0
  ·rw [if_pos c9] at H
   exact absurd H (by simp)
  ·rw [if_neg c9] at H
   have c9b0 : (t326 == 0) = false := beq_eq_false_iff_ne.mpr c9
   have c9b1 : (t326 != 0) = true := bne_iff_ne.mpr c9
   obtain rfl := Option.some.inj H
   go_enter Try.func85, Try.ntmps85
   go_wp2_with (first | (go_at_call 49; (with_reducible refine (r2_Cut.calls a0 a1 t322 _ A3.out).mono ?_); rintro e w' ⟨rfl, ⟨nd, rfl⟩⟩; (try first | exact ⟨rfl, _, World.drewN_drewN _ _ _⟩ | exact ⟨rfl, _, Eq.trans (World.drewN_drewN _ _ _) (congrArg (World.drewN _) (Nat.add_assoc _ _ _))⟩)) | (go_at_call 52; (with_reducible refine (r2_F.calls a0 t323 _ A4.out).mono ?_); rintro e w' ⟨rfl, ⟨nd, rfl⟩⟩; (try first | exact ⟨rfl, _, World.drewN_drewN _ _ _⟩ | exact ⟨rfl, _, Eq.trans (World.drewN_drewN _ _ _) (congrArg (World.drewN _) (Nat.add_assoc _ _ _))⟩)) | (go_at_call 51; (with_reducible refine (r2_Two.calls k t323 t324 _ A5.out).mono ?_); rintro e w' ⟨rfl, ⟨nd, rfl⟩⟩; (try first | exact ⟨rfl, _, World.drewN_drewN _ _ _⟩ | exact ⟨rfl, _, Eq.trans (World.drewN_drewN _ _ _) (congrArg (World.drewN _) (Nat.add_assoc _ _ _))⟩)) | (go_at_call 89; (with_reducible refine (r2_E.calls a0 t325 _ A7.out).mono ?_); rintro e w' ⟨rfl, ⟨nd, rfl⟩⟩; (try first | exact ⟨rfl, _, World.drewN_drewN _ _ _⟩ | exact ⟨rfl, _, Eq.trans (World.drewN_drewN _ _ _) (congrArg (World.drewN _) (Nat.add_assoc _ _ _))⟩)) | (go_at_call 51; (with_reducible refine (r2_Two.calls k t325 t326 _ A8.out).mono ?_); rintro e w' ⟨rfl, ⟨nd, rfl⟩⟩; (try first | exact ⟨rfl, _, World.drewN_drewN _ _ _⟩ | exact ⟨rfl, _, Eq.trans (World.drewN_drewN _ _ _) (congrArg (World.drewN _) (Nat.add_assoc _ _ _))⟩)))
   repeat (go_quiet (first | (go_at_call 49; (with_reducible refine (r2_Cut.calls a0 a1 t322 _ A3.out).mono ?_); rintro e w' ⟨rfl, ⟨nd, rfl⟩⟩; (try first | exact ⟨rfl, _, World.drewN_drewN _ _ _⟩ | exact ⟨rfl, _, Eq.trans (World.drewN_drewN _ _ _) (congrArg (World.drewN _) (Nat.add_assoc _ _ _))⟩)) | (go_at_call 52; (with_reducible refine (r2_F.calls a0 t323 _ A4.out).mono ?_); rintro e w' ⟨rfl, ⟨nd, rfl⟩⟩; (try first | exact ⟨rfl, _, World.drewN_drewN _ _ _⟩ | exact ⟨rfl, _, Eq.trans (World.drewN_drewN _ _ _) (congrArg (World.drewN _) (Nat.add_assoc _ _ _))⟩)) | (go_at_call 51; (with_reducible refine (r2_Two.calls k t323 t324 _ A5.out).mono ?_); rintro e w' ⟨rfl, ⟨nd, rfl⟩⟩; (try first | exact ⟨rfl, _, World.drewN_drewN _ _ _⟩ | exact ⟨rfl, _, Eq.trans (World.drewN_drewN _ _ _) (congrArg (World.drewN _) (Nat.add_assoc _ _ _))⟩)) | (go_at_call 89; (with_reducible refine (r2_E.calls a0 t325 _ A7.out).mono ?_); rintro e w' ⟨rfl, ⟨nd, rfl⟩⟩; (try first | exact ⟨rfl, _, World.drewN_drewN _ _ _⟩ | exact ⟨rfl, _, Eq.trans (World.drewN_drewN _ _ _) (congrArg (World.drewN _) (Nat.add_assoc _ _ _))⟩)) | (go_at_call 51; (with_reducible refine (r2_Two.calls k t325 t326 _ A8.out).mono ?_); rintro e w' ⟨rfl, ⟨nd, rfl⟩⟩; (try first | exact ⟨rfl, _, World.drewN_drewN _ _ _⟩ | exact ⟨rfl, _, Eq.trans (World.drewN_drewN _ _ _) (congrArg (World.drewN _) (Nat.add_assoc _ _ _))⟩))); try go_wp2_with (first | (go_at_call 49; (with_reducible refine (r2_Cut.calls a0 a1 t322 _ A3.out).mono ?_); rintro e w' ⟨rfl, ⟨nd, rfl⟩⟩; (try first | exact ⟨rfl, _, World.drewN_drewN _ _ _⟩ | exact ⟨rfl, _, Eq.trans (World.drewN_drewN _ _ _) (congrArg (World.drewN _) (Nat.add_assoc _ _ _))⟩)) | (go_at_call 52; (with_reducible refine (r2_F.calls a0 t323 _ A4.out).mono ?_); rintro e w' ⟨rfl, ⟨nd, rfl⟩⟩; (try first | exact ⟨rfl, _, World.drewN_drewN _ _ _⟩ | exact ⟨rfl, _, Eq.trans (World.drewN_drewN _ _ _) (congrArg (World.drewN _) (Nat.add_assoc _ _ _))⟩)) | (go_at_call 51; (with_reducible refine (r2_Two.calls k t323 t324 _ A5.out).mono ?_); rintro e w' ⟨rfl, ⟨nd, rfl⟩⟩; (try first | exact ⟨rfl, _, World.drewN_drewN _ _ _⟩ | exact ⟨rfl, _, Eq.trans (World.drewN_drewN _ _ _) (congrArg (World.drewN _) (Nat.add_assoc _ _ _))⟩)) | (go_at_call 89; (with_reducible refine (r2_E.calls a0 t325 _ A7.out).mono ?_); rintro e w' ⟨rfl, ⟨nd, rfl⟩⟩; (try first | exact ⟨rfl, _, World.drewN_drewN _ _ _⟩ | exact ⟨rfl, _, Eq.trans (World.drewN_drewN _ _ _) (congrArg (World.drewN _) (Nat.add_assoc _ _ _))⟩)) | (go_at_call 51; (with_reducible refine (r2_Two.calls k t325 t326 _ A8.out).mono ?_); rintro e w' ⟨rfl, ⟨nd, rfl⟩⟩; (try first | exact ⟨rfl, _, World.drewN_drewN _ _ _⟩ | exact ⟨rfl, _, Eq.trans (World.drewN_drewN _ _ _) (congrArg (World.drewN _) (Nat.add_assoc _ _ _))⟩))))
   go_ret
   exact ⟨sm_, by repeat (first | exact Drawn0.refl _ | apply Drawn0.step)⟩
def r2_Frac.f (k : Nat) (a0 : Int) (a1 : Int) : Option (Int) := (r2_F.f a0).bind fun t327 => ((r2_Two.f k t327).bind fun t328 => (if t328 = 0 then (none) else (some (Int.tmod a1 t328))))
theorem r2_Frac.mono : ∀ a0 a1 k, LeO (r2_Frac.f k a0 a1) (r2_Frac.f (k + 1) a0 a1) := by
 intro a0 a1 k
 unfold r2_Frac.f
 repeat' first
   | (with_reducible exact r2_Two.mono _ _)
   | (with_reducible exact LeO.refl _)
   | (with_reducible exact LeO.none _)
   | (with_reducible refine LeO.ite ?_ ?_)
   | (with_reducible refine LeO.bind ?_ (fun _ => ?_))
   | exact r2_Two.mono _ _
   | exact LeO.none _
   | refine LeO.ite ?_ ?_
   | refine LeO.bind ?_ (fun _ => ?_)
theorem r2_Frac.calls (k : Nat) (a0 : Int) (a1 : Int) (r : Int) (w : World) (h : r2_Frac.f k a0 a1 = some r) :
  Calls Try.prog 86 #[.int .i64 a0, .int .u64 a1] w fun e w' => e = .returned (.int .u64 r) ∧ Drawn0 w w' := by
 have H : ((r2_F.f a0).bind fun t327 => ((r2_Two.f k t327).bind fun t328 => (if t328 = 0 then (none) else (some (Int.tmod a1 t328))))) = some r := h
 clear h
 replace H := ob_ H
 obtain ⟨t327, A30, H⟩ := H
 replace H : ((r2_Two.f k t327).bind fun t328 => (if t328 = 0 then (none) else (some (Int.tmod a1 t328)))) = some r := H
 have A3 := A_ A30;clear A30
 replace H := ob_ H
 obtain ⟨t328, A40, H⟩ := H
 replace H : (if t328 = 0 then (none) else (some (Int.tmod a1 t328))) = some r := H
 have A4 := A_ A40;clear A40
 by_cases c5 : t328 = 0
 ·rw [if_pos c5] at H
  exact absurd H (by simp)
 ·rw [if_neg c5] at H
  have c5b0 : (t328 == 0) = false := beq_eq_false_iff_ne.mpr c5
  have c5b1 : (t328 != 0) = true := bne_iff_ne.mpr c5
  obtain rfl := Option.some.inj H
  go_enter Try.func86, Try.ntmps86
  go_wp2_with (first | ((with_reducible refine gate_callee (f := 52) rfl ?_); refine gl_ (some 7) Try.func52 #[.int .i64 a0] ?_; (with_reducible refine (r2_F.calls a0 t327 _ A3.out).mono ?_); rintro e w' ⟨rfl, ⟨nd, rfl⟩⟩; refine ⟨_, rfl, ?_⟩) | ((with_reducible refine gate_callee (f := 51) rfl ?_); refine gl_ (some 8) Try.func51 #[.int .i64 t327] ?_; (with_reducible refine (r2_Two.calls k t327 t328 _ A4.out).mono ?_); rintro e w' ⟨rfl, ⟨nd, rfl⟩⟩; refine ⟨_, rfl, ?_⟩))
  go_ret
  exact ⟨sm_, by repeat (first | exact Drawn0.refl _ | apply Drawn0.step)⟩
def r2_Top.f (k : Nat) (a0 : Int) : Option (Int) := (r2_E.f a0).bind fun t331 => ((r2_Two.f k t331).bind fun t332 => (some (wrap64 ((wrap64 (t332)) - 1))))
theorem r2_Top.mono : ∀ a0 k, LeO (r2_Top.f k a0) (r2_Top.f (k + 1) a0) := by
 intro a0 k
 unfold r2_Top.f
 repeat' first
   | (with_reducible exact r2_Two.mono _ _)
   | (with_reducible exact LeO.refl _)
   | (with_reducible exact LeO.none _)
   | (with_reducible refine LeO.ite ?_ ?_)
   | (with_reducible refine LeO.bind ?_ (fun _ => ?_))
   | exact r2_Two.mono _ _
   | exact LeO.none _
   | refine LeO.ite ?_ ?_
   | refine LeO.bind ?_ (fun _ => ?_)
theorem r2_Top.calls (k : Nat) (a0 : Int) (r : Int) (w : World) (h : r2_Top.f k a0 = some r) :
  Calls Try.prog 88 #[.int .i64 a0] w fun e w' => e = .returned (.int .i64 r) ∧ Drawn0 w w' := by
 have H : ((r2_E.f a0).bind fun t331 => ((r2_Two.f k t331).bind fun t332 => (some (wrap64 ((wrap64 (t332)) - 1))))) = some r := h
 clear h
 replace H := ob_ H
 obtain ⟨t331, A20, H⟩ := H
 replace H : ((r2_Two.f k t331).bind fun t332 => (some (wrap64 ((wrap64 (t332)) - 1)))) = some r := H
 have A2 := A_ A20;clear A20
 replace H := ob_ H
 obtain ⟨t332, A30, H⟩ := H
 replace H : (some (wrap64 ((wrap64 (t332)) - 1))) = some r := H
 have A3 := A_ A30;clear A30
 obtain rfl := Option.some.inj H
 go_enter Try.func88, Try.ntmps88
 go_wp2_with (first | ((with_reducible refine gate_callee (f := 89) rfl ?_); refine gl_ (some 4) Try.func89 #[.int .i64 a0] ?_; (with_reducible refine (r2_E.calls a0 t331 _ A2.out).mono ?_); rintro e w' ⟨rfl, ⟨nd, rfl⟩⟩; refine ⟨_, rfl, ?_⟩) | ((with_reducible refine gate_callee (f := 51) rfl ?_); refine gl_ (some 5) Try.func51 #[.int .i64 t331] ?_; (with_reducible refine (r2_Two.calls k t331 t332 _ A3.out).mono ?_); rintro e w' ⟨rfl, ⟨nd, rfl⟩⟩; refine ⟨_, rfl, ?_⟩))
 go_ret
 exact ⟨sm_, by repeat (first | exact Drawn0.refl _ | apply Drawn0.step)⟩
end Go.Proofs.Ytbpmnmceajmmcaa.PA
