/- What the Go functions that the statement WholeHalf reaches compute, and the mathematics on it, in the order in which one leans on the other; for every input. -/
import Derived.Test.YthdeeoallfbjmaaVWholeHalf1
import Derived.Test.YthdeeoallfbjmaaMWholeHalf0
import Derived.Test.YthdeeoallfbjmaaMWholeHalf6
import Derived.Test.YthdeeoallfbjmaaMWholeHalf2
import Derived.Test.YthdeeoallfbjmaaMWholeHalf1
import Derived.Test.YthdeeoallfbjmaaMWholeHalf7
import Derived.Test.YthdeeoallfbjmaaMWholeHalf3
namespace Go.Proofs.Ythdeeoallfbjmaa.PA
open Go.RowKit Go.Proofs.YthdeeoallfbjmaaW.PrintWords Go.Proofs.YthdeeoallfbjmaaW.PrintLast Go.Proofs.YthdeeoallfbjmaaW.PrintMore
attribute [local go_sem] max2_int min2_int max_two min_two max_three min_three max_four min_four   -- for this text's walks alone
set_option linter.unusedVariables false
set_option linter.unusedSimpArgs false
set_option maxHeartbeats 8000000
set_option maxRecDepth 100000
mutual
def sum_parts.j0 : Nat → Int → Bool → Bool → Int → Int → Int → Bool → Int → Int → Int → Option (Int)
 | 0, _, _, _, _, _, _, _, _, _, _ => none
 | k + 1, x0, x7, x629000, x629001, x629002, x629003, x630000, x630001, x630002, x630003 => if x7 = true then ((shape_Nan.f x0).bind fun t630 => (some t630)) else (if x629001 = 2 then (sum_parts.j1 k x0 true x629000 x629001 x629002 x629003 x630000 x630001 x630002 x630003) else (sum_parts.j1 k x0 (x630001 == 2) x629000 x629001 x629002 x629003 x630000 x630001 x630002 x630003))
def sum_parts.j1 : Nat → Int → Bool → Bool → Int → Int → Int → Bool → Int → Int → Int → Option (Int)
 | 0, _, _, _, _, _, _, _, _, _, _ => none
 | k + 1, x0, x18, x629000, x629001, x629002, x629003, x630000, x630001, x630002, x630003 => if x18 = true then ((sum_infinite.f k x0 x629000 x629001 x629002 x629003 x630000 x630001 x630002 x630003).bind fun t631 => (some t631)) else (if x629001 = 0 then (sum_parts.j2 k x0 (x630001 == 0) x629000 x629001 x629002 x629003 x630000 x630001 x630002 x630003) else (sum_parts.j2 k x0 false x629000 x629001 x629002 x629003 x630000 x630001 x630002 x630003))
def sum_parts.j2 : Nat → Int → Bool → Bool → Int → Int → Int → Bool → Int → Int → Int → Option (Int)
 | 0, _, _, _, _, _, _, _, _, _, _ => none
 | k + 1, x0, x31, x629000, x629001, x629002, x629003, x630000, x630001, x630002, x630003 => if x31 = true then (if x629000 = true then ((shape_Zero.f x0 x630000).bind fun t632 => (some t632)) else ((shape_Zero.f x0 false).bind fun t633 => (some t633))) else (if x629001 = 0 then ((round_Narrow.f x0 x630000 x630001 x630002 x630003).bind fun t634 => (some t634)) else (if x630001 = 0 then ((round_Narrow.f x0 x629000 x629001 x629002 x629003).bind fun t635 => (some t635)) else ((sum_finite.f k x0 x629000 x629001 x629002 x629003 x630000 x630001 x630002 x630003).bind fun t636 => (some t636))))
end
def sum_parts.f (k : Nat) (a0 : Int) (a1_0 : Bool) (a1_1 : Int) (a1_2 : Int) (a1_3 : Int) (a2_0 : Bool) (a2_1 : Int) (a2_2 : Int) (a2_3 : Int) : Option (Int) := if a1_1 = 3 then (sum_parts.j0 k a0 true a1_0 a1_1 a1_2 a1_3 a2_0 a2_1 a2_2 a2_3) else (sum_parts.j0 k a0 (a2_1 == 3) a1_0 a1_1 a1_2 a1_3 a2_0 a2_1 a2_2 a2_3)
theorem sum_parts.mono_l : ∀ k, (∀ y0 y1 y2 y3 y4 y5 y6 y7 y8 y9, LeO (sum_parts.j0 k y0 y1 y2 y3 y4 y5 y6 y7 y8 y9) (sum_parts.j0 (k + 1) y0 y1 y2 y3 y4 y5 y6 y7 y8 y9)) ∧ (∀ y0 y1 y2 y3 y4 y5 y6 y7 y8 y9, LeO (sum_parts.j1 k y0 y1 y2 y3 y4 y5 y6 y7 y8 y9) (sum_parts.j1 (k + 1) y0 y1 y2 y3 y4 y5 y6 y7 y8 y9)) ∧ (∀ y0 y1 y2 y3 y4 y5 y6 y7 y8 y9, LeO (sum_parts.j2 k y0 y1 y2 y3 y4 y5 y6 y7 y8 y9) (sum_parts.j2 (k + 1) y0 y1 y2 y3 y4 y5 y6 y7 y8 y9))
 | 0 => ⟨fun _ _ _ _ _ _ _ _ _ _ r h => by simp [sum_parts.j0] at h, fun _ _ _ _ _ _ _ _ _ _ r h => by simp [sum_parts.j1] at h, fun _ _ _ _ _ _ _ _ _ _ r h => by simp [sum_parts.j2] at h⟩
 | k + 1 => by
  obtain ⟨ih0, ih1, ih2⟩ := sum_parts.mono_l k
  refine ⟨?_, ?_, ?_⟩
  ·intro y0 y1 y2 y3 y4 y5 y6 y7 y8 y9
   unfold sum_parts.j0
   repeat' first
   | (with_reducible exact ih0 _ _ _ _ _ _ _ _ _ _)
   | (with_reducible exact ih1 _ _ _ _ _ _ _ _ _ _)
   | (with_reducible exact ih2 _ _ _ _ _ _ _ _ _ _)
   | (with_reducible exact sum_finite.mono _ _ _ _ _ _ _ _ _ _)
   | (with_reducible exact sum_infinite.mono _ _ _ _ _ _ _ _ _ _)
   | (with_reducible exact LeO.refl _)
   | (with_reducible exact LeO.none _)
   | (with_reducible refine LeO.ite ?_ ?_)
   | (with_reducible refine LeO.bind ?_ (fun _ => ?_))
   | exact ih0 _ _ _ _ _ _ _ _ _ _
   | exact ih1 _ _ _ _ _ _ _ _ _ _
   | exact ih2 _ _ _ _ _ _ _ _ _ _
   | exact sum_finite.mono _ _ _ _ _ _ _ _ _ _
   | exact sum_infinite.mono _ _ _ _ _ _ _ _ _ _
   | exact LeO.none _
   | refine LeO.ite ?_ ?_
   | refine LeO.bind ?_ (fun _ => ?_)
  ·intro y0 y1 y2 y3 y4 y5 y6 y7 y8 y9
   unfold sum_parts.j1
   repeat' first
   | (with_reducible exact ih0 _ _ _ _ _ _ _ _ _ _)
   | (with_reducible exact ih1 _ _ _ _ _ _ _ _ _ _)
   | (with_reducible exact ih2 _ _ _ _ _ _ _ _ _ _)
   | (with_reducible exact sum_finite.mono _ _ _ _ _ _ _ _ _ _)
   | (with_reducible exact sum_infinite.mono _ _ _ _ _ _ _ _ _ _)
   | (with_reducible exact LeO.refl _)
   | (with_reducible exact LeO.none _)
   | (with_reducible refine LeO.ite ?_ ?_)
   | (with_reducible refine LeO.bind ?_ (fun _ => ?_))
   | exact ih0 _ _ _ _ _ _ _ _ _ _
   | exact ih1 _ _ _ _ _ _ _ _ _ _
   | exact ih2 _ _ _ _ _ _ _ _ _ _
   | exact sum_finite.mono _ _ _ _ _ _ _ _ _ _
   | exact sum_infinite.mono _ _ _ _ _ _ _ _ _ _
   | exact LeO.none _
   | refine LeO.ite ?_ ?_
   | refine LeO.bind ?_ (fun _ => ?_)
  ·intro y0 y1 y2 y3 y4 y5 y6 y7 y8 y9
   unfold sum_parts.j2
   repeat' first
   | (with_reducible exact ih0 _ _ _ _ _ _ _ _ _ _)
   | (with_reducible exact ih1 _ _ _ _ _ _ _ _ _ _)
   | (with_reducible exact ih2 _ _ _ _ _ _ _ _ _ _)
   | (with_reducible exact sum_finite.mono _ _ _ _ _ _ _ _ _ _)
   | (with_reducible exact sum_infinite.mono _ _ _ _ _ _ _ _ _ _)
   | (with_reducible exact LeO.refl _)
   | (with_reducible exact LeO.none _)
   | (with_reducible refine LeO.ite ?_ ?_)
   | (with_reducible refine LeO.bind ?_ (fun _ => ?_))
   | exact ih0 _ _ _ _ _ _ _ _ _ _
   | exact ih1 _ _ _ _ _ _ _ _ _ _
   | exact ih2 _ _ _ _ _ _ _ _ _ _
   | exact sum_finite.mono _ _ _ _ _ _ _ _ _ _
   | exact sum_infinite.mono _ _ _ _ _ _ _ _ _ _
   | exact LeO.none _
   | refine LeO.ite ?_ ?_
   | refine LeO.bind ?_ (fun _ => ?_)
theorem sum_parts.mono : ∀ a0 a1 a2 a3 a4 a5 a6 a7 a8 k, LeO (sum_parts.f k a0 a1 a2 a3 a4 a5 a6 a7 a8) (sum_parts.f (k + 1) a0 a1 a2 a3 a4 a5 a6 a7 a8) := by
 intro a0 a1 a2 a3 a4 a5 a6 a7 a8 k
 obtain ⟨ih0, ih1, ih2⟩ := sum_parts.mono_l k
 unfold sum_parts.f
 repeat' first
   | (with_reducible exact ih0 _ _ _ _ _ _ _ _ _ _)
   | (with_reducible exact ih1 _ _ _ _ _ _ _ _ _ _)
   | (with_reducible exact ih2 _ _ _ _ _ _ _ _ _ _)
   | (with_reducible exact sum_finite.mono _ _ _ _ _ _ _ _ _ _)
   | (with_reducible exact sum_infinite.mono _ _ _ _ _ _ _ _ _ _)
   | (with_reducible exact LeO.refl _)
   | (with_reducible exact LeO.none _)
   | (with_reducible refine LeO.ite ?_ ?_)
   | (with_reducible refine LeO.bind ?_ (fun _ => ?_))
   | exact ih0 _ _ _ _ _ _ _ _ _ _
   | exact ih1 _ _ _ _ _ _ _ _ _ _
   | exact ih2 _ _ _ _ _ _ _ _ _ _
   | exact sum_finite.mono _ _ _ _ _ _ _ _ _ _
   | exact sum_infinite.mono _ _ _ _ _ _ _ _ _ _
   | exact LeO.none _
   | refine LeO.ite ?_ ?_
   | refine LeO.bind ?_ (fun _ => ?_)
theorem sum_parts.calls (k : Nat) (a0 : Int) (a1_0 : Bool) (a1_1 : Int) (a1_2 : Int) (a1_3 : Int) (a2_0 : Bool) (a2_1 : Int) (a2_2 : Int) (a2_3 : Int) (r : Int) (w : World) (h : sum_parts.f k a0 a1_0 a1_1 a1_2 a1_3 a2_0 a2_1 a2_2 a2_3 = some r) :
  Calls Try.prog 55 #[.int .i64 a0, .agg #[.bool a1_0, .int .i64 a1_1, .int .i64 a1_2, .int .u64 a1_3], .agg #[.bool a2_0, .int .i64 a2_1, .int .i64 a2_2, .int .u64 a2_3]] w fun e w' => e = .returned (.int .u64 r) ∧ Below w.heap.size w w' := by
 have hu36 := Try.underlying36
 have HB := A_ (Below.refl w.heap.size w)
 have H : (if a1_1 = 3 then (sum_parts.j0 k a0 true a1_0 a1_1 a1_2 a1_3 a2_0 a2_1 a2_2 a2_3) else (sum_parts.j0 k a0 (a2_1 == 3) a1_0 a1_1 a1_2 a1_3 a2_0 a2_1 a2_2 a2_3)) = some r := h
 clear h;have HC4 := A_ H;clear H
 go_enter Try.func55, Try.ntmps55
 go_upto_region 1 with (first | ((with_reducible refine gate_dst (N := 4) rfl ?_); refine be_ 4 #[.bool a1_0, .int .i64 a1_1, .int .i64 a1_2, .int .u64 a1_3] 36 ?_; intro gb628 hg w5 hbox hb; have BK628 := A_ (hbox); have GW628 := A_ (sz_ hg (hb_ HB.out)); have GE628 := A_ (sz_ hg (hb_ HB.out)); replace HB := A_ (below_step (hb_ HB.out) hb); clear hb hbox hg) | ((with_reducible refine gate_dst (N := 5) rfl ?_); refine be_ 5 #[.bool a2_0, .int .i64 a2_1, .int .i64 a2_2, .int .u64 a2_3] 36 ?_; intro gb629 hg w6 hbox hb; have BK629 := A_ (hbox); have GW629 := A_ (sz_ hg (hb1_ HB.out GE628.out)); have GE629 := A_ (sz_ hg (hb1_ HB.out GE628.out)); have NB628_629 := A_ (nl_ hg BK628.out); have NB629_628 := A_ (ng_ hg BK628.out); replace BK628 := A_ (bb_ BK628.out hb); replace HB := A_ (below_step (hb1_ HB.out GE628.out) hb); clear hb hbox hg))
 (try simp only [Act.put, lI_, l0_, lS_])
 go_cut [7] (fun v7 wc => ∃ (kq : Nat) (x7_3 : Bool), v7 = .bool x7_3 ∧ Aside0 (sum_parts.j0 kq a0 x7_3 a1_0 a1_1 a1_2 a1_3 a2_0 a2_1 a2_2 a2_3 = some r) ∧ Aside0 (kq ≤ k) ∧ Aside0 (wc.heap[gb628]? = some (.cells #[.bool a1_0, .int .i64 a1_1, .int .i64 a1_2, .int .u64 a1_3] 36 (0, 0))) ∧ Aside0 (wc.heap[gb629]? = some (.cells #[.bool a2_0, .int .i64 a2_1, .int .i64 a2_2, .int .u64 a2_3] 36 (0, 0))) ∧ Aside0 (Below w.heap.size w wc))
 case first =>
  have H := HC4.out
  clear HC4
  by_cases c7 : a1_1 = 3
  ·rw [if_pos c7] at H
   have c7b0 : (a1_1 == 3) = true := beq_iff_eq.mpr c7
   have c7b1 : (a1_1 != 3) = false := bne_eq_false_iff_eq.mpr c7
   clear c7
   (first | rw [c7b0] | (simp only [i64_w, i32_w]; rw [c7b0]) | skip)
   have H' := A_ H
   clear H
   have hnb8 := NB628_629.out
   have hnc8 := NB629_628.out
   have hcz9_0 := bv_ BK628.out 0
   have hcz9_1 := bv_ BK628.out 1
   have hcz9_2 := bv_ BK628.out 2
   have hcz9_3 := bv_ BK628.out 3
   have hfz9_0 := blk_frozen BK628.out 0
   have hfz9_1 := blk_frozen BK628.out 1
   have hfz9_2 := blk_frozen BK628.out 2
   have hfz9_3 := blk_frozen BK628.out 3
   go_wp2
   go_meet
   case rel => exact ⟨_, (true), sm_, H', ⟨by first | omega | exact Nat.le_refl _⟩, ⟨bk_ BK628.out⟩, ⟨bk_ BK629.out⟩, ⟨hb2_ HB.out GE628.out GE629.out⟩⟩
  ·rw [if_neg c7] at H
   have c7b0 : (a1_1 == 3) = false := beq_eq_false_iff_ne.mpr c7
   have c7b1 : (a1_1 != 3) = true := bne_iff_ne.mpr c7
   (first | rw [c7b0] | (simp only [i64_w, i32_w]; rw [c7b0]) | skip)
   have H' := A_ H
   clear H
   have hnb10 := NB628_629.out
   have hnc10 := NB629_628.out
   have hcz11_0 := bv_ BK628.out 0
   have hcz11_1 := bv_ BK628.out 1
   have hcz11_2 := bv_ BK628.out 2
   have hcz11_3 := bv_ BK628.out 3
   have hfz11_0 := blk_frozen BK628.out 0
   have hfz11_1 := blk_frozen BK628.out 1
   have hfz11_2 := blk_frozen BK628.out 2
   have hfz11_3 := blk_frozen BK628.out 3
   have hcz12_0 := bv_ BK629.out 0
   have hcz12_1 := bv_ BK629.out 1
   have hcz12_2 := bv_ BK629.out 2
   have hcz12_3 := bv_ BK629.out 3
   have hfz12_0 := blk_frozen BK629.out 0
   have hfz12_1 := blk_frozen BK629.out 1
   have hfz12_2 := blk_frozen BK629.out 2
   have hfz12_3 := blk_frozen BK629.out 3
   go_wp2
   go_meet
   case rel => exact ⟨_, ((a2_1 == 3)), sm_, H', ⟨by first | omega | exact Nat.le_refl _⟩, ⟨bk_ BK628.out⟩, ⟨bk_ BK629.out⟩, ⟨hb2_ HB.out GE628.out GE629.out⟩⟩
 case rest =>
  clear HC4
  try clear c1
  try clear p2
  try clear c5
  try clear c7
  try clear c7b0
  try clear c7b1
  try clear c8
  try clear c10
  try clear hcz11_0
  try clear hcz11_1
  try clear hcz11_2
  try clear hcz11_3
  try clear hcz12_0
  try clear hcz12_1
  try clear hcz12_2
  try clear hcz12_3
  try clear hcz9_0
  try clear hcz9_1
  try clear hcz9_2
  try clear hcz9_3
  try clear hfz11_0
  try clear hfz11_1
  try clear hfz11_2
  try clear hfz11_3
  try clear hfz12_0
  try clear hfz12_1
  try clear hfz12_2
  try clear hfz12_3
  try clear hfz9_0
  try clear hfz9_1
  try clear hfz9_2
  try clear hfz9_3
  obtain ⟨kq, x7_3, rfl, HA, HJ3, BK628, BK629, HB⟩ := hcut
  cases kq with
  | zero => exact absurd HA.out (by simp [sum_parts.j0])
  | succ kj3 =>
   have H := HA.out
   clear HA
   simp only [sum_parts.j0] at H
   by_cases c13 : x7_3 = true
   ·subst c13
    have H1 : ((shape_Nan.f a0).bind fun t630 => (some t630)) = some r := by rw [if_pos rfl] at H; exact H
    clear H;have H := H1;clear H1
    replace H := ob_ H
    obtain ⟨t630, A140, H⟩ := H
    replace H : (some t630) = some r := H
    have A14 := A_ A140;clear A140
    obtain rfl := Option.some.inj H
    go_wp2_with (first | ((with_reducible refine gate_callee (f := 17) rfl ?_); refine gl_ (some 17) Try.func17 #[.int .i64 a0] ?_; (with_reducible refine (shape_Nan.calls a0 t630 _ A14.out).mono ?_); rintro e w15 ⟨rfl, hb⟩; refine ⟨_, rfl, ?_⟩; replace BK628 := A_ (bb_ BK628.out hb); replace BK629 := A_ (bb_ BK629.out hb); replace HB := A_ (below_step (hb2_ HB.out GE628.out GE629.out) hb); (try clear hb); (try clear hb2); (try clear hk); (try clear hi)))
    go_ret
    exact ⟨er_, hb2_ HB.out GE628.out GE629.out⟩
   ·replace c13 := Bool.eq_false_iff.mpr c13
    subst c13
    have H1 : (if a1_1 = 2 then (sum_parts.j1 kj3 a0 true a1_0 a1_1 a1_2 a1_3 a2_0 a2_1 a2_2 a2_3) else (sum_parts.j1 kj3 a0 (a2_1 == 2) a1_0 a1_1 a1_2 a1_3 a2_0 a2_1 a2_2 a2_3)) = some r := by rw [if_neg (show ¬ (false = true) by decide)] at H; exact H
    clear H;have H := H1;clear H1;have HC16 := A_ H;clear H
    go_upto_region 3 with (fail)
    go_cut [18] (fun v18 wc => ∃ (kq : Nat) (x18_15 : Bool), v18 = .bool x18_15 ∧ Aside0 (sum_parts.j1 kq a0 x18_15 a1_0 a1_1 a1_2 a1_3 a2_0 a2_1 a2_2 a2_3 = some r) ∧ Aside0 (kq ≤ kj3) ∧ Aside0 (wc.heap[gb628]? = some (.cells #[.bool a1_0, .int .i64 a1_1, .int .i64 a1_2, .int .u64 a1_3] 36 (0, 0))) ∧ Aside0 (wc.heap[gb629]? = some (.cells #[.bool a2_0, .int .i64 a2_1, .int .i64 a2_2, .int .u64 a2_3] 36 (0, 0))) ∧ Aside0 (Below w.heap.size w wc))
    case first =>
     have H := HC16.out
     clear HC16
     by_cases c17 : a1_1 = 2
     ·rw [if_pos c17] at H
      have c17b0 : (a1_1 == 2) = true := beq_iff_eq.mpr c17
      have c17b1 : (a1_1 != 2) = false := bne_eq_false_iff_eq.mpr c17
      clear c17
      (first | rw [c17b0] | (simp only [i64_w, i32_w]; rw [c17b0]) | skip)
      have H' := A_ H
      clear H
      have hnb18 := NB628_629.out
      have hnc18 := NB629_628.out
      have hcz19_0 := bv_ BK628.out 0
      have hcz19_1 := bv_ BK628.out 1
      have hcz19_2 := bv_ BK628.out 2
      have hcz19_3 := bv_ BK628.out 3
      have hfz19_0 := blk_frozen BK628.out 0
      have hfz19_1 := blk_frozen BK628.out 1
      have hfz19_2 := blk_frozen BK628.out 2
      have hfz19_3 := blk_frozen BK628.out 3
      go_wp2
      go_meet
      case rel => exact ⟨_, (true), sm_, H', ⟨by have := HJ3.out; first | omega | exact Nat.le_refl _⟩, ⟨bk_ BK628.out⟩, ⟨bk_ BK629.out⟩, ⟨hb2_ HB.out GE628.out GE629.out⟩⟩
     ·rw [if_neg c17] at H
      have c17b0 : (a1_1 == 2) = false := beq_eq_false_iff_ne.mpr c17
      have c17b1 : (a1_1 != 2) = true := bne_iff_ne.mpr c17
      (first | rw [c17b0] | (simp only [i64_w, i32_w]; rw [c17b0]) | skip)
      have H' := A_ H
      clear H
      have hnb20 := NB628_629.out
      have hnc20 := NB629_628.out
      have hcz21_0 := bv_ BK628.out 0
      have hcz21_1 := bv_ BK628.out 1
      have hcz21_2 := bv_ BK628.out 2
      have hcz21_3 := bv_ BK628.out 3
      have hfz21_0 := blk_frozen BK628.out 0
      have hfz21_1 := blk_frozen BK628.out 1
      have hfz21_2 := blk_frozen BK628.out 2
      have hfz21_3 := blk_frozen BK628.out 3
      have hcz22_0 := bv_ BK629.out 0
      have hcz22_1 := bv_ BK629.out 1
      have hcz22_2 := bv_ BK629.out 2
      have hcz22_3 := bv_ BK629.out 3
      have hfz22_0 := blk_frozen BK629.out 0
      have hfz22_1 := blk_frozen BK629.out 1
      have hfz22_2 := blk_frozen BK629.out 2
      have hfz22_3 := blk_frozen BK629.out 3
      go_wp2
      go_meet
      case rel => exact ⟨_, ((a2_1 == 2)), sm_, H', ⟨by have := HJ3.out; first | omega | exact Nat.le_refl _⟩, ⟨bk_ BK628.out⟩, ⟨bk_ BK629.out⟩, ⟨hb2_ HB.out GE628.out GE629.out⟩⟩
    case rest =>
     clear HC16
     try clear c1
     try clear c2
     try clear p2
     try clear c5
     try clear c7
     try clear c7b0
     try clear c7b1
     try clear c8
     try clear c10
     try clear c13
     try clear c17
     try clear c17b0
     try clear c17b1
     try clear c18
     try clear c20
     try clear hcz11_0
     try clear hcz11_1
     try clear hcz11_2
     try clear hcz11_3
     try clear hcz12_0
     try clear hcz12_1
     try clear hcz12_2
     try clear hcz12_3
     try clear hcz19_0
     try clear hcz19_1
     try clear hcz19_2
     try clear hcz19_3
     try clear hcz21_0
     try clear hcz21_1
     try clear hcz21_2
     try clear hcz21_3
     try clear hcz22_0
     try clear hcz22_1
     try clear hcz22_2
     try clear hcz22_3
     try clear hcz9_0
     try clear hcz9_1
     try clear hcz9_2
     try clear hcz9_3
     try clear hfz11_0
     try clear hfz11_1
     try clear hfz11_2
     try clear hfz11_3
     try clear hfz12_0
     try clear hfz12_1
     try clear hfz12_2
     try clear hfz12_3
     try clear hfz19_0
     try clear hfz19_1
     try clear hfz19_2
     try clear hfz19_3
     try clear hfz21_0
     try clear hfz21_1
     try clear hfz21_2
     try clear hfz21_3
     try clear hfz22_0
     try clear hfz22_1
     try clear hfz22_2
     try clear hfz22_3
     try clear hfz9_0
     try clear hfz9_1
     try clear hfz9_2
     try clear hfz9_3
     try clear p2
     obtain ⟨kq, x18_15, rfl, HA, HJ15, BK628, BK629, HB⟩ := hcut
     cases kq with
     | zero => exact absurd HA.out (by simp [sum_parts.j1])
     | succ kj15 =>
      have H := HA.out
      clear HA
      simp only [sum_parts.j1] at H
      by_cases c23 : x18_15 = true
      ·subst c23
       have H1 : ((sum_infinite.f kj15 a0 a1_0 a1_1 a1_2 a1_3 a2_0 a2_1 a2_2 a2_3).bind fun t631 => (some t631)) = some r := by rw [if_pos rfl] at H; exact H
       clear H;have H := H1;clear H1
       replace H := ob_ H
       obtain ⟨t631, A240, H⟩ := H
       replace H : (some t631) = some r := H
       have A24 := A_ A240;clear A240
       obtain rfl := Option.some.inj H
       have hnb25 := NB628_629.out
       have hnc25 := NB629_628.out
       have hcz26_0 := bv_ BK628.out 0
       have hcz26_1 := bv_ BK628.out 1
       have hcz26_2 := bv_ BK628.out 2
       have hcz26_3 := bv_ BK628.out 3
       have hfz26_0 := blk_frozen BK628.out 0
       have hfz26_1 := blk_frozen BK628.out 1
       have hfz26_2 := blk_frozen BK628.out 2
       have hfz26_3 := blk_frozen BK628.out 3
       have hcz27_0 := bv_ BK629.out 0
       have hcz27_1 := bv_ BK629.out 1
       have hcz27_2 := bv_ BK629.out 2
       have hcz27_3 := bv_ BK629.out 3
       have hfz27_0 := blk_frozen BK629.out 0
       have hfz27_1 := blk_frozen BK629.out 1
       have hfz27_2 := blk_frozen BK629.out 2
       have hfz27_3 := blk_frozen BK629.out 3
       go_wp2_with (first | ((with_reducible refine gate_callee (f := 69) rfl ?_); refine gl_ (some 30) Try.func69 #[.int .i64 a0, .agg #[.bool a1_0, .int .i64 a1_1, .int .i64 a1_2, .int .u64 a1_3], .agg #[.bool a2_0, .int .i64 a2_1, .int .i64 a2_2, .int .u64 a2_3]] ?_; (with_reducible refine (sum_infinite.calls kj15 a0 a1_0 a1_1 a1_2 a1_3 a2_0 a2_1 a2_2 a2_3 t631 _ A24.out).mono ?_); rintro e w28 ⟨rfl, hb⟩; refine ⟨_, rfl, ?_⟩; replace BK628 := A_ (bb_ BK628.out hb); replace BK629 := A_ (bb_ BK629.out hb); replace HB := A_ (below_step (hb2_ HB.out GE628.out GE629.out) hb); (try clear hb); (try clear hb2); (try clear hk); (try clear hi)))
       go_ret
       exact ⟨er_, hb2_ HB.out GE628.out GE629.out⟩
      ·replace c23 := Bool.eq_false_iff.mpr c23
       subst c23
       have H1 : (if a1_1 = 0 then (sum_parts.j2 kj15 a0 (a2_1 == 0) a1_0 a1_1 a1_2 a1_3 a2_0 a2_1 a2_2 a2_3) else (sum_parts.j2 kj15 a0 false a1_0 a1_1 a1_2 a1_3 a2_0 a2_1 a2_2 a2_3)) = some r := by rw [if_neg (show ¬ (false = true) by decide)] at H; exact H
       clear H;have H := H1;clear H1;have HC29 := A_ H;clear H
       go_upto_region 5 with (fail)
       go_cut [31] (fun v31 wc => ∃ (kq : Nat) (x31_28 : Bool), v31 = .bool x31_28 ∧ Aside0 (sum_parts.j2 kq a0 x31_28 a1_0 a1_1 a1_2 a1_3 a2_0 a2_1 a2_2 a2_3 = some r) ∧ Aside0 (kq ≤ kj15) ∧ Aside0 (wc.heap[gb628]? = some (.cells #[.bool a1_0, .int .i64 a1_1, .int .i64 a1_2, .int .u64 a1_3] 36 (0, 0))) ∧ Aside0 (wc.heap[gb629]? = some (.cells #[.bool a2_0, .int .i64 a2_1, .int .i64 a2_2, .int .u64 a2_3] 36 (0, 0))) ∧ Aside0 (Below w.heap.size w wc))
       case first =>
        have H := HC29.out
        clear HC29
        by_cases c30 : a1_1 = 0
        ·rw [if_pos c30] at H
         have c30b0 : (a1_1 == 0) = true := beq_iff_eq.mpr c30
         have c30b1 : (a1_1 != 0) = false := bne_eq_false_iff_eq.mpr c30
         clear c30
         (first | rw [c30b0] | (simp only [i64_w, i32_w]; rw [c30b0]) | skip)
         have H' := A_ H
         clear H
         have hnb31 := NB628_629.out
         have hnc31 := NB629_628.out
         have hcz32_0 := bv_ BK628.out 0
         have hcz32_1 := bv_ BK628.out 1
         have hcz32_2 := bv_ BK628.out 2
         have hcz32_3 := bv_ BK628.out 3
         have hfz32_0 := blk_frozen BK628.out 0
         have hfz32_1 := blk_frozen BK628.out 1
         have hfz32_2 := blk_frozen BK628.out 2
         have hfz32_3 := blk_frozen BK628.out 3
         have hcz33_0 := bv_ BK629.out 0
         have hcz33_1 := bv_ BK629.out 1
         have hcz33_2 := bv_ BK629.out 2
         have hcz33_3 := bv_ BK629.out 3
         have hfz33_0 := blk_frozen BK629.out 0
         have hfz33_1 := blk_frozen BK629.out 1
         have hfz33_2 := blk_frozen BK629.out 2
         have hfz33_3 := blk_frozen BK629.out 3
         go_wp2
         go_meet
         case rel => exact ⟨_, ((a2_1 == 0)), sm_, H', ⟨by have := HJ3.out; have := HJ15.out; first | omega | exact Nat.le_refl _⟩, ⟨bk_ BK628.out⟩, ⟨bk_ BK629.out⟩, ⟨hb2_ HB.out GE628.out GE629.out⟩⟩
        ·rw [if_neg c30] at H
         have c30b0 : (a1_1 == 0) = false := beq_eq_false_iff_ne.mpr c30
         have c30b1 : (a1_1 != 0) = true := bne_iff_ne.mpr c30
         (first | rw [c30b0] | (simp only [i64_w, i32_w]; rw [c30b0]) | skip)
         have H' := A_ H
         clear H
         have hnb34 := NB628_629.out
         have hnc34 := NB629_628.out
         have hcz35_0 := bv_ BK628.out 0
         have hcz35_1 := bv_ BK628.out 1
         have hcz35_2 := bv_ BK628.out 2
         have hcz35_3 := bv_ BK628.out 3
         have hfz35_0 := blk_frozen BK628.out 0
         have hfz35_1 := blk_frozen BK628.out 1
         have hfz35_2 := blk_frozen BK628.out 2
         have hfz35_3 := blk_frozen BK628.out 3
         go_wp2
         go_meet
         case rel => exact ⟨_, (false), sm_, H', ⟨by have := HJ3.out; have := HJ15.out; first | omega | exact Nat.le_refl _⟩, ⟨bk_ BK628.out⟩, ⟨bk_ BK629.out⟩, ⟨hb2_ HB.out GE628.out GE629.out⟩⟩
       case rest =>
        clear HC29
        try clear c1
        try clear c2
        try clear p2
        try clear c3
        try clear c5
        try clear c6
        try clear c7
        try clear c7b0
        try clear c7b1
        try clear c8
        try clear c10
        try clear c13
        try clear c17
        try clear c17b0
        try clear c17b1
        try clear c18
        try clear c20
        try clear c23
        try clear c25
        try clear c30
        try clear c30b0
        try clear c30b1
        try clear c31
        try clear c34
        try clear hcz11_0
        try clear hcz11_1
        try clear hcz11_2
        try clear hcz11_3
        try clear hcz12_0
        try clear hcz12_1
        try clear hcz12_2
        try clear hcz12_3
        try clear hcz19_0
        try clear hcz19_1
        try clear hcz19_2
        try clear hcz19_3
        try clear hcz21_0
        try clear hcz21_1
        try clear hcz21_2
        try clear hcz21_3
        try clear hcz22_0
        try clear hcz22_1
        try clear hcz22_2
        try clear hcz22_3
        try clear hcz26_0
        try clear hcz26_1
        try clear hcz26_2
        try clear hcz26_3
        try clear hcz27_0
        try clear hcz27_1
        try clear hcz27_2
        try clear hcz27_3
        try clear hcz32_0
        try clear hcz32_1
        try clear hcz32_2
        try clear hcz32_3
        try clear hcz33_0
        try clear hcz33_1
        try clear hcz33_2
        try clear hcz33_3
        try clear hcz35_0
        try clear hcz35_1
        try clear hcz35_2
        try clear hcz35_3
        try clear hcz9_0
        try clear hcz9_1
        try clear hcz9_2
        try clear hcz9_3
        try clear hfz11_0
        try clear hfz11_1
        try clear hfz11_2
        try clear hfz11_3
        try clear hfz12_0
        try clear hfz12_1
        try clear hfz12_2
        try clear hfz12_3
        try clear hfz19_0
        try clear hfz19_1
        try clear hfz19_2
        try clear hfz19_3
        try clear hfz21_0
        try clear hfz21_1
        try clear hfz21_2
        try clear hfz21_3
        try clear hfz22_0
        try clear hfz22_1
        try clear hfz22_2
        try clear hfz22_3
        try clear hfz26_0
        try clear hfz26_1
        try clear hfz26_2
        try clear hfz26_3
        try clear hfz27_0
        try clear hfz27_1
        try clear hfz27_2
        try clear hfz27_3
        try clear hfz32_0
        try clear hfz32_1
        try clear hfz32_2
        try clear hfz32_3
        try clear hfz33_0
        try clear hfz33_1
        try clear hfz33_2
        try clear hfz33_3
        try clear hfz35_0
        try clear hfz35_1
        try clear hfz35_2
        try clear hfz35_3
        try clear hfz9_0
        try clear hfz9_1
        try clear hfz9_2
        try clear hfz9_3
        try clear p2
        obtain ⟨kq, x31_28, rfl, HA, HJ28, BK628, BK629, HB⟩ := hcut
        cases kq with
        | zero => exact absurd HA.out (by simp [sum_parts.j2])
        | succ kj28 =>
         have H := HA.out
         clear HA
         simp only [sum_parts.j2] at H
         by_cases c36 : x31_28 = true
         ·subst c36
          have H1 : (if a1_0 = true then ((shape_Zero.f a0 a2_0).bind fun t632 => (some t632)) else ((shape_Zero.f a0 false).bind fun t633 => (some t633))) = some r := by rw [if_pos rfl] at H; exact H
          clear H;have H := H1;clear H1
          by_cases c37 : a1_0 = true
          ·subst c37
           have H1 : ((shape_Zero.f a0 a2_0).bind fun t632 => (some t632)) = some r := by rw [if_pos rfl] at H; exact H
           clear H;have H := H1;clear H1
           replace H := ob_ H
           obtain ⟨t632, A380, H⟩ := H
           replace H : (some t632) = some r := H
           have A38 := A_ A380;clear A380
           obtain rfl := Option.some.inj H
           have hnb39 := NB628_629.out
           have hnc39 := NB629_628.out
           have hcz40_0 := bv_ BK628.out 0
           have hcz40_1 := bv_ BK628.out 1
           have hcz40_2 := bv_ BK628.out 2
           have hcz40_3 := bv_ BK628.out 3
           have hfz40_0 := blk_frozen BK628.out 0
           have hfz40_1 := blk_frozen BK628.out 1
           have hfz40_2 := blk_frozen BK628.out 2
           have hfz40_3 := blk_frozen BK628.out 3
           have hcz41_0 := bv_ BK629.out 0
           have hcz41_1 := bv_ BK629.out 1
           have hcz41_2 := bv_ BK629.out 2
           have hcz41_3 := bv_ BK629.out 3
           have hfz41_0 := blk_frozen BK629.out 0
           have hfz41_1 := blk_frozen BK629.out 1
           have hfz41_2 := blk_frozen BK629.out 2
           have hfz41_3 := blk_frozen BK629.out 3
           go_wp2_with (first | ((with_reducible refine gate_callee (f := 70) rfl ?_); refine gl_ (some 47) Try.func70 #[.int .i64 a0, .bool a2_0] ?_; (with_reducible refine (shape_Zero.calls a0 a2_0 t632 _ A38.out).mono ?_); rintro e w42 ⟨rfl, hb⟩; refine ⟨_, rfl, ?_⟩; replace BK628 := A_ (bb_ BK628.out hb); replace BK629 := A_ (bb_ BK629.out hb); replace HB := A_ (below_step (hb2_ HB.out GE628.out GE629.out) hb); (try clear hb); (try clear hb2); (try clear hk); (try clear hi)))
           go_ret
           exact ⟨er_, hb2_ HB.out GE628.out GE629.out⟩
          ·replace c37 := Bool.eq_false_iff.mpr c37
           subst c37
           have H1 : ((shape_Zero.f a0 false).bind fun t633 => (some t633)) = some r := by rw [if_neg (show ¬ (false = true) by decide)] at H; exact H
           clear H;have H := H1;clear H1
           replace H := ob_ H
           obtain ⟨t633, A430, H⟩ := H
           replace H : (some t633) = some r := H
           have A43 := A_ A430;clear A430
           obtain rfl := Option.some.inj H
           have hnb44 := NB628_629.out
           have hnc44 := NB629_628.out
           have hcz45_0 := bv_ BK628.out 0
           have hcz45_1 := bv_ BK628.out 1
           have hcz45_2 := bv_ BK628.out 2
           have hcz45_3 := bv_ BK628.out 3
           have hfz45_0 := blk_frozen BK628.out 0
           have hfz45_1 := blk_frozen BK628.out 1
           have hfz45_2 := blk_frozen BK628.out 2
           have hfz45_3 := blk_frozen BK628.out 3
           go_wp2_with (first | ((with_reducible refine gate_callee (f := 70) rfl ?_); refine gl_ (some 47) Try.func70 #[.int .i64 a0, .bool false] ?_; (with_reducible refine (shape_Zero.calls a0 false t633 _ A43.out).mono ?_); rintro e w46 ⟨rfl, hb⟩; refine ⟨_, rfl, ?_⟩; replace BK628 := A_ (bb_ BK628.out hb); replace BK629 := A_ (bb_ BK629.out hb); replace HB := A_ (below_step (hb2_ HB.out GE628.out GE629.out) hb); (try clear hb); (try clear hb2); (try clear hk); (try clear hi)))
           go_ret
           exact ⟨er_, hb2_ HB.out GE628.out GE629.out⟩
         ·replace c36 := Bool.eq_false_iff.mpr c36
          subst c36
          have H1 : (if a1_1 = 0 then ((round_Narrow.f a0 a2_0 a2_1 a2_2 a2_3).bind fun t634 => (some t634)) else (if a2_1 = 0 then ((round_Narrow.f a0 a1_0 a1_1 a1_2 a1_3).bind fun t635 => (some t635)) else ((sum_finite.f kj28 a0 a1_0 a1_1 a1_2 a1_3 a2_0 a2_1 a2_2 a2_3).bind fun t636 => (some t636)))) = some r := by rw [if_neg (show ¬ (false = true) by decide)] at H; exact H
          clear H;have H := H1;clear H1
          by_cases c47 : a1_1 = 0
          ·rw [if_pos c47] at H
           have c47b0 : (a1_1 == 0) = true := beq_iff_eq.mpr c47
           have c47b1 : (a1_1 != 0) = false := bne_eq_false_iff_eq.mpr c47
           clear c47
           replace H := ob_ H
           obtain ⟨t634, A480, H⟩ := H
           replace H : (some t634) = some r := H
           have A48 := A_ A480;clear A480
           obtain rfl := Option.some.inj H
           have hnb49 := NB628_629.out
           have hnc49 := NB629_628.out
           have hcz50_0 := bv_ BK628.out 0
           have hcz50_1 := bv_ BK628.out 1
           have hcz50_2 := bv_ BK628.out 2
           have hcz50_3 := bv_ BK628.out 3
           have hfz50_0 := blk_frozen BK628.out 0
           have hfz50_1 := blk_frozen BK628.out 1
           have hfz50_2 := blk_frozen BK628.out 2
           have hfz50_3 := blk_frozen BK628.out 3
           have hcz51_0 := bv_ BK629.out 0
           have hcz51_1 := bv_ BK629.out 1
           have hcz51_2 := bv_ BK629.out 2
           have hcz51_3 := bv_ BK629.out 3
           have hfz51_0 := blk_frozen BK629.out 0
           have hfz51_1 := blk_frozen BK629.out 1
           have hfz51_2 := blk_frozen BK629.out 2
           have hfz51_3 := blk_frozen BK629.out 3
           go_wp2_with (first | ((with_reducible refine gate_callee (f := 71) rfl ?_); refine gl_ (some 54) Try.func71 #[.int .i64 a0, .agg #[.bool a2_0, .int .i64 a2_1, .int .i64 a2_2, .int .u64 a2_3]] ?_; (with_reducible refine (round_Narrow.calls a0 a2_0 a2_1 a2_2 a2_3 t634 _ A48.out).mono ?_); rintro e w52 ⟨rfl, hb⟩; refine ⟨_, rfl, ?_⟩; replace BK628 := A_ (bb_ BK628.out hb); replace BK629 := A_ (bb_ BK629.out hb); replace HB := A_ (below_step (hb2_ HB.out GE628.out GE629.out) hb); (try clear hb); (try clear hb2); (try clear hk); (try clear hi)))
           go_ret
           exact ⟨er_, hb2_ HB.out GE628.out GE629.out⟩
          ·rw [if_neg c47] at H
           have c47b0 : (a1_1 == 0) = false := beq_eq_false_iff_ne.mpr c47
           have c47b1 : (a1_1 != 0) = true := bne_iff_ne.mpr c47
           by_cases c53 : a2_1 = 0
           ·rw [if_pos c53] at H
            have c53b0 : (a2_1 == 0) = true := beq_iff_eq.mpr c53
            have c53b1 : (a2_1 != 0) = false := bne_eq_false_iff_eq.mpr c53
            clear c53
            replace H := ob_ H
            obtain ⟨t635, A540, H⟩ := H
            replace H : (some t635) = some r := H
            have A54 := A_ A540;clear A540
            obtain rfl := Option.some.inj H
            have hnb55 := NB628_629.out
            have hnc55 := NB629_628.out
            have hcz56_0 := bv_ BK628.out 0
            have hcz56_1 := bv_ BK628.out 1
            have hcz56_2 := bv_ BK628.out 2
            have hcz56_3 := bv_ BK628.out 3
            have hfz56_0 := blk_frozen BK628.out 0
            have hfz56_1 := blk_frozen BK628.out 1
            have hfz56_2 := blk_frozen BK628.out 2
            have hfz56_3 := blk_frozen BK628.out 3
            have hcz57_0 := bv_ BK629.out 0
            have hcz57_1 := bv_ BK629.out 1
            have hcz57_2 := bv_ BK629.out 2
            have hcz57_3 := bv_ BK629.out 3
            have hfz57_0 := blk_frozen BK629.out 0
            have hfz57_1 := blk_frozen BK629.out 1
            have hfz57_2 := blk_frozen BK629.out 2
            have hfz57_3 := blk_frozen BK629.out 3
            go_wp2_with (first | ((with_reducible refine gate_callee (f := 71) rfl ?_); refine gl_ (some 61) Try.func71 #[.int .i64 a0, .agg #[.bool a1_0, .int .i64 a1_1, .int .i64 a1_2, .int .u64 a1_3]] ?_; (with_reducible refine (round_Narrow.calls a0 a1_0 a1_1 a1_2 a1_3 t635 _ A54.out).mono ?_); rintro e w58 ⟨rfl, hb⟩; refine ⟨_, rfl, ?_⟩; replace BK628 := A_ (bb_ BK628.out hb); replace BK629 := A_ (bb_ BK629.out hb); replace HB := A_ (below_step (hb2_ HB.out GE628.out GE629.out) hb); (try clear hb); (try clear hb2); (try clear hk); (try clear hi)))
            go_ret
            exact ⟨er_, hb2_ HB.out GE628.out GE629.out⟩
           ·rw [if_neg c53] at H
            have c53b0 : (a2_1 == 0) = false := beq_eq_false_iff_ne.mpr c53
            have c53b1 : (a2_1 != 0) = true := bne_iff_ne.mpr c53
            replace H := ob_ H
            obtain ⟨t636, A590, H⟩ := H
            replace H : (some t636) = some r := H
            have A59 := A_ A590;clear A590
            obtain rfl := Option.some.inj H
            have hnb60 := NB628_629.out
            have hnc60 := NB629_628.out
            have hcz61_0 := bv_ BK628.out 0
            have hcz61_1 := bv_ BK628.out 1
            have hcz61_2 := bv_ BK628.out 2
            have hcz61_3 := bv_ BK628.out 3
            have hfz61_0 := blk_frozen BK628.out 0
            have hfz61_1 := blk_frozen BK628.out 1
            have hfz61_2 := blk_frozen BK628.out 2
            have hfz61_3 := blk_frozen BK628.out 3
            have hcz62_0 := bv_ BK629.out 0
            have hcz62_1 := bv_ BK629.out 1
            have hcz62_2 := bv_ BK629.out 2
            have hcz62_3 := bv_ BK629.out 3
            have hfz62_0 := blk_frozen BK629.out 0
            have hfz62_1 := blk_frozen BK629.out 1
            have hfz62_2 := blk_frozen BK629.out 2
            have hfz62_3 := blk_frozen BK629.out 3
            go_wp2_with (first | ((with_reducible refine gate_callee (f := 72) rfl ?_); refine gl_ (some 65) Try.func72 #[.int .i64 a0, .agg #[.bool a1_0, .int .i64 a1_1, .int .i64 a1_2, .int .u64 a1_3], .agg #[.bool a2_0, .int .i64 a2_1, .int .i64 a2_2, .int .u64 a2_3]] ?_; (with_reducible refine (sum_finite.calls kj28 a0 a1_0 a1_1 a1_2 a1_3 a2_0 a2_1 a2_2 a2_3 t636 _ A59.out).mono ?_); rintro e w63 ⟨rfl, hb⟩; refine ⟨_, rfl, ?_⟩; replace BK628 := A_ (bb_ BK628.out hb); replace BK629 := A_ (bb_ BK629.out hb); replace HB := A_ (below_step (hb2_ HB.out GE628.out GE629.out) hb); (try clear hb); (try clear hb2); (try clear hk); (try clear hi)))
            go_ret
            exact ⟨er_, hb2_ HB.out GE628.out GE629.out⟩
def sum_Sub.f (k : Nat) (a0 : Int) (a1 : Int) (a2 : Int) : Option (Int) := (sum_known.f a0).bind fun t637 => (if t637 = true then ((shape_Open.f k a0 a2).bind fun bt638 => ((shape_Open.f k a0 a1).bind fun bt643 => ((sum_parts.f k a0 bt643.1 bt643.2.1 bt643.2.2.1 bt643.2.2.2 (!bt638.1) bt638.2.1 bt638.2.2.1 bt638.2.2.2).bind fun t647 => (some t647)))) else (some 0))
theorem sum_Sub.mono : ∀ a0 a1 a2 k, LeO (sum_Sub.f k a0 a1 a2) (sum_Sub.f (k + 1) a0 a1 a2) := by
 intro a0 a1 a2 k
 unfold sum_Sub.f
 repeat' first
   | (with_reducible exact shape_Open.mono _ _ _)
   | (with_reducible exact sum_parts.mono _ _ _ _ _ _ _ _ _ _)
   | (with_reducible exact LeO.refl _)
   | (with_reducible exact LeO.none _)
   | (with_reducible refine LeO.ite ?_ ?_)
   | (with_reducible refine LeO.bind ?_ (fun _ => ?_))
   | exact shape_Open.mono _ _ _
   | exact sum_parts.mono _ _ _ _ _ _ _ _ _ _
   | exact LeO.none _
   | refine LeO.ite ?_ ?_
   | refine LeO.bind ?_ (fun _ => ?_)
theorem sum_Sub.calls (k : Nat) (a0 : Int) (a1 : Int) (a2 : Int) (r : Int) (w : World) (h : sum_Sub.f k a0 a1 a2 = some r) :
  Calls Try.prog 21 #[.int .i64 a0, .int .u64 a1, .int .u64 a2] w fun e w' => e = .returned (.int .u64 r) ∧ Below w.heap.size w w' := by
 have hu36 := Try.underlying36
 have HB := A_ (Below.refl w.heap.size w)
 have H : ((sum_known.f a0).bind fun t637 => (if t637 = true then ((shape_Open.f k a0 a2).bind fun bt638 => ((shape_Open.f k a0 a1).bind fun bt643 => ((sum_parts.f k a0 bt643.1 bt643.2.1 bt643.2.2.1 bt643.2.2.2 (!bt638.1) bt638.2.1 bt638.2.2.1 bt638.2.2.2).bind fun t647 => (some t647)))) else (some 0))) = some r := h
 clear h
 replace H := ob_ H
 obtain ⟨t637, A40, H⟩ := H
 replace H : (if t637 = true then ((shape_Open.f k a0 a2).bind fun bt638 => ((shape_Open.f k a0 a1).bind fun bt643 => ((sum_parts.f k a0 bt643.1 bt643.2.1 bt643.2.2.1 bt643.2.2.2 (!bt638.1) bt638.2.1 bt638.2.2.1 bt638.2.2.2).bind fun t647 => (some t647)))) else (some 0)) = some r := H
 have A4 := A_ A40;clear A40
 by_cases c5 : t637 = true
 ·subst c5
  have H1 : ((shape_Open.f k a0 a2).bind fun bt638 => ((shape_Open.f k a0 a1).bind fun bt643 => ((sum_parts.f k a0 bt643.1 bt643.2.1 bt643.2.2.1 bt643.2.2.2 (!bt638.1) bt638.2.1 bt638.2.2.1 bt638.2.2.2).bind fun t647 => (some t647)))) = some r := by rw [if_pos rfl] at H; exact H
  clear H;have H := H1;clear H1
  replace H := ob_ H
  obtain ⟨⟨t638, t639, t640, t641⟩, A60, H⟩ := H
  replace H : ((shape_Open.f k a0 a1).bind fun bt643 => ((sum_parts.f k a0 bt643.1 bt643.2.1 bt643.2.2.1 bt643.2.2.2 (!t638) t639 t640 t641).bind fun t647 => (some t647))) = some r := H
  have A6 := A_ A60;clear A60
  replace H := ob_ H
  obtain ⟨⟨t643, t644, t645, t646⟩, A70, H⟩ := H
  replace H : ((sum_parts.f k a0 t643 t644 t645 t646 (!t638) t639 t640 t641).bind fun t647 => (some t647)) = some r := H
  have A7 := A_ A70;clear A70
  replace H := ob_ H
  obtain ⟨t647, A80, H⟩ := H
  replace H : (some t647) = some r := H
  have A8 := A_ A80;clear A80
  obtain rfl := Option.some.inj H
  go_enter Try.func21, Try.ntmps21
  try go_wp2_with (first | ((with_reducible refine gate_callee (f := 54) rfl ?_); refine gl_ (some 9) Try.func54 #[.int .i64 a0] ?_; (with_reducible refine (sum_known.calls a0 true _ A4.out).mono ?_); rintro e w' ⟨rfl, ⟨nd, rfl⟩⟩; refine ⟨_, rfl, ?_⟩) | ((with_reducible refine gate_callee (f := 16) rfl ?_); refine gl_ (some 13) Try.func16 #[.int .i64 a0, .int .u64 a2] ?_; (with_reducible refine (shape_Open.calls k a0 a2 t638 t639 t640 t641 _ A6.out).mono ?_); rintro e w9 ⟨rfl, hb⟩; refine ⟨_, rfl, ?_⟩; replace HB := A_ (below_step (hb_ HB.out) hb); (try clear hb); (try clear hb2); (try clear hk); (try clear hi)) | ((with_reducible refine gate_dst (N := 7) rfl ?_); refine be_ 7 #[.bool false, .int .i64 0, .int .i64 0, .int .u64 0] 36 ?_; intro gb642 hg w10 hbox hb; have BK642 := A_ (hbox); have GW642 := A_ (sz_ hg (hb_ HB.out)); have GE642 := A_ (sz_ hg (hb_ HB.out)); replace HB := A_ (below_step (hb_ HB.out) hb); clear hb hbox hg; have hcz11_0 := bv_ BK642.out 0; have hcz11_1 := bv_ BK642.out 1; have hcz11_2 := bv_ BK642.out 2; have hcz11_3 := bv_ BK642.out 3; have hfz11_0 := blk_frozen BK642.out 0; have hfz11_1 := blk_frozen BK642.out 1; have hfz11_2 := blk_frozen BK642.out 2; have hfz11_3 := blk_frozen BK642.out 3))
  have n0_ : Aside0 ((((((w10.setCell ⟨gb642, 0, none⟩ (.bool t638)).setCell ⟨gb642, 1, none⟩ (.int .i64 t639)).setCell ⟨gb642, 2, none⟩ (.int .i64 t640)).setCell ⟨gb642, 3, none⟩ (.int .u64 t641)).setCell ⟨gb642, 0, none⟩ (.bool (!t638))).heap[gb642]? = some (.cells #[.bool (!t638), .int .i64 t639, .int .i64 t640, .int .u64 t641] 36 (0, 0))) := ⟨by (with_reducible repeat (first | refine blk_drewN ?_ _ | refine blk_drew ?_ | refine blk_alloc ?_ _)); refine blk_put (cs := #[.bool t638, .int .i64 t639, .int .i64 t640, .int .u64 t641]) ?_ 0 _ rfl; (with_reducible repeat (first | refine blk_drewN ?_ _ | refine blk_drew ?_ | refine blk_alloc ?_ _)); refine blk_put (cs := #[.bool t638, .int .i64 t639, .int .i64 t640, .int .u64 0]) ?_ 3 _ rfl; (with_reducible repeat (first | refine blk_drewN ?_ _ | refine blk_drew ?_ | refine blk_alloc ?_ _)); refine blk_put (cs := #[.bool t638, .int .i64 t639, .int .i64 0, .int .u64 0]) ?_ 2 _ rfl; (with_reducible repeat (first | refine blk_drewN ?_ _ | refine blk_drew ?_ | refine blk_alloc ?_ _)); refine blk_put (cs := #[.bool t638, .int .i64 0, .int .i64 0, .int .u64 0]) ?_ 1 _ rfl; (with_reducible repeat (first | refine blk_drewN ?_ _ | refine blk_drew ?_ | refine blk_alloc ?_ _)); refine blk_put (cs := #[.bool false, .int .i64 0, .int .i64 0, .int .u64 0]) ?_ 0 _ rfl; (with_reducible repeat (first | refine blk_drewN ?_ _ | refine blk_drew ?_ | refine blk_alloc ?_ _)); exact BK642.out⟩
  have n1_ : Aside0 (Below w.heap.size w (((((w10.setCell ⟨gb642, 0, none⟩ (.bool t638)).setCell ⟨gb642, 1, none⟩ (.int .i64 t639)).setCell ⟨gb642, 2, none⟩ (.int .i64 t640)).setCell ⟨gb642, 3, none⟩ (.int .u64 t641)).setCell ⟨gb642, 0, none⟩ (.bool (!t638)))) := ⟨hb1_ HB.out GE642.out⟩
  (try clear BK642);(try clear HB)
  generalize (((((w10.setCell ⟨gb642, 0, none⟩ (.bool t638)).setCell ⟨gb642, 1, none⟩ (.int .i64 t639)).setCell ⟨gb642, 2, none⟩ (.int .i64 t640)).setCell ⟨gb642, 3, none⟩ (.int .u64 t641)).setCell ⟨gb642, 0, none⟩ (.bool (!t638))) = w12 at n0_ n1_ ⊢
  have BK642 := n0_;have HB := n1_;clear n0_ n1_
  replace BK642 := A_ (blk_drew BK642.out)
  replace HB := A_ (below_drew1 HB.out)
  refine start_ (n := 7) (S := fun w' => w'.cell? ⟨gb642, 0, none⟩ = some (.bool (!t638)) ∧ w'.cell? ⟨gb642, 1, none⟩ = some (.int .i64 t639) ∧ w'.cell? ⟨gb642, 2, none⟩ = some (.int .i64 t640) ∧ w'.cell? ⟨gb642, 3, none⟩ = some (.int .u64 t641)) (ds := []) #[false, false, false, false, false, false, false] (by kernel_rfl) rfl rfl ⟨bc_ BK642.out 0, bc_ BK642.out 1, bc_ BK642.out 2, bc_ BK642.out 3⟩ (fun hHeld => ?_)
  generalize w12.drew = w13 at BK642 HB hHeld ⊢
  refine pu_ 0 (some 18) #[true, false, false, false, false, false, false] rfl rfl (by kernel_rfl) ?_
  refine pu_ 1 (some 19) #[true, true, false, false, false, false, false] rfl rfl (by kernel_rfl) ?_
  refine pu_ 2 (some 20) #[true, true, true, false, false, false, false] rfl rfl (by kernel_rfl) ?_
  refine tk4_ 4 (some 22) #[true, true, true, false, true, false, false] rfl rfl (by kernel_rfl) hHeld ?_
  refine one_ (i := 3) (N := some 21) #[true, true, true, true, true, false, false] rfl rfl (by kernel_rfl) (by decide) (fun K hK => ?_)
  refine goes_ Try.func16 (by kernel_rfl) rfl #[.int .i64 a0, .int .u64 a1] (by rfl) rfl rfl mp_ ?_
  with_reducible refine (shape_Open.calls k a0 a1 t643 t644 t645 t646 _ A7.out).mono ?_
  rintro e w14 ⟨rfl, hb⟩
  refine ⟨_, rfl, ?_⟩
  replace BK642 := A_ (bb_ BK642.out hb)
  replace HB := A_ (below_step (hb1_ HB.out GE642.out) hb);(try clear hb);(try clear hb2);(try clear hk);(try clear hi)
  refine hK.out _ _ ⟨bc_ BK642.out 0, bc_ BK642.out 1, bc_ BK642.out 2, bc_ BK642.out 3⟩ (fun hHeld => ?_)
  clear hK K
  refine norm_ (a' := ?_) ?_ ?_
  rotate_left
  ·show Act.put _ (some 21) _ = _
   simp only [Act.put, lI_, l0_, lS_, i64_w, i32_w]
   rfl
  refine one_ (i := 5) (N := some 23) #[true, true, true, true, true, true, false] rfl rfl (by kernel_rfl) (by decide) (fun K hK => ?_)
  refine goes_ Try.func55 (by kernel_rfl) rfl #[.int .i64 a0, .agg #[.bool t643, .int .i64 t644, .int .i64 t645, .int .u64 t646], .agg #[.bool (!t638), .int .i64 t639, .int .i64 t640, .int .u64 t641]] (by rfl) rfl rfl mp_ ?_
  with_reducible refine (sum_parts.calls k a0 t643 t644 t645 t646 (!t638) t639 t640 t641 t647 _ A8.out).mono ?_
  rintro e w15 ⟨rfl, hb⟩
  refine ⟨_, rfl, ?_⟩
  replace BK642 := A_ (bb_ BK642.out hb)
  replace HB := A_ (below_step (hb1_ HB.out GE642.out) hb);(try clear hb);(try clear hb2);(try clear hk);(try clear hi)
  refine hK.out _ _ ⟨bc_ BK642.out 0, bc_ BK642.out 1, bc_ BK642.out 2, bc_ BK642.out 3⟩ (fun hHeld => ?_)
  clear hK K
  refine norm_ (a' := ?_) ?_ ?_
  rotate_left
  ·show Act.put _ (some 23) _ = _
   simp only [Act.put, lI_, l0_, lS_, i64_w, i32_w]
   rfl
  refine pu_ 6 (some 6) #[true, true, true, true, true, true, true] rfl rfl (by kernel_rfl) ?_
  refine done_ (by kernel_rfl) ?_
  try go_wp2
  go_ret
  exact ⟨er_, hb1_ HB.out GE642.out⟩
 ·replace c5 := Bool.eq_false_iff.mpr c5
  subst c5
  have H1 : (some 0) = some r := by rw [if_neg (show ¬ (false = true) by decide)] at H; exact H
  clear H;have H := H1;clear H1
  obtain rfl := Option.some.inj H
  go_enter Try.func21, Try.ntmps21
  go_wp2_with (first | ((with_reducible refine gate_callee (f := 54) rfl ?_); refine gl_ (some 9) Try.func54 #[.int .i64 a0] ?_; (with_reducible refine (sum_known.calls a0 false _ A4.out).mono ?_); rintro e w' ⟨rfl, ⟨nd, rfl⟩⟩; refine ⟨_, rfl, ?_⟩))
  go_ret
  exact ⟨er_, hb_ HB.out⟩
def r2_B.f (a0 : Int) : Option (Int) := if a0 = 32 then (some 127) else (some 1023)
theorem r2_B.calls (a0 : Int) (r : Int) (w : World) (h : r2_B.f a0 = some r) :
  Calls Try.prog 23 #[.int .i64 a0] w fun e w' => e = .returned (.int .i64 r) ∧ Drawn0 w w' := by
 have H : (if a0 = 32 then (some 127) else (some 1023)) = some r := h
 clear h
 by_cases c2 : a0 = 32
 ·rw [if_pos c2] at H
  have c2b0 : (a0 == 32) = true := beq_iff_eq.mpr c2
  have c2b1 : (a0 != 32) = false := bne_eq_false_iff_eq.mpr c2
  clear c2
  obtain rfl := Option.some.inj H
  go_enter Try.func23, Try.ntmps23
  go_wp2
  go_ret
  exact ⟨sm_, by repeat (first | exact Drawn0.refl _ | apply Drawn0.step)⟩
 ·rw [if_neg c2] at H
  have c2b0 : (a0 == 32) = false := beq_eq_false_iff_ne.mpr c2
  have c2b1 : (a0 != 32) = true := bne_iff_ne.mpr c2
  obtain rfl := Option.some.inj H
  go_enter Try.func23, Try.ntmps23
  go_wp2
  go_ret
  exact ⟨sm_, by repeat (first | exact Drawn0.refl _ | apply Drawn0.step)⟩
def r2_E.f (a0 : Int) : Option (Int) := if a0 = 32 then (some 8) else (some 11)
theorem r2_E.calls (a0 : Int) (r : Int) (w : World) (h : r2_E.f a0 = some r) :
  Calls Try.prog 64 #[.int .i64 a0] w fun e w' => e = .returned (.int .i64 r) ∧ Drawn0 w w' := by
 have H : (if a0 = 32 then (some 8) else (some 11)) = some r := h
 clear h
 by_cases c2 : a0 = 32
 ·rw [if_pos c2] at H
  have c2b0 : (a0 == 32) = true := beq_iff_eq.mpr c2
  have c2b1 : (a0 != 32) = false := bne_eq_false_iff_eq.mpr c2
  clear c2
  obtain rfl := Option.some.inj H
  go_enter Try.func64, Try.ntmps64
  go_wp2
  go_ret
  exact ⟨sm_, by repeat (first | exact Drawn0.refl _ | apply Drawn0.step)⟩
 ·rw [if_neg c2] at H
  have c2b0 : (a0 == 32) = false := beq_eq_false_iff_ne.mpr c2
  have c2b1 : (a0 != 32) = true := bne_iff_ne.mpr c2
  obtain rfl := Option.some.inj H
  go_enter Try.func64, Try.ntmps64
  go_wp2
  go_ret
  exact ⟨sm_, by repeat (first | exact Drawn0.refl _ | apply Drawn0.step)⟩
def r2_F.f (a0 : Int) : Option (Int) := (r2_E.f a0).bind fun t216 => (some (wrap64 ((wrap64 (a0 - 1)) - t216)))
theorem r2_F.calls (a0 : Int) (r : Int) (w : World) (h : r2_F.f a0 = some r) :
  Calls Try.prog 42 #[.int .i64 a0] w fun e w' => e = .returned (.int .i64 r) ∧ Drawn0 w w' := by
 have H : ((r2_E.f a0).bind fun t216 => (some (wrap64 ((wrap64 (a0 - 1)) - t216)))) = some r := h
 clear h
 replace H := ob_ H
 obtain ⟨t216, A20, H⟩ := H
 replace H : (some (wrap64 ((wrap64 (a0 - 1)) - t216))) = some r := H
 have A2 := A_ A20;clear A20
 obtain rfl := Option.some.inj H
 go_enter Try.func42, Try.ntmps42
 go_wp2_with (first | ((with_reducible refine gate_callee (f := 64) rfl ?_); refine gl_ (some 6) Try.func64 #[.int .i64 a0] ?_; (with_reducible refine (r2_E.calls a0 t216 _ A2.out).mono ?_); rintro e w' ⟨rfl, ⟨nd, rfl⟩⟩; refine ⟨_, rfl, ?_⟩))
 go_ret
 exact ⟨sm_, by repeat (first | exact Drawn0.refl _ | apply Drawn0.step)⟩
def r2_Exp.f (k : Nat) (a0 : Int) (a1 : Int) : Option (Int) := (r2_Cut.f a0 a1).bind fun t217 => ((r2_F.f a0).bind fun t218 => ((r2_Two.f k t218).bind fun t219 => (if t219 = 0 then (none) else ((r2_E.f a0).bind fun t220 => ((r2_Two.f k t220).bind fun t221 => (if t221 = 0 then (none) else (some (wrap64 (Int.tmod (IntKind.u64.wrap (Int.tdiv t217 t219)) t221)))))))))
theorem r2_Exp.mono : ∀ a0 a1 k, LeO (r2_Exp.f k a0 a1) (r2_Exp.f (k + 1) a0 a1) := by
 intro a0 a1 k
 unfold r2_Exp.f
 repeat' first
   | (with_reducible exact r2_Two.mono _ _)
   | (with_reducible exact LeO.refl _)
   | (with_reducible exact LeO.none _)
   | (with_reducible refine LeO.ite ?_ ?_)
   | (with_reducible refine LeO.bind ?_ (fun _ => ?_))
   | exact r2_Two.mono _ _
   | exact LeO.none _
   | refine LeO.ite ?_ ?_
   | refine LeO.bind ?_ (fun _ => ?_)
theorem r2_Exp.calls (k : Nat) (a0 : Int) (a1 : Int) (r : Int) (w : World) (h : r2_Exp.f k a0 a1 = some r) :
  Calls Try.prog 38 #[.int .i64 a0, .int .u64 a1] w fun e w' => e = .returned (.int .i64 r) ∧ Drawn0 w w' := by
 have H : ((r2_Cut.f a0 a1).bind fun t217 => ((r2_F.f a0).bind fun t218 => ((r2_Two.f k t218).bind fun t219 => (if t219 = 0 then (none) else ((r2_E.f a0).bind fun t220 => ((r2_Two.f k t220).bind fun t221 => (if t221 = 0 then (none) else (some (wrap64 (Int.tmod (IntKind.u64.wrap (Int.tdiv t217 t219)) t221)))))))))) = some r := h
 clear h
 replace H := ob_ H
 obtain ⟨t217, A30, H⟩ := H
 replace H : ((r2_F.f a0).bind fun t218 => ((r2_Two.f k t218).bind fun t219 => (if t219 = 0 then (none) else ((r2_E.f a0).bind fun t220 => ((r2_Two.f k t220).bind fun t221 => (if t221 = 0 then (none) else (some (wrap64 (Int.tmod (IntKind.u64.wrap (Int.tdiv t217 t219)) t221))))))))) = some r := H
 have A3 := A_ A30;clear A30
 replace H := ob_ H
 obtain ⟨t218, A40, H⟩ := H
 replace H : ((r2_Two.f k t218).bind fun t219 => (if t219 = 0 then (none) else ((r2_E.f a0).bind fun t220 => ((r2_Two.f k t220).bind fun t221 => (if t221 = 0 then (none) else (some (wrap64 (Int.tmod (IntKind.u64.wrap (Int.tdiv t217 t219)) t221)))))))) = some r := H
 have A4 := A_ A40;clear A40
 replace H := ob_ H
 obtain ⟨t219, A50, H⟩ := H
 replace H : (if t219 = 0 then (none) else ((r2_E.f a0).bind fun t220 => ((r2_Two.f k t220).bind fun t221 => (if t221 = 0 then (none) else (some (wrap64 (Int.tmod (IntKind.u64.wrap (Int.tdiv t217 t219)) t221))))))) = some r := H
 have A5 := A_ A50;clear A50
 by_cases c6 : t219 = 0
 ·rw [if_pos c6] at H
  exact absurd H (by simp)
 ·rw [if_neg c6] at H
  have c6b0 : (t219 == 0) = false := beq_eq_false_iff_ne.mpr c6
  have c6b1 : (t219 != 0) = true := bne_iff_ne.mpr c6
  replace H := ob_ H
  obtain ⟨t220, A70, H⟩ := H
  replace H : ((r2_Two.f k t220).bind fun t221 => (if t221 = 0 then (none) else (some (wrap64 (Int.tmod (IntKind.u64.wrap (Int.tdiv t217 t219)) t221))))) = some r := H
  have A7 := A_ A70;clear A70
  replace H := ob_ H
  obtain ⟨t221, A80, H⟩ := H
  replace H : (if t221 = 0 then (none) else (some (wrap64 (Int.tmod (IntKind.u64.wrap (Int.tdiv t217 t219)) t221)))) = some r := H
  have A8 := A_ A80;clear A80
  by_cases c9 : t221 = 0
  ·rw [if_pos c9] at H
   exact absurd H (by simp)
  ·rw [if_neg c9] at H
   have c9b0 : (t221 == 0) = false := beq_eq_false_iff_ne.mpr c9
   have c9b1 : (t221 != 0) = true := bne_iff_ne.mpr c9
   obtain rfl := Option.some.inj H
   go_enter Try.func38, Try.ntmps38
   go_wp2_with (first | (go_at_call 31; (with_reducible refine (r2_Cut.calls a0 a1 t217 _ A3.out).mono ?_); rintro e w' ⟨rfl, ⟨nd, rfl⟩⟩; (try first | exact ⟨rfl, _, World.drewN_drewN _ _ _⟩ | exact ⟨rfl, _, Eq.trans (World.drewN_drewN _ _ _) (congrArg (World.drewN _) (Nat.add_assoc _ _ _))⟩)) | (go_at_call 42; (with_reducible refine (r2_F.calls a0 t218 _ A4.out).mono ?_); rintro e w' ⟨rfl, ⟨nd, rfl⟩⟩; (try first | exact ⟨rfl, _, World.drewN_drewN _ _ _⟩ | exact ⟨rfl, _, Eq.trans (World.drewN_drewN _ _ _) (congrArg (World.drewN _) (Nat.add_assoc _ _ _))⟩)) | (go_at_call 43; (with_reducible refine (r2_Two.calls k t218 t219 _ A5.out).mono ?_); rintro e w' ⟨rfl, ⟨nd, rfl⟩⟩; (try first | exact ⟨rfl, _, World.drewN_drewN _ _ _⟩ | exact ⟨rfl, _, Eq.trans (World.drewN_drewN _ _ _) (congrArg (World.drewN _) (Nat.add_assoc _ _ _))⟩)) | (go_at_call 64; (with_reducible refine (r2_E.calls a0 t220 _ A7.out).mono ?_); rintro e w' ⟨rfl, ⟨nd, rfl⟩⟩; (try first | exact ⟨rfl, _, World.drewN_drewN _ _ _⟩ | exact ⟨rfl, _, Eq.trans (World.drewN_drewN _ _ _) (congrArg (World.drewN _) (Nat.add_assoc _ _ _))⟩)) | (go_at_call 43; (with_reducible refine (r2_Two.calls k t220 t221 _ A8.out).mono ?_); rintro e w' ⟨rfl, ⟨nd, rfl⟩⟩; (try first | exact ⟨rfl, _, World.drewN_drewN _ _ _⟩ | exact ⟨rfl, _, Eq.trans (World.drewN_drewN _ _ _) (congrArg (World.drewN _) (Nat.add_assoc _ _ _))⟩)))
   repeat (go_quiet (first | (go_at_call 31; (with_reducible refine (r2_Cut.calls a0 a1 t217 _ A3.out).mono ?_); rintro e w' ⟨rfl, ⟨nd, rfl⟩⟩; (try first | exact ⟨rfl, _, World.drewN_drewN _ _ _⟩ | exact ⟨rfl, _, Eq.trans (World.drewN_drewN _ _ _) (congrArg (World.drewN _) (Nat.add_assoc _ _ _))⟩)) | (go_at_call 42; (with_reducible refine (r2_F.calls a0 t218 _ A4.out).mono ?_); rintro e w' ⟨rfl, ⟨nd, rfl⟩⟩; (try first | exact ⟨rfl, _, World.drewN_drewN _ _ _⟩ | exact ⟨rfl, _, Eq.trans (World.drewN_drewN _ _ _) (congrArg (World.drewN _) (Nat.add_assoc _ _ _))⟩)) | (go_at_call 43; (with_reducible refine (r2_Two.calls k t218 t219 _ A5.out).mono ?_); rintro e w' ⟨rfl, ⟨nd, rfl⟩⟩; (try first | exact ⟨rfl, _, World.drewN_drewN _ _ _⟩ | exact ⟨rfl, _, Eq.trans (World.drewN_drewN _ _ _) (congrArg (World.drewN _) (Nat.add_assoc _ _ _))⟩)) | (go_at_call 64; (with_reducible refine (r2_E.calls a0 t220 _ A7.out).mono ?_); rintro e w' ⟨rfl, ⟨nd, rfl⟩⟩; (try first | exact ⟨rfl, _, World.drewN_drewN _ _ _⟩ | exact ⟨rfl, _, Eq.trans (World.drewN_drewN _ _ _) (congrArg (World.drewN _) (Nat.add_assoc _ _ _))⟩)) | (go_at_call 43; (with_reducible refine (r2_Two.calls k t220 t221 _ A8.out).mono ?_); rintro e w' ⟨rfl, ⟨nd, rfl⟩⟩; (try first | exact ⟨rfl, _, World.drewN_drewN _ _ _⟩ | exact ⟨rfl, _, Eq.trans (World.drewN_drewN _ _ _) (congrArg (World.drewN _) (Nat.add_assoc _ _ _))⟩))); try go_wp2_with (first | (go_at_call 31; (with_reducible refine (r2_Cut.calls a0 a1 t217 _ A3.out).mono ?_); rintro e w' ⟨rfl, ⟨nd, rfl⟩⟩; (try first | exact ⟨rfl, _, World.drewN_drewN _ _ _⟩ | exact ⟨rfl, _, Eq.trans (World.drewN_drewN _ _ _) (congrArg (World.drewN _) (Nat.add_assoc _ _ _))⟩)) | (go_at_call 42; (with_reducible refine (r2_F.calls a0 t218 _ A4.out).mono ?_); rintro e w' ⟨rfl, ⟨nd, rfl⟩⟩; (try first | exact ⟨rfl, _, World.drewN_drewN _ _ _⟩ | exact ⟨rfl, _, Eq.trans (World.drewN_drewN _ _ _) (congrArg (World.drewN _) (Nat.add_assoc _ _ _))⟩)) | (go_at_call 43; (with_reducible refine (r2_Two.calls k t218 t219 _ A5.out).mono ?_); rintro e w' ⟨rfl, ⟨nd, rfl⟩⟩; (try first | exact ⟨rfl, _, World.drewN_drewN _ _ _⟩ | exact ⟨rfl, _, Eq.trans (World.drewN_drewN _ _ _) (congrArg (World.drewN _) (Nat.add_assoc _ _ _))⟩)) | (go_at_call 64; (with_reducible refine (r2_E.calls a0 t220 _ A7.out).mono ?_); rintro e w' ⟨rfl, ⟨nd, rfl⟩⟩; (try first | exact ⟨rfl, _, World.drewN_drewN _ _ _⟩ | exact ⟨rfl, _, Eq.trans (World.drewN_drewN _ _ _) (congrArg (World.drewN _) (Nat.add_assoc _ _ _))⟩)) | (go_at_call 43; (with_reducible refine (r2_Two.calls k t220 t221 _ A8.out).mono ?_); rintro e w' ⟨rfl, ⟨nd, rfl⟩⟩; (try first | exact ⟨rfl, _, World.drewN_drewN _ _ _⟩ | exact ⟨rfl, _, Eq.trans (World.drewN_drewN _ _ _) (congrArg (World.drewN _) (Nat.add_assoc _ _ _))⟩))))
   go_ret
   exact ⟨sm_, by repeat (first | exact Drawn0.refl _ | apply Drawn0.step)⟩
def r2_Frac.f (k : Nat) (a0 : Int) (a1 : Int) : Option (Int) := (r2_F.f a0).bind fun t222 => ((r2_Two.f k t222).bind fun t223 => (if t223 = 0 then (none) else (some (Int.tmod a1 t223))))
theorem r2_Frac.mono : ∀ a0 a1 k, LeO (r2_Frac.f k a0 a1) (r2_Frac.f (k + 1) a0 a1) := by
 intro a0 a1 k
 unfold r2_Frac.f
 repeat' first
   | (with_reducible exact r2_Two.mono _ _)
   | (with_reducible exact LeO.refl _)
   | (with_reducible exact LeO.none _)
   | (with_reducible refine LeO.ite ?_ ?_)
   | (with_reducible refine LeO.bind ?_ (fun _ => ?_))
   | exact r2_Two.mono _ _
   | exact LeO.none _
   | refine LeO.ite ?_ ?_
   | refine LeO.bind ?_ (fun _ => ?_)
theorem r2_Frac.calls (k : Nat) (a0 : Int) (a1 : Int) (r : Int) (w : World) (h : r2_Frac.f k a0 a1 = some r) :
  Calls Try.prog 39 #[.int .i64 a0, .int .u64 a1] w fun e w' => e = .returned (.int .u64 r) ∧ Drawn0 w w' := by
 have H : ((r2_F.f a0).bind fun t222 => ((r2_Two.f k t222).bind fun t223 => (if t223 = 0 then (none) else (some (Int.tmod a1 t223))))) = some r := h
 clear h
 replace H := ob_ H
 obtain ⟨t222, A30, H⟩ := H
 replace H : ((r2_Two.f k t222).bind fun t223 => (if t223 = 0 then (none) else (some (Int.tmod a1 t223)))) = some r := H
 have A3 := A_ A30;clear A30
 replace H := ob_ H
 obtain ⟨t223, A40, H⟩ := H
 replace H : (if t223 = 0 then (none) else (some (Int.tmod a1 t223))) = some r := H
 have A4 := A_ A40;clear A40
 by_cases c5 : t223 = 0
 ·rw [if_pos c5] at H
  exact absurd H (by simp)
 ·rw [if_neg c5] at H
  have c5b0 : (t223 == 0) = false := beq_eq_false_iff_ne.mpr c5
  have c5b1 : (t223 != 0) = true := bne_iff_ne.mpr c5
  obtain rfl := Option.some.inj H
  go_enter Try.func39, Try.ntmps39
  go_wp2_with (first | ((with_reducible refine gate_callee (f := 42) rfl ?_); refine gl_ (some 7) Try.func42 #[.int .i64 a0] ?_; (with_reducible refine (r2_F.calls a0 t222 _ A3.out).mono ?_); rintro e w' ⟨rfl, ⟨nd, rfl⟩⟩; refine ⟨_, rfl, ?_⟩) | ((with_reducible refine gate_callee (f := 43) rfl ?_); refine gl_ (some 8) Try.func43 #[.int .i64 t222] ?_; (with_reducible refine (r2_Two.calls k t222 t223 _ A4.out).mono ?_); rintro e w' ⟨rfl, ⟨nd, rfl⟩⟩; refine ⟨_, rfl, ?_⟩))
  go_ret
  exact ⟨sm_, by repeat (first | exact Drawn0.refl _ | apply Drawn0.step)⟩
def r2_Top.f (k : Nat) (a0 : Int) : Option (Int) := (r2_E.f a0).bind fun t226 => ((r2_Two.f k t226).bind fun t227 => (some (wrap64 ((wrap64 (t227)) - 1))))
theorem r2_Top.mono : ∀ a0 k, LeO (r2_Top.f k a0) (r2_Top.f (k + 1) a0) := by
 intro a0 k
 unfold r2_Top.f
 repeat' first
   | (with_reducible exact r2_Two.mono _ _)
   | (with_reducible exact LeO.refl _)
   | (with_reducible exact LeO.none _)
   | (with_reducible refine LeO.ite ?_ ?_)
   | (with_reducible refine LeO.bind ?_ (fun _ => ?_))
   | exact r2_Two.mono _ _
   | exact LeO.none _
   | refine LeO.ite ?_ ?_
   | refine LeO.bind ?_ (fun _ => ?_)
theorem r2_Top.calls (k : Nat) (a0 : Int) (r : Int) (w : World) (h : r2_Top.f k a0 = some r) :
  Calls Try.prog 41 #[.int .i64 a0] w fun e w' => e = .returned (.int .i64 r) ∧ Drawn0 w w' := by
 have H : ((r2_E.f a0).bind fun t226 => ((r2_Two.f k t226).bind fun t227 => (some (wrap64 ((wrap64 (t227)) - 1))))) = some r := h
 clear h
 replace H := ob_ H
 obtain ⟨t226, A20, H⟩ := H
 replace H : ((r2_Two.f k t226).bind fun t227 => (some (wrap64 ((wrap64 (t227)) - 1)))) = some r := H
 have A2 := A_ A20;clear A20
 replace H := ob_ H
 obtain ⟨t227, A30, H⟩ := H
 replace H : (some (wrap64 ((wrap64 (t227)) - 1))) = some r := H
 have A3 := A_ A30;clear A30
 obtain rfl := Option.some.inj H
 go_enter Try.func41, Try.ntmps41
 go_wp2_with (first | ((with_reducible refine gate_callee (f := 64) rfl ?_); refine gl_ (some 4) Try.func64 #[.int .i64 a0] ?_; (with_reducible refine (r2_E.calls a0 t226 _ A2.out).mono ?_); rintro e w' ⟨rfl, ⟨nd, rfl⟩⟩; refine ⟨_, rfl, ?_⟩) | ((with_reducible refine gate_callee (f := 43) rfl ?_); refine gl_ (some 5) Try.func43 #[.int .i64 t226] ?_; (with_reducible refine (r2_Two.calls k t226 t227 _ A3.out).mono ?_); rintro e w' ⟨rfl, ⟨nd, rfl⟩⟩; refine ⟨_, rfl, ?_⟩))
 go_ret
 exact ⟨sm_, by repeat (first | exact Drawn0.refl _ | apply Drawn0.step)⟩
def r2_Open.f (k : Nat) (a0 : Int) (a1 : Int) : Option (Bool × Int × Int × Int) := (r2_Exp.f k a0 a1).bind fun t229 => ((r2_Frac.f k a0 a1).bind fun t230 => ((r2_Neg.f k a0 a1).bind fun t231 => ((r2_Top.f k a0).bind fun t232 => (if t229 = t232 then (if t230 = 0 then (some (t231, 2, 0, 0)) else (some (false, 3, 0, 0))) else (if t229 = 0 then (if t230 = 0 then (some (t231, 0, 0, 0)) else ((r2_B.f a0).bind fun t233 => ((r2_F.f a0).bind fun t234 => (some (t231, 1, wrap64 ((wrap64 (1 - t233)) - t234), t230))))) else ((r2_B.f a0).bind fun t235 => ((r2_F.f a0).bind fun t236 => ((r2_F.f a0).bind fun t237 => ((r2_Two.f k t237).bind fun t238 => (some (t231, 1, wrap64 ((wrap64 (t229 - t235)) - t236), IntKind.u64.wrap (t238 + t230))))))))))))
theorem r2_Open.mono : ∀ a0 a1 k, LeO (r2_Open.f k a0 a1) (r2_Open.f (k + 1) a0 a1) := by
 intro a0 a1 k
 unfold r2_Open.f
 repeat' first
   | (with_reducible exact r2_Exp.mono _ _ _)
   | (with_reducible exact r2_Frac.mono _ _ _)
   | (with_reducible exact r2_Neg.mono _ _ _)
   | (with_reducible exact r2_Top.mono _ _)
   | (with_reducible exact r2_Two.mono _ _)
   | (with_reducible exact LeO.refl _)
   | (with_reducible exact LeO.none _)
   | (with_reducible refine LeO.ite ?_ ?_)
   | (with_reducible refine LeO.bind ?_ (fun _ => ?_))
   | exact r2_Exp.mono _ _ _
   | exact r2_Frac.mono _ _ _
   | exact r2_Neg.mono _ _ _
   | exact r2_Top.mono _ _
   | exact r2_Two.mono _ _
   | exact LeO.none _
   | refine LeO.ite ?_ ?_
   | refine LeO.bind ?_ (fun _ => ?_)
theorem r2_Open.calls (k : Nat) (a0 : Int) (a1 : Int) (r1 : Bool) (r2 : Int) (r3 : Int) (r4 : Int) (w : World) (h : r2_Open.f k a0 a1 = some (r1, r2, r3, r4)) :
  Calls Try.prog 14 #[.int .i64 a0, .int .u64 a1] w fun e w' => e = .returned (.agg #[.bool r1, .int .i64 r2, .int .i64 r3, .int .u64 r4]) ∧ Below w.heap.size w w' := by
 have hu30 := Try.underlying30
 have HB := A_ (Below.refl w.heap.size w)
 have H : ((r2_Exp.f k a0 a1).bind fun t229 => ((r2_Frac.f k a0 a1).bind fun t230 => ((r2_Neg.f k a0 a1).bind fun t231 => ((r2_Top.f k a0).bind fun t232 => (if t229 = t232 then (if t230 = 0 then (some (t231, 2, 0, 0)) else (some (false, 3, 0, 0))) else (if t229 = 0 then (if t230 = 0 then (some (t231, 0, 0, 0)) else ((r2_B.f a0).bind fun t233 => ((r2_F.f a0).bind fun t234 => (some (t231, 1, wrap64 ((wrap64 (1 - t233)) - t234), t230))))) else ((r2_B.f a0).bind fun t235 => ((r2_F.f a0).bind fun t236 => ((r2_F.f a0).bind fun t237 => ((r2_Two.f k t237).bind fun t238 => (some (t231, 1, wrap64 ((wrap64 (t229 - t235)) - t236), IntKind.u64.wrap (t238 + t230))))))))))))) = some (r1, r2, r3, r4) := h
 clear h
 replace H := ob_ H
 obtain ⟨t229, A30, H⟩ := H
 replace H : ((r2_Frac.f k a0 a1).bind fun t230 => ((r2_Neg.f k a0 a1).bind fun t231 => ((r2_Top.f k a0).bind fun t232 => (if t229 = t232 then (if t230 = 0 then (some (t231, 2, 0, 0)) else (some (false, 3, 0, 0))) else (if t229 = 0 then (if t230 = 0 then (some (t231, 0, 0, 0)) else ((r2_B.f a0).bind fun t233 => ((r2_F.f a0).bind fun t234 => (some (t231, 1, wrap64 ((wrap64 (1 - t233)) - t234), t230))))) else ((r2_B.f a0).bind fun t235 => ((r2_F.f a0).bind fun t236 => ((r2_F.f a0).bind fun t237 => ((r2_Two.f k t237).bind fun t238 => (some (t231, 1, wrap64 ((wrap64 (t229 - t235)) - t236), IntKind.u64.wrap (t238 + t230)))))))))))) = some (r1, r2, r3, r4) := H
 have A3 := A_ A30;clear A30
 replace H := ob_ H
 obtain ⟨t230, A40, H⟩ := H
 replace H : ((r2_Neg.f k a0 a1).bind fun t231 => ((r2_Top.f k a0).bind fun t232 => (if t229 = t232 then (if t230 = 0 then (some (t231, 2, 0, 0)) else (some (false, 3, 0, 0))) else (if t229 = 0 then (if t230 = 0 then (some (t231, 0, 0, 0)) else ((r2_B.f a0).bind fun t233 => ((r2_F.f a0).bind fun t234 => (some (t231, 1, wrap64 ((wrap64 (1 - t233)) - t234), t230))))) else ((r2_B.f a0).bind fun t235 => ((r2_F.f a0).bind fun t236 => ((r2_F.f a0).bind fun t237 => ((r2_Two.f k t237).bind fun t238 => (some (t231, 1, wrap64 ((wrap64 (t229 - t235)) - t236), IntKind.u64.wrap (t238 + t230))))))))))) = some (r1, r2, r3, r4) := H
 have A4 := A_ A40;clear A40
 replace H := ob_ H
 obtain ⟨t231, A50, H⟩ := H
 replace H : ((r2_Top.f k a0).bind fun t232 => (if t229 = t232 then (if t230 = 0 then (some (t231, 2, 0, 0)) else (some (false, 3, 0, 0))) else (if t229 = 0 then (if t230 = 0 then (some (t231, 0, 0, 0)) else ((r2_B.f a0).bind fun t233 => ((r2_F.f a0).bind fun t234 => (some (t231, 1, wrap64 ((wrap64 (1 - t233)) - t234), t230))))) else ((r2_B.f a0).bind fun t235 => ((r2_F.f a0).bind fun t236 => ((r2_F.f a0).bind fun t237 => ((r2_Two.f k t237).bind fun t238 => (some (t231, 1, wrap64 ((wrap64 (t229 - t235)) - t236), IntKind.u64.wrap (t238 + t230)))))))))) = some (r1, r2, r3, r4) := H
 have A5 := A_ A50;clear A50
 replace H := ob_ H
 obtain ⟨t232, A60, H⟩ := H
 replace H : (if t229 = t232 then (if t230 = 0 then (some (t231, 2, 0, 0)) else (some (false, 3, 0, 0))) else (if t229 = 0 then (if t230 = 0 then (some (t231, 0, 0, 0)) else ((r2_B.f a0).bind fun t233 => ((r2_F.f a0).bind fun t234 => (some (t231, 1, wrap64 ((wrap64 (1 - t233)) - t234), t230))))) else ((r2_B.f a0).bind fun t235 => ((r2_F.f a0).bind fun t236 => ((r2_F.f a0).bind fun t237 => ((r2_Two.f k t237).bind fun t238 => (some (t231, 1, wrap64 ((wrap64 (t229 - t235)) - t236), IntKind.u64.wrap (t238 + t230))))))))) = some (r1, r2, r3, r4) := H
 have A6 := A_ A60;clear A60
 by_cases c7 : t229 = t232
 ·rw [if_pos c7] at H
  have c7b0 : (t229 == t232) = true := beq_iff_eq.mpr c7
  have c7b1 : (t229 != t232) = false := bne_eq_false_iff_eq.mpr c7
  clear c7
  by_cases c8 : t230 = 0
  ·rw [if_pos c8] at H
   have c8b0 : (t230 == 0) = true := beq_iff_eq.mpr c8
   have c8b1 : (t230 != 0) = false := bne_eq_false_iff_eq.mpr c8
   clear c8
   simp only [Option.some.injEq, Prod.mk.injEq] at H
   obtain ⟨rfl, rfl, rfl, rfl⟩ := H
   go_enter Try.func14, Try.ntmps14
   go_wp2_with (first | ((with_reducible refine gate_dst (N := 4) rfl ?_); refine be_ 4 #[.bool false, .int .i64 0, .int .i64 0, .int .u64 0] 30 ?_; intro gb228 hg w9 hbox hb; have BK228 := A_ (hbox); have GW228 := A_ (sz_ hg (hb_ HB.out)); have GE228 := A_ (sz_ hg (hb_ HB.out)); replace HB := A_ (below_step (hb_ HB.out) hb); clear hb hbox hg) | ((with_reducible refine gate_callee (f := 38) rfl ?_); refine gl_ (some 10) Try.func38 #[.int .i64 a0, .int .u64 a1] ?_; (with_reducible refine (r2_Exp.calls k a0 a1 t229 _ A3.out).mono ?_); rintro e w' ⟨rfl, ⟨nd, rfl⟩⟩; refine ⟨_, rfl, ?_⟩; (try (rw [drewN_self w9]; generalize hq_ : World.drewN w9 _ = w9; have n0_ : Aside0 (w9.heap[gb228]? = some (.cells #[.bool false, .int .i64 0, .int .i64 0, .int .u64 0] 30 (0, 0))) := ⟨by rw [← hq_]; exact (bk_ BK228.out)⟩; have n1_ : Aside0 (Below w.heap.size w w9) := ⟨by rw [← hq_]; exact (hb1_ HB.out GE228.out)⟩; clear BK228 HB hq_; have BK228 := n0_; have HB := n1_; clear n0_ n1_))) | ((with_reducible refine gate_callee (f := 39) rfl ?_); refine gl_ (some 13) Try.func39 #[.int .i64 a0, .int .u64 a1] ?_; (with_reducible refine (r2_Frac.calls k a0 a1 t230 _ A4.out).mono ?_); rintro e w' ⟨rfl, ⟨nd, rfl⟩⟩; refine ⟨_, rfl, ?_⟩; (try (rw [drewN_self w9]; generalize hq_ : World.drewN w9 _ = w9; have n0_ : Aside0 (w9.heap[gb228]? = some (.cells #[.bool false, .int .i64 0, .int .i64 0, .int .u64 0] 30 (0, 0))) := ⟨by rw [← hq_]; exact (bk_ BK228.out)⟩; have n1_ : Aside0 (Below w.heap.size w w9) := ⟨by rw [← hq_]; exact (hb1_ HB.out GE228.out)⟩; clear BK228 HB hq_; have BK228 := n0_; have HB := n1_; clear n0_ n1_))) | ((with_reducible refine gate_callee (f := 40) rfl ?_); refine gl_ (some 16) Try.func40 #[.int .i64 a0, .int .u64 a1] ?_; (with_reducible refine (r2_Neg.calls k a0 a1 t231 _ A5.out).mono ?_); rintro e w' ⟨rfl, ⟨nd, rfl⟩⟩; refine ⟨_, rfl, ?_⟩; (try (rw [drewN_self w9]; generalize hq_ : World.drewN w9 _ = w9; have n0_ : Aside0 (w9.heap[gb228]? = some (.cells #[.bool false, .int .i64 0, .int .i64 0, .int .u64 0] 30 (0, 0))) := ⟨by rw [← hq_]; exact (bk_ BK228.out)⟩; have n1_ : Aside0 (Below w.heap.size w w9) := ⟨by rw [← hq_]; exact (hb1_ HB.out GE228.out)⟩; clear BK228 HB hq_; have BK228 := n0_; have HB := n1_; clear n0_ n1_))) | ((with_reducible refine gate_callee (f := 41) rfl ?_); refine gl_ (some 19) Try.func41 #[.int .i64 a0] ?_; (with_reducible refine (r2_Top.calls k a0 t232 _ A6.out).mono ?_); rintro e w' ⟨rfl, ⟨nd, rfl⟩⟩; refine ⟨_, rfl, ?_⟩; (try (rw [drewN_self w9]; generalize hq_ : World.drewN w9 _ = w9; have n0_ : Aside0 (w9.heap[gb228]? = some (.cells #[.bool false, .int .i64 0, .int .i64 0, .int .u64 0] 30 (0, 0))) := ⟨by rw [← hq_]; exact (bk_ BK228.out)⟩; have n1_ : Aside0 (Below w.heap.size w w9) := ⟨by rw [← hq_]; exact (hb1_ HB.out GE228.out)⟩; clear BK228 HB hq_; have BK228 := n0_; have HB := n1_; clear n0_ n1_)); have hcz10_0 := bv_ BK228.out 0; have hcz10_1 := bv_ BK228.out 1; have hcz10_2 := bv_ BK228.out 2; have hcz10_3 := bv_ BK228.out 3; have hfz10_0 := blk_frozen BK228.out 0; have hfz10_1 := blk_frozen BK228.out 1; have hfz10_2 := blk_frozen BK228.out 2; have hfz10_3 := blk_frozen BK228.out 3))
   refine bodyPost_ret (results_cell_row rfl _ _ gb228 30 #[.bool t231, .int .i64 2, .int .i64 0, .int .u64 0] (0, 0) _ rfl (by (with_reducible repeat (first | refine blk_drewN ?_ _ | refine blk_drew ?_ | refine blk_alloc ?_ _)); refine blk_put (cs := #[.bool t231, .int .i64 2, .int .i64 0, .int .u64 0]) ?_ 3 _ rfl; (with_reducible repeat (first | refine blk_drewN ?_ _ | refine blk_drew ?_ | refine blk_alloc ?_ _)); refine blk_put (cs := #[.bool t231, .int .i64 2, .int .i64 0, .int .u64 0]) ?_ 2 _ rfl; (with_reducible repeat (first | refine blk_drewN ?_ _ | refine blk_drew ?_ | refine blk_alloc ?_ _)); refine blk_put (cs := #[.bool t231, .int .i64 0, .int .i64 0, .int .u64 0]) ?_ 1 _ rfl; (with_reducible repeat (first | refine blk_drewN ?_ _ | refine blk_drew ?_ | refine blk_alloc ?_ _)); refine blk_put (cs := #[.bool false, .int .i64 0, .int .i64 0, .int .u64 0]) ?_ 0 _ rfl; (with_reducible repeat (first | refine blk_drewN ?_ _ | refine blk_drew ?_ | refine blk_alloc ?_ _)); exact BK228.out) Try.underlying30 rfl (by kernel_rfl)) rfl ?_
   exact ⟨er_, hb1_ HB.out GE228.out⟩
  ·rw [if_neg c8] at H
   have c8b0 : (t230 == 0) = false := beq_eq_false_iff_ne.mpr c8
   have c8b1 : (t230 != 0) = true := bne_iff_ne.mpr c8
   simp only [Option.some.injEq, Prod.mk.injEq] at H
   obtain ⟨rfl, rfl, rfl, rfl⟩ := H
   go_enter Try.func14, Try.ntmps14
   go_wp2_with (first | ((with_reducible refine gate_dst (N := 4) rfl ?_); refine be_ 4 #[.bool false, .int .i64 0, .int .i64 0, .int .u64 0] 30 ?_; intro gb228 hg w11 hbox hb; have BK228 := A_ (hbox); have GW228 := A_ (sz_ hg (hb_ HB.out)); have GE228 := A_ (sz_ hg (hb_ HB.out)); replace HB := A_ (below_step (hb_ HB.out) hb); clear hb hbox hg) | ((with_reducible refine gate_callee (f := 38) rfl ?_); refine gl_ (some 10) Try.func38 #[.int .i64 a0, .int .u64 a1] ?_; (with_reducible refine (r2_Exp.calls k a0 a1 t229 _ A3.out).mono ?_); rintro e w' ⟨rfl, ⟨nd, rfl⟩⟩; refine ⟨_, rfl, ?_⟩; (try (rw [drewN_self w11]; generalize hq_ : World.drewN w11 _ = w11; have n0_ : Aside0 (w11.heap[gb228]? = some (.cells #[.bool false, .int .i64 0, .int .i64 0, .int .u64 0] 30 (0, 0))) := ⟨by rw [← hq_]; exact (bk_ BK228.out)⟩; have n1_ : Aside0 (Below w.heap.size w w11) := ⟨by rw [← hq_]; exact (hb1_ HB.out GE228.out)⟩; clear BK228 HB hq_; have BK228 := n0_; have HB := n1_; clear n0_ n1_))) | ((with_reducible refine gate_callee (f := 39) rfl ?_); refine gl_ (some 13) Try.func39 #[.int .i64 a0, .int .u64 a1] ?_; (with_reducible refine (r2_Frac.calls k a0 a1 t230 _ A4.out).mono ?_); rintro e w' ⟨rfl, ⟨nd, rfl⟩⟩; refine ⟨_, rfl, ?_⟩; (try (rw [drewN_self w11]; generalize hq_ : World.drewN w11 _ = w11; have n0_ : Aside0 (w11.heap[gb228]? = some (.cells #[.bool false, .int .i64 0, .int .i64 0, .int .u64 0] 30 (0, 0))) := ⟨by rw [← hq_]; exact (bk_ BK228.out)⟩; have n1_ : Aside0 (Below w.heap.size w w11) := ⟨by rw [← hq_]; exact (hb1_ HB.out GE228.out)⟩; clear BK228 HB hq_; have BK228 := n0_; have HB := n1_; clear n0_ n1_))) | ((with_reducible refine gate_callee (f := 40) rfl ?_); refine gl_ (some 16) Try.func40 #[.int .i64 a0, .int .u64 a1] ?_; (with_reducible refine (r2_Neg.calls k a0 a1 t231 _ A5.out).mono ?_); rintro e w' ⟨rfl, ⟨nd, rfl⟩⟩; refine ⟨_, rfl, ?_⟩; (try (rw [drewN_self w11]; generalize hq_ : World.drewN w11 _ = w11; have n0_ : Aside0 (w11.heap[gb228]? = some (.cells #[.bool false, .int .i64 0, .int .i64 0, .int .u64 0] 30 (0, 0))) := ⟨by rw [← hq_]; exact (bk_ BK228.out)⟩; have n1_ : Aside0 (Below w.heap.size w w11) := ⟨by rw [← hq_]; exact (hb1_ HB.out GE228.out)⟩; clear BK228 HB hq_; have BK228 := n0_; have HB := n1_; clear n0_ n1_))) | ((with_reducible refine gate_callee (f := 41) rfl ?_); refine gl_ (some 19) Try.func41 #[.int .i64 a0] ?_; (with_reducible refine (r2_Top.calls k a0 t232 _ A6.out).mono ?_); rintro e w' ⟨rfl, ⟨nd, rfl⟩⟩; refine ⟨_, rfl, ?_⟩; (try (rw [drewN_self w11]; generalize hq_ : World.drewN w11 _ = w11; have n0_ : Aside0 (w11.heap[gb228]? = some (.cells #[.bool false, .int .i64 0, .int .i64 0, .int .u64 0] 30 (0, 0))) := ⟨by rw [← hq_]; exact (bk_ BK228.out)⟩; have n1_ : Aside0 (Below w.heap.size w w11) := ⟨by rw [← hq_]; exact (hb1_ HB.out GE228.out)⟩; clear BK228 HB hq_; have BK228 := n0_; have HB := n1_; clear n0_ n1_)); have hcz12_0 := bv_ BK228.out 0; have hcz12_1 := bv_ BK228.out 1; have hcz12_2 := bv_ BK228.out 2; have hcz12_3 := bv_ BK228.out 3; have hfz12_0 := blk_frozen BK228.out 0; have hfz12_1 := blk_frozen BK228.out 1; have hfz12_2 := blk_frozen BK228.out 2; have hfz12_3 := blk_frozen BK228.out 3))
   refine bodyPost_ret (results_cell_row rfl _ _ gb228 30 #[.bool false, .int .i64 3, .int .i64 0, .int .u64 0] (0, 0) _ rfl (by (with_reducible repeat (first | refine blk_drewN ?_ _ | refine blk_drew ?_ | refine blk_alloc ?_ _)); refine blk_put (cs := #[.bool false, .int .i64 3, .int .i64 0, .int .u64 0]) ?_ 3 _ rfl; (with_reducible repeat (first | refine blk_drewN ?_ _ | refine blk_drew ?_ | refine blk_alloc ?_ _)); refine blk_put (cs := #[.bool false, .int .i64 3, .int .i64 0, .int .u64 0]) ?_ 2 _ rfl; (with_reducible repeat (first | refine blk_drewN ?_ _ | refine blk_drew ?_ | refine blk_alloc ?_ _)); refine blk_put (cs := #[.bool false, .int .i64 0, .int .i64 0, .int .u64 0]) ?_ 1 _ rfl; (with_reducible repeat (first | refine blk_drewN ?_ _ | refine blk_drew ?_ | refine blk_alloc ?_ _)); refine blk_put (cs := #[.bool false, .int .i64 0, .int .i64 0, .int .u64 0]) ?_ 0 _ rfl; (with_reducible repeat (first | refine blk_drewN ?_ _ | refine blk_drew ?_ | refine blk_alloc ?_ _)); exact BK228.out) Try.underlying30 rfl (by kernel_rfl)) rfl ?_
   exact ⟨er_, hb1_ HB.out GE228.out⟩
 ·rw [if_neg c7] at H
  have c7b0 : (t229 == t232) = false := beq_eq_false_iff_ne.mpr c7
  have c7b1 : (t229 != t232) = true := bne_iff_ne.mpr c7
  by_cases c13 : t229 = 0
  ·rw [if_pos c13] at H
   have c13b0 : (t229 == 0) = true := beq_iff_eq.mpr c13
   have c13b1 : (t229 != 0) = false := bne_eq_false_iff_eq.mpr c13
   clear c13
   by_cases c14 : t230 = 0
   ·rw [if_pos c14] at H
    have c14b0 : (t230 == 0) = true := beq_iff_eq.mpr c14
    have c14b1 : (t230 != 0) = false := bne_eq_false_iff_eq.mpr c14
    clear c14
    simp only [Option.some.injEq, Prod.mk.injEq] at H
    obtain ⟨rfl, rfl, rfl, rfl⟩ := H
    go_enter Try.func14, Try.ntmps14
    go_wp2_with (first | ((with_reducible refine gate_dst (N := 4) rfl ?_); refine be_ 4 #[.bool false, .int .i64 0, .int .i64 0, .int .u64 0] 30 ?_; intro gb228 hg w15 hbox hb; have BK228 := A_ (hbox); have GW228 := A_ (sz_ hg (hb_ HB.out)); have GE228 := A_ (sz_ hg (hb_ HB.out)); replace HB := A_ (below_step (hb_ HB.out) hb); clear hb hbox hg) | ((with_reducible refine gate_callee (f := 38) rfl ?_); refine gl_ (some 10) Try.func38 #[.int .i64 a0, .int .u64 a1] ?_; (with_reducible refine (r2_Exp.calls k a0 a1 t229 _ A3.out).mono ?_); rintro e w' ⟨rfl, ⟨nd, rfl⟩⟩; refine ⟨_, rfl, ?_⟩; (try (rw [drewN_self w15]; generalize hq_ : World.drewN w15 _ = w15; have n0_ : Aside0 (w15.heap[gb228]? = some (.cells #[.bool false, .int .i64 0, .int .i64 0, .int .u64 0] 30 (0, 0))) := ⟨by rw [← hq_]; exact (bk_ BK228.out)⟩; have n1_ : Aside0 (Below w.heap.size w w15) := ⟨by rw [← hq_]; exact (hb1_ HB.out GE228.out)⟩; clear BK228 HB hq_; have BK228 := n0_; have HB := n1_; clear n0_ n1_))) | ((with_reducible refine gate_callee (f := 39) rfl ?_); refine gl_ (some 13) Try.func39 #[.int .i64 a0, .int .u64 a1] ?_; (with_reducible refine (r2_Frac.calls k a0 a1 t230 _ A4.out).mono ?_); rintro e w' ⟨rfl, ⟨nd, rfl⟩⟩; refine ⟨_, rfl, ?_⟩; (try (rw [drewN_self w15]; generalize hq_ : World.drewN w15 _ = w15; have n0_ : Aside0 (w15.heap[gb228]? = some (.cells #[.bool false, .int .i64 0, .int .i64 0, .int .u64 0] 30 (0, 0))) := ⟨by rw [← hq_]; exact (bk_ BK228.out)⟩; have n1_ : Aside0 (Below w.heap.size w w15) := ⟨by rw [← hq_]; exact (hb1_ HB.out GE228.out)⟩; clear BK228 HB hq_; have BK228 := n0_; have HB := n1_; clear n0_ n1_))) | ((with_reducible refine gate_callee (f := 40) rfl ?_); refine gl_ (some 16) Try.func40 #[.int .i64 a0, .int .u64 a1] ?_; (with_reducible refine (r2_Neg.calls k a0 a1 t231 _ A5.out).mono ?_); rintro e w' ⟨rfl, ⟨nd, rfl⟩⟩; refine ⟨_, rfl, ?_⟩; (try (rw [drewN_self w15]; generalize hq_ : World.drewN w15 _ = w15; have n0_ : Aside0 (w15.heap[gb228]? = some (.cells #[.bool false, .int .i64 0, .int .i64 0, .int .u64 0] 30 (0, 0))) := ⟨by rw [← hq_]; exact (bk_ BK228.out)⟩; have n1_ : Aside0 (Below w.heap.size w w15) := ⟨by rw [← hq_]; exact (hb1_ HB.out GE228.out)⟩; clear BK228 HB hq_; have BK228 := n0_; have HB := n1_; clear n0_ n1_))) | ((with_reducible refine gate_callee (f := 41) rfl ?_); refine gl_ (some 19) Try.func41 #[.int .i64 a0] ?_; (with_reducible refine (r2_Top.calls k a0 t232 _ A6.out).mono ?_); rintro e w' ⟨rfl, ⟨nd, rfl⟩⟩; refine ⟨_, rfl, ?_⟩; (try (rw [drewN_self w15]; generalize hq_ : World.drewN w15 _ = w15; have n0_ : Aside0 (w15.heap[gb228]? = some (.cells #[.bool false, .int .i64 0, .int .i64 0, .int .u64 0] 30 (0, 0))) := ⟨by rw [← hq_]; exact (bk_ BK228.out)⟩; have n1_ : Aside0 (Below w.heap.size w w15) := ⟨by rw [← hq_]; exact (hb1_ HB.out GE228.out)⟩; clear BK228 HB hq_; have BK228 := n0_; have HB := n1_; clear n0_ n1_)); have hcz16_0 := bv_ BK228.out 0; have hcz16_1 := bv_ BK228.out 1; have hcz16_2 := bv_ BK228.out 2; have hcz16_3 := bv_ BK228.out 3; have hfz16_0 := blk_frozen BK228.out 0; have hfz16_1 := blk_frozen BK228.out 1; have hfz16_2 := blk_frozen BK228.out 2; have hfz16_3 := blk_frozen BK228.out 3))
    refine bodyPost_ret (results_cell_row rfl _ _ gb228 30 #[.bool t231, .int .i64 0, .int .i64 0, .int .u64 0] (0, 0) _ rfl (by (with_reducible repeat (first | refine blk_drewN ?_ _ | refine blk_drew ?_ | refine blk_alloc ?_ _)); refine blk_put (cs := #[.bool t231, .int .i64 0, .int .i64 0, .int .u64 0]) ?_ 3 _ rfl; (with_reducible repeat (first | refine blk_drewN ?_ _ | refine blk_drew ?_ | refine blk_alloc ?_ _)); refine blk_put (cs := #[.bool t231, .int .i64 0, .int .i64 0, .int .u64 0]) ?_ 2 _ rfl; (with_reducible repeat (first | refine blk_drewN ?_ _ | refine blk_drew ?_ | refine blk_alloc ?_ _)); refine blk_put (cs := #[.bool t231, .int .i64 0, .int .i64 0, .int .u64 0]) ?_ 1 _ rfl; (with_reducible repeat (first | refine blk_drewN ?_ _ | refine blk_drew ?_ | refine blk_alloc ?_ _)); refine blk_put (cs := #[.bool false, .int .i64 0, .int .i64 0, .int .u64 0]) ?_ 0 _ rfl; (with_reducible repeat (first | refine blk_drewN ?_ _ | refine blk_drew ?_ | refine blk_alloc ?_ _)); exact BK228.out) Try.underlying30 rfl (by kernel_rfl)) rfl ?_
    exact ⟨er_, hb1_ HB.out GE228.out⟩
   ·rw [if_neg c14] at H
    have c14b0 : (t230 == 0) = false := beq_eq_false_iff_ne.mpr c14
    have c14b1 : (t230 != 0) = true := bne_iff_ne.mpr c14
    replace H := ob_ H
    obtain ⟨t233, A170, H⟩ := H
    replace H : ((r2_F.f a0).bind fun t234 => (some (t231, 1, wrap64 ((wrap64 (1 - t233)) - t234), t230))) = some (r1, r2, r3, r4) := H
    have A17 := A_ A170;clear A170
    replace H := ob_ H
    obtain ⟨t234, A180, H⟩ := H
    replace H : (some (t231, 1, wrap64 ((wrap64 (1 - t233)) - t234), t230)) = some (r1, r2, r3, r4) := H
    have A18 := A_ A180;clear A180
    simp only [Option.some.injEq, Prod.mk.injEq] at H
    obtain ⟨rfl, rfl, rfl, rfl⟩ := H
    go_enter Try.func14, Try.ntmps14
    go_wp2_with (first | ((with_reducible refine gate_dst (N := 4) rfl ?_); refine be_ 4 #[.bool false, .int .i64 0, .int .i64 0, .int .u64 0] 30 ?_; intro gb228 hg w19 hbox hb; have BK228 := A_ (hbox); have GW228 := A_ (sz_ hg (hb_ HB.out)); have GE228 := A_ (sz_ hg (hb_ HB.out)); replace HB := A_ (below_step (hb_ HB.out) hb); clear hb hbox hg) | ((with_reducible refine gate_callee (f := 38) rfl ?_); refine gl_ (some 10) Try.func38 #[.int .i64 a0, .int .u64 a1] ?_; (with_reducible refine (r2_Exp.calls k a0 a1 t229 _ A3.out).mono ?_); rintro e w' ⟨rfl, ⟨nd, rfl⟩⟩; refine ⟨_, rfl, ?_⟩; (try (rw [drewN_self w19]; generalize hq_ : World.drewN w19 _ = w19; have n0_ : Aside0 (w19.heap[gb228]? = some (.cells #[.bool false, .int .i64 0, .int .i64 0, .int .u64 0] 30 (0, 0))) := ⟨by rw [← hq_]; exact (bk_ BK228.out)⟩; have n1_ : Aside0 (Below w.heap.size w w19) := ⟨by rw [← hq_]; exact (hb1_ HB.out GE228.out)⟩; clear BK228 HB hq_; have BK228 := n0_; have HB := n1_; clear n0_ n1_))) | ((with_reducible refine gate_callee (f := 39) rfl ?_); refine gl_ (some 13) Try.func39 #[.int .i64 a0, .int .u64 a1] ?_; (with_reducible refine (r2_Frac.calls k a0 a1 t230 _ A4.out).mono ?_); rintro e w' ⟨rfl, ⟨nd, rfl⟩⟩; refine ⟨_, rfl, ?_⟩; (try (rw [drewN_self w19]; generalize hq_ : World.drewN w19 _ = w19; have n0_ : Aside0 (w19.heap[gb228]? = some (.cells #[.bool false, .int .i64 0, .int .i64 0, .int .u64 0] 30 (0, 0))) := ⟨by rw [← hq_]; exact (bk_ BK228.out)⟩; have n1_ : Aside0 (Below w.heap.size w w19) := ⟨by rw [← hq_]; exact (hb1_ HB.out GE228.out)⟩; clear BK228 HB hq_; have BK228 := n0_; have HB := n1_; clear n0_ n1_))) | ((with_reducible refine gate_callee (f := 40) rfl ?_); refine gl_ (some 16) Try.func40 #[.int .i64 a0, .int .u64 a1] ?_; (with_reducible refine (r2_Neg.calls k a0 a1 t231 _ A5.out).mono ?_); rintro e w' ⟨rfl, ⟨nd, rfl⟩⟩; refine ⟨_, rfl, ?_⟩; (try (rw [drewN_self w19]; generalize hq_ : World.drewN w19 _ = w19; have n0_ : Aside0 (w19.heap[gb228]? = some (.cells #[.bool false, .int .i64 0, .int .i64 0, .int .u64 0] 30 (0, 0))) := ⟨by rw [← hq_]; exact (bk_ BK228.out)⟩; have n1_ : Aside0 (Below w.heap.size w w19) := ⟨by rw [← hq_]; exact (hb1_ HB.out GE228.out)⟩; clear BK228 HB hq_; have BK228 := n0_; have HB := n1_; clear n0_ n1_))) | ((with_reducible refine gate_callee (f := 41) rfl ?_); refine gl_ (some 19) Try.func41 #[.int .i64 a0] ?_; (with_reducible refine (r2_Top.calls k a0 t232 _ A6.out).mono ?_); rintro e w' ⟨rfl, ⟨nd, rfl⟩⟩; refine ⟨_, rfl, ?_⟩; (try (rw [drewN_self w19]; generalize hq_ : World.drewN w19 _ = w19; have n0_ : Aside0 (w19.heap[gb228]? = some (.cells #[.bool false, .int .i64 0, .int .i64 0, .int .u64 0] 30 (0, 0))) := ⟨by rw [← hq_]; exact (bk_ BK228.out)⟩; have n1_ : Aside0 (Below w.heap.size w w19) := ⟨by rw [← hq_]; exact (hb1_ HB.out GE228.out)⟩; clear BK228 HB hq_; have BK228 := n0_; have HB := n1_; clear n0_ n1_))) | ((with_reducible refine gate_callee (f := 23) rfl ?_); refine gl_ (some 34) Try.func23 #[.int .i64 a0] ?_; (with_reducible refine (r2_B.calls a0 t233 _ A17.out).mono ?_); rintro e w' ⟨rfl, ⟨nd, rfl⟩⟩; refine ⟨_, rfl, ?_⟩; (try (rw [drewN_self w19]; generalize hq_ : World.drewN w19 _ = w19; have n0_ : Aside0 (w19.heap[gb228]? = some (.cells #[.bool false, .int .i64 0, .int .i64 0, .int .u64 0] 30 (0, 0))) := ⟨by rw [← hq_]; exact (bk_ BK228.out)⟩; have n1_ : Aside0 (Below w.heap.size w w19) := ⟨by rw [← hq_]; exact (hb1_ HB.out GE228.out)⟩; clear BK228 HB hq_; have BK228 := n0_; have HB := n1_; clear n0_ n1_))) | ((with_reducible refine gate_callee (f := 42) rfl ?_); refine gl_ (some 37) Try.func42 #[.int .i64 a0] ?_; (with_reducible refine (r2_F.calls a0 t234 _ A18.out).mono ?_); rintro e w' ⟨rfl, ⟨nd, rfl⟩⟩; refine ⟨_, rfl, ?_⟩; (try (rw [drewN_self w19]; generalize hq_ : World.drewN w19 _ = w19; have n0_ : Aside0 (w19.heap[gb228]? = some (.cells #[.bool false, .int .i64 0, .int .i64 0, .int .u64 0] 30 (0, 0))) := ⟨by rw [← hq_]; exact (bk_ BK228.out)⟩; have n1_ : Aside0 (Below w.heap.size w w19) := ⟨by rw [← hq_]; exact (hb1_ HB.out GE228.out)⟩; clear BK228 HB hq_; have BK228 := n0_; have HB := n1_; clear n0_ n1_)); have hcz20_0 := bv_ BK228.out 0; have hcz20_1 := bv_ BK228.out 1; have hcz20_2 := bv_ BK228.out 2; have hcz20_3 := bv_ BK228.out 3; have hfz20_0 := blk_frozen BK228.out 0; have hfz20_1 := blk_frozen BK228.out 1; have hfz20_2 := blk_frozen BK228.out 2; have hfz20_3 := blk_frozen BK228.out 3))
    refine bodyPost_ret (results_cell_row rfl _ _ gb228 30 #[.bool t231, .int .i64 1, .int .i64 (wrap64 ((wrap64 (1 - t233)) - t234)), .int .u64 t230] (0, 0) _ rfl (by (with_reducible repeat (first | refine blk_drewN ?_ _ | refine blk_drew ?_ | refine blk_alloc ?_ _)); refine blk_put (cs := #[.bool t231, .int .i64 1, .int .i64 (wrap64 ((wrap64 (1 - t233)) - t234)), .int .u64 0]) ?_ 3 _ rfl; (with_reducible repeat (first | refine blk_drewN ?_ _ | refine blk_drew ?_ | refine blk_alloc ?_ _)); refine blk_put (cs := #[.bool t231, .int .i64 1, .int .i64 0, .int .u64 0]) ?_ 2 _ rfl; (with_reducible repeat (first | refine blk_drewN ?_ _ | refine blk_drew ?_ | refine blk_alloc ?_ _)); refine blk_put (cs := #[.bool t231, .int .i64 0, .int .i64 0, .int .u64 0]) ?_ 1 _ rfl; (with_reducible repeat (first | refine blk_drewN ?_ _ | refine blk_drew ?_ | refine blk_alloc ?_ _)); refine blk_put (cs := #[.bool false, .int .i64 0, .int .i64 0, .int .u64 0]) ?_ 0 _ rfl; (with_reducible repeat (first | refine blk_drewN ?_ _ | refine blk_drew ?_ | refine blk_alloc ?_ _)); exact BK228.out) Try.underlying30 rfl (by kernel_rfl)) rfl ?_
    exact ⟨er_, hb1_ HB.out GE228.out⟩
  ·rw [if_neg c13] at H
   have c13b0 : (t229 == 0) = false := beq_eq_false_iff_ne.mpr c13
   have c13b1 : (t229 != 0) = true := bne_iff_ne.mpr c13
   replace H := ob_ H
   obtain ⟨t235, A210, H⟩ := H
   replace H : ((r2_F.f a0).bind fun t236 => ((r2_F.f a0).bind fun t237 => ((r2_Two.f k t237).bind fun t238 => (some (t231, 1, wrap64 ((wrap64 (t229 - t235)) - t236), IntKind.u64.wrap (t238 + t230)))))) = some (r1, r2, r3, r4) := H
   have A21 := A_ A210;clear A210
   replace H := ob_ H
   obtain ⟨t236, A220, H⟩ := H
   replace H : ((r2_F.f a0).bind fun t237 => ((r2_Two.f k t237).bind fun t238 => (some (t231, 1, wrap64 ((wrap64 (t229 - t235)) - t236), IntKind.u64.wrap (t238 + t230))))) = some (r1, r2, r3, r4) := H
   have A22 := A_ A220;clear A220
   replace H := ob_ H
   obtain ⟨t237, A230, H⟩ := H
   replace H : ((r2_Two.f k t237).bind fun t238 => (some (t231, 1, wrap64 ((wrap64 (t229 - t235)) - t236), IntKind.u64.wrap (t238 + t230)))) = some (r1, r2, r3, r4) := H
   have A23 := A_ A230;clear A230
   replace H := ob_ H
   obtain ⟨t238, A240, H⟩ := H
   replace H : (some (t231, 1, wrap64 ((wrap64 (t229 - t235)) - t236), IntKind.u64.wrap (t238 + t230))) = some (r1, r2, r3, r4) := H
   have A24 := A_ A240;clear A240
   simp only [Option.some.injEq, Prod.mk.injEq] at H
   obtain ⟨rfl, rfl, rfl, rfl⟩ := H
   go_enter Try.func14, Try.ntmps14
   go_wp2_with (first | ((with_reducible refine gate_dst (N := 4) rfl ?_); refine be_ 4 #[.bool false, .int .i64 0, .int .i64 0, .int .u64 0] 30 ?_; intro gb228 hg w25 hbox hb; have BK228 := A_ (hbox); have GW228 := A_ (sz_ hg (hb_ HB.out)); have GE228 := A_ (sz_ hg (hb_ HB.out)); replace HB := A_ (below_step (hb_ HB.out) hb); clear hb hbox hg) | ((with_reducible refine gate_callee (f := 38) rfl ?_); refine gl_ (some 10) Try.func38 #[.int .i64 a0, .int .u64 a1] ?_; (with_reducible refine (r2_Exp.calls k a0 a1 t229 _ A3.out).mono ?_); rintro e w' ⟨rfl, ⟨nd, rfl⟩⟩; refine ⟨_, rfl, ?_⟩; (try (rw [drewN_self w25]; generalize hq_ : World.drewN w25 _ = w25; have n0_ : Aside0 (w25.heap[gb228]? = some (.cells #[.bool false, .int .i64 0, .int .i64 0, .int .u64 0] 30 (0, 0))) := ⟨by rw [← hq_]; exact (bk_ BK228.out)⟩; have n1_ : Aside0 (Below w.heap.size w w25) := ⟨by rw [← hq_]; exact (hb1_ HB.out GE228.out)⟩; clear BK228 HB hq_; have BK228 := n0_; have HB := n1_; clear n0_ n1_))) | ((with_reducible refine gate_callee (f := 39) rfl ?_); refine gl_ (some 13) Try.func39 #[.int .i64 a0, .int .u64 a1] ?_; (with_reducible refine (r2_Frac.calls k a0 a1 t230 _ A4.out).mono ?_); rintro e w' ⟨rfl, ⟨nd, rfl⟩⟩; refine ⟨_, rfl, ?_⟩; (try (rw [drewN_self w25]; generalize hq_ : World.drewN w25 _ = w25; have n0_ : Aside0 (w25.heap[gb228]? = some (.cells #[.bool false, .int .i64 0, .int .i64 0, .int .u64 0] 30 (0, 0))) := ⟨by rw [← hq_]; exact (bk_ BK228.out)⟩; have n1_ : Aside0 (Below w.heap.size w w25) := ⟨by rw [← hq_]; exact (hb1_ HB.out GE228.out)⟩; clear BK228 HB hq_; have BK228 := n0_; have HB := n1_; clear n0_ n1_))) | ((with_reducible refine gate_callee (f := 40) rfl ?_); refine gl_ (some 16) Try.func40 #[.int .i64 a0, .int .u64 a1] ?_; (with_reducible refine (r2_Neg.calls k a0 a1 t231 _ A5.out).mono ?_); rintro e w' ⟨rfl, ⟨nd, rfl⟩⟩; refine ⟨_, rfl, ?_⟩; (try (rw [drewN_self w25]; generalize hq_ : World.drewN w25 _ = w25; have n0_ : Aside0 (w25.heap[gb228]? = some (.cells #[.bool false, .int .i64 0, .int .i64 0, .int .u64 0] 30 (0, 0))) := ⟨by rw [← hq_]; exact (bk_ BK228.out)⟩; have n1_ : Aside0 (Below w.heap.size w w25) := ⟨by rw [← hq_]; exact (hb1_ HB.out GE228.out)⟩; clear BK228 HB hq_; have BK228 := n0_; have HB := n1_; clear n0_ n1_))) | ((with_reducible refine gate_callee (f := 41) rfl ?_); refine gl_ (some 19) Try.func41 #[.int .i64 a0] ?_; (with_reducible refine (r2_Top.calls k a0 t232 _ A6.out).mono ?_); rintro e w' ⟨rfl, ⟨nd, rfl⟩⟩; refine ⟨_, rfl, ?_⟩; (try (rw [drewN_self w25]; generalize hq_ : World.drewN w25 _ = w25; have n0_ : Aside0 (w25.heap[gb228]? = some (.cells #[.bool false, .int .i64 0, .int .i64 0, .int .u64 0] 30 (0, 0))) := ⟨by rw [← hq_]; exact (bk_ BK228.out)⟩; have n1_ : Aside0 (Below w.heap.size w w25) := ⟨by rw [← hq_]; exact (hb1_ HB.out GE228.out)⟩; clear BK228 HB hq_; have BK228 := n0_; have HB := n1_; clear n0_ n1_))) | ((with_reducible refine gate_callee (f := 23) rfl ?_); refine gl_ (some 44) Try.func23 #[.int .i64 a0] ?_; (with_reducible refine (r2_B.calls a0 t235 _ A21.out).mono ?_); rintro e w' ⟨rfl, ⟨nd, rfl⟩⟩; refine ⟨_, rfl, ?_⟩; (try (rw [drewN_self w25]; generalize hq_ : World.drewN w25 _ = w25; have n0_ : Aside0 (w25.heap[gb228]? = some (.cells #[.bool false, .int .i64 0, .int .i64 0, .int .u64 0] 30 (0, 0))) := ⟨by rw [← hq_]; exact (bk_ BK228.out)⟩; have n1_ : Aside0 (Below w.heap.size w w25) := ⟨by rw [← hq_]; exact (hb1_ HB.out GE228.out)⟩; clear BK228 HB hq_; have BK228 := n0_; have HB := n1_; clear n0_ n1_))) | ((with_reducible refine gate_callee (f := 42) rfl ?_); refine gl_ (some 47) Try.func42 #[.int .i64 a0] ?_; (with_reducible refine (r2_F.calls a0 t236 _ A22.out).mono ?_); rintro e w' ⟨rfl, ⟨nd, rfl⟩⟩; refine ⟨_, rfl, ?_⟩; (try (rw [drewN_self w25]; generalize hq_ : World.drewN w25 _ = w25; have n0_ : Aside0 (w25.heap[gb228]? = some (.cells #[.bool false, .int .i64 0, .int .i64 0, .int .u64 0] 30 (0, 0))) := ⟨by rw [← hq_]; exact (bk_ BK228.out)⟩; have n1_ : Aside0 (Below w.heap.size w w25) := ⟨by rw [← hq_]; exact (hb1_ HB.out GE228.out)⟩; clear BK228 HB hq_; have BK228 := n0_; have HB := n1_; clear n0_ n1_))) | ((with_reducible refine gate_callee (f := 42) rfl ?_); refine gl_ (some 50) Try.func42 #[.int .i64 a0] ?_; (with_reducible refine (r2_F.calls a0 t237 _ A23.out).mono ?_); rintro e w' ⟨rfl, ⟨nd, rfl⟩⟩; refine ⟨_, rfl, ?_⟩; (try (rw [drewN_self w25]; generalize hq_ : World.drewN w25 _ = w25; have n0_ : Aside0 (w25.heap[gb228]? = some (.cells #[.bool false, .int .i64 0, .int .i64 0, .int .u64 0] 30 (0, 0))) := ⟨by rw [← hq_]; exact (bk_ BK228.out)⟩; have n1_ : Aside0 (Below w.heap.size w w25) := ⟨by rw [← hq_]; exact (hb1_ HB.out GE228.out)⟩; clear BK228 HB hq_; have BK228 := n0_; have HB := n1_; clear n0_ n1_))) | ((with_reducible refine gate_callee (f := 43) rfl ?_); refine gl_ (some 51) Try.func43 #[.int .i64 t237] ?_; (with_reducible refine (r2_Two.calls k t237 t238 _ A24.out).mono ?_); rintro e w' ⟨rfl, ⟨nd, rfl⟩⟩; refine ⟨_, rfl, ?_⟩; (try (rw [drewN_self w25]; generalize hq_ : World.drewN w25 _ = w25; have n0_ : Aside0 (w25.heap[gb228]? = some (.cells #[.bool false, .int .i64 0, .int .i64 0, .int .u64 0] 30 (0, 0))) := ⟨by rw [← hq_]; exact (bk_ BK228.out)⟩; have n1_ : Aside0 (Below w.heap.size w w25) := ⟨by rw [← hq_]; exact (hb1_ HB.out GE228.out)⟩; clear BK228 HB hq_; have BK228 := n0_; have HB := n1_; clear n0_ n1_)); have hcz26_0 := bv_ BK228.out 0; have hcz26_1 := bv_ BK228.out 1; have hcz26_2 := bv_ BK228.out 2; have hcz26_3 := bv_ BK228.out 3; have hfz26_0 := blk_frozen BK228.out 0; have hfz26_1 := blk_frozen BK228.out 1; have hfz26_2 := blk_frozen BK228.out 2; have hfz26_3 := blk_frozen BK228.out 3))
   refine bodyPost_ret (results_cell_row rfl _ _ gb228 30 #[.bool t231, .int .i64 1, .int .i64 (wrap64 ((wrap64 (t229 - t235)) - t236)), .int .u64 (IntKind.u64.wrap (t238 + t230))] (0, 0) _ rfl (by (with_reducible repeat (first | refine blk_drewN ?_ _ | refine blk_drew ?_ | refine blk_alloc ?_ _)); refine blk_put (cs := #[.bool t231, .int .i64 1, .int .i64 (wrap64 ((wrap64 (t229 - t235)) - t236)), .int .u64 0]) ?_ 3 _ rfl; (with_reducible repeat (first | refine blk_drewN ?_ _ | refine blk_drew ?_ | refine blk_alloc ?_ _)); refine blk_put (cs := #[.bool t231, .int .i64 1, .int .i64 0, .int .u64 0]) ?_ 2 _ rfl; (with_reducible repeat (first | refine blk_drewN ?_ _ | refine blk_drew ?_ | refine blk_alloc ?_ _)); refine blk_put (cs := #[.bool t231, .int .i64 0, .int .i64 0, .int .u64 0]) ?_ 1 _ rfl; (with_reducible repeat (first | refine blk_drewN ?_ _ | refine blk_drew ?_ | refine blk_alloc ?_ _)); refine blk_put (cs := #[.bool false, .int .i64 0, .int .i64 0, .int .u64 0]) ?_ 0 _ rfl; (with_reducible repeat (first | refine blk_drewN ?_ _ | refine blk_drew ?_ | refine blk_alloc ?_ _)); exact BK228.out) Try.underlying30 rfl (by kernel_rfl)) rfl ?_
   exact ⟨er_, hb1_ HB.out GE228.out⟩
def r8_sign.f (a0_0 : Bool) (a0_1 : Int) (a0_2 : Int) (a0_3 : Int) : Option (Int) := if a0_1 = 0 then (some 0) else (if a0_0 = true then (some (-1)) else (some 1))
theorem r8_sign.calls (a0_0 : Bool) (a0_1 : Int) (a0_2 : Int) (a0_3 : Int) (r : Int) (w : World) (h : r8_sign.f a0_0 a0_1 a0_2 a0_3 = some r) :
  Calls Try.prog 56 #[.agg #[.bool a0_0, .int .i64 a0_1, .int .i64 a0_2, .int .u64 a0_3]] w fun e w' => e = .returned (.int .i64 r) ∧ Below w.heap.size w w' := by
 have hu30 := Try.underlying30
 have HB := A_ (Below.refl w.heap.size w)
 have H : (if a0_1 = 0 then (some 0) else (if a0_0 = true then (some (-1)) else (some 1))) = some r := h
 clear h
 by_cases c2 : a0_1 = 0
 ·rw [if_pos c2] at H
  have c2b0 : (a0_1 == 0) = true := beq_iff_eq.mpr c2
  have c2b1 : (a0_1 != 0) = false := bne_eq_false_iff_eq.mpr c2
  clear c2
  obtain rfl := Option.some.inj H
  go_enter Try.func56, Try.ntmps56
  go_wp2_with (first | ((with_reducible refine gate_dst (N := 1) rfl ?_); refine be_ 1 #[.bool a0_0, .int .i64 a0_1, .int .i64 a0_2, .int .u64 a0_3] 30 ?_; intro gb544 hg w3 hbox hb; have BK544 := A_ (hbox); have GW544 := A_ (sz_ hg (hb_ HB.out)); have GE544 := A_ (sz_ hg (hb_ HB.out)); replace HB := A_ (below_step (hb_ HB.out) hb); clear hb hbox hg; have hcz4_0 := bv_ BK544.out 0; have hcz4_1 := bv_ BK544.out 1; have hcz4_2 := bv_ BK544.out 2; have hcz4_3 := bv_ BK544.out 3; have hfz4_0 := blk_frozen BK544.out 0; have hfz4_1 := blk_frozen BK544.out 1; have hfz4_2 := blk_frozen BK544.out 2; have hfz4_3 := blk_frozen BK544.out 3))
  go_ret
  exact ⟨er_, hb1_ HB.out GE544.out⟩
 ·rw [if_neg c2] at H
  have c2b0 : (a0_1 == 0) = false := beq_eq_false_iff_ne.mpr c2
  have c2b1 : (a0_1 != 0) = true := bne_iff_ne.mpr c2
  by_cases c5 : a0_0 = true
  ·subst c5
   have H1 : (some (-1)) = some r := by rw [if_pos rfl] at H; exact H
   clear H;have H := H1;clear H1
   obtain rfl := Option.some.inj H
   go_enter Try.func56, Try.ntmps56
   go_wp2_with (first | ((with_reducible refine gate_dst (N := 1) rfl ?_); refine be_ 1 #[.bool true, .int .i64 a0_1, .int .i64 a0_2, .int .u64 a0_3] 30 ?_; intro gb544 hg w6 hbox hb; have BK544 := A_ (hbox); have GW544 := A_ (sz_ hg (hb_ HB.out)); have GE544 := A_ (sz_ hg (hb_ HB.out)); replace HB := A_ (below_step (hb_ HB.out) hb); clear hb hbox hg; have hcz7_0 := bv_ BK544.out 0; have hcz7_1 := bv_ BK544.out 1; have hcz7_2 := bv_ BK544.out 2; have hcz7_3 := bv_ BK544.out 3; have hfz7_0 := blk_frozen BK544.out 0; have hfz7_1 := blk_frozen BK544.out 1; have hfz7_2 := blk_frozen BK544.out 2; have hfz7_3 := blk_frozen BK544.out 3))
   go_ret
   exact ⟨er_, hb1_ HB.out GE544.out⟩
  ·replace c5 := Bool.eq_false_iff.mpr c5
   subst c5
   have H1 : (some 1) = some r := by rw [if_neg (show ¬ (false = true) by decide)] at H; exact H
   clear H;have H := H1;clear H1
   obtain rfl := Option.some.inj H
   go_enter Try.func56, Try.ntmps56
   go_wp2_with (first | ((with_reducible refine gate_dst (N := 1) rfl ?_); refine be_ 1 #[.bool false, .int .i64 a0_1, .int .i64 a0_2, .int .u64 a0_3] 30 ?_; intro gb544 hg w8 hbox hb; have BK544 := A_ (hbox); have GW544 := A_ (sz_ hg (hb_ HB.out)); have GE544 := A_ (sz_ hg (hb_ HB.out)); replace HB := A_ (below_step (hb_ HB.out) hb); clear hb hbox hg; have hcz9_0 := bv_ BK544.out 0; have hcz9_1 := bv_ BK544.out 1; have hcz9_2 := bv_ BK544.out 2; have hcz9_3 := bv_ BK544.out 3; have hfz9_0 := blk_frozen BK544.out 0; have hfz9_1 := blk_frozen BK544.out 1; have hfz9_2 := blk_frozen BK544.out 2; have hfz9_3 := blk_frozen BK544.out 3))
   go_ret
   exact ⟨er_, hb1_ HB.out GE544.out⟩
end Go.Proofs.Ythdeeoallfbjmaa.PA
