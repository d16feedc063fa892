/- What the Go functions that the statement NumericSwaps reaches compute, and the mathematics on it, in the order in which one leans on the other; for every input. -/
import Derived.Test.YtnmlmgmljoncoaaGreatDoorVNumericSwaps0
import Derived.Test.YtnmlmgmljoncoaaGreatDoorMNumericSwaps0
import Derived.Test.YtnmlmgmljoncoaaGreatDoorMNumericSwaps7
import Derived.Test.YtnmlmgmljoncoaaGreatDoorMNumericSwaps3
import Derived.Test.YtnmlmgmljoncoaaGreatDoorMNumericSwaps2
import Derived.Test.YtnmlmgmljoncoaaGreatDoorMNumericSwaps9
import Derived.Test.YtnmlmgmljoncoaaGreatDoorMNumericSwaps6
import Derived.Test.YtnmlmgmljoncoaaGreatDoorMNumericSwaps1
namespace Go.Proofs.YtnmlmgmljoncoaaGreatDoor.PA
open Go.RowKit Go.Proofs.YtnmlmgmljoncoaaGreatDoorW.PrintWords Go.Proofs.YtnmlmgmljoncoaaGreatDoorW.PrintLast Go.Proofs.YtnmlmgmljoncoaaGreatDoorW.PrintMore
attribute [local go_sem] max2_int min2_int max_two min_two max_three min_three max_four min_four   -- for this text's walks alone
set_option linter.unusedVariables false
set_option linter.unusedSimpArgs false
set_option maxHeartbeats 8000000
set_option maxRecDepth 100000
mutual
def sum_parts.j0 : Nat → Int → Bool → Bool → Int → Int → Int → Bool → Int → Int → Int → Option (Int)
 | 0, _, _, _, _, _, _, _, _, _, _ => none
 | k + 1, x0, x7, x431000, x431001, x431002, x431003, x432000, x432001, x432002, x432003 => if x7 = true then ((shape_Nan.f x0).bind fun t432 => (some t432)) else (if x431001 = 2 then (sum_parts.j1 k x0 true x431000 x431001 x431002 x431003 x432000 x432001 x432002 x432003) else (sum_parts.j1 k x0 (x432001 == 2) x431000 x431001 x431002 x431003 x432000 x432001 x432002 x432003))
def sum_parts.j1 : Nat → Int → Bool → Bool → Int → Int → Int → Bool → Int → Int → Int → Option (Int)
 | 0, _, _, _, _, _, _, _, _, _, _ => none
 | k + 1, x0, x18, x431000, x431001, x431002, x431003, x432000, x432001, x432002, x432003 => if x18 = true then ((sum_infinite.f k x0 x431000 x431001 x431002 x431003 x432000 x432001 x432002 x432003).bind fun t433 => (some t433)) else (if x431001 = 0 then (sum_parts.j2 k x0 (x432001 == 0) x431000 x431001 x431002 x431003 x432000 x432001 x432002 x432003) else (sum_parts.j2 k x0 false x431000 x431001 x431002 x431003 x432000 x432001 x432002 x432003))
def sum_parts.j2 : Nat → Int → Bool → Bool → Int → Int → Int → Bool → Int → Int → Int → Option (Int)
 | 0, _, _, _, _, _, _, _, _, _, _ => none
 | k + 1, x0, x31, x431000, x431001, x431002, x431003, x432000, x432001, x432002, x432003 => if x31 = true then (if x431000 = true then ((shape_Zero.f x0 x432000).bind fun t434 => (some t434)) else ((shape_Zero.f x0 false).bind fun t435 => (some t435))) else (if x431001 = 0 then ((round_Narrow.f x0 x432000 x432001 x432002 x432003).bind fun t436 => (some t436)) else (if x432001 = 0 then ((round_Narrow.f x0 x431000 x431001 x431002 x431003).bind fun t437 => (some t437)) else ((sum_finite.f k x0 x431000 x431001 x431002 x431003 x432000 x432001 x432002 x432003).bind fun t438 => (some t438))))
end
def sum_parts.f (k : Nat) (a0 : Int) (a1_0 : Bool) (a1_1 : Int) (a1_2 : Int) (a1_3 : Int) (a2_0 : Bool) (a2_1 : Int) (a2_2 : Int) (a2_3 : Int) : Option (Int) := if a1_1 = 3 then (sum_parts.j0 k a0 true a1_0 a1_1 a1_2 a1_3 a2_0 a2_1 a2_2 a2_3) else (sum_parts.j0 k a0 (a2_1 == 3) a1_0 a1_1 a1_2 a1_3 a2_0 a2_1 a2_2 a2_3)
theorem sum_parts.mono_l : ∀ k, (∀ y0 y1 y2 y3 y4 y5 y6 y7 y8 y9, LeO (sum_parts.j0 k y0 y1 y2 y3 y4 y5 y6 y7 y8 y9) (sum_parts.j0 (k + 1) y0 y1 y2 y3 y4 y5 y6 y7 y8 y9)) ∧ (∀ y0 y1 y2 y3 y4 y5 y6 y7 y8 y9, LeO (sum_parts.j1 k y0 y1 y2 y3 y4 y5 y6 y7 y8 y9) (sum_parts.j1 (k + 1) y0 y1 y2 y3 y4 y5 y6 y7 y8 y9)) ∧ (∀ y0 y1 y2 y3 y4 y5 y6 y7 y8 y9, LeO (sum_parts.j2 k y0 y1 y2 y3 y4 y5 y6 y7 y8 y9) (sum_parts.j2 (k + 1) y0 y1 y2 y3 y4 y5 y6 y7 y8 y9))
 | 0 => ⟨fun _ _ _ _ _ _ _ _ _ _ r h => by simp [sum_parts.j0] at h, fun _ _ _ _ _ _ _ _ _ _ r h => by simp [sum_parts.j1] at h, fun _ _ _ _ _ _ _ _ _ _ r h => by simp [sum_parts.j2] at h⟩
 | k + 1 => by
  obtain ⟨ih0, ih1, ih2⟩ := sum_parts.mono_l k
  refine ⟨?_, ?_, ?_⟩
  ·intro y0 y1 y2 y3 y4 y5 y6 y7 y8 y9
   unfold sum_parts.j0
   repeat' first
   | (with_reducible exact ih0 _ _ _ _ _ _ _ _ _ _)
   | (with_reducible exact ih1 _ _ _ _ _ _ _ _ _ _)
   | (with_reducible exact ih2 _ _ _ _ _ _ _ _ _ _)
   | (with_reducible exact sum_finite.mono _ _ _ _ _ _ _ _ _ _)
   | (with_reducible exact sum_infinite.mono _ _ _ _ _ _ _ _ _ _)
   | (with_reducible exact LeO.refl _)
   | (with_reducible exact LeO.none _)
   | (with_reducible refine LeO.ite ?_ ?_)
   | (with_reducible refine LeO.bind ?_ (fun _ => ?_))
   | exact ih0 _ _ _ _ _ _ _ _ _ _
   | exact ih1 _ _ _ _ _ _ _ _ _ _
   | exact ih2 _ _ _ _ _ _ _ _ _ _
   | exact sum_finite.mono _ _ _ _ _ _ _ _ _ _
   | exact sum_infinite.mono _ _ _ _ _ _ _ _ _ _
   | exact LeO.none _
   | refine LeO.ite ?_ ?_
   | refine LeO.bind ?_ (fun _ => ?_)
  ·intro y0 y1 y2 y3 y4 y5 y6 y7 y8 y9
   unfold sum_parts.j1
   repeat' first
   | (with_reducible exact ih0 _ _ _ _ _ _ _ _ _ _)
   | (with_reducible exact ih1 _ _ _ _ _ _ _ _ _ _)
   | (with_reducible exact ih2 _ _ _ _ _ _ _ _ _ _)
   | (with_reducible exact sum_finite.mono _ _ _ _ _ _ _ _ _ _)
   | (with_reducible exact sum_infinite.mono _ _ _ _ _ _ _ _ _ _)
   | (with_reducible exact LeO.refl _)
   | (with_reducible exact LeO.none _)
   | (with_reducible refine LeO.ite ?_ ?_)
   | (with_reducible refine LeO.bind ?_ (fun _ => ?_))
   | exact ih0 _ _ _ _ _ _ _ _ _ _
   | exact ih1 _ _ _ _ _ _ _ _ _ _
   | exact ih2 _ _ _ _ _ _ _ _ _ _
   | exact sum_finite.mono _ _ _ _ _ _ _ _ _ _
   | exact sum_infinite.mono _ _ _ _ _ _ _ _ _ _
   | exact LeO.none _
   | refine LeO.ite ?_ ?_
   | refine LeO.bind ?_ (fun _ => ?_)
  ·intro y0 y1 y2 y3 y4 y5 y6 y7 y8 y9
   unfold sum_parts.j2
   repeat' first
   | (with_reducible exact ih0 _ _ _ _ _ _ _ _ _ _)
   | (with_reducible exact ih1 _ _ _ _ _ _ _ _ _ _)
   | (with_reducible exact ih2 _ _ _ _ _ _ _ _ _ _)
   | (with_reducible exact sum_finite.mono _ _ _ _ _ _ _ _ _ _)
   | (with_reducible exact sum_infinite.mono _ _ _ _ _ _ _ _ _ _)
   | (with_reducible exact LeO.refl _)
   | (with_reducible exact LeO.none _)
   | (with_reducible refine LeO.ite ?_ ?_)
   | (with_reducible refine LeO.bind ?_ (fun _ => ?_))
   | exact ih0 _ _ _ _ _ _ _ _ _ _
   | exact ih1 _ _ _ _ _ _ _ _ _ _
   | exact ih2 _ _ _ _ _ _ _ _ _ _
   | exact sum_finite.mono _ _ _ _ _ _ _ _ _ _
   | exact sum_infinite.mono _ _ _ _ _ _ _ _ _ _
   | exact LeO.none _
   | refine LeO.ite ?_ ?_
   | refine LeO.bind ?_ (fun _ => ?_)
theorem sum_parts.mono : ∀ a0 a1 a2 a3 a4 a5 a6 a7 a8 k, LeO (sum_parts.f k a0 a1 a2 a3 a4 a5 a6 a7 a8) (sum_parts.f (k + 1) a0 a1 a2 a3 a4 a5 a6 a7 a8) := by
 intro a0 a1 a2 a3 a4 a5 a6 a7 a8 k
 obtain ⟨ih0, ih1, ih2⟩ := sum_parts.mono_l k
 unfold sum_parts.f
 repeat' first
   | (with_reducible exact ih0 _ _ _ _ _ _ _ _ _ _)
   | (with_reducible exact ih1 _ _ _ _ _ _ _ _ _ _)
   | (with_reducible exact ih2 _ _ _ _ _ _ _ _ _ _)
   | (with_reducible exact sum_finite.mono _ _ _ _ _ _ _ _ _ _)
   | (with_reducible exact sum_infinite.mono _ _ _ _ _ _ _ _ _ _)
   | (with_reducible exact LeO.refl _)
   | (with_reducible exact LeO.none _)
   | (with_reducible refine LeO.ite ?_ ?_)
   | (with_reducible refine LeO.bind ?_ (fun _ => ?_))
   | exact ih0 _ _ _ _ _ _ _ _ _ _
   | exact ih1 _ _ _ _ _ _ _ _ _ _
   | exact ih2 _ _ _ _ _ _ _ _ _ _
   | exact sum_finite.mono _ _ _ _ _ _ _ _ _ _
   | exact sum_infinite.mono _ _ _ _ _ _ _ _ _ _
   | exact LeO.none _
   | refine LeO.ite ?_ ?_
   | refine LeO.bind ?_ (fun _ => ?_)
theorem sum_parts.calls (k : Nat) (a0 : Int) (a1_0 : Bool) (a1_1 : Int) (a1_2 : Int) (a1_3 : Int) (a2_0 : Bool) (a2_1 : Int) (a2_2 : Int) (a2_3 : Int) (r : Int) (w : World) (h : sum_parts.f k a0 a1_0 a1_1 a1_2 a1_3 a2_0 a2_1 a2_2 a2_3 = some r) :
  Calls Tryz.prog 150 #[.int .i64 a0, .agg #[.bool a1_0, .int .i64 a1_1, .int .i64 a1_2, .int .u64 a1_3], .agg #[.bool a2_0, .int .i64 a2_1, .int .i64 a2_2, .int .u64 a2_3]] w fun e w' => e = .returned (.int .u64 r) ∧ Below w.heap.size w w' := by
 have hu27 := Tryz.underlying27
 have HB := A_ (Below.refl w.heap.size w)
 have H : (if a1_1 = 3 then (sum_parts.j0 k a0 true a1_0 a1_1 a1_2 a1_3 a2_0 a2_1 a2_2 a2_3) else (sum_parts.j0 k a0 (a2_1 == 3) a1_0 a1_1 a1_2 a1_3 a2_0 a2_1 a2_2 a2_3)) = some r := h
 clear h;have HC4 := A_ H;clear H
 go_enter Tryz.func150, Tryz.ntmps150
 go_upto_region 1 with (first | ((with_reducible refine gate_dst (N := 4) rfl ?_); refine be_ 4 #[.bool a1_0, .int .i64 a1_1, .int .i64 a1_2, .int .u64 a1_3] 27 ?_; intro gb430 hg w5 hbox hb; have BK430 := A_ (hbox); have GW430 := A_ (sz_ hg (hb_ HB.out)); have GE430 := A_ (sz_ hg (hb_ HB.out)); replace HB := A_ (below_step (hb_ HB.out) hb); clear hb hbox hg) | ((with_reducible refine gate_dst (N := 5) rfl ?_); refine be_ 5 #[.bool a2_0, .int .i64 a2_1, .int .i64 a2_2, .int .u64 a2_3] 27 ?_; intro gb431 hg w6 hbox hb; have BK431 := A_ (hbox); have GW431 := A_ (sz_ hg (hb1_ HB.out GE430.out)); have GE431 := A_ (sz_ hg (hb1_ HB.out GE430.out)); have NB430_431 := A_ (nl_ hg BK430.out); have NB431_430 := A_ (ng_ hg BK430.out); replace BK430 := A_ (bb_ BK430.out hb); replace HB := A_ (below_step (hb1_ HB.out GE430.out) hb); clear hb hbox hg))
 (try simp only [Act.put, lI_, l0_, lS_])
 go_cut [7] (fun v7 wc => ∃ (kq : Nat) (x7_3 : Bool), v7 = .bool x7_3 ∧ Aside0 (sum_parts.j0 kq a0 x7_3 a1_0 a1_1 a1_2 a1_3 a2_0 a2_1 a2_2 a2_3 = some r) ∧ Aside0 (kq ≤ k) ∧ Aside0 (wc.heap[gb430]? = some (.cells #[.bool a1_0, .int .i64 a1_1, .int .i64 a1_2, .int .u64 a1_3] 27 (0, 0))) ∧ Aside0 (wc.heap[gb431]? = some (.cells #[.bool a2_0, .int .i64 a2_1, .int .i64 a2_2, .int .u64 a2_3] 27 (0, 0))) ∧ Aside0 (Below w.heap.size w wc))
 case first =>
  have H := HC4.out
  clear HC4
  by_cases c7 : a1_1 = 3
  ·rw [if_pos c7] at H
   have c7b0 : (a1_1 == 3) = true := beq_iff_eq.mpr c7
   have c7b1 : (a1_1 != 3) = false := bne_eq_false_iff_eq.mpr c7
   clear c7
   (first | rw [c7b0] | (simp only [i64_w, i32_w]; rw [c7b0]) | skip)
   have H' := A_ H
   clear H
   have hnb8 := NB430_431.out
   have hnc8 := NB431_430.out
   have hcz9_0 := bv_ BK430.out 0
   have hcz9_1 := bv_ BK430.out 1
   have hcz9_2 := bv_ BK430.out 2
   have hcz9_3 := bv_ BK430.out 3
   have hfz9_0 := blk_frozen BK430.out 0
   have hfz9_1 := blk_frozen BK430.out 1
   have hfz9_2 := blk_frozen BK430.out 2
   have hfz9_3 := blk_frozen BK430.out 3
   go_wp2
   go_meet
   case rel => exact ⟨_, (true), sm_, H', ⟨by first | omega | exact Nat.le_refl _⟩, ⟨bk_ BK430.out⟩, ⟨bk_ BK431.out⟩, ⟨hb2_ HB.out GE430.out GE431.out⟩⟩
  ·rw [if_neg c7] at H
   have c7b0 : (a1_1 == 3) = false := beq_eq_false_iff_ne.mpr c7
   have c7b1 : (a1_1 != 3) = true := bne_iff_ne.mpr c7
   (first | rw [c7b0] | (simp only [i64_w, i32_w]; rw [c7b0]) | skip)
   have H' := A_ H
   clear H
   have hnb10 := NB430_431.out
   have hnc10 := NB431_430.out
   have hcz11_0 := bv_ BK430.out 0
   have hcz11_1 := bv_ BK430.out 1
   have hcz11_2 := bv_ BK430.out 2
   have hcz11_3 := bv_ BK430.out 3
   have hfz11_0 := blk_frozen BK430.out 0
   have hfz11_1 := blk_frozen BK430.out 1
   have hfz11_2 := blk_frozen BK430.out 2
   have hfz11_3 := blk_frozen BK430.out 3
   have hcz12_0 := bv_ BK431.out 0
   have hcz12_1 := bv_ BK431.out 1
   have hcz12_2 := bv_ BK431.out 2
   have hcz12_3 := bv_ BK431.out 3
   have hfz12_0 := blk_frozen BK431.out 0
   have hfz12_1 := blk_frozen BK431.out 1
   have hfz12_2 := blk_frozen BK431.out 2
   have hfz12_3 := blk_frozen BK431.out 3
   go_wp2
   go_meet
   case rel => exact ⟨_, ((a2_1 == 3)), sm_, H', ⟨by first | omega | exact Nat.le_refl _⟩, ⟨bk_ BK430.out⟩, ⟨bk_ BK431.out⟩, ⟨hb2_ HB.out GE430.out GE431.out⟩⟩
 case rest =>
  clear HC4
  try clear c1
  try clear p2
  try clear c7
  try clear c7b0
  try clear c7b1
  try clear c8
  try clear c10
  try clear hcz11_0
  try clear hcz11_1
  try clear hcz11_2
  try clear hcz11_3
  try clear hcz12_0
  try clear hcz12_1
  try clear hcz12_2
  try clear hcz12_3
  try clear hcz9_0
  try clear hcz9_1
  try clear hcz9_2
  try clear hcz9_3
  try clear hfz11_0
  try clear hfz11_1
  try clear hfz11_2
  try clear hfz11_3
  try clear hfz12_0
  try clear hfz12_1
  try clear hfz12_2
  try clear hfz12_3
  try clear hfz9_0
  try clear hfz9_1
  try clear hfz9_2
  try clear hfz9_3
  obtain ⟨kq, x7_3, rfl, HA, HJ3, BK430, BK431, HB⟩ := hcut
  cases kq with
  | zero => exact absurd HA.out (by simp [sum_parts.j0])
  | succ kj3 =>
   have H := HA.out
   clear HA
   simp only [sum_parts.j0] at H
   by_cases c13 : x7_3 = true
   ·subst c13
    have H1 : ((shape_Nan.f a0).bind fun t432 => (some t432)) = some r := by rw [if_pos rfl] at H; exact H
    clear H;have H := H1;clear H1
    replace H := ob_ H
    obtain ⟨t432, A140, H⟩ := H
    replace H : (some t432) = some r := H
    have A14 := A_ A140;clear A140
    obtain rfl := Option.some.inj H
    go_wp2_with (first | ((with_reducible refine gate_callee (f := 146) rfl ?_); refine goesL_ (some 17) rfl rfl Tryz.func146 (by kernel_rfl) rfl #[.int .i64 a0] rfl mp_ ?_; (with_reducible refine (shape_Nan.calls a0 t432 _ A14.out).mono ?_); rintro e w15 ⟨rfl, hb⟩; refine ⟨_, rfl, ?_⟩; replace BK430 := A_ (bb_ BK430.out hb); replace BK431 := A_ (bb_ BK431.out hb); replace HB := A_ (below_step (hb2_ HB.out GE430.out GE431.out) hb); (try clear hb); (try clear hb2); (try clear hk); (try clear hi)))
    go_ret
    exact ⟨er_, hb2_ HB.out GE430.out GE431.out⟩
   ·replace c13 := Bool.eq_false_iff.mpr c13
    subst c13
    have H1 : (if a1_1 = 2 then (sum_parts.j1 kj3 a0 true a1_0 a1_1 a1_2 a1_3 a2_0 a2_1 a2_2 a2_3) else (sum_parts.j1 kj3 a0 (a2_1 == 2) a1_0 a1_1 a1_2 a1_3 a2_0 a2_1 a2_2 a2_3)) = some r := by rw [if_neg (show ¬ (false = true) by decide)] at H; exact H
    clear H;have H := H1;clear H1;have HC16 := A_ H;clear H
    go_upto_region 3 with (fail)
    go_cut [18] (fun v18 wc => ∃ (kq : Nat) (x18_15 : Bool), v18 = .bool x18_15 ∧ Aside0 (sum_parts.j1 kq a0 x18_15 a1_0 a1_1 a1_2 a1_3 a2_0 a2_1 a2_2 a2_3 = some r) ∧ Aside0 (kq ≤ kj3) ∧ Aside0 (wc.heap[gb430]? = some (.cells #[.bool a1_0, .int .i64 a1_1, .int .i64 a1_2, .int .u64 a1_3] 27 (0, 0))) ∧ Aside0 (wc.heap[gb431]? = some (.cells #[.bool a2_0, .int .i64 a2_1, .int .i64 a2_2, .int .u64 a2_3] 27 (0, 0))) ∧ Aside0 (Below w.heap.size w wc))
    case first =>
     have H := HC16.out
     clear HC16
     by_cases c17 : a1_1 = 2
     ·rw [if_pos c17] at H
      have c17b0 : (a1_1 == 2) = true := beq_iff_eq.mpr c17
      have c17b1 : (a1_1 != 2) = false := bne_eq_false_iff_eq.mpr c17
      clear c17
      (first | rw [c17b0] | (simp only [i64_w, i32_w]; rw [c17b0]) | skip)
      have H' := A_ H
      clear H
      have hnb18 := NB430_431.out
      have hnc18 := NB431_430.out
      have hcz19_0 := bv_ BK430.out 0
      have hcz19_1 := bv_ BK430.out 1
      have hcz19_2 := bv_ BK430.out 2
      have hcz19_3 := bv_ BK430.out 3
      have hfz19_0 := blk_frozen BK430.out 0
      have hfz19_1 := blk_frozen BK430.out 1
      have hfz19_2 := blk_frozen BK430.out 2
      have hfz19_3 := blk_frozen BK430.out 3
      go_wp2
      go_meet
      case rel => exact ⟨_, (true), sm_, H', ⟨by have := HJ3.out; first | omega | exact Nat.le_refl _⟩, ⟨bk_ BK430.out⟩, ⟨bk_ BK431.out⟩, ⟨hb2_ HB.out GE430.out GE431.out⟩⟩
     ·rw [if_neg c17] at H
      have c17b0 : (a1_1 == 2) = false := beq_eq_false_iff_ne.mpr c17
      have c17b1 : (a1_1 != 2) = true := bne_iff_ne.mpr c17
      (first | rw [c17b0] | (simp only [i64_w, i32_w]; rw [c17b0]) | skip)
      have H' := A_ H
      clear H
      have hnb20 := NB430_431.out
      have hnc20 := NB431_430.out
      have hcz21_0 := bv_ BK430.out 0
      have hcz21_1 := bv_ BK430.out 1
      have hcz21_2 := bv_ BK430.out 2
      have hcz21_3 := bv_ BK430.out 3
      have hfz21_0 := blk_frozen BK430.out 0
      have hfz21_1 := blk_frozen BK430.out 1
      have hfz21_2 := blk_frozen BK430.out 2
      have hfz21_3 := blk_frozen BK430.out 3
      have hcz22_0 := bv_ BK431.out 0
      have hcz22_1 := bv_ BK431.out 1
      have hcz22_2 := bv_ BK431.out 2
      have hcz22_3 := bv_ BK431.out 3
      have hfz22_0 := blk_frozen BK431.out 0
      have hfz22_1 := blk_frozen BK431.out 1
      have hfz22_2 := blk_frozen BK431.out 2
      have hfz22_3 := blk_frozen BK431.out 3
      go_wp2
      go_meet
      case rel => exact ⟨_, ((a2_1 == 2)), sm_, H', ⟨by have := HJ3.out; first | omega | exact Nat.le_refl _⟩, ⟨bk_ BK430.out⟩, ⟨bk_ BK431.out⟩, ⟨hb2_ HB.out GE430.out GE431.out⟩⟩
    case rest =>
     clear HC16
     try clear c1
     try clear c2
     try clear p2
     try clear c7
     try clear c7b0
     try clear c7b1
     try clear c8
     try clear c10
     try clear c13
     try clear c14
     try clear c15
     try clear c17
     try clear c17b0
     try clear c17b1
     try clear c18
     try clear c20
     try clear hcz11_0
     try clear hcz11_1
     try clear hcz11_2
     try clear hcz11_3
     try clear hcz12_0
     try clear hcz12_1
     try clear hcz12_2
     try clear hcz12_3
     try clear hcz19_0
     try clear hcz19_1
     try clear hcz19_2
     try clear hcz19_3
     try clear hcz21_0
     try clear hcz21_1
     try clear hcz21_2
     try clear hcz21_3
     try clear hcz22_0
     try clear hcz22_1
     try clear hcz22_2
     try clear hcz22_3
     try clear hcz9_0
     try clear hcz9_1
     try clear hcz9_2
     try clear hcz9_3
     try clear hfz11_0
     try clear hfz11_1
     try clear hfz11_2
     try clear hfz11_3
     try clear hfz12_0
     try clear hfz12_1
     try clear hfz12_2
     try clear hfz12_3
     try clear hfz19_0
     try clear hfz19_1
     try clear hfz19_2
     try clear hfz19_3
     try clear hfz21_0
     try clear hfz21_1
     try clear hfz21_2
     try clear hfz21_3
     try clear hfz22_0
     try clear hfz22_1
     try clear hfz22_2
     try clear hfz22_3
     try clear hfz9_0
     try clear hfz9_1
     try clear hfz9_2
     try clear hfz9_3
     try clear p2
     obtain ⟨kq, x18_15, rfl, HA, HJ15, BK430, BK431, HB⟩ := hcut
     cases kq with
     | zero => exact absurd HA.out (by simp [sum_parts.j1])
     | succ kj15 =>
      have H := HA.out
      clear HA
      simp only [sum_parts.j1] at H
      by_cases c23 : x18_15 = true
      ·subst c23
       have H1 : ((sum_infinite.f kj15 a0 a1_0 a1_1 a1_2 a1_3 a2_0 a2_1 a2_2 a2_3).bind fun t433 => (some t433)) = some r := by rw [if_pos rfl] at H; exact H
       clear H;have H := H1;clear H1
       replace H := ob_ H
       obtain ⟨t433, A240, H⟩ := H
       replace H : (some t433) = some r := H
       have A24 := A_ A240;clear A240
       obtain rfl := Option.some.inj H
       have hnb25 := NB430_431.out
       have hnc25 := NB431_430.out
       have hcz26_0 := bv_ BK430.out 0
       have hcz26_1 := bv_ BK430.out 1
       have hcz26_2 := bv_ BK430.out 2
       have hcz26_3 := bv_ BK430.out 3
       have hfz26_0 := blk_frozen BK430.out 0
       have hfz26_1 := blk_frozen BK430.out 1
       have hfz26_2 := blk_frozen BK430.out 2
       have hfz26_3 := blk_frozen BK430.out 3
       have hcz27_0 := bv_ BK431.out 0
       have hcz27_1 := bv_ BK431.out 1
       have hcz27_2 := bv_ BK431.out 2
       have hcz27_3 := bv_ BK431.out 3
       have hfz27_0 := blk_frozen BK431.out 0
       have hfz27_1 := blk_frozen BK431.out 1
       have hfz27_2 := blk_frozen BK431.out 2
       have hfz27_3 := blk_frozen BK431.out 3
       go_wp2_with (first | ((with_reducible refine gate_callee (f := 218) rfl ?_); refine goesL_ (some 30) rfl rfl Tryz.func218 (by kernel_rfl) rfl #[.int .i64 a0, .agg #[.bool a1_0, .int .i64 a1_1, .int .i64 a1_2, .int .u64 a1_3], .agg #[.bool a2_0, .int .i64 a2_1, .int .i64 a2_2, .int .u64 a2_3]] rfl mp_ ?_; (with_reducible refine (sum_infinite.calls kj15 a0 a1_0 a1_1 a1_2 a1_3 a2_0 a2_1 a2_2 a2_3 t433 _ A24.out).mono ?_); rintro e w28 ⟨rfl, hb⟩; refine ⟨_, rfl, ?_⟩; replace BK430 := A_ (bb_ BK430.out hb); replace BK431 := A_ (bb_ BK431.out hb); replace HB := A_ (below_step (hb2_ HB.out GE430.out GE431.out) hb); (try clear hb); (try clear hb2); (try clear hk); (try clear hi)))
       go_ret
       exact ⟨er_, hb2_ HB.out GE430.out GE431.out⟩
      ·replace c23 := Bool.eq_false_iff.mpr c23
       subst c23
       have H1 : (if a1_1 = 0 then (sum_parts.j2 kj15 a0 (a2_1 == 0) a1_0 a1_1 a1_2 a1_3 a2_0 a2_1 a2_2 a2_3) else (sum_parts.j2 kj15 a0 false a1_0 a1_1 a1_2 a1_3 a2_0 a2_1 a2_2 a2_3)) = some r := by rw [if_neg (show ¬ (false = true) by decide)] at H; exact H
       clear H;have H := H1;clear H1;have HC29 := A_ H;clear H
       go_upto_region 5 with (fail)
       go_cut [31] (fun v31 wc => ∃ (kq : Nat) (x31_28 : Bool), v31 = .bool x31_28 ∧ Aside0 (sum_parts.j2 kq a0 x31_28 a1_0 a1_1 a1_2 a1_3 a2_0 a2_1 a2_2 a2_3 = some r) ∧ Aside0 (kq ≤ kj15) ∧ Aside0 (wc.heap[gb430]? = some (.cells #[.bool a1_0, .int .i64 a1_1, .int .i64 a1_2, .int .u64 a1_3] 27 (0, 0))) ∧ Aside0 (wc.heap[gb431]? = some (.cells #[.bool a2_0, .int .i64 a2_1, .int .i64 a2_2, .int .u64 a2_3] 27 (0, 0))) ∧ Aside0 (Below w.heap.size w wc))
       case first =>
        have H := HC29.out
        clear HC29
        by_cases c30 : a1_1 = 0
        ·rw [if_pos c30] at H
         have c30b0 : (a1_1 == 0) = true := beq_iff_eq.mpr c30
         have c30b1 : (a1_1 != 0) = false := bne_eq_false_iff_eq.mpr c30
         clear c30
         (first | rw [c30b0] | (simp only [i64_w, i32_w]; rw [c30b0]) | skip)
         have H' := A_ H
         clear H
         have hnb31 := NB430_431.out
         have hnc31 := NB431_430.out
         have hcz32_0 := bv_ BK430.out 0
         have hcz32_1 := bv_ BK430.out 1
         have hcz32_2 := bv_ BK430.out 2
         have hcz32_3 := bv_ BK430.out 3
         have hfz32_0 := blk_frozen BK430.out 0
         have hfz32_1 := blk_frozen BK430.out 1
         have hfz32_2 := blk_frozen BK430.out 2
         have hfz32_3 := blk_frozen BK430.out 3
         have hcz33_0 := bv_ BK431.out 0
         have hcz33_1 := bv_ BK431.out 1
         have hcz33_2 := bv_ BK431.out 2
         have hcz33_3 := bv_ BK431.out 3
         have hfz33_0 := blk_frozen BK431.out 0
         have hfz33_1 := blk_frozen BK431.out 1
         have hfz33_2 := blk_frozen BK431.out 2
         have hfz33_3 := blk_frozen BK431.out 3
         go_wp2
         go_meet
         case rel => exact ⟨_, ((a2_1 == 0)), sm_, H', ⟨by have := HJ3.out; have := HJ15.out; first | omega | exact Nat.le_refl _⟩, ⟨bk_ BK430.out⟩, ⟨bk_ BK431.out⟩, ⟨hb2_ HB.out GE430.out GE431.out⟩⟩
        ·rw [if_neg c30] at H
         have c30b0 : (a1_1 == 0) = false := beq_eq_false_iff_ne.mpr c30
         have c30b1 : (a1_1 != 0) = true := bne_iff_ne.mpr c30
         (first | rw [c30b0] | (simp only [i64_w, i32_w]; rw [c30b0]) | skip)
         have H' := A_ H
         clear H
         have hnb34 := NB430_431.out
         have hnc34 := NB431_430.out
         have hcz35_0 := bv_ BK430.out 0
         have hcz35_1 := bv_ BK430.out 1
         have hcz35_2 := bv_ BK430.out 2
         have hcz35_3 := bv_ BK430.out 3
         have hfz35_0 := blk_frozen BK430.out 0
         have hfz35_1 := blk_frozen BK430.out 1
         have hfz35_2 := blk_frozen BK430.out 2
         have hfz35_3 := blk_frozen BK430.out 3
         go_wp2
         go_meet
         case rel => exact ⟨_, (false), sm_, H', ⟨by have := HJ3.out; have := HJ15.out; first | omega | exact Nat.le_refl _⟩, ⟨bk_ BK430.out⟩, ⟨bk_ BK431.out⟩, ⟨hb2_ HB.out GE430.out GE431.out⟩⟩
       case rest =>
        clear HC29
        try clear c1
        try clear c2
        try clear p2
        try clear c3
        try clear c7
        try clear c7b0
        try clear c7b1
        try clear c8
        try clear c10
        try clear c13
        try clear c14
        try clear c15
        try clear c17
        try clear c17b0
        try clear c17b1
        try clear c18
        try clear c20
        try clear c21
        try clear c23
        try clear c25
        try clear c30
        try clear c30b0
        try clear c30b1
        try clear c31
        try clear c34
        try clear hcz11_0
        try clear hcz11_1
        try clear hcz11_2
        try clear hcz11_3
        try clear hcz12_0
        try clear hcz12_1
        try clear hcz12_2
        try clear hcz12_3
        try clear hcz19_0
        try clear hcz19_1
        try clear hcz19_2
        try clear hcz19_3
        try clear hcz21_0
        try clear hcz21_1
        try clear hcz21_2
        try clear hcz21_3
        try clear hcz22_0
        try clear hcz22_1
        try clear hcz22_2
        try clear hcz22_3
        try clear hcz26_0
        try clear hcz26_1
        try clear hcz26_2
        try clear hcz26_3
        try clear hcz27_0
        try clear hcz27_1
        try clear hcz27_2
        try clear hcz27_3
        try clear hcz32_0
        try clear hcz32_1
        try clear hcz32_2
        try clear hcz32_3
        try clear hcz33_0
        try clear hcz33_1
        try clear hcz33_2
        try clear hcz33_3
        try clear hcz35_0
        try clear hcz35_1
        try clear hcz35_2
        try clear hcz35_3
        try clear hcz9_0
        try clear hcz9_1
        try clear hcz9_2
        try clear hcz9_3
        try clear hfz11_0
        try clear hfz11_1
        try clear hfz11_2
        try clear hfz11_3
        try clear hfz12_0
        try clear hfz12_1
        try clear hfz12_2
        try clear hfz12_3
        try clear hfz19_0
        try clear hfz19_1
        try clear hfz19_2
        try clear hfz19_3
        try clear hfz21_0
        try clear hfz21_1
        try clear hfz21_2
        try clear hfz21_3
        try clear hfz22_0
        try clear hfz22_1
        try clear hfz22_2
        try clear hfz22_3
        try clear hfz26_0
        try clear hfz26_1
        try clear hfz26_2
        try clear hfz26_3
        try clear hfz27_0
        try clear hfz27_1
        try clear hfz27_2
        try clear hfz27_3
        try clear hfz32_0
        try clear hfz32_1
        try clear hfz32_2
        try clear hfz32_3
        try clear hfz33_0
        try clear hfz33_1
        try clear hfz33_2
        try clear hfz33_3
        try clear hfz35_0
        try clear hfz35_1
        try clear hfz35_2
        try clear hfz35_3
        try clear hfz9_0
        try clear hfz9_1
        try clear hfz9_2
        try clear hfz9_3
        try clear p2
        obtain ⟨kq, x31_28, rfl, HA, HJ28, BK430, BK431, HB⟩ := hcut
        cases kq with
        | zero => exact absurd HA.out (by simp [sum_parts.j2])
        | succ kj28 =>
         have H := HA.out
         clear HA
         simp only [sum_parts.j2] at H
         by_cases c36 : x31_28 = true
         ·subst c36
          have H1 : (if a1_0 = true then ((shape_Zero.f a0 a2_0).bind fun t434 => (some t434)) else ((shape_Zero.f a0 false).bind fun t435 => (some t435))) = some r := by rw [if_pos rfl] at H; exact H
          clear H;have H := H1;clear H1
          by_cases c37 : a1_0 = true
          ·subst c37
           have H1 : ((shape_Zero.f a0 a2_0).bind fun t434 => (some t434)) = some r := by rw [if_pos rfl] at H; exact H
           clear H;have H := H1;clear H1
           replace H := ob_ H
           obtain ⟨t434, A380, H⟩ := H
           replace H : (some t434) = some r := H
           have A38 := A_ A380;clear A380
           obtain rfl := Option.some.inj H
           have hnb39 := NB430_431.out
           have hnc39 := NB431_430.out
           have hcz40_0 := bv_ BK430.out 0
           have hcz40_1 := bv_ BK430.out 1
           have hcz40_2 := bv_ BK430.out 2
           have hcz40_3 := bv_ BK430.out 3
           have hfz40_0 := blk_frozen BK430.out 0
           have hfz40_1 := blk_frozen BK430.out 1
           have hfz40_2 := blk_frozen BK430.out 2
           have hfz40_3 := blk_frozen BK430.out 3
           have hcz41_0 := bv_ BK431.out 0
           have hcz41_1 := bv_ BK431.out 1
           have hcz41_2 := bv_ BK431.out 2
           have hcz41_3 := bv_ BK431.out 3
           have hfz41_0 := blk_frozen BK431.out 0
           have hfz41_1 := blk_frozen BK431.out 1
           have hfz41_2 := blk_frozen BK431.out 2
           have hfz41_3 := blk_frozen BK431.out 3
           go_wp2_with (first | ((with_reducible refine gate_callee (f := 145) rfl ?_); refine goesL_ (some 47) rfl rfl Tryz.func145 (by kernel_rfl) rfl #[.int .i64 a0, .bool a2_0] rfl mp_ ?_; (with_reducible refine (shape_Zero.calls a0 a2_0 t434 _ A38.out).mono ?_); rintro e w42 ⟨rfl, hb⟩; refine ⟨_, rfl, ?_⟩; replace BK430 := A_ (bb_ BK430.out hb); replace BK431 := A_ (bb_ BK431.out hb); replace HB := A_ (below_step (hb2_ HB.out GE430.out GE431.out) hb); (try clear hb); (try clear hb2); (try clear hk); (try clear hi)))
           go_ret
           exact ⟨er_, hb2_ HB.out GE430.out GE431.out⟩
          ·replace c37 := Bool.eq_false_iff.mpr c37
           subst c37
           have H1 : ((shape_Zero.f a0 false).bind fun t435 => (some t435)) = some r := by rw [if_neg (show ¬ (false = true) by decide)] at H; exact H
           clear H;have H := H1;clear H1
           replace H := ob_ H
           obtain ⟨t435, A430, H⟩ := H
           replace H : (some t435) = some r := H
           have A43 := A_ A430;clear A430
           obtain rfl := Option.some.inj H
           have hnb44 := NB430_431.out
           have hnc44 := NB431_430.out
           have hcz45_0 := bv_ BK430.out 0
           have hcz45_1 := bv_ BK430.out 1
           have hcz45_2 := bv_ BK430.out 2
           have hcz45_3 := bv_ BK430.out 3
           have hfz45_0 := blk_frozen BK430.out 0
           have hfz45_1 := blk_frozen BK430.out 1
           have hfz45_2 := blk_frozen BK430.out 2
           have hfz45_3 := blk_frozen BK430.out 3
           go_wp2_with (first | ((with_reducible refine gate_callee (f := 145) rfl ?_); refine goesL_ (some 47) rfl rfl Tryz.func145 (by kernel_rfl) rfl #[.int .i64 a0, .bool false] rfl mp_ ?_; (with_reducible refine (shape_Zero.calls a0 false t435 _ A43.out).mono ?_); rintro e w46 ⟨rfl, hb⟩; refine ⟨_, rfl, ?_⟩; replace BK430 := A_ (bb_ BK430.out hb); replace BK431 := A_ (bb_ BK431.out hb); replace HB := A_ (below_step (hb2_ HB.out GE430.out GE431.out) hb); (try clear hb); (try clear hb2); (try clear hk); (try clear hi)))
           go_ret
           exact ⟨er_, hb2_ HB.out GE430.out GE431.out⟩
         ·replace c36 := Bool.eq_false_iff.mpr c36
          subst c36
          have H1 : (if a1_1 = 0 then ((round_Narrow.f a0 a2_0 a2_1 a2_2 a2_3).bind fun t436 => (some t436)) else (if a2_1 = 0 then ((round_Narrow.f a0 a1_0 a1_1 a1_2 a1_3).bind fun t437 => (some t437)) else ((sum_finite.f kj28 a0 a1_0 a1_1 a1_2 a1_3 a2_0 a2_1 a2_2 a2_3).bind fun t438 => (some t438)))) = some r := by rw [if_neg (show ¬ (false = true) by decide)] at H; exact H
          clear H;have H := H1;clear H1
          by_cases c47 : a1_1 = 0
          ·rw [if_pos c47] at H
           have c47b0 : (a1_1 == 0) = true := beq_iff_eq.mpr c47
           have c47b1 : (a1_1 != 0) = false := bne_eq_false_iff_eq.mpr c47
           clear c47
           replace H := ob_ H
           obtain ⟨t436, A480, H⟩ := H
           replace H : (some t436) = some r := H
           have A48 := A_ A480;clear A480
           obtain rfl := Option.some.inj H
           have hnb49 := NB430_431.out
           have hnc49 := NB431_430.out
           have hcz50_0 := bv_ BK430.out 0
           have hcz50_1 := bv_ BK430.out 1
           have hcz50_2 := bv_ BK430.out 2
           have hcz50_3 := bv_ BK430.out 3
           have hfz50_0 := blk_frozen BK430.out 0
           have hfz50_1 := blk_frozen BK430.out 1
           have hfz50_2 := blk_frozen BK430.out 2
           have hfz50_3 := blk_frozen BK430.out 3
           have hcz51_0 := bv_ BK431.out 0
           have hcz51_1 := bv_ BK431.out 1
           have hcz51_2 := bv_ BK431.out 2
           have hcz51_3 := bv_ BK431.out 3
           have hfz51_0 := blk_frozen BK431.out 0
           have hfz51_1 := blk_frozen BK431.out 1
           have hfz51_2 := blk_frozen BK431.out 2
           have hfz51_3 := blk_frozen BK431.out 3
           go_wp2_with (first | ((with_reducible refine gate_callee (f := 158) rfl ?_); refine goesL_ (some 54) rfl rfl Tryz.func158 (by kernel_rfl) rfl #[.int .i64 a0, .agg #[.bool a2_0, .int .i64 a2_1, .int .i64 a2_2, .int .u64 a2_3]] rfl mp_ ?_; (with_reducible refine (round_Narrow.calls a0 a2_0 a2_1 a2_2 a2_3 t436 _ A48.out).mono ?_); rintro e w52 ⟨rfl, hb⟩; refine ⟨_, rfl, ?_⟩; replace BK430 := A_ (bb_ BK430.out hb); replace BK431 := A_ (bb_ BK431.out hb); replace HB := A_ (below_step (hb2_ HB.out GE430.out GE431.out) hb); (try clear hb); (try clear hb2); (try clear hk); (try clear hi)))
           go_ret
           exact ⟨er_, hb2_ HB.out GE430.out GE431.out⟩
          ·rw [if_neg c47] at H
           have c47b0 : (a1_1 == 0) = false := beq_eq_false_iff_ne.mpr c47
           have c47b1 : (a1_1 != 0) = true := bne_iff_ne.mpr c47
           by_cases c53 : a2_1 = 0
           ·rw [if_pos c53] at H
            have c53b0 : (a2_1 == 0) = true := beq_iff_eq.mpr c53
            have c53b1 : (a2_1 != 0) = false := bne_eq_false_iff_eq.mpr c53
            clear c53
            replace H := ob_ H
            obtain ⟨t437, A540, H⟩ := H
            replace H : (some t437) = some r := H
            have A54 := A_ A540;clear A540
            obtain rfl := Option.some.inj H
            have hnb55 := NB430_431.out
            have hnc55 := NB431_430.out
            have hcz56_0 := bv_ BK430.out 0
            have hcz56_1 := bv_ BK430.out 1
            have hcz56_2 := bv_ BK430.out 2
            have hcz56_3 := bv_ BK430.out 3
            have hfz56_0 := blk_frozen BK430.out 0
            have hfz56_1 := blk_frozen BK430.out 1
            have hfz56_2 := blk_frozen BK430.out 2
            have hfz56_3 := blk_frozen BK430.out 3
            have hcz57_0 := bv_ BK431.out 0
            have hcz57_1 := bv_ BK431.out 1
            have hcz57_2 := bv_ BK431.out 2
            have hcz57_3 := bv_ BK431.out 3
            have hfz57_0 := blk_frozen BK431.out 0
            have hfz57_1 := blk_frozen BK431.out 1
            have hfz57_2 := blk_frozen BK431.out 2
            have hfz57_3 := blk_frozen BK431.out 3
            go_wp2_with (first | ((with_reducible refine gate_callee (f := 158) rfl ?_); refine goesL_ (some 61) rfl rfl Tryz.func158 (by kernel_rfl) rfl #[.int .i64 a0, .agg #[.bool a1_0, .int .i64 a1_1, .int .i64 a1_2, .int .u64 a1_3]] rfl mp_ ?_; (with_reducible refine (round_Narrow.calls a0 a1_0 a1_1 a1_2 a1_3 t437 _ A54.out).mono ?_); rintro e w58 ⟨rfl, hb⟩; refine ⟨_, rfl, ?_⟩; replace BK430 := A_ (bb_ BK430.out hb); replace BK431 := A_ (bb_ BK431.out hb); replace HB := A_ (below_step (hb2_ HB.out GE430.out GE431.out) hb); (try clear hb); (try clear hb2); (try clear hk); (try clear hi)))
            go_ret
            exact ⟨er_, hb2_ HB.out GE430.out GE431.out⟩
           ·rw [if_neg c53] at H
            have c53b0 : (a2_1 == 0) = false := beq_eq_false_iff_ne.mpr c53
            have c53b1 : (a2_1 != 0) = true := bne_iff_ne.mpr c53
            replace H := ob_ H
            obtain ⟨t438, A590, H⟩ := H
            replace H : (some t438) = some r := H
            have A59 := A_ A590;clear A590
            obtain rfl := Option.some.inj H
            have hnb60 := NB430_431.out
            have hnc60 := NB431_430.out
            have hcz61_0 := bv_ BK430.out 0
            have hcz61_1 := bv_ BK430.out 1
            have hcz61_2 := bv_ BK430.out 2
            have hcz61_3 := bv_ BK430.out 3
            have hfz61_0 := blk_frozen BK430.out 0
            have hfz61_1 := blk_frozen BK430.out 1
            have hfz61_2 := blk_frozen BK430.out 2
            have hfz61_3 := blk_frozen BK430.out 3
            have hcz62_0 := bv_ BK431.out 0
            have hcz62_1 := bv_ BK431.out 1
            have hcz62_2 := bv_ BK431.out 2
            have hcz62_3 := bv_ BK431.out 3
            have hfz62_0 := blk_frozen BK431.out 0
            have hfz62_1 := blk_frozen BK431.out 1
            have hfz62_2 := blk_frozen BK431.out 2
            have hfz62_3 := blk_frozen BK431.out 3
            go_wp2_with (first | ((with_reducible refine gate_callee (f := 219) rfl ?_); refine goesL_ (some 65) rfl rfl Tryz.func219 (by kernel_rfl) rfl #[.int .i64 a0, .agg #[.bool a1_0, .int .i64 a1_1, .int .i64 a1_2, .int .u64 a1_3], .agg #[.bool a2_0, .int .i64 a2_1, .int .i64 a2_2, .int .u64 a2_3]] rfl mp_ ?_; (with_reducible refine (sum_finite.calls kj28 a0 a1_0 a1_1 a1_2 a1_3 a2_0 a2_1 a2_2 a2_3 t438 _ A59.out).mono ?_); rintro e w63 ⟨rfl, hb⟩; refine ⟨_, rfl, ?_⟩; replace BK430 := A_ (bb_ BK430.out hb); replace BK431 := A_ (bb_ BK431.out hb); replace HB := A_ (below_step (hb2_ HB.out GE430.out GE431.out) hb); (try clear hb); (try clear hb2); (try clear hk); (try clear hi)))
            go_ret
            exact ⟨er_, hb2_ HB.out GE430.out GE431.out⟩
def sum_Add.f (k : Nat) (a0 : Int) (a1 : Int) (a2 : Int) : Option (Int) := (sum_known.f a0).bind fun t439 => (if t439 = true then ((shape_Open.f k a0 a1).bind fun bt440 => ((shape_Open.f k a0 a2).bind fun bt444 => ((sum_parts.f k a0 bt440.1 bt440.2.1 bt440.2.2.1 bt440.2.2.2 bt444.1 bt444.2.1 bt444.2.2.1 bt444.2.2.2).bind fun t448 => (some t448)))) else (some 0))
theorem sum_Add.mono : ∀ a0 a1 a2 k, LeO (sum_Add.f k a0 a1 a2) (sum_Add.f (k + 1) a0 a1 a2) := by
 intro a0 a1 a2 k
 unfold sum_Add.f
 repeat' first
   | (with_reducible exact shape_Open.mono _ _ _)
   | (with_reducible exact sum_parts.mono _ _ _ _ _ _ _ _ _ _)
   | (with_reducible exact LeO.refl _)
   | (with_reducible exact LeO.none _)
   | (with_reducible refine LeO.ite ?_ ?_)
   | (with_reducible refine LeO.bind ?_ (fun _ => ?_))
   | exact shape_Open.mono _ _ _
   | exact sum_parts.mono _ _ _ _ _ _ _ _ _ _
   | exact LeO.none _
   | refine LeO.ite ?_ ?_
   | refine LeO.bind ?_ (fun _ => ?_)
theorem sum_Add.calls (k : Nat) (a0 : Int) (a1 : Int) (a2 : Int) (r : Int) (w : World) (h : sum_Add.f k a0 a1 a2 = some r) :
  Calls Tryz.prog 83 #[.int .i64 a0, .int .u64 a1, .int .u64 a2] w fun e w' => e = .returned (.int .u64 r) ∧ Below w.heap.size w w' := by
 have HB := A_ (Below.refl w.heap.size w)
 have H : ((sum_known.f a0).bind fun t439 => (if t439 = true then ((shape_Open.f k a0 a1).bind fun bt440 => ((shape_Open.f k a0 a2).bind fun bt444 => ((sum_parts.f k a0 bt440.1 bt440.2.1 bt440.2.2.1 bt440.2.2.2 bt444.1 bt444.2.1 bt444.2.2.1 bt444.2.2.2).bind fun t448 => (some t448)))) else (some 0))) = some r := h
 clear h
 replace H := ob_ H
 obtain ⟨t439, A40, H⟩ := H
 replace H : (if t439 = true then ((shape_Open.f k a0 a1).bind fun bt440 => ((shape_Open.f k a0 a2).bind fun bt444 => ((sum_parts.f k a0 bt440.1 bt440.2.1 bt440.2.2.1 bt440.2.2.2 bt444.1 bt444.2.1 bt444.2.2.1 bt444.2.2.2).bind fun t448 => (some t448)))) else (some 0)) = some r := H
 have A4 := A_ A40;clear A40
 by_cases c5 : t439 = true
 ·subst c5
  have H1 : ((shape_Open.f k a0 a1).bind fun bt440 => ((shape_Open.f k a0 a2).bind fun bt444 => ((sum_parts.f k a0 bt440.1 bt440.2.1 bt440.2.2.1 bt440.2.2.2 bt444.1 bt444.2.1 bt444.2.2.1 bt444.2.2.2).bind fun t448 => (some t448)))) = some r := by rw [if_pos rfl] at H; exact H
  clear H;have H := H1;clear H1
  replace H := ob_ H
  obtain ⟨⟨t440, t441, t442, t443⟩, A60, H⟩ := H
  replace H : ((shape_Open.f k a0 a2).bind fun bt444 => ((sum_parts.f k a0 t440 t441 t442 t443 bt444.1 bt444.2.1 bt444.2.2.1 bt444.2.2.2).bind fun t448 => (some t448))) = some r := H
  have A6 := A_ A60;clear A60
  replace H := ob_ H
  obtain ⟨⟨t444, t445, t446, t447⟩, A70, H⟩ := H
  replace H : ((sum_parts.f k a0 t440 t441 t442 t443 t444 t445 t446 t447).bind fun t448 => (some t448)) = some r := H
  have A7 := A_ A70;clear A70
  replace H := ob_ H
  obtain ⟨t448, A80, H⟩ := H
  replace H : (some t448) = some r := H
  have A8 := A_ A80;clear A80
  obtain rfl := Option.some.inj H
  go_enter Tryz.func83, Tryz.ntmps83
  go_wp2_with (first | ((with_reducible refine gate_callee (f := 149) rfl ?_); refine goesL_ (some 8) rfl rfl Tryz.func149 (by kernel_rfl) rfl #[.int .i64 a0] rfl mp_ ?_; (with_reducible refine (sum_known.calls a0 true _ A4.out).mono ?_); rintro e w' ⟨rfl, ⟨nd, rfl⟩⟩; refine ⟨_, rfl, ?_⟩) | ((with_reducible refine gate_callee (f := 10) rfl ?_); refine goesL_ (some 13) rfl rfl Tryz.func10 (by kernel_rfl) rfl #[.int .i64 a0, .int .u64 a1] rfl mp_ ?_; (with_reducible refine (shape_Open.calls k a0 a1 t440 t441 t442 t443 _ A6.out).mono ?_); rintro e w9 ⟨rfl, hb⟩; refine ⟨_, rfl, ?_⟩; replace HB := A_ (below_step (hb_ HB.out) hb); (try clear hb); (try clear hb2); (try clear hk); (try clear hi)) | ((with_reducible refine gate_callee (f := 10) rfl ?_); refine goesL_ (some 16) rfl rfl Tryz.func10 (by kernel_rfl) rfl #[.int .i64 a0, .int .u64 a2] rfl mp_ ?_; (with_reducible refine (shape_Open.calls k a0 a2 t444 t445 t446 t447 _ A7.out).mono ?_); rintro e w10 ⟨rfl, hb⟩; refine ⟨_, rfl, ?_⟩; replace HB := A_ (below_step (hb_ HB.out) hb); (try clear hb); (try clear hb2); (try clear hk); (try clear hi)) | ((with_reducible refine gate_callee (f := 150) rfl ?_); refine goesL_ (some 17) rfl rfl Tryz.func150 (by kernel_rfl) rfl #[.int .i64 a0, .agg #[.bool t440, .int .i64 t441, .int .i64 t442, .int .u64 t443], .agg #[.bool t444, .int .i64 t445, .int .i64 t446, .int .u64 t447]] rfl mp_ ?_; (with_reducible refine (sum_parts.calls k a0 t440 t441 t442 t443 t444 t445 t446 t447 t448 _ A8.out).mono ?_); rintro e w11 ⟨rfl, hb⟩; refine ⟨_, rfl, ?_⟩; replace HB := A_ (below_step (hb_ HB.out) hb); (try clear hb); (try clear hb2); (try clear hk); (try clear hi)))
  go_ret
  exact ⟨er_, hb_ HB.out⟩
 ·replace c5 := Bool.eq_false_iff.mpr c5
  subst c5
  have H1 : (some 0) = some r := by rw [if_neg (show ¬ (false = true) by decide)] at H; exact H
  clear H;have H := H1;clear H1
  obtain rfl := Option.some.inj H
  go_enter Tryz.func83, Tryz.ntmps83
  go_wp2_with (first | ((with_reducible refine gate_callee (f := 149) rfl ?_); refine goesL_ (some 8) rfl rfl Tryz.func149 (by kernel_rfl) rfl #[.int .i64 a0] rfl mp_ ?_; (with_reducible refine (sum_known.calls a0 false _ A4.out).mono ?_); rintro e w' ⟨rfl, ⟨nd, rfl⟩⟩; refine ⟨_, rfl, ?_⟩))
  go_ret
  exact ⟨er_, hb_ HB.out⟩
def sum_Sub.f (k : Nat) (a0 : Int) (a1 : Int) (a2 : Int) : Option (Int) := (sum_known.f a0).bind fun t449 => (if t449 = true then ((shape_Open.f k a0 a2).bind fun bt450 => ((shape_Open.f k a0 a1).bind fun bt455 => ((sum_parts.f k a0 bt455.1 bt455.2.1 bt455.2.2.1 bt455.2.2.2 (!bt450.1) bt450.2.1 bt450.2.2.1 bt450.2.2.2).bind fun t459 => (some t459)))) else (some 0))
theorem sum_Sub.mono : ∀ a0 a1 a2 k, LeO (sum_Sub.f k a0 a1 a2) (sum_Sub.f (k + 1) a0 a1 a2) := by
 intro a0 a1 a2 k
 unfold sum_Sub.f
 repeat' first
   | (with_reducible exact shape_Open.mono _ _ _)
   | (with_reducible exact sum_parts.mono _ _ _ _ _ _ _ _ _ _)
   | (with_reducible exact LeO.refl _)
   | (with_reducible exact LeO.none _)
   | (with_reducible refine LeO.ite ?_ ?_)
   | (with_reducible refine LeO.bind ?_ (fun _ => ?_))
   | exact shape_Open.mono _ _ _
   | exact sum_parts.mono _ _ _ _ _ _ _ _ _ _
   | exact LeO.none _
   | refine LeO.ite ?_ ?_
   | refine LeO.bind ?_ (fun _ => ?_)
theorem sum_Sub.calls (k : Nat) (a0 : Int) (a1 : Int) (a2 : Int) (r : Int) (w : World) (h : sum_Sub.f k a0 a1 a2 = some r) :
  Calls Tryz.prog 84 #[.int .i64 a0, .int .u64 a1, .int .u64 a2] w fun e w' => e = .returned (.int .u64 r) ∧ Below w.heap.size w w' := by
 have hu27 := Tryz.underlying27
 have HB := A_ (Below.refl w.heap.size w)
 have H : ((sum_known.f a0).bind fun t449 => (if t449 = true then ((shape_Open.f k a0 a2).bind fun bt450 => ((shape_Open.f k a0 a1).bind fun bt455 => ((sum_parts.f k a0 bt455.1 bt455.2.1 bt455.2.2.1 bt455.2.2.2 (!bt450.1) bt450.2.1 bt450.2.2.1 bt450.2.2.2).bind fun t459 => (some t459)))) else (some 0))) = some r := h
 clear h
 replace H := ob_ H
 obtain ⟨t449, A40, H⟩ := H
 replace H : (if t449 = true then ((shape_Open.f k a0 a2).bind fun bt450 => ((shape_Open.f k a0 a1).bind fun bt455 => ((sum_parts.f k a0 bt455.1 bt455.2.1 bt455.2.2.1 bt455.2.2.2 (!bt450.1) bt450.2.1 bt450.2.2.1 bt450.2.2.2).bind fun t459 => (some t459)))) else (some 0)) = some r := H
 have A4 := A_ A40;clear A40
 by_cases c5 : t449 = true
 ·subst c5
  have H1 : ((shape_Open.f k a0 a2).bind fun bt450 => ((shape_Open.f k a0 a1).bind fun bt455 => ((sum_parts.f k a0 bt455.1 bt455.2.1 bt455.2.2.1 bt455.2.2.2 (!bt450.1) bt450.2.1 bt450.2.2.1 bt450.2.2.2).bind fun t459 => (some t459)))) = some r := by rw [if_pos rfl] at H; exact H
  clear H;have H := H1;clear H1
  replace H := ob_ H
  obtain ⟨⟨t450, t451, t452, t453⟩, A60, H⟩ := H
  replace H : ((shape_Open.f k a0 a1).bind fun bt455 => ((sum_parts.f k a0 bt455.1 bt455.2.1 bt455.2.2.1 bt455.2.2.2 (!t450) t451 t452 t453).bind fun t459 => (some t459))) = some r := H
  have A6 := A_ A60;clear A60
  replace H := ob_ H
  obtain ⟨⟨t455, t456, t457, t458⟩, A70, H⟩ := H
  replace H : ((sum_parts.f k a0 t455 t456 t457 t458 (!t450) t451 t452 t453).bind fun t459 => (some t459)) = some r := H
  have A7 := A_ A70;clear A70
  replace H := ob_ H
  obtain ⟨t459, A80, H⟩ := H
  replace H : (some t459) = some r := H
  have A8 := A_ A80;clear A80
  obtain rfl := Option.some.inj H
  go_enter Tryz.func84, Tryz.ntmps84
  try go_wp2_with (first | ((with_reducible refine gate_callee (f := 149) rfl ?_); refine goesL_ (some 9) rfl rfl Tryz.func149 (by kernel_rfl) rfl #[.int .i64 a0] rfl mp_ ?_; (with_reducible refine (sum_known.calls a0 true _ A4.out).mono ?_); rintro e w' ⟨rfl, ⟨nd, rfl⟩⟩; refine ⟨_, rfl, ?_⟩) | ((with_reducible refine gate_callee (f := 10) rfl ?_); refine goesL_ (some 13) rfl rfl Tryz.func10 (by kernel_rfl) rfl #[.int .i64 a0, .int .u64 a2] rfl mp_ ?_; (with_reducible refine (shape_Open.calls k a0 a2 t450 t451 t452 t453 _ A6.out).mono ?_); rintro e w9 ⟨rfl, hb⟩; refine ⟨_, rfl, ?_⟩; replace HB := A_ (below_step (hb_ HB.out) hb); (try clear hb); (try clear hb2); (try clear hk); (try clear hi)) | ((with_reducible refine gate_dst (N := 7) rfl ?_); refine be_ 7 #[.bool false, .int .i64 0, .int .i64 0, .int .u64 0] 27 ?_; intro gb454 hg w10 hbox hb; have BK454 := A_ (hbox); have GW454 := A_ (sz_ hg (hb_ HB.out)); have GE454 := A_ (sz_ hg (hb_ HB.out)); replace HB := A_ (below_step (hb_ HB.out) hb); clear hb hbox hg; have hcz11_0 := bv_ BK454.out 0; have hcz11_1 := bv_ BK454.out 1; have hcz11_2 := bv_ BK454.out 2; have hcz11_3 := bv_ BK454.out 3; have hfz11_0 := blk_frozen BK454.out 0; have hfz11_1 := blk_frozen BK454.out 1; have hfz11_2 := blk_frozen BK454.out 2; have hfz11_3 := blk_frozen BK454.out 3))
  have n0_ : Aside0 ((((((w10.setCell ⟨gb454, 0, none⟩ (.bool t450)).setCell ⟨gb454, 1, none⟩ (.int .i64 t451)).setCell ⟨gb454, 2, none⟩ (.int .i64 t452)).setCell ⟨gb454, 3, none⟩ (.int .u64 t453)).setCell ⟨gb454, 0, none⟩ (.bool (!t450))).heap[gb454]? = some (.cells #[.bool (!t450), .int .i64 t451, .int .i64 t452, .int .u64 t453] 27 (0, 0))) := ⟨by (with_reducible repeat (first | refine blk_drewN ?_ _ | refine blk_drew ?_ | refine blk_alloc ?_ _)); refine blk_put (cs := #[.bool t450, .int .i64 t451, .int .i64 t452, .int .u64 t453]) ?_ 0 _ rfl; (with_reducible repeat (first | refine blk_drewN ?_ _ | refine blk_drew ?_ | refine blk_alloc ?_ _)); refine blk_put (cs := #[.bool t450, .int .i64 t451, .int .i64 t452, .int .u64 0]) ?_ 3 _ rfl; (with_reducible repeat (first | refine blk_drewN ?_ _ | refine blk_drew ?_ | refine blk_alloc ?_ _)); refine blk_put (cs := #[.bool t450, .int .i64 t451, .int .i64 0, .int .u64 0]) ?_ 2 _ rfl; (with_reducible repeat (first | refine blk_drewN ?_ _ | refine blk_drew ?_ | refine blk_alloc ?_ _)); refine blk_put (cs := #[.bool t450, .int .i64 0, .int .i64 0, .int .u64 0]) ?_ 1 _ rfl; (with_reducible repeat (first | refine blk_drewN ?_ _ | refine blk_drew ?_ | refine blk_alloc ?_ _)); refine blk_put (cs := #[.bool false, .int .i64 0, .int .i64 0, .int .u64 0]) ?_ 0 _ rfl; (with_reducible repeat (first | refine blk_drewN ?_ _ | refine blk_drew ?_ | refine blk_alloc ?_ _)); exact BK454.out⟩
  have n1_ : Aside0 (Below w.heap.size w (((((w10.setCell ⟨gb454, 0, none⟩ (.bool t450)).setCell ⟨gb454, 1, none⟩ (.int .i64 t451)).setCell ⟨gb454, 2, none⟩ (.int .i64 t452)).setCell ⟨gb454, 3, none⟩ (.int .u64 t453)).setCell ⟨gb454, 0, none⟩ (.bool (!t450)))) := ⟨hb1_ HB.out GE454.out⟩
  (try clear BK454);(try clear HB)
  generalize (((((w10.setCell ⟨gb454, 0, none⟩ (.bool t450)).setCell ⟨gb454, 1, none⟩ (.int .i64 t451)).setCell ⟨gb454, 2, none⟩ (.int .i64 t452)).setCell ⟨gb454, 3, none⟩ (.int .u64 t453)).setCell ⟨gb454, 0, none⟩ (.bool (!t450))) = w12 at n0_ n1_ ⊢
  have BK454 := n0_;have HB := n1_;clear n0_ n1_
  replace BK454 := A_ (blk_drew BK454.out)
  replace HB := A_ (below_drew1 HB.out)
  refine start_ (n := 7) (S := fun w' => w'.cell? ⟨gb454, 0, none⟩ = some (.bool (!t450)) ∧ w'.cell? ⟨gb454, 1, none⟩ = some (.int .i64 t451) ∧ w'.cell? ⟨gb454, 2, none⟩ = some (.int .i64 t452) ∧ w'.cell? ⟨gb454, 3, none⟩ = some (.int .u64 t453)) (ds := []) #[false, false, false, false, false, false, false] (by kernel_rfl) rfl rfl ⟨bc_ BK454.out 0, bc_ BK454.out 1, bc_ BK454.out 2, bc_ BK454.out 3⟩ (fun hHeld => ?_)
  generalize w12.drew = w13 at BK454 HB hHeld ⊢
  refine pu_ 0 (some 18) #[true, false, false, false, false, false, false] rfl rfl (by kernel_rfl) ?_
  refine pu_ 1 (some 19) #[true, true, false, false, false, false, false] rfl rfl (by kernel_rfl) ?_
  refine pu_ 2 (some 20) #[true, true, true, false, false, false, false] rfl rfl (by kernel_rfl) ?_
  refine tk4_ 4 (some 22) #[true, true, true, false, true, false, false] rfl rfl (by kernel_rfl) hHeld ?_
  refine one_ (i := 3) (N := some 21) #[true, true, true, true, true, false, false] rfl rfl (by kernel_rfl) (by decide) (fun K hK => ?_)
  refine goes_ Tryz.func10 (by kernel_rfl) rfl #[.int .i64 a0, .int .u64 a1] (by rfl) rfl rfl mp_ ?_
  with_reducible refine (shape_Open.calls k a0 a1 t455 t456 t457 t458 _ A7.out).mono ?_
  rintro e w14 ⟨rfl, hb⟩
  refine ⟨_, rfl, ?_⟩
  replace BK454 := A_ (bb_ BK454.out hb)
  replace HB := A_ (below_step (hb1_ HB.out GE454.out) hb);(try clear hb);(try clear hb2);(try clear hk);(try clear hi)
  refine hK.out _ _ ⟨bc_ BK454.out 0, bc_ BK454.out 1, bc_ BK454.out 2, bc_ BK454.out 3⟩ (fun hHeld => ?_)
  clear hK K
  refine norm_ (a' := ?_) ?_ ?_
  rotate_left
  ·show Act.put _ (some 21) _ = _
   simp only [Act.put, lI_, l0_, lS_, i64_w, i32_w]
   rfl
  refine one_ (i := 5) (N := some 23) #[true, true, true, true, true, true, false] rfl rfl (by kernel_rfl) (by decide) (fun K hK => ?_)
  refine goes_ Tryz.func150 (by kernel_rfl) rfl #[.int .i64 a0, .agg #[.bool t455, .int .i64 t456, .int .i64 t457, .int .u64 t458], .agg #[.bool (!t450), .int .i64 t451, .int .i64 t452, .int .u64 t453]] (by rfl) rfl rfl mp_ ?_
  with_reducible refine (sum_parts.calls k a0 t455 t456 t457 t458 (!t450) t451 t452 t453 t459 _ A8.out).mono ?_
  rintro e w15 ⟨rfl, hb⟩
  refine ⟨_, rfl, ?_⟩
  replace BK454 := A_ (bb_ BK454.out hb)
  replace HB := A_ (below_step (hb1_ HB.out GE454.out) hb);(try clear hb);(try clear hb2);(try clear hk);(try clear hi)
  refine hK.out _ _ ⟨bc_ BK454.out 0, bc_ BK454.out 1, bc_ BK454.out 2, bc_ BK454.out 3⟩ (fun hHeld => ?_)
  clear hK K
  refine norm_ (a' := ?_) ?_ ?_
  rotate_left
  ·show Act.put _ (some 23) _ = _
   simp only [Act.put, lI_, l0_, lS_, i64_w, i32_w]
   rfl
  refine pu_ 6 (some 6) #[true, true, true, true, true, true, true] rfl rfl (by kernel_rfl) ?_
  refine done_ (by kernel_rfl) ?_
  try go_wp2
  go_ret
  exact ⟨er_, hb1_ HB.out GE454.out⟩
 ·replace c5 := Bool.eq_false_iff.mpr c5
  subst c5
  have H1 : (some 0) = some r := by rw [if_neg (show ¬ (false = true) by decide)] at H; exact H
  clear H;have H := H1;clear H1
  obtain rfl := Option.some.inj H
  go_enter Tryz.func84, Tryz.ntmps84
  go_wp2_with (first | ((with_reducible refine gate_callee (f := 149) rfl ?_); refine goesL_ (some 9) rfl rfl Tryz.func149 (by kernel_rfl) rfl #[.int .i64 a0] rfl mp_ ?_; (with_reducible refine (sum_known.calls a0 false _ A4.out).mono ?_); rintro e w' ⟨rfl, ⟨nd, rfl⟩⟩; refine ⟨_, rfl, ?_⟩))
  go_ret
  exact ⟨er_, hb_ HB.out⟩
def numeric_floated.f (k : Nat) (a0 : Int) (a1 : Int) (a2 : Int) (a3 : Int) : Option (Int) := if a0 = 7 then ((sum_Add.f k a1 a2 a3).bind fun t527 => (some t527)) else (if a0 = 8 then ((sum_Sub.f k a1 a2 a3).bind fun t528 => (some t528)) else (if a0 = 9 then ((product_Mul.f k a1 a2 a3).bind fun t529 => (some t529)) else (if a0 = 10 then ((quotient_Div.f k a1 a2 a3).bind fun t530 => (some t530)) else (if a0 = 11 then ((order_Min.f k a1 a2 a3).bind fun t531 => (some t531)) else (if a0 = 12 then ((order_Max.f k a1 a2 a3).bind fun t532 => (some t532)) else ((sign_Copysign.f a1 a2 a3).bind fun t533 => (some t533)))))))
theorem numeric_floated.mono : ∀ a0 a1 a2 a3 k, LeO (numeric_floated.f k a0 a1 a2 a3) (numeric_floated.f (k + 1) a0 a1 a2 a3) := by
 intro a0 a1 a2 a3 k
 unfold numeric_floated.f
 repeat' first
   | (with_reducible exact order_Max.mono _ _ _ _)
   | (with_reducible exact order_Min.mono _ _ _ _)
   | (with_reducible exact product_Mul.mono _ _ _ _)
   | (with_reducible exact quotient_Div.mono _ _ _ _)
   | (with_reducible exact sum_Add.mono _ _ _ _)
   | (with_reducible exact sum_Sub.mono _ _ _ _)
   | (with_reducible exact LeO.refl _)
   | (with_reducible exact LeO.none _)
   | (with_reducible refine LeO.ite ?_ ?_)
   | (with_reducible refine LeO.bind ?_ (fun _ => ?_))
   | exact order_Max.mono _ _ _ _
   | exact order_Min.mono _ _ _ _
   | exact product_Mul.mono _ _ _ _
   | exact quotient_Div.mono _ _ _ _
   | exact sum_Add.mono _ _ _ _
   | exact sum_Sub.mono _ _ _ _
   | exact LeO.none _
   | refine LeO.ite ?_ ?_
   | refine LeO.bind ?_ (fun _ => ?_)
theorem numeric_floated.calls (k : Nat) (a0 : Int) (a1 : Int) (a2 : Int) (a3 : Int) (r : Int) (w : World) (h : numeric_floated.f k a0 a1 a2 a3 = some r) :
  Calls Tryz.prog 32 #[.int .i64 a0, .int .i64 a1, .int .u64 a2, .int .u64 a3] w fun e w' => e = .returned (.int .u64 r) ∧ Below w.heap.size w w' := by
 have HB := A_ (Below.refl w.heap.size w)
 have H : (if a0 = 7 then ((sum_Add.f k a1 a2 a3).bind fun t527 => (some t527)) else (if a0 = 8 then ((sum_Sub.f k a1 a2 a3).bind fun t528 => (some t528)) else (if a0 = 9 then ((product_Mul.f k a1 a2 a3).bind fun t529 => (some t529)) else (if a0 = 10 then ((quotient_Div.f k a1 a2 a3).bind fun t530 => (some t530)) else (if a0 = 11 then ((order_Min.f k a1 a2 a3).bind fun t531 => (some t531)) else (if a0 = 12 then ((order_Max.f k a1 a2 a3).bind fun t532 => (some t532)) else ((sign_Copysign.f a1 a2 a3).bind fun t533 => (some t533)))))))) = some r := h
 clear h
 by_cases c5 : a0 = 7
 ·rw [if_pos c5] at H
  have c5b0 : (a0 == 7) = true := beq_iff_eq.mpr c5
  have c5b1 : (a0 != 7) = false := bne_eq_false_iff_eq.mpr c5
  clear c5
  replace H := ob_ H
  obtain ⟨t527, A60, H⟩ := H
  replace H : (some t527) = some r := H
  have A6 := A_ A60;clear A60
  obtain rfl := Option.some.inj H
  go_enter Tryz.func32, Tryz.ntmps32
  go_wp2_with (first | ((with_reducible refine gate_callee (f := 83) rfl ?_); refine goesL_ (some 15) rfl rfl Tryz.func83 (by kernel_rfl) rfl #[.int .i64 a1, .int .u64 a2, .int .u64 a3] rfl mp_ ?_; (with_reducible refine (sum_Add.calls k a1 a2 a3 t527 _ A6.out).mono ?_); rintro e w7 ⟨rfl, hb⟩; refine ⟨_, rfl, ?_⟩; replace HB := A_ (below_step (hb_ HB.out) hb); (try clear hb); (try clear hb2); (try clear hk); (try clear hi)))
  go_ret
  exact ⟨er_, hb_ HB.out⟩
 ·rw [if_neg c5] at H
  have c5b0 : (a0 == 7) = false := beq_eq_false_iff_ne.mpr c5
  have c5b1 : (a0 != 7) = true := bne_iff_ne.mpr c5
  by_cases c8 : a0 = 8
  ·rw [if_pos c8] at H
   have c8b0 : (a0 == 8) = true := beq_iff_eq.mpr c8
   have c8b1 : (a0 != 8) = false := bne_eq_false_iff_eq.mpr c8
   clear c8
   replace H := ob_ H
   obtain ⟨t528, A90, H⟩ := H
   replace H : (some t528) = some r := H
   have A9 := A_ A90;clear A90
   obtain rfl := Option.some.inj H
   go_enter Tryz.func32, Tryz.ntmps32
   go_wp2_with (first | ((with_reducible refine gate_callee (f := 84) rfl ?_); refine goesL_ (some 21) rfl rfl Tryz.func84 (by kernel_rfl) rfl #[.int .i64 a1, .int .u64 a2, .int .u64 a3] rfl mp_ ?_; (with_reducible refine (sum_Sub.calls k a1 a2 a3 t528 _ A9.out).mono ?_); rintro e w10 ⟨rfl, hb⟩; refine ⟨_, rfl, ?_⟩; replace HB := A_ (below_step (hb_ HB.out) hb); (try clear hb); (try clear hb2); (try clear hk); (try clear hi)))
   go_ret
   exact ⟨er_, hb_ HB.out⟩
  ·rw [if_neg c8] at H
   have c8b0 : (a0 == 8) = false := beq_eq_false_iff_ne.mpr c8
   have c8b1 : (a0 != 8) = true := bne_iff_ne.mpr c8
   by_cases c11 : a0 = 9
   ·rw [if_pos c11] at H
    have c11b0 : (a0 == 9) = true := beq_iff_eq.mpr c11
    have c11b1 : (a0 != 9) = false := bne_eq_false_iff_eq.mpr c11
    clear c11
    replace H := ob_ H
    obtain ⟨t529, A120, H⟩ := H
    replace H : (some t529) = some r := H
    have A12 := A_ A120;clear A120
    obtain rfl := Option.some.inj H
    go_enter Tryz.func32, Tryz.ntmps32
    go_wp2_with (first | ((with_reducible refine gate_callee (f := 85) rfl ?_); refine goesL_ (some 27) rfl rfl Tryz.func85 (by kernel_rfl) rfl #[.int .i64 a1, .int .u64 a2, .int .u64 a3] rfl mp_ ?_; (with_reducible refine (product_Mul.calls k a1 a2 a3 t529 _ A12.out).mono ?_); rintro e w13 ⟨rfl, hb⟩; refine ⟨_, rfl, ?_⟩; replace HB := A_ (below_step (hb_ HB.out) hb); (try clear hb); (try clear hb2); (try clear hk); (try clear hi)))
    go_ret
    exact ⟨er_, hb_ HB.out⟩
   ·rw [if_neg c11] at H
    have c11b0 : (a0 == 9) = false := beq_eq_false_iff_ne.mpr c11
    have c11b1 : (a0 != 9) = true := bne_iff_ne.mpr c11
    by_cases c14 : a0 = 10
    ·rw [if_pos c14] at H
     have c14b0 : (a0 == 10) = true := beq_iff_eq.mpr c14
     have c14b1 : (a0 != 10) = false := bne_eq_false_iff_eq.mpr c14
     clear c14
     replace H := ob_ H
     obtain ⟨t530, A150, H⟩ := H
     replace H : (some t530) = some r := H
     have A15 := A_ A150;clear A150
     obtain rfl := Option.some.inj H
     go_enter Tryz.func32, Tryz.ntmps32
     go_wp2_with (first | ((with_reducible refine gate_callee (f := 86) rfl ?_); refine goesL_ (some 33) rfl rfl Tryz.func86 (by kernel_rfl) rfl #[.int .i64 a1, .int .u64 a2, .int .u64 a3] rfl mp_ ?_; (with_reducible refine (quotient_Div.calls k a1 a2 a3 t530 _ A15.out).mono ?_); rintro e w16 ⟨rfl, hb⟩; refine ⟨_, rfl, ?_⟩; replace HB := A_ (below_step (hb_ HB.out) hb); (try clear hb); (try clear hb2); (try clear hk); (try clear hi)))
     go_ret
     exact ⟨er_, hb_ HB.out⟩
    ·rw [if_neg c14] at H
     have c14b0 : (a0 == 10) = false := beq_eq_false_iff_ne.mpr c14
     have c14b1 : (a0 != 10) = true := bne_iff_ne.mpr c14
     by_cases c17 : a0 = 11
     ·rw [if_pos c17] at H
      have c17b0 : (a0 == 11) = true := beq_iff_eq.mpr c17
      have c17b1 : (a0 != 11) = false := bne_eq_false_iff_eq.mpr c17
      clear c17
      replace H := ob_ H
      obtain ⟨t531, A180, H⟩ := H
      replace H : (some t531) = some r := H
      have A18 := A_ A180;clear A180
      obtain rfl := Option.some.inj H
      go_enter Tryz.func32, Tryz.ntmps32
      go_wp2_with (first | ((with_reducible refine gate_callee (f := 87) rfl ?_); refine goesL_ (some 39) rfl rfl Tryz.func87 (by kernel_rfl) rfl #[.int .i64 a1, .int .u64 a2, .int .u64 a3] rfl mp_ ?_; (with_reducible refine (order_Min.calls k a1 a2 a3 t531 _ A18.out).mono ?_); rintro e w19 ⟨rfl, hb⟩; refine ⟨_, rfl, ?_⟩; replace HB := A_ (below_step (hb_ HB.out) hb); (try clear hb); (try clear hb2); (try clear hk); (try clear hi)))
      go_ret
      exact ⟨er_, hb_ HB.out⟩
     ·rw [if_neg c17] at H
      have c17b0 : (a0 == 11) = false := beq_eq_false_iff_ne.mpr c17
      have c17b1 : (a0 != 11) = true := bne_iff_ne.mpr c17
      by_cases c20 : a0 = 12
      ·rw [if_pos c20] at H
       have c20b0 : (a0 == 12) = true := beq_iff_eq.mpr c20
       have c20b1 : (a0 != 12) = false := bne_eq_false_iff_eq.mpr c20
       clear c20
       replace H := ob_ H
       obtain ⟨t532, A210, H⟩ := H
       replace H : (some t532) = some r := H
       have A21 := A_ A210;clear A210
       obtain rfl := Option.some.inj H
       go_enter Tryz.func32, Tryz.ntmps32
       go_wp2_with (first | ((with_reducible refine gate_callee (f := 88) rfl ?_); refine goesL_ (some 45) rfl rfl Tryz.func88 (by kernel_rfl) rfl #[.int .i64 a1, .int .u64 a2, .int .u64 a3] rfl mp_ ?_; (with_reducible refine (order_Max.calls k a1 a2 a3 t532 _ A21.out).mono ?_); rintro e w22 ⟨rfl, hb⟩; refine ⟨_, rfl, ?_⟩; replace HB := A_ (below_step (hb_ HB.out) hb); (try clear hb); (try clear hb2); (try clear hk); (try clear hi)))
       go_ret
       exact ⟨er_, hb_ HB.out⟩
      ·rw [if_neg c20] at H
       have c20b0 : (a0 == 12) = false := beq_eq_false_iff_ne.mpr c20
       have c20b1 : (a0 != 12) = true := bne_iff_ne.mpr c20
       replace H := ob_ H
       obtain ⟨t533, A230, H⟩ := H
       replace H : (some t533) = some r := H
       have A23 := A_ A230;clear A230
       obtain rfl := Option.some.inj H
       go_enter Tryz.func32, Tryz.ntmps32
       go_wp2_with (first | ((with_reducible refine gate_callee (f := 89) rfl ?_); refine goesL_ (some 49) rfl rfl Tryz.func89 (by kernel_rfl) rfl #[.int .i64 a1, .int .u64 a2, .int .u64 a3] rfl mp_ ?_; (with_reducible refine (sign_Copysign.calls a1 a2 a3 t533 _ A23.out).mono ?_); rintro e w24 ⟨rfl, hb⟩; refine ⟨_, rfl, ?_⟩; replace HB := A_ (below_step (hb_ HB.out) hb); (try clear hb); (try clear hb2); (try clear hk); (try clear hi)))
       go_ret
       exact ⟨er_, hb_ HB.out⟩
def ints_known.f (a0 : Int) : Option (Bool) := if a0 = 32 then (some true) else (some (a0 == 64))
theorem ints_known.calls (a0 : Int) (r : Bool) (w : World) (h : ints_known.f a0 = some r) :
  Calls Tryz.prog 121 #[.int .i64 a0] w fun e w' => e = .returned (.bool r) ∧ Drawn0 w w' := by
 have H : (if a0 = 32 then (some true) else (some (a0 == 64))) = some r := h
 clear h
 by_cases c2 : a0 = 32
 ·rw [if_pos c2] at H
  have c2b0 : (a0 == 32) = true := beq_iff_eq.mpr c2
  have c2b1 : (a0 != 32) = false := bne_eq_false_iff_eq.mpr c2
  clear c2
  obtain rfl := Option.some.inj H
  go_enter Tryz.func121, Tryz.ntmps121
  go_wp2
  go_ret
  exact ⟨sm_, by repeat (first | exact Drawn0.refl _ | apply Drawn0.step)⟩
 ·rw [if_neg c2] at H
  have c2b0 : (a0 == 32) = false := beq_eq_false_iff_ne.mpr c2
  have c2b1 : (a0 != 32) = true := bne_iff_ne.mpr c2
  obtain rfl := Option.some.inj H
  go_enter Tryz.func121, Tryz.ntmps121
  go_wp2
  go_ret
  exact ⟨sm_, by repeat (first | exact Drawn0.refl _ | apply Drawn0.step)⟩
def ints_signed.f (a0 : Int) (a1 : Int) : Option (Int) := if a0 = 32 then (some (wrap64 (wrap32 ((a1) % 4294967296)))) else (some (wrap64 (a1)))
theorem ints_signed.calls (a0 : Int) (a1 : Int) (r : Int) (w : World) (h : ints_signed.f a0 a1 = some r) :
  Calls Tryz.prog 122 #[.int .i64 a0, .int .u64 a1] w fun e w' => e = .returned (.int .i64 r) ∧ Drawn0 w w' := by
 have H : (if a0 = 32 then (some (wrap64 (wrap32 ((a1) % 4294967296)))) else (some (wrap64 (a1)))) = some r := h
 clear h
 by_cases c3 : a0 = 32
 ·rw [if_pos c3] at H
  have c3b0 : (a0 == 32) = true := beq_iff_eq.mpr c3
  have c3b1 : (a0 != 32) = false := bne_eq_false_iff_eq.mpr c3
  clear c3
  obtain rfl := Option.some.inj H
  go_enter Tryz.func122, Tryz.ntmps122
  go_wp2
  go_ret
  exact ⟨sm_, by repeat (first | exact Drawn0.refl _ | apply Drawn0.step)⟩
 ·rw [if_neg c3] at H
  have c3b0 : (a0 == 32) = false := beq_eq_false_iff_ne.mpr c3
  have c3b1 : (a0 != 32) = true := bne_iff_ne.mpr c3
  obtain rfl := Option.some.inj H
  go_enter Tryz.func122, Tryz.ntmps122
  go_wp2
  go_ret
  exact ⟨sm_, by repeat (first | exact Drawn0.refl _ | apply Drawn0.step)⟩
def ints_DivS.f (a0 : Int) (a1 : Int) (a2 : Int) : Option (Int × Int) := (ints_signed.f a0 a1).bind fun t216 => ((ints_signed.f a0 a2).bind fun t217 => ((ints_known.f a0).bind fun t218 => (if t218 = true then (if t217 = 0 then (some (0, 2)) else (if t217 = (-1) then (if 0 ≤ (wrap64 (a0 - 1)) then (if t216 = (shl .i64 (-1) (wrap64 (a0 - 1))) then (some (0, 3)) else ((shape_Cut.f a0 (IntKind.u64.wrap (wrap64 (Int.tdiv t216 t217)))).bind fun t219 => (some (t219, 0)))) else (none)) else ((shape_Cut.f a0 (IntKind.u64.wrap (wrap64 (Int.tdiv t216 t217)))).bind fun t220 => (some (t220, 0))))) else (some (0, 0)))))
theorem ints_DivS.calls (a0 : Int) (a1 : Int) (a2 : Int) (r1 : Int) (r2 : Int) (w : World) (h : ints_DivS.f a0 a1 a2 = some (r1, r2)) :
  Calls Tryz.prog 71 #[.int .i64 a0, .int .u64 a1, .int .u64 a2] w fun e w' => e = .returned (.tuple #[.int .u64 r1, .int .i64 r2]) ∧ Drawn0 w w' := by
 have H : ((ints_signed.f a0 a1).bind fun t216 => ((ints_signed.f a0 a2).bind fun t217 => ((ints_known.f a0).bind fun t218 => (if t218 = true then (if t217 = 0 then (some (0, 2)) else (if t217 = (-1) then (if 0 ≤ (wrap64 (a0 - 1)) then (if t216 = (shl .i64 (-1) (wrap64 (a0 - 1))) then (some (0, 3)) else ((shape_Cut.f a0 (IntKind.u64.wrap (wrap64 (Int.tdiv t216 t217)))).bind fun t219 => (some (t219, 0)))) else (none)) else ((shape_Cut.f a0 (IntKind.u64.wrap (wrap64 (Int.tdiv t216 t217)))).bind fun t220 => (some (t220, 0))))) else (some (0, 0)))))) = some (r1, r2) := h
 clear h
 replace H := ob_ H
 obtain ⟨t216, A40, H⟩ := H
 replace H : ((ints_signed.f a0 a2).bind fun t217 => ((ints_known.f a0).bind fun t218 => (if t218 = true then (if t217 = 0 then (some (0, 2)) else (if t217 = (-1) then (if 0 ≤ (wrap64 (a0 - 1)) then (if t216 = (shl .i64 (-1) (wrap64 (a0 - 1))) then (some (0, 3)) else ((shape_Cut.f a0 (IntKind.u64.wrap (wrap64 (Int.tdiv t216 t217)))).bind fun t219 => (some (t219, 0)))) else (none)) else ((shape_Cut.f a0 (IntKind.u64.wrap (wrap64 (Int.tdiv t216 t217)))).bind fun t220 => (some (t220, 0))))) else (some (0, 0))))) = some (r1, r2) := H
 have A4 := A_ A40;clear A40
 replace H := ob_ H
 obtain ⟨t217, A50, H⟩ := H
 replace H : ((ints_known.f a0).bind fun t218 => (if t218 = true then (if t217 = 0 then (some (0, 2)) else (if t217 = (-1) then (if 0 ≤ (wrap64 (a0 - 1)) then (if t216 = (shl .i64 (-1) (wrap64 (a0 - 1))) then (some (0, 3)) else ((shape_Cut.f a0 (IntKind.u64.wrap (wrap64 (Int.tdiv t216 t217)))).bind fun t219 => (some (t219, 0)))) else (none)) else ((shape_Cut.f a0 (IntKind.u64.wrap (wrap64 (Int.tdiv t216 t217)))).bind fun t220 => (some (t220, 0))))) else (some (0, 0)))) = some (r1, r2) := H
 have A5 := A_ A50;clear A50
 replace H := ob_ H
 obtain ⟨t218, A60, H⟩ := H
 replace H : (if t218 = true then (if t217 = 0 then (some (0, 2)) else (if t217 = (-1) then (if 0 ≤ (wrap64 (a0 - 1)) then (if t216 = (shl .i64 (-1) (wrap64 (a0 - 1))) then (some (0, 3)) else ((shape_Cut.f a0 (IntKind.u64.wrap (wrap64 (Int.tdiv t216 t217)))).bind fun t219 => (some (t219, 0)))) else (none)) else ((shape_Cut.f a0 (IntKind.u64.wrap (wrap64 (Int.tdiv t216 t217)))).bind fun t220 => (some (t220, 0))))) else (some (0, 0))) = some (r1, r2) := H
 have A6 := A_ A60;clear A60
 by_cases c7 : t218 = true
 ·subst c7
  have H1 : (if t217 = 0 then (some (0, 2)) else (if t217 = (-1) then (if 0 ≤ (wrap64 (a0 - 1)) then (if t216 = (shl .i64 (-1) (wrap64 (a0 - 1))) then (some (0, 3)) else ((shape_Cut.f a0 (IntKind.u64.wrap (wrap64 (Int.tdiv t216 t217)))).bind fun t219 => (some (t219, 0)))) else (none)) else ((shape_Cut.f a0 (IntKind.u64.wrap (wrap64 (Int.tdiv t216 t217)))).bind fun t220 => (some (t220, 0))))) = some (r1, r2) := by rw [if_pos rfl] at H; exact H
  clear H;have H := H1;clear H1
  by_cases c8 : t217 = 0
  ·rw [if_pos c8] at H
   have c8b0 : (t217 == 0) = true := beq_iff_eq.mpr c8
   have c8b1 : (t217 != 0) = false := bne_eq_false_iff_eq.mpr c8
   clear c8
   simp only [Option.some.injEq, Prod.mk.injEq] at H
   obtain ⟨rfl, rfl⟩ := H
   go_enter Tryz.func71, Tryz.ntmps71
   go_wp2_with (first | ((with_reducible refine gate_callee (f := 122) rfl ?_); refine goesL_ (some 12) rfl rfl Tryz.func122 (by kernel_rfl) rfl #[.int .i64 a0, .int .u64 a1] rfl mp_ ?_; (with_reducible refine (ints_signed.calls a0 a1 t216 _ A4.out).mono ?_); rintro e w' ⟨rfl, ⟨nd, rfl⟩⟩; refine ⟨_, rfl, ?_⟩) | ((with_reducible refine gate_callee (f := 122) rfl ?_); refine goesL_ (some 15) rfl rfl Tryz.func122 (by kernel_rfl) rfl #[.int .i64 a0, .int .u64 a2] rfl mp_ ?_; (with_reducible refine (ints_signed.calls a0 a2 t217 _ A5.out).mono ?_); rintro e w' ⟨rfl, ⟨nd, rfl⟩⟩; refine ⟨_, rfl, ?_⟩) | ((with_reducible refine gate_callee (f := 121) rfl ?_); refine goesL_ (some 18) rfl rfl Tryz.func121 (by kernel_rfl) rfl #[.int .i64 a0] rfl mp_ ?_; (with_reducible refine (ints_known.calls a0 true _ A6.out).mono ?_); rintro e w' ⟨rfl, ⟨nd, rfl⟩⟩; refine ⟨_, rfl, ?_⟩))
   go_ret2
   exact ⟨sm_, by repeat (first | exact Drawn0.refl _ | apply Drawn0.step)⟩
  ·rw [if_neg c8] at H
   have c8b0 : (t217 == 0) = false := beq_eq_false_iff_ne.mpr c8
   have c8b1 : (t217 != 0) = true := bne_iff_ne.mpr c8
   by_cases c9 : t217 = (-1)
   ·rw [if_pos c9] at H
    have c9b0 : (t217 == (-1)) = true := beq_iff_eq.mpr c9
    have c9b1 : (t217 != (-1)) = false := bne_eq_false_iff_eq.mpr c9
    clear c9
    obtain ⟨ji10, hji10⟩ : ∃ j_ : Int, (wrap64 (a0 - 1)) = j_ := ⟨_, rfl⟩
    replace H : (if 0 ≤ (ji10) then (if t216 = (shl .i64 (-1) (ji10)) then (some (0, 3)) else ((shape_Cut.f a0 (IntKind.u64.wrap (wrap64 (Int.tdiv t216 t217)))).bind fun t219 => (some (t219, 0)))) else (none)) = some (r1, r2) := by first | (rw [hji10] at H; exact H) | (simp only [hji10] at H ⊢; exact H)
    (try rw [hji10] at A4)
    (try rw [hji10] at A5)
    (try rw [hji10] at A6)
    have hji10w : (IntKind.i64.wrap (a0 - 1)) = ji10 := (i64_w _).trans hji10
    by_cases c11 : 0 ≤ (ji10)
    ·rw [if_pos c11] at H
     have c11b0 := eq_true c11
     have c11b1 : decide (0 ≤ (ji10)) = true := decide_eq_true c11
     clear c11
     obtain ⟨ji12, hji12⟩ : ∃ j_ : Int, (shl .i64 (-1) (ji10)) = j_ := ⟨_, rfl⟩
     replace H : (if t216 = (ji12) then (some (0, 3)) else ((shape_Cut.f a0 (IntKind.u64.wrap (wrap64 (Int.tdiv t216 t217)))).bind fun t219 => (some (t219, 0)))) = some (r1, r2) := by first | (rw [hji12] at H; exact H) | (simp only [hji12] at H ⊢; exact H)
     (try rw [hji12] at A4)
     (try rw [hji12] at A5)
     (try rw [hji12] at A6)
     have hji12_ : (IntKind.i64.wrap ((-1) * 2 ^ min (ji10).toNat 64)) = ji12 := hji12
     have hji12z : (ji10) ≤ 64 → (IntKind.i64.wrap ((-1) * 2 ^ (ji10).toNat)) = ji12 := shl_small hji12
     have hji12m : wrap64 (-2 ^ min (ji10).toNat 64) = ji12 := by have h_ := (i64_w _).symm.trans hji12_; rw [Int.neg_one_mul] at h_; exact h_
     have hji12n : (ji10) ≤ 64 → wrap64 (-2 ^ (ji10).toNat) = ji12 := fun hle_ => by have h_ := (i64_w _).symm.trans (hji12z hle_); rw [Int.neg_one_mul] at h_; exact h_
     have hji12y : (wrap64 ((-1) * 2 ^ min (ji10).toNat 64)) = ji12 := (i64_w _).symm.trans hji12_
     have hji12x : (ji10) ≤ 64 → (wrap64 ((-1) * 2 ^ (ji10).toNat)) = ji12 := fun h_ => (i64_w _).symm.trans (hji12z h_)
     by_cases c13 : t216 = (ji12)
     ·rw [if_pos c13] at H
      have c13b0 : (t216 == (ji12)) = true := beq_iff_eq.mpr c13
      have c13b1 : (t216 != (ji12)) = false := bne_eq_false_iff_eq.mpr c13
      clear c13
      simp only [Option.some.injEq, Prod.mk.injEq] at H
      obtain ⟨rfl, rfl⟩ := H
      go_enter Tryz.func71, Tryz.ntmps71
      go_wp2_with (first | ((with_reducible refine gate_callee (f := 122) rfl ?_); refine goesL_ (some 12) rfl rfl Tryz.func122 (by kernel_rfl) rfl #[.int .i64 a0, .int .u64 a1] rfl mp_ ?_; (with_reducible refine (ints_signed.calls a0 a1 t216 _ A4.out).mono ?_); rintro e w' ⟨rfl, ⟨nd, rfl⟩⟩; refine ⟨_, rfl, ?_⟩) | ((with_reducible refine gate_callee (f := 122) rfl ?_); refine goesL_ (some 15) rfl rfl Tryz.func122 (by kernel_rfl) rfl #[.int .i64 a0, .int .u64 a2] rfl mp_ ?_; (with_reducible refine (ints_signed.calls a0 a2 t217 _ A5.out).mono ?_); rintro e w' ⟨rfl, ⟨nd, rfl⟩⟩; refine ⟨_, rfl, ?_⟩) | ((with_reducible refine gate_callee (f := 121) rfl ?_); refine goesL_ (some 18) rfl rfl Tryz.func121 (by kernel_rfl) rfl #[.int .i64 a0] rfl mp_ ?_; (with_reducible refine (ints_known.calls a0 true _ A6.out).mono ?_); rintro e w' ⟨rfl, ⟨nd, rfl⟩⟩; refine ⟨_, rfl, ?_⟩))
      go_ret2
      exact ⟨by first | rfl | (simp; done) | (simp only [← hji10, ← hji12] <;> (first | rfl | simp)) | (simp [*]; done), by repeat (first | exact Drawn0.refl _ | apply Drawn0.step)⟩
     ·rw [if_neg c13] at H
      have c13b0 : (t216 == (ji12)) = false := beq_eq_false_iff_ne.mpr c13
      have c13b1 : (t216 != (ji12)) = true := bne_iff_ne.mpr c13
      replace H := ob_ H
      obtain ⟨t219, A140, H⟩ := H
      replace H : (some (t219, 0)) = some (r1, r2) := H
      have A14 := A_ A140;clear A140
      simp only [Option.some.injEq, Prod.mk.injEq] at H
      obtain ⟨rfl, rfl⟩ := H
      go_enter Tryz.func71, Tryz.ntmps71
      go_wp2_with (first | ((with_reducible refine gate_callee (f := 122) rfl ?_); refine goesL_ (some 12) rfl rfl Tryz.func122 (by kernel_rfl) rfl #[.int .i64 a0, .int .u64 a1] rfl mp_ ?_; (with_reducible refine (ints_signed.calls a0 a1 t216 _ A4.out).mono ?_); rintro e w' ⟨rfl, ⟨nd, rfl⟩⟩; refine ⟨_, rfl, ?_⟩) | ((with_reducible refine gate_callee (f := 122) rfl ?_); refine goesL_ (some 15) rfl rfl Tryz.func122 (by kernel_rfl) rfl #[.int .i64 a0, .int .u64 a2] rfl mp_ ?_; (with_reducible refine (ints_signed.calls a0 a2 t217 _ A5.out).mono ?_); rintro e w' ⟨rfl, ⟨nd, rfl⟩⟩; refine ⟨_, rfl, ?_⟩) | ((with_reducible refine gate_callee (f := 121) rfl ?_); refine goesL_ (some 18) rfl rfl Tryz.func121 (by kernel_rfl) rfl #[.int .i64 a0] rfl mp_ ?_; (with_reducible refine (ints_known.calls a0 true _ A6.out).mono ?_); rintro e w' ⟨rfl, ⟨nd, rfl⟩⟩; refine ⟨_, rfl, ?_⟩) | ((with_reducible refine gate_callee (f := 17) rfl ?_); refine goesL_ (some 38) rfl rfl Tryz.func17 (by kernel_rfl) rfl #[.int .i64 a0, .int .u64 (IntKind.u64.wrap (wrap64 (Int.tdiv t216 t217)))] rfl mp_ ?_; (with_reducible refine (shape_Cut.calls a0 (IntKind.u64.wrap (wrap64 (Int.tdiv t216 t217))) t219 _ A14.out).mono ?_); rintro e w' ⟨rfl, ⟨nd, rfl⟩⟩; refine ⟨_, rfl, ?_⟩))
      go_ret2
      exact ⟨by first | rfl | (simp; done) | (simp only [← hji10, ← hji12] <;> (first | rfl | simp)) | (simp [*]; done), by repeat (first | exact Drawn0.refl _ | apply Drawn0.step)⟩
    ·rw [if_neg c11] at H
     exact absurd H (by simp)
   ·rw [if_neg c9] at H
    have c9b0 : (t217 == (-1)) = false := beq_eq_false_iff_ne.mpr c9
    have c9b1 : (t217 != (-1)) = true := bne_iff_ne.mpr c9
    replace H := ob_ H
    obtain ⟨t220, A150, H⟩ := H
    replace H : (some (t220, 0)) = some (r1, r2) := H
    have A15 := A_ A150;clear A150
    simp only [Option.some.injEq, Prod.mk.injEq] at H
    obtain ⟨rfl, rfl⟩ := H
    go_enter Tryz.func71, Tryz.ntmps71
    go_wp2_with (first | ((with_reducible refine gate_callee (f := 122) rfl ?_); refine goesL_ (some 12) rfl rfl Tryz.func122 (by kernel_rfl) rfl #[.int .i64 a0, .int .u64 a1] rfl mp_ ?_; (with_reducible refine (ints_signed.calls a0 a1 t216 _ A4.out).mono ?_); rintro e w' ⟨rfl, ⟨nd, rfl⟩⟩; refine ⟨_, rfl, ?_⟩) | ((with_reducible refine gate_callee (f := 122) rfl ?_); refine goesL_ (some 15) rfl rfl Tryz.func122 (by kernel_rfl) rfl #[.int .i64 a0, .int .u64 a2] rfl mp_ ?_; (with_reducible refine (ints_signed.calls a0 a2 t217 _ A5.out).mono ?_); rintro e w' ⟨rfl, ⟨nd, rfl⟩⟩; refine ⟨_, rfl, ?_⟩) | ((with_reducible refine gate_callee (f := 121) rfl ?_); refine goesL_ (some 18) rfl rfl Tryz.func121 (by kernel_rfl) rfl #[.int .i64 a0] rfl mp_ ?_; (with_reducible refine (ints_known.calls a0 true _ A6.out).mono ?_); rintro e w' ⟨rfl, ⟨nd, rfl⟩⟩; refine ⟨_, rfl, ?_⟩) | ((with_reducible refine gate_callee (f := 17) rfl ?_); refine goesL_ (some 38) rfl rfl Tryz.func17 (by kernel_rfl) rfl #[.int .i64 a0, .int .u64 (IntKind.u64.wrap (wrap64 (Int.tdiv t216 t217)))] rfl mp_ ?_; (with_reducible refine (shape_Cut.calls a0 (IntKind.u64.wrap (wrap64 (Int.tdiv t216 t217))) t220 _ A15.out).mono ?_); rintro e w' ⟨rfl, ⟨nd, rfl⟩⟩; refine ⟨_, rfl, ?_⟩))
    go_ret2
    exact ⟨sm_, by repeat (first | exact Drawn0.refl _ | apply Drawn0.step)⟩
 ·replace c7 := Bool.eq_false_iff.mpr c7
  subst c7
  have H1 : (some (0, 0)) = some (r1, r2) := by rw [if_neg (show ¬ (false = true) by decide)] at H; exact H
  clear H;have H := H1;clear H1
  simp only [Option.some.injEq, Prod.mk.injEq] at H
  obtain ⟨rfl, rfl⟩ := H
  go_enter Tryz.func71, Tryz.ntmps71
  go_wp2_with (first | ((with_reducible refine gate_callee (f := 122) rfl ?_); refine goesL_ (some 12) rfl rfl Tryz.func122 (by kernel_rfl) rfl #[.int .i64 a0, .int .u64 a1] rfl mp_ ?_; (with_reducible refine (ints_signed.calls a0 a1 t216 _ A4.out).mono ?_); rintro e w' ⟨rfl, ⟨nd, rfl⟩⟩; refine ⟨_, rfl, ?_⟩) | ((with_reducible refine gate_callee (f := 122) rfl ?_); refine goesL_ (some 15) rfl rfl Tryz.func122 (by kernel_rfl) rfl #[.int .i64 a0, .int .u64 a2] rfl mp_ ?_; (with_reducible refine (ints_signed.calls a0 a2 t217 _ A5.out).mono ?_); rintro e w' ⟨rfl, ⟨nd, rfl⟩⟩; refine ⟨_, rfl, ?_⟩) | ((with_reducible refine gate_callee (f := 121) rfl ?_); refine goesL_ (some 18) rfl rfl Tryz.func121 (by kernel_rfl) rfl #[.int .i64 a0] rfl mp_ ?_; (with_reducible refine (ints_known.calls a0 false _ A6.out).mono ?_); rintro e w' ⟨rfl, ⟨nd, rfl⟩⟩; refine ⟨_, rfl, ?_⟩))
  go_ret2
  exact ⟨sm_, by repeat (first | exact Drawn0.refl _ | apply Drawn0.step)⟩
def ints_DivU.f (a0 : Int) (a1 : Int) (a2 : Int) : Option (Int × Int) := (shape_Cut.f a0 a1).bind fun t221 => ((shape_Cut.f a0 a2).bind fun t222 => ((ints_known.f a0).bind fun t223 => (if t223 = true then (if t222 = 0 then (some (0, 2)) else (some (IntKind.u64.wrap (Int.tdiv t221 t222), 0))) else (some (0, 0)))))
theorem ints_DivU.calls (a0 : Int) (a1 : Int) (a2 : Int) (r1 : Int) (r2 : Int) (w : World) (h : ints_DivU.f a0 a1 a2 = some (r1, r2)) :
  Calls Tryz.prog 72 #[.int .i64 a0, .int .u64 a1, .int .u64 a2] w fun e w' => e = .returned (.tuple #[.int .u64 r1, .int .i64 r2]) ∧ Drawn0 w w' := by
 have H : ((shape_Cut.f a0 a1).bind fun t221 => ((shape_Cut.f a0 a2).bind fun t222 => ((ints_known.f a0).bind fun t223 => (if t223 = true then (if t222 = 0 then (some (0, 2)) else (some (IntKind.u64.wrap (Int.tdiv t221 t222), 0))) else (some (0, 0)))))) = some (r1, r2) := h
 clear h
 replace H := ob_ H
 obtain ⟨t221, A40, H⟩ := H
 replace H : ((shape_Cut.f a0 a2).bind fun t222 => ((ints_known.f a0).bind fun t223 => (if t223 = true then (if t222 = 0 then (some (0, 2)) else (some (IntKind.u64.wrap (Int.tdiv t221 t222), 0))) else (some (0, 0))))) = some (r1, r2) := H
 have A4 := A_ A40;clear A40
 replace H := ob_ H
 obtain ⟨t222, A50, H⟩ := H
 replace H : ((ints_known.f a0).bind fun t223 => (if t223 = true then (if t222 = 0 then (some (0, 2)) else (some (IntKind.u64.wrap (Int.tdiv t221 t222), 0))) else (some (0, 0)))) = some (r1, r2) := H
 have A5 := A_ A50;clear A50
 replace H := ob_ H
 obtain ⟨t223, A60, H⟩ := H
 replace H : (if t223 = true then (if t222 = 0 then (some (0, 2)) else (some (IntKind.u64.wrap (Int.tdiv t221 t222), 0))) else (some (0, 0))) = some (r1, r2) := H
 have A6 := A_ A60;clear A60
 by_cases c7 : t223 = true
 ·subst c7
  have H1 : (if t222 = 0 then (some (0, 2)) else (some (IntKind.u64.wrap (Int.tdiv t221 t222), 0))) = some (r1, r2) := by rw [if_pos rfl] at H; exact H
  clear H;have H := H1;clear H1
  by_cases c8 : t222 = 0
  ·rw [if_pos c8] at H
   have c8b0 : (t222 == 0) = true := beq_iff_eq.mpr c8
   have c8b1 : (t222 != 0) = false := bne_eq_false_iff_eq.mpr c8
   clear c8
   simp only [Option.some.injEq, Prod.mk.injEq] at H
   obtain ⟨rfl, rfl⟩ := H
   go_enter Tryz.func72, Tryz.ntmps72
   go_wp2_with (first | ((with_reducible refine gate_callee (f := 17) rfl ?_); refine goesL_ (some 10) rfl rfl Tryz.func17 (by kernel_rfl) rfl #[.int .i64 a0, .int .u64 a1] rfl mp_ ?_; (with_reducible refine (shape_Cut.calls a0 a1 t221 _ A4.out).mono ?_); rintro e w' ⟨rfl, ⟨nd, rfl⟩⟩; refine ⟨_, rfl, ?_⟩) | ((with_reducible refine gate_callee (f := 17) rfl ?_); refine goesL_ (some 13) rfl rfl Tryz.func17 (by kernel_rfl) rfl #[.int .i64 a0, .int .u64 a2] rfl mp_ ?_; (with_reducible refine (shape_Cut.calls a0 a2 t222 _ A5.out).mono ?_); rintro e w' ⟨rfl, ⟨nd, rfl⟩⟩; refine ⟨_, rfl, ?_⟩) | ((with_reducible refine gate_callee (f := 121) rfl ?_); refine goesL_ (some 16) rfl rfl Tryz.func121 (by kernel_rfl) rfl #[.int .i64 a0] rfl mp_ ?_; (with_reducible refine (ints_known.calls a0 true _ A6.out).mono ?_); rintro e w' ⟨rfl, ⟨nd, rfl⟩⟩; refine ⟨_, rfl, ?_⟩))
   go_ret2
   exact ⟨sm_, by repeat (first | exact Drawn0.refl _ | apply Drawn0.step)⟩
  ·rw [if_neg c8] at H
   have c8b0 : (t222 == 0) = false := beq_eq_false_iff_ne.mpr c8
   have c8b1 : (t222 != 0) = true := bne_iff_ne.mpr c8
   simp only [Option.some.injEq, Prod.mk.injEq] at H
   obtain ⟨rfl, rfl⟩ := H
   go_enter Tryz.func72, Tryz.ntmps72
   go_wp2_with (first | ((with_reducible refine gate_callee (f := 17) rfl ?_); refine goesL_ (some 10) rfl rfl Tryz.func17 (by kernel_rfl) rfl #[.int .i64 a0, .int .u64 a1] rfl mp_ ?_; (with_reducible refine (shape_Cut.calls a0 a1 t221 _ A4.out).mono ?_); rintro e w' ⟨rfl, ⟨nd, rfl⟩⟩; refine ⟨_, rfl, ?_⟩) | ((with_reducible refine gate_callee (f := 17) rfl ?_); refine goesL_ (some 13) rfl rfl Tryz.func17 (by kernel_rfl) rfl #[.int .i64 a0, .int .u64 a2] rfl mp_ ?_; (with_reducible refine (shape_Cut.calls a0 a2 t222 _ A5.out).mono ?_); rintro e w' ⟨rfl, ⟨nd, rfl⟩⟩; refine ⟨_, rfl, ?_⟩) | ((with_reducible refine gate_callee (f := 121) rfl ?_); refine goesL_ (some 16) rfl rfl Tryz.func121 (by kernel_rfl) rfl #[.int .i64 a0] rfl mp_ ?_; (with_reducible refine (ints_known.calls a0 true _ A6.out).mono ?_); rintro e w' ⟨rfl, ⟨nd, rfl⟩⟩; refine ⟨_, rfl, ?_⟩))
   go_ret2
   exact ⟨sm_, by repeat (first | exact Drawn0.refl _ | apply Drawn0.step)⟩
 ·replace c7 := Bool.eq_false_iff.mpr c7
  subst c7
  have H1 : (some (0, 0)) = some (r1, r2) := by rw [if_neg (show ¬ (false = true) by decide)] at H; exact H
  clear H;have H := H1;clear H1
  simp only [Option.some.injEq, Prod.mk.injEq] at H
  obtain ⟨rfl, rfl⟩ := H
  go_enter Tryz.func72, Tryz.ntmps72
  go_wp2_with (first | ((with_reducible refine gate_callee (f := 17) rfl ?_); refine goesL_ (some 10) rfl rfl Tryz.func17 (by kernel_rfl) rfl #[.int .i64 a0, .int .u64 a1] rfl mp_ ?_; (with_reducible refine (shape_Cut.calls a0 a1 t221 _ A4.out).mono ?_); rintro e w' ⟨rfl, ⟨nd, rfl⟩⟩; refine ⟨_, rfl, ?_⟩) | ((with_reducible refine gate_callee (f := 17) rfl ?_); refine goesL_ (some 13) rfl rfl Tryz.func17 (by kernel_rfl) rfl #[.int .i64 a0, .int .u64 a2] rfl mp_ ?_; (with_reducible refine (shape_Cut.calls a0 a2 t222 _ A5.out).mono ?_); rintro e w' ⟨rfl, ⟨nd, rfl⟩⟩; refine ⟨_, rfl, ?_⟩) | ((with_reducible refine gate_callee (f := 121) rfl ?_); refine goesL_ (some 16) rfl rfl Tryz.func121 (by kernel_rfl) rfl #[.int .i64 a0] rfl mp_ ?_; (with_reducible refine (ints_known.calls a0 false _ A6.out).mono ?_); rintro e w' ⟨rfl, ⟨nd, rfl⟩⟩; refine ⟨_, rfl, ?_⟩))
  go_ret2
  exact ⟨sm_, by repeat (first | exact Drawn0.refl _ | apply Drawn0.step)⟩
def ints_Mul.f (a0 : Int) (a1 : Int) (a2 : Int) : Option (Int) := if a0 = 32 then some (((a1 % 4294967296) * (a2 % 4294967296)) % 4294967296) else if a0 = 64 then some (IntKind.u64.wrap (a1 * a2)) else some 0
theorem ints_Mul.calls (a0 : Int) (a1 : Int) (a2 : Int) (r : Int) (w : World) (h : ints_Mul.f a0 a1 a2 = some r) :
  Calls Tryz.prog 132 #[.int .i64 a0, .int .u64 a1, .int .u64 a2] w fun e w' => e = .returned (.int .u64 r) ∧ Drawn0 w w' := by
 unfold ints_Mul.f at h
 by_cases c3 : a0 = 32
 ·rw [if_pos c3] at h
  subst c3
  obtain rfl := Option.some.inj h
  go_enter Tryz.func132, Tryz.ntmps132
  go_wp2_with go_in
  go_ret
  exact ⟨by first | rfl | (simp; done), by repeat (first | exact Drawn0.refl _ | apply Drawn0.step)⟩
 ·rw [if_neg c3] at h
  have c3b0 : (a0 == 32) = false := beq_eq_false_iff_ne.mpr c3
  by_cases c4 : a0 = 64
  ·rw [if_pos c4] at h
   have c4b0 : (a0 == 64) = true := beq_iff_eq.mpr c4
   clear c4
   obtain rfl := Option.some.inj h
   go_enter Tryz.func132, Tryz.ntmps132
   go_wp2_with go_in
   go_ret
   exact ⟨by first | rfl | (simp; done), by repeat (first | exact Drawn0.refl _ | apply Drawn0.step)⟩
  ·rw [if_neg c4] at h
   have c4b0 : (a0 == 64) = false := beq_eq_false_iff_ne.mpr c4
   obtain rfl := Option.some.inj h
   go_enter Tryz.func132, Tryz.ntmps132
   go_wp2_with go_in
   go_ret
   exact ⟨by first | rfl | (simp; done), by repeat (first | exact Drawn0.refl _ | apply Drawn0.step)⟩
def ints_Sub.f (a0 : Int) (a1 : Int) (a2 : Int) : Option (Int) := if a0 = 32 then some (((a1 % 4294967296) - (a2 % 4294967296)) % 4294967296) else if a0 = 64 then some (IntKind.u64.wrap (a1 - a2)) else some 0
theorem ints_Sub.calls (a0 : Int) (a1 : Int) (a2 : Int) (r : Int) (w : World) (h : ints_Sub.f a0 a1 a2 = some r) :
  Calls Tryz.prog 131 #[.int .i64 a0, .int .u64 a1, .int .u64 a2] w fun e w' => e = .returned (.int .u64 r) ∧ Drawn0 w w' := by
 unfold ints_Sub.f at h
 by_cases c3 : a0 = 32
 ·rw [if_pos c3] at h
  subst c3
  obtain rfl := Option.some.inj h
  go_enter Tryz.func131, Tryz.ntmps131
  go_wp2_with go_in
  go_ret
  exact ⟨by first | rfl | (simp; done), by repeat (first | exact Drawn0.refl _ | apply Drawn0.step)⟩
 ·rw [if_neg c3] at h
  have c3b0 : (a0 == 32) = false := beq_eq_false_iff_ne.mpr c3
  by_cases c4 : a0 = 64
  ·rw [if_pos c4] at h
   have c4b0 : (a0 == 64) = true := beq_iff_eq.mpr c4
   clear c4
   obtain rfl := Option.some.inj h
   go_enter Tryz.func131, Tryz.ntmps131
   go_wp2_with go_in
   go_ret
   exact ⟨by first | rfl | (simp; done), by repeat (first | exact Drawn0.refl _ | apply Drawn0.step)⟩
  ·rw [if_neg c4] at h
   have c4b0 : (a0 == 64) = false := beq_eq_false_iff_ne.mpr c4
   obtain rfl := Option.some.inj h
   go_enter Tryz.func131, Tryz.ntmps131
   go_wp2_with go_in
   go_ret
   exact ⟨by first | rfl | (simp; done), by repeat (first | exact Drawn0.refl _ | apply Drawn0.step)⟩
def ints_RemS.f (a0 : Int) (a1 : Int) (a2 : Int) : Option (Int × Int) := (ints_DivS.f a0 a1 a2).bind fun bt224 => (if bt224.2 = 2 then (some (0, bt224.2)) else (if bt224.2 = 3 then (some (0, 0)) else ((ints_Mul.f a0 bt224.1 a2).bind fun t226 => ((ints_Sub.f a0 a1 t226).bind fun t227 => (some (t227, 0))))))
theorem ints_RemS.calls (a0 : Int) (a1 : Int) (a2 : Int) (r1 : Int) (r2 : Int) (w : World) (h : ints_RemS.f a0 a1 a2 = some (r1, r2)) :
  Calls Tryz.prog 73 #[.int .i64 a0, .int .u64 a1, .int .u64 a2] w fun e w' => e = .returned (.tuple #[.int .u64 r1, .int .i64 r2]) ∧ Drawn0 w w' := by
 have H : ((ints_DivS.f a0 a1 a2).bind fun bt224 => (if bt224.2 = 2 then (some (0, bt224.2)) else (if bt224.2 = 3 then (some (0, 0)) else ((ints_Mul.f a0 bt224.1 a2).bind fun t226 => ((ints_Sub.f a0 a1 t226).bind fun t227 => (some (t227, 0))))))) = some (r1, r2) := h
 clear h
 replace H := ob_ H
 obtain ⟨⟨t224, t225⟩, A40, H⟩ := H
 replace H : (if t225 = 2 then (some (0, t225)) else (if t225 = 3 then (some (0, 0)) else ((ints_Mul.f a0 t224 a2).bind fun t226 => ((ints_Sub.f a0 a1 t226).bind fun t227 => (some (t227, 0)))))) = some (r1, r2) := H
 have A4 := A_ A40;clear A40
 by_cases c5 : t225 = 2
 ·rw [if_pos c5] at H
  have c5b0 : (t225 == 2) = true := beq_iff_eq.mpr c5
  have c5b1 : (t225 != 2) = false := bne_eq_false_iff_eq.mpr c5
  clear c5
  simp only [Option.some.injEq, Prod.mk.injEq] at H
  obtain ⟨rfl, rfl⟩ := H
  go_enter Tryz.func73, Tryz.ntmps73
  go_wp2_with (first | ((with_reducible refine gate_callee (f := 71) rfl ?_); refine goesL_ (some 14) rfl rfl Tryz.func71 (by kernel_rfl) rfl #[.int .i64 a0, .int .u64 a1, .int .u64 a2] rfl mp_ ?_; (with_reducible refine (ints_DivS.calls a0 a1 a2 t224 t225 _ A4.out).mono ?_); rintro e w' ⟨rfl, ⟨nd, rfl⟩⟩; refine ⟨_, rfl, ?_⟩))
  go_ret2
  exact ⟨sm_, by repeat (first | exact Drawn0.refl _ | apply Drawn0.step)⟩
 ·rw [if_neg c5] at H
  have c5b0 : (t225 == 2) = false := beq_eq_false_iff_ne.mpr c5
  have c5b1 : (t225 != 2) = true := bne_iff_ne.mpr c5
  by_cases c6 : t225 = 3
  ·rw [if_pos c6] at H
   have c6b0 : (t225 == 3) = true := beq_iff_eq.mpr c6
   have c6b1 : (t225 != 3) = false := bne_eq_false_iff_eq.mpr c6
   clear c6
   simp only [Option.some.injEq, Prod.mk.injEq] at H
   obtain ⟨rfl, rfl⟩ := H
   go_enter Tryz.func73, Tryz.ntmps73
   go_wp2_with (first | ((with_reducible refine gate_callee (f := 71) rfl ?_); refine goesL_ (some 14) rfl rfl Tryz.func71 (by kernel_rfl) rfl #[.int .i64 a0, .int .u64 a1, .int .u64 a2] rfl mp_ ?_; (with_reducible refine (ints_DivS.calls a0 a1 a2 t224 t225 _ A4.out).mono ?_); rintro e w' ⟨rfl, ⟨nd, rfl⟩⟩; refine ⟨_, rfl, ?_⟩))
   go_ret2
   exact ⟨sm_, by repeat (first | exact Drawn0.refl _ | apply Drawn0.step)⟩
  ·rw [if_neg c6] at H
   have c6b0 : (t225 == 3) = false := beq_eq_false_iff_ne.mpr c6
   have c6b1 : (t225 != 3) = true := bne_iff_ne.mpr c6
   replace H := ob_ H
   obtain ⟨t226, A70, H⟩ := H
   replace H : ((ints_Sub.f a0 a1 t226).bind fun t227 => (some (t227, 0))) = some (r1, r2) := H
   have A7 := A_ A70;clear A70
   replace H := ob_ H
   obtain ⟨t227, A80, H⟩ := H
   replace H : (some (t227, 0)) = some (r1, r2) := H
   have A8 := A_ A80;clear A80
   simp only [Option.some.injEq, Prod.mk.injEq] at H
   obtain ⟨rfl, rfl⟩ := H
   go_enter Tryz.func73, Tryz.ntmps73
   go_wp2_with (first | ((with_reducible refine gate_callee (f := 71) rfl ?_); refine goesL_ (some 14) rfl rfl Tryz.func71 (by kernel_rfl) rfl #[.int .i64 a0, .int .u64 a1, .int .u64 a2] rfl mp_ ?_; (with_reducible refine (ints_DivS.calls a0 a1 a2 t224 t225 _ A4.out).mono ?_); rintro e w' ⟨rfl, ⟨nd, rfl⟩⟩; refine ⟨_, rfl, ?_⟩) | ((with_reducible refine gate_callee (f := 132) rfl ?_); refine goesL_ (some 28) rfl rfl Tryz.func132 (by kernel_rfl) rfl #[.int .i64 a0, .int .u64 t224, .int .u64 a2] rfl mp_ ?_; (with_reducible refine (ints_Mul.calls a0 t224 a2 t226 _ A7.out).mono ?_); rintro e w' ⟨rfl, ⟨nd, rfl⟩⟩; refine ⟨_, rfl, ?_⟩) | ((with_reducible refine gate_callee (f := 131) rfl ?_); refine goesL_ (some 29) rfl rfl Tryz.func131 (by kernel_rfl) rfl #[.int .i64 a0, .int .u64 a1, .int .u64 t226] rfl mp_ ?_; (with_reducible refine (ints_Sub.calls a0 a1 t226 t227 _ A8.out).mono ?_); rintro e w' ⟨rfl, ⟨nd, rfl⟩⟩; refine ⟨_, rfl, ?_⟩))
   go_ret2
   exact ⟨sm_, by repeat (first | exact Drawn0.refl _ | apply Drawn0.step)⟩
def ints_RemU.f (a0 : Int) (a1 : Int) (a2 : Int) : Option (Int × Int) := (ints_DivU.f a0 a1 a2).bind fun bt228 => (if bt228.2 = 0 then ((ints_Mul.f a0 bt228.1 a2).bind fun t230 => ((ints_Sub.f a0 a1 t230).bind fun t231 => (some (t231, 0)))) else (some (0, bt228.2)))
theorem ints_RemU.calls (a0 : Int) (a1 : Int) (a2 : Int) (r1 : Int) (r2 : Int) (w : World) (h : ints_RemU.f a0 a1 a2 = some (r1, r2)) :
  Calls Tryz.prog 74 #[.int .i64 a0, .int .u64 a1, .int .u64 a2] w fun e w' => e = .returned (.tuple #[.int .u64 r1, .int .i64 r2]) ∧ Drawn0 w w' := by
 have H : ((ints_DivU.f a0 a1 a2).bind fun bt228 => (if bt228.2 = 0 then ((ints_Mul.f a0 bt228.1 a2).bind fun t230 => ((ints_Sub.f a0 a1 t230).bind fun t231 => (some (t231, 0)))) else (some (0, bt228.2)))) = some (r1, r2) := h
 clear h
 replace H := ob_ H
 obtain ⟨⟨t228, t229⟩, A40, H⟩ := H
 replace H : (if t229 = 0 then ((ints_Mul.f a0 t228 a2).bind fun t230 => ((ints_Sub.f a0 a1 t230).bind fun t231 => (some (t231, 0)))) else (some (0, t229))) = some (r1, r2) := H
 have A4 := A_ A40;clear A40
 by_cases c5 : t229 = 0
 ·rw [if_pos c5] at H
  have c5b0 : (t229 == 0) = true := beq_iff_eq.mpr c5
  have c5b1 : (t229 != 0) = false := bne_eq_false_iff_eq.mpr c5
  clear c5
  replace H := ob_ H
  obtain ⟨t230, A60, H⟩ := H
  replace H : ((ints_Sub.f a0 a1 t230).bind fun t231 => (some (t231, 0))) = some (r1, r2) := H
  have A6 := A_ A60;clear A60
  replace H := ob_ H
  obtain ⟨t231, A70, H⟩ := H
  replace H : (some (t231, 0)) = some (r1, r2) := H
  have A7 := A_ A70;clear A70
  simp only [Option.some.injEq, Prod.mk.injEq] at H
  obtain ⟨rfl, rfl⟩ := H
  go_enter Tryz.func74, Tryz.ntmps74
  go_wp2_with (first | ((with_reducible refine gate_callee (f := 72) rfl ?_); refine goesL_ (some 14) rfl rfl Tryz.func72 (by kernel_rfl) rfl #[.int .i64 a0, .int .u64 a1, .int .u64 a2] rfl mp_ ?_; (with_reducible refine (ints_DivU.calls a0 a1 a2 t228 t229 _ A4.out).mono ?_); rintro e w' ⟨rfl, ⟨nd, rfl⟩⟩; refine ⟨_, rfl, ?_⟩) | ((with_reducible refine gate_callee (f := 132) rfl ?_); refine goesL_ (some 25) rfl rfl Tryz.func132 (by kernel_rfl) rfl #[.int .i64 a0, .int .u64 t228, .int .u64 a2] rfl mp_ ?_; (with_reducible refine (ints_Mul.calls a0 t228 a2 t230 _ A6.out).mono ?_); rintro e w' ⟨rfl, ⟨nd, rfl⟩⟩; refine ⟨_, rfl, ?_⟩) | ((with_reducible refine gate_callee (f := 131) rfl ?_); refine goesL_ (some 26) rfl rfl Tryz.func131 (by kernel_rfl) rfl #[.int .i64 a0, .int .u64 a1, .int .u64 t230] rfl mp_ ?_; (with_reducible refine (ints_Sub.calls a0 a1 t230 t231 _ A7.out).mono ?_); rintro e w' ⟨rfl, ⟨nd, rfl⟩⟩; refine ⟨_, rfl, ?_⟩))
  go_ret2
  exact ⟨sm_, by repeat (first | exact Drawn0.refl _ | apply Drawn0.step)⟩
 ·rw [if_neg c5] at H
  have c5b0 : (t229 == 0) = false := beq_eq_false_iff_ne.mpr c5
  have c5b1 : (t229 != 0) = true := bne_iff_ne.mpr c5
  simp only [Option.some.injEq, Prod.mk.injEq] at H
  obtain ⟨rfl, rfl⟩ := H
  go_enter Tryz.func74, Tryz.ntmps74
  go_wp2_with (first | ((with_reducible refine gate_callee (f := 72) rfl ?_); refine goesL_ (some 14) rfl rfl Tryz.func72 (by kernel_rfl) rfl #[.int .i64 a0, .int .u64 a1, .int .u64 a2] rfl mp_ ?_; (with_reducible refine (ints_DivU.calls a0 a1 a2 t228 t229 _ A4.out).mono ?_); rintro e w' ⟨rfl, ⟨nd, rfl⟩⟩; refine ⟨_, rfl, ?_⟩))
  go_ret2
  exact ⟨sm_, by repeat (first | exact Drawn0.refl _ | apply Drawn0.step)⟩
def ints_Add.f (a0 : Int) (a1 : Int) (a2 : Int) : Option (Int) := if a0 = 32 then some (((a1 % 4294967296) + (a2 % 4294967296)) % 4294967296) else if a0 = 64 then some (IntKind.u64.wrap (a1 + a2)) else some 0
theorem ints_Add.calls (a0 : Int) (a1 : Int) (a2 : Int) (r : Int) (w : World) (h : ints_Add.f a0 a1 a2 = some r) :
  Calls Tryz.prog 133 #[.int .i64 a0, .int .u64 a1, .int .u64 a2] w fun e w' => e = .returned (.int .u64 r) ∧ Drawn0 w w' := by
 unfold ints_Add.f at h
 by_cases c3 : a0 = 32
 ·rw [if_pos c3] at h
  subst c3
  obtain rfl := Option.some.inj h
  go_enter Tryz.func133, Tryz.ntmps133
  go_wp2_with go_in
  go_ret
  exact ⟨by first | rfl | (simp; done), by repeat (first | exact Drawn0.refl _ | apply Drawn0.step)⟩
 ·rw [if_neg c3] at h
  have c3b0 : (a0 == 32) = false := beq_eq_false_iff_ne.mpr c3
  by_cases c4 : a0 = 64
  ·rw [if_pos c4] at h
   have c4b0 : (a0 == 64) = true := beq_iff_eq.mpr c4
   clear c4
   obtain rfl := Option.some.inj h
   go_enter Tryz.func133, Tryz.ntmps133
   go_wp2_with go_in
   go_ret
   exact ⟨by first | rfl | (simp; done), by repeat (first | exact Drawn0.refl _ | apply Drawn0.step)⟩
  ·rw [if_neg c4] at h
   have c4b0 : (a0 == 64) = false := beq_eq_false_iff_ne.mpr c4
   obtain rfl := Option.some.inj h
   go_enter Tryz.func133, Tryz.ntmps133
   go_wp2_with go_in
   go_ret
   exact ⟨by first | rfl | (simp; done), by repeat (first | exact Drawn0.refl _ | apply Drawn0.step)⟩
def ints_Rotl.f (a0 : Int) (a1 : Int) (a2 : Int) : Option (Int) := if a0 = 32 then some (IntKind.u64.wrap (Go.bits .or .u32 ((a1 % 4294967296) * 2 ^ min (Go.bits .and .u64 (IntKind.u64.wrap (wrap64 (Int.tmod a2 32))) 31).toNat 32 % 4294967296) ((a1 % 4294967296) / 2 ^ min (IntKind.u64.wrap (32 - Go.bits .and .u64 (IntKind.u64.wrap (wrap64 (Int.tmod a2 32))) 31)).toNat 32))) else if a0 = 64 then some (Go.bits .or .u64 (IntKind.u64.wrap (a1 * 2 ^ min (Go.bits .and .u64 (IntKind.u64.wrap (wrap64 (Int.tmod a2 64))) 63).toNat 64)) (a1 / 2 ^ min (IntKind.u64.wrap (64 - Go.bits .and .u64 (IntKind.u64.wrap (wrap64 (Int.tmod a2 64))) 63)).toNat 64)) else some 0
theorem ints_Rotl.pos (x y : Int) : 0 ≤ Go.bits .and .u64 x y := by
 unfold Go.bits; rw [IntKind.wrap_u64]; omega
theorem ints_Rotl.posw (x : Int) : 0 ≤ IntKind.u64.wrap x := by rw [IntKind.wrap_u64]; omega
theorem ints_Rotl.calls (a0 : Int) (a1 : Int) (a2 : Int) (r : Int) (w : World) (h : ints_Rotl.f a0 a1 a2 = some r) :
  Calls Tryz.prog 137 #[.int .i64 a0, .int .u64 a1, .int .u64 a2] w fun e w' => e = .returned (.int .u64 r) ∧ Below w.heap.size w w' := by
 unfold ints_Rotl.f at h
 by_cases c3 : a0 = 32
 ·rw [if_pos c3] at h
  subst c3
  have p0 := eq_true (ints_Rotl.pos (IntKind.u64.wrap (wrap64 (Int.tmod a2 32))) 31)
  have p1 := eq_true (ints_Rotl.posw (32 - Go.bits .and .u64 (IntKind.u64.wrap (wrap64 (Int.tmod a2 32))) 31))
  have H := A_ (Option.some.inj h)
  clear h
  go_enter Tryz.func137, Tryz.ntmps137
  go_wp2_with go_in
  go_ret
  exact ⟨by rw [← H.out]; first | rfl | (simp; done) | (go_simp; done), below_alloc (Below.refl _ _) _⟩
 ·rw [if_neg c3] at h
  by_cases c4 : a0 = 64
  ·rw [if_pos c4] at h
   subst c4
   clear c3
   have p0 := eq_true (ints_Rotl.pos (IntKind.u64.wrap (wrap64 (Int.tmod a2 64))) 63)
   have p1 := eq_true (ints_Rotl.posw (64 - Go.bits .and .u64 (IntKind.u64.wrap (wrap64 (Int.tmod a2 64))) 63))
   have H := A_ (Option.some.inj h)
   clear h
   go_enter Tryz.func137, Tryz.ntmps137
   go_wp2_with go_in
   go_ret
   exact ⟨by rw [← H.out]; first | rfl | (simp; done) | (go_simp; done), below_alloc (Below.refl _ _) _⟩
  ·rw [if_neg c4] at h
   have c3b0 : (a0 == 32) = false := beq_eq_false_iff_ne.mpr c3
   have c4b0 : (a0 == 64) = false := beq_eq_false_iff_ne.mpr c4
   clear c3 c4
   obtain rfl := Option.some.inj h
   clear h
   go_enter Tryz.func137, Tryz.ntmps137
   go_wp2_with go_in
   go_ret
   exact ⟨by first | rfl | (simp; done), below_alloc (Below.refl _ _) _⟩
end Go.Proofs.YtnmlmgmljoncoaaGreatDoor.PA
