/- What the Go functions that the statement RoundRises reaches compute, and the mathematics on it, in the order in which one leans on the other; for every input. -/
import Derived.Test.YtbpmnmceajmmcaaVRoundRises0
import Derived.Test.YtbpmnmceajmmcaaMRoundRises0
import Derived.Test.YtbpmnmceajmmcaaMRoundRises4
import Derived.Test.YtbpmnmceajmmcaaMRoundRises1
import Derived.Test.YtbpmnmceajmmcaaMRoundRises2
import Derived.Deep.RegionHeld3
import Derived.Test.YtbpmnmceajmmcaaMRoundRises3
import Derived.Test.YtbpmnmceajmmcaaRows
import Derived.ProofKit
import Derived.JoinedOf
import Derived.KernelRfl
import Derived.WalkKit
import Derived.OpenShut
import Derived.ShutString
import Derived.ChangeOld
import Derived.SizedLaws
import Derived.Lib.SmallJoins
namespace Go.Proofs.Ytbpmnmceajmmcaa.PA
open Go.RowKit Go.Proofs.YtbpmnmceajmmcaaW.PrintWords Go.Proofs.YtbpmnmceajmmcaaW.PrintLast Go.Proofs.YtbpmnmceajmmcaaW.PrintMore
attribute [local go_sem] max2_int min2_int max_two min_two max_three min_three max_four min_four   -- for this text's walks alone
set_option linter.unusedVariables false
set_option linter.unusedSimpArgs false
set_option maxHeartbeats 8000000
set_option maxRecDepth 100000
attribute [local go_sem high] eqA42
def L03_RoundRises.j0 : Nat → Int → Bool → Bool → Int → Int → Int → Bool → Option (Bool)
 | 0, _, _, _, _, _, _, _ => none
 | k + 1, x0, x24, x732000, x732001, x732002, x732003, x732004 => if x24 = true then (some true) else ((round_Pack.f x0 false x732001 x732002 x732003 x732004).bind fun t733 => ((round_Pack.f x0 false x732001 x732002 (wrap64 (x732003 + 1)) x732004).bind fun t734 => (if t734 < t733 then (some false) else ((wide_Of.f 1).bind fun bt735 => ((wide_Add.f x732001 x732002 bt735.1 bt735.2).bind fun bt737 => (if (bt737.1 == 0 && (bt737.2 == 0)) = true then (some true) else ((round_Pack.f x0 false bt737.1 bt737.2 x732003 x732004).bind fun t740 => (some (decide (t740 ≥ t733))))))))))
def L03_RoundRises.f (k : Nat) (a0 : Int) (a1_0 : Bool) (a1_1 : Int) (a1_2 : Int) (a1_3 : Int) (a1_4 : Bool) : Option (Bool) := (L03_awake.f).bind fun t732 => (if t732 = true then (if a0 = 32 then (if a1_3 < (-1073741824) then (L03_RoundRises.j0 k a0 true a1_0 a1_1 a1_2 a1_3 a1_4) else (L03_RoundRises.j0 k a0 (decide (a1_3 > 1073741824)) a1_0 a1_1 a1_2 a1_3 a1_4)) else (if a0 = 64 then (if a1_3 < (-1073741824) then (L03_RoundRises.j0 k a0 true a1_0 a1_1 a1_2 a1_3 a1_4) else (L03_RoundRises.j0 k a0 (decide (a1_3 > 1073741824)) a1_0 a1_1 a1_2 a1_3 a1_4)) else (L03_RoundRises.j0 k a0 true a1_0 a1_1 a1_2 a1_3 a1_4))) else (some false))
theorem L03_RoundRises.mono_l : ∀ k, (∀ y0 y1 y2 y3 y4 y5 y6, LeO (L03_RoundRises.j0 k y0 y1 y2 y3 y4 y5 y6) (L03_RoundRises.j0 (k + 1) y0 y1 y2 y3 y4 y5 y6))
 | 0 => fun _ _ _ _ _ _ _ r h => by simp [L03_RoundRises.j0] at h
 | k + 1 => by
  have ih0 := L03_RoundRises.mono_l k
  ·intro y0 y1 y2 y3 y4 y5 y6
   unfold L03_RoundRises.j0
   repeat' first
   | (with_reducible exact ih0 _ _ _ _ _ _ _)
   | (with_reducible exact LeO.refl _)
   | (with_reducible exact LeO.none _)
   | (with_reducible refine LeO.ite ?_ ?_)
   | (with_reducible refine LeO.bind ?_ (fun _ => ?_))
   | exact ih0 _ _ _ _ _ _ _
   | exact LeO.none _
   | refine LeO.ite ?_ ?_
   | refine LeO.bind ?_ (fun _ => ?_)
theorem L03_RoundRises.mono : ∀ a0 a1 a2 a3 a4 a5 k, LeO (L03_RoundRises.f k a0 a1 a2 a3 a4 a5) (L03_RoundRises.f (k + 1) a0 a1 a2 a3 a4 a5) := by
 intro a0 a1 a2 a3 a4 a5 k
 have ih0 := L03_RoundRises.mono_l k
 unfold L03_RoundRises.f
 repeat' first
   | (with_reducible exact ih0 _ _ _ _ _ _ _)
   | (with_reducible exact LeO.refl _)
   | (with_reducible exact LeO.none _)
   | (with_reducible refine LeO.ite ?_ ?_)
   | (with_reducible refine LeO.bind ?_ (fun _ => ?_))
   | exact ih0 _ _ _ _ _ _ _
   | exact LeO.none _
   | refine LeO.ite ?_ ?_
   | refine LeO.bind ?_ (fun _ => ?_)
theorem L03_RoundRises.calls (k : Nat) (a0 : Int) (a1_0 : Bool) (a1_1 : Int) (a1_2 : Int) (a1_3 : Int) (a1_4 : Bool) (r : Bool) (w : World) (h : L03_RoundRises.f k a0 a1_0 a1_1 a1_2 a1_3 a1_4 = some r) (hr_ : Aside0 (r = true)) :
  Calls Try.prog 9 #[.int .i64 a0, .agg #[.bool a1_0, .int .u64 a1_1, .int .u64 a1_2, .int .i64 a1_3, .bool a1_4]] w fun e w' => e = .returned (.bool r) ∧ Below w.heap.size w w' := by
 have hu44 := Try.underlying44
 have hu42 := Try.underlying42
 have HB := A_ (Below.refl w.heap.size w)
 have H : ((L03_awake.f).bind fun t732 => (if t732 = true then (if a0 = 32 then (if a1_3 < (-1073741824) then (L03_RoundRises.j0 k a0 true a1_0 a1_1 a1_2 a1_3 a1_4) else (L03_RoundRises.j0 k a0 (decide (a1_3 > 1073741824)) a1_0 a1_1 a1_2 a1_3 a1_4)) else (if a0 = 64 then (if a1_3 < (-1073741824) then (L03_RoundRises.j0 k a0 true a1_0 a1_1 a1_2 a1_3 a1_4) else (L03_RoundRises.j0 k a0 (decide (a1_3 > 1073741824)) a1_0 a1_1 a1_2 a1_3 a1_4)) else (L03_RoundRises.j0 k a0 true a1_0 a1_1 a1_2 a1_3 a1_4))) else (some false))) = some r := h
 clear h
 replace H := ob_ H
 obtain ⟨t732, A30, H⟩ := H
 replace H : (if t732 = true then (if a0 = 32 then (if a1_3 < (-1073741824) then (L03_RoundRises.j0 k a0 true a1_0 a1_1 a1_2 a1_3 a1_4) else (L03_RoundRises.j0 k a0 (decide (a1_3 > 1073741824)) a1_0 a1_1 a1_2 a1_3 a1_4)) else (if a0 = 64 then (if a1_3 < (-1073741824) then (L03_RoundRises.j0 k a0 true a1_0 a1_1 a1_2 a1_3 a1_4) else (L03_RoundRises.j0 k a0 (decide (a1_3 > 1073741824)) a1_0 a1_1 a1_2 a1_3 a1_4)) else (L03_RoundRises.j0 k a0 true a1_0 a1_1 a1_2 a1_3 a1_4))) else (some false)) = some r := H
 have A3 := A_ A30;clear A30
 by_cases c4 : t732 = true
 ·subst c4
  have H1 : (if a0 = 32 then (if a1_3 < (-1073741824) then (L03_RoundRises.j0 k a0 true a1_0 a1_1 a1_2 a1_3 a1_4) else (L03_RoundRises.j0 k a0 (decide (a1_3 > 1073741824)) a1_0 a1_1 a1_2 a1_3 a1_4)) else (if a0 = 64 then (if a1_3 < (-1073741824) then (L03_RoundRises.j0 k a0 true a1_0 a1_1 a1_2 a1_3 a1_4) else (L03_RoundRises.j0 k a0 (decide (a1_3 > 1073741824)) a1_0 a1_1 a1_2 a1_3 a1_4)) else (L03_RoundRises.j0 k a0 true a1_0 a1_1 a1_2 a1_3 a1_4))) = some r := by rw [if_pos rfl] at H; exact H
  clear H;have H := H1;clear H1;have HC5 := A_ H;clear H
  go_enter Try.func9, Try.ntmps9
  go_upto_region 3 with (first | ((with_reducible refine gate_dst (N := 3) rfl ?_); refine be_ 3 #[.bool a1_0, .int .u64 a1_1, .int .u64 a1_2, .int .i64 a1_3, .bool a1_4] 44 ?_; intro gb731 hg w6 hbox hb; have BK731 := A_ (hbox); have GW731 := A_ (sz_ hg (hb_ HB.out)); have GE731 := A_ (sz_ hg (hb_ HB.out)); replace HB := A_ (below_step (hb_ HB.out) hb); clear hb hbox hg) | ((with_reducible refine gate_callee (f := 35) rfl ?_); refine gl_ (some 7) Try.func35 #[] ?_; (with_reducible refine (L03_awake.calls  true _ A3.out).mono ?_); rintro e w7 ⟨rfl, hb⟩; refine ⟨_, rfl, ?_⟩; replace BK731 := A_ (bb_ BK731.out hb); replace HB := A_ (below_step (hb1_ HB.out GE731.out) hb); (try clear hb); (try clear hb2); (try clear hk); (try clear hi)))
  (try simp only [Act.put, lI_, l0_, lS_])
  go_cut [24] (fun v24 wc => ∃ (kq : Nat) (x24_4 : Bool), v24 = .bool x24_4 ∧ Aside0 (L03_RoundRises.j0 kq a0 x24_4 a1_0 a1_1 a1_2 a1_3 a1_4 = some r) ∧ Aside0 (kq ≤ k) ∧ Aside0 (wc.heap[gb731]? = some (.cells #[.bool a1_0, .int .u64 a1_1, .int .u64 a1_2, .int .i64 a1_3, .bool a1_4] 44 (0, 0))) ∧ Aside0 (Below w.heap.size w wc))
  case first =>
   have H := HC5.out
   clear HC5
   by_cases c8 : a0 = 32
   ·rw [if_pos c8] at H
    have c8b0 : (a0 == 32) = true := beq_iff_eq.mpr c8
    have c8b1 : (a0 != 32) = false := bne_eq_false_iff_eq.mpr c8
    clear c8
    (first | rw [c8b0] | (simp only [i64_w, i32_w]; rw [c8b0]) | skip)
    by_cases c9 : a1_3 < (-1073741824)
    ·rw [if_pos c9] at H
     have c9b0 : decide (a1_3 < (-1073741824)) = true := decide_eq_true c9
     clear c9
     have H' := A_ H
     clear H
     have hcz10_0 := bv_ BK731.out 0
     have hcz10_1 := bv_ BK731.out 1
     have hcz10_2 := bv_ BK731.out 2
     have hcz10_3 := bv_ BK731.out 3
     have hcz10_4 := bv_ BK731.out 4
     have hfz10_0 := blk_frozen BK731.out 0
     have hfz10_1 := blk_frozen BK731.out 1
     have hfz10_2 := blk_frozen BK731.out 2
     have hfz10_3 := blk_frozen BK731.out 3
     have hfz10_4 := blk_frozen BK731.out 4
     go_wp2
     go_meet
     case rel => exact ⟨_, (true), sm_, H', ⟨by first | omega | exact Nat.le_refl _⟩, ⟨bk_ BK731.out⟩, ⟨hb1_ HB.out GE731.out⟩⟩
    ·rw [if_neg c9] at H
     have c9b0 : decide (a1_3 < (-1073741824)) = false := decide_eq_false c9
     clear c9
     have H' := A_ H
     clear H
     have hcz11_0 := bv_ BK731.out 0
     have hcz11_1 := bv_ BK731.out 1
     have hcz11_2 := bv_ BK731.out 2
     have hcz11_3 := bv_ BK731.out 3
     have hcz11_4 := bv_ BK731.out 4
     have hfz11_0 := blk_frozen BK731.out 0
     have hfz11_1 := blk_frozen BK731.out 1
     have hfz11_2 := blk_frozen BK731.out 2
     have hfz11_3 := blk_frozen BK731.out 3
     have hfz11_4 := blk_frozen BK731.out 4
     go_wp2
     go_meet
     case rel => exact ⟨_, (decide (a1_3 > 1073741824)), sm_, H', ⟨by first | omega | exact Nat.le_refl _⟩, ⟨bk_ BK731.out⟩, ⟨hb1_ HB.out GE731.out⟩⟩
   ·rw [if_neg c8] at H
    have c8b0 : (a0 == 32) = false := beq_eq_false_iff_ne.mpr c8
    have c8b1 : (a0 != 32) = true := bne_iff_ne.mpr c8
    (first | rw [c8b0] | (simp only [i64_w, i32_w]; rw [c8b0]) | skip)
    by_cases c12 : a0 = 64
    ·rw [if_pos c12] at H
     have c12b0 : (a0 == 64) = true := beq_iff_eq.mpr c12
     have c12b1 : (a0 != 64) = false := bne_eq_false_iff_eq.mpr c12
     clear c12
     by_cases c13 : a1_3 < (-1073741824)
     ·rw [if_pos c13] at H
      have c13b0 : decide (a1_3 < (-1073741824)) = true := decide_eq_true c13
      clear c13
      have H' := A_ H
      clear H
      have hcz14_0 := bv_ BK731.out 0
      have hcz14_1 := bv_ BK731.out 1
      have hcz14_2 := bv_ BK731.out 2
      have hcz14_3 := bv_ BK731.out 3
      have hcz14_4 := bv_ BK731.out 4
      have hfz14_0 := blk_frozen BK731.out 0
      have hfz14_1 := blk_frozen BK731.out 1
      have hfz14_2 := blk_frozen BK731.out 2
      have hfz14_3 := blk_frozen BK731.out 3
      have hfz14_4 := blk_frozen BK731.out 4
      go_wp2
      go_meet
      case rel => exact ⟨_, (true), sm_, H', ⟨by first | omega | exact Nat.le_refl _⟩, ⟨bk_ BK731.out⟩, ⟨hb1_ HB.out GE731.out⟩⟩
     ·rw [if_neg c13] at H
      have c13b0 : decide (a1_3 < (-1073741824)) = false := decide_eq_false c13
      clear c13
      have H' := A_ H
      clear H
      have hcz15_0 := bv_ BK731.out 0
      have hcz15_1 := bv_ BK731.out 1
      have hcz15_2 := bv_ BK731.out 2
      have hcz15_3 := bv_ BK731.out 3
      have hcz15_4 := bv_ BK731.out 4
      have hfz15_0 := blk_frozen BK731.out 0
      have hfz15_1 := blk_frozen BK731.out 1
      have hfz15_2 := blk_frozen BK731.out 2
      have hfz15_3 := blk_frozen BK731.out 3
      have hfz15_4 := blk_frozen BK731.out 4
      go_wp2
      go_meet
      case rel => exact ⟨_, (decide (a1_3 > 1073741824)), sm_, H', ⟨by first | omega | exact Nat.le_refl _⟩, ⟨bk_ BK731.out⟩, ⟨hb1_ HB.out GE731.out⟩⟩
    ·rw [if_neg c12] at H
     have c12b0 : (a0 == 64) = false := beq_eq_false_iff_ne.mpr c12
     have c12b1 : (a0 != 64) = true := bne_iff_ne.mpr c12
     have H' := A_ H
     clear H
     go_wp2
     go_meet
     case rel => exact ⟨_, (true), sm_, H', ⟨by first | omega | exact Nat.le_refl _⟩, ⟨bk_ BK731.out⟩, ⟨hb1_ HB.out GE731.out⟩⟩
  case rest =>
   clear HC5
   try clear c1
   try clear p2
   try clear c3
   try clear c4
   try clear c8
   try clear c8b0
   try clear c8b1
   try clear c9
   try clear c9b0
   try clear c12
   try clear c12b0
   try clear c12b1
   try clear c13
   try clear c13b0
   try clear hcz10_0
   try clear hcz10_1
   try clear hcz10_2
   try clear hcz10_3
   try clear hcz10_4
   try clear hcz11_0
   try clear hcz11_1
   try clear hcz11_2
   try clear hcz11_3
   try clear hcz11_4
   try clear hcz14_0
   try clear hcz14_1
   try clear hcz14_2
   try clear hcz14_3
   try clear hcz14_4
   try clear hcz15_0
   try clear hcz15_1
   try clear hcz15_2
   try clear hcz15_3
   try clear hcz15_4
   try clear hfz10_0
   try clear hfz10_1
   try clear hfz10_2
   try clear hfz10_3
   try clear hfz10_4
   try clear hfz11_0
   try clear hfz11_1
   try clear hfz11_2
   try clear hfz11_3
   try clear hfz11_4
   try clear hfz14_0
   try clear hfz14_1
   try clear hfz14_2
   try clear hfz14_3
   try clear hfz14_4
   try clear hfz15_0
   try clear hfz15_1
   try clear hfz15_2
   try clear hfz15_3
   try clear hfz15_4
   obtain ⟨kq, x24_4, rfl, HA, HJ4, BK731, HB⟩ := hcut
   cases kq with
   | zero => exact absurd HA.out (by simp [L03_RoundRises.j0])
   | succ kj4 =>
    have H := HA.out
    clear HA
    simp only [L03_RoundRises.j0] at H
    by_cases c16 : x24_4 = true
    ·subst c16
     have H1 : (some true) = some r := by rw [if_pos rfl] at H; exact H
     clear H;have H := H1;clear H1
     obtain rfl := Option.some.inj H
     go_wp2
     go_ret
     exact ⟨er_, hb1_ HB.out GE731.out⟩
    ·replace c16 := Bool.eq_false_iff.mpr c16
     subst c16
     have H1 : ((round_Pack.f a0 false a1_1 a1_2 a1_3 a1_4).bind fun t733 => ((round_Pack.f a0 false a1_1 a1_2 (wrap64 (a1_3 + 1)) a1_4).bind fun t734 => (if t734 < t733 then (some false) else ((wide_Of.f 1).bind fun bt735 => ((wide_Add.f a1_1 a1_2 bt735.1 bt735.2).bind fun bt737 => (if (bt737.1 == 0 && (bt737.2 == 0)) = true then (some true) else ((round_Pack.f a0 false bt737.1 bt737.2 a1_3 a1_4).bind fun t740 => (some (decide (t740 ≥ t733)))))))))) = some r := by rw [if_neg (show ¬ (false = true) by decide)] at H; exact H
     clear H;have H := H1;clear H1
     replace H := ob_ H
     obtain ⟨t733, A170, H⟩ := H
     replace H : ((round_Pack.f a0 false a1_1 a1_2 (wrap64 (a1_3 + 1)) a1_4).bind fun t734 => (if t734 < t733 then (some false) else ((wide_Of.f 1).bind fun bt735 => ((wide_Add.f a1_1 a1_2 bt735.1 bt735.2).bind fun bt737 => (if (bt737.1 == 0 && (bt737.2 == 0)) = true then (some true) else ((round_Pack.f a0 false bt737.1 bt737.2 a1_3 a1_4).bind fun t740 => (some (decide (t740 ≥ t733))))))))) = some r := H
     have A17 := A_ A170;clear A170
     replace H := ob_ H
     obtain ⟨t734, A180, H⟩ := H
     replace H : (if t734 < t733 then (some false) else ((wide_Of.f 1).bind fun bt735 => ((wide_Add.f a1_1 a1_2 bt735.1 bt735.2).bind fun bt737 => (if (bt737.1 == 0 && (bt737.2 == 0)) = true then (some true) else ((round_Pack.f a0 false bt737.1 bt737.2 a1_3 a1_4).bind fun t740 => (some (decide (t740 ≥ t733)))))))) = some r := H
     have A18 := A_ A180;clear A180
     by_cases c19 : t734 < t733
     ·rw [if_pos c19] at H
      have c19b0 : decide (t734 < t733) = true := decide_eq_true c19
      clear c19
      exact absurd ((Option.some.inj H).trans hr_.out) (by decide)
     ·rw [if_neg c19] at H
      have c19b0 : decide (t734 < t733) = false := decide_eq_false c19
      clear c19
      replace H := ob_ H
      obtain ⟨⟨t735, t736⟩, A200, H⟩ := H
      replace H : ((wide_Add.f a1_1 a1_2 t735 t736).bind fun bt737 => (if (bt737.1 == 0 && (bt737.2 == 0)) = true then (some true) else ((round_Pack.f a0 false bt737.1 bt737.2 a1_3 a1_4).bind fun t740 => (some (decide (t740 ≥ t733)))))) = some r := H
      have A20 := A_ A200;clear A200
      replace H := ob_ H
      obtain ⟨⟨t737, t738⟩, A210, H⟩ := H
      replace H : (if (t737 == 0 && (t738 == 0)) = true then (some true) else ((round_Pack.f a0 false t737 t738 a1_3 a1_4).bind fun t740 => (some (decide (t740 ≥ t733))))) = some r := H
      have A21 := A_ A210;clear A210
      by_cases c22 : (t737 == 0 && (t738 == 0)) = true
      ·rw [if_pos c22] at H
       have c22b0 : (t737 == 0 && (t738 == 0)) = true := c22
       (try (have c22b1 : decide (t737 = 0 && (t738 == 0)) = true := by simpa using c22))
       (try (have c22b2 : (t737 == 0 && (t738 == 0)) = true := by simpa using c22))
       clear c22
       obtain rfl := Option.some.inj H
       have hcz23_0 := bv_ BK731.out 0
       have hcz23_1 := bv_ BK731.out 1
       have hcz23_2 := bv_ BK731.out 2
       have hcz23_3 := bv_ BK731.out 3
       have hcz23_4 := bv_ BK731.out 4
       have hfz23_0 := blk_frozen BK731.out 0
       have hfz23_1 := blk_frozen BK731.out 1
       have hfz23_2 := blk_frozen BK731.out 2
       have hfz23_3 := blk_frozen BK731.out 3
       have hfz23_4 := blk_frozen BK731.out 4
       try go_wp2_with (first | ((with_reducible refine gate_callee (f := 36) rfl ?_); refine gl_ (some 32) Try.func36 #[.int .i64 a0, .bool false, .agg #[.int .u64 a1_1, .int .u64 a1_2], .int .i64 a1_3, .bool a1_4] ?_; (with_reducible refine (round_Pack.calls a0 false a1_1 a1_2 a1_3 a1_4 t733 _ A17.out).mono ?_); rintro e w24 ⟨rfl, hb⟩; refine ⟨_, rfl, ?_⟩; replace BK731 := A_ (bb_ BK731.out hb); replace HB := A_ (below_step (hb1_ HB.out GE731.out) hb); (try clear hb); (try clear hb2); (try clear hk); (try clear hi); have hcz25_0 := bv_ BK731.out 0; have hcz25_1 := bv_ BK731.out 1; have hcz25_2 := bv_ BK731.out 2; have hcz25_3 := bv_ BK731.out 3; have hcz25_4 := bv_ BK731.out 4; have hfz25_0 := blk_frozen BK731.out 0; have hfz25_1 := blk_frozen BK731.out 1; have hfz25_2 := blk_frozen BK731.out 2; have hfz25_3 := blk_frozen BK731.out 3; have hfz25_4 := blk_frozen BK731.out 4) | ((with_reducible refine gate_callee (f := 36) rfl ?_); refine gl_ (some 41) Try.func36 #[.int .i64 a0, .bool false, .agg #[.int .u64 a1_1, .int .u64 a1_2], .int .i64 (wrap64 (a1_3 + 1)), .bool a1_4] ?_; (with_reducible refine (round_Pack.calls a0 false a1_1 a1_2 (wrap64 (a1_3 + 1)) a1_4 t734 _ A18.out).mono ?_); rintro e w26 ⟨rfl, hb⟩; refine ⟨_, rfl, ?_⟩; replace BK731 := A_ (bb_ BK731.out hb); replace HB := A_ (below_step (hb1_ HB.out GE731.out) hb); (try clear hb); (try clear hb2); (try clear hk); (try clear hi)))
       replace BK731 := A_ (blk_drew BK731.out)
       replace HB := A_ (below_drew1 HB.out)
       refine start_ (n := 6) (S := fun w' => w'.cell? ⟨gb731, 0, none⟩ = some (.bool a1_0) ∧ w'.cell? ⟨gb731, 1, none⟩ = some (.int .u64 a1_1) ∧ w'.cell? ⟨gb731, 2, none⟩ = some (.int .u64 a1_2) ∧ w'.cell? ⟨gb731, 3, none⟩ = some (.int .i64 a1_3) ∧ w'.cell? ⟨gb731, 4, none⟩ = some (.bool a1_4)) (ds := []) #[false, false, false, false, false, false] (by kernel_rfl) rfl rfl ⟨bc_ BK731.out 0, bc_ BK731.out 1, bc_ BK731.out 2, bc_ BK731.out 3, bc_ BK731.out 4⟩ (fun hHeld => ?_)
       generalize w26.drew = w27 at BK731 HB hHeld ⊢
       refine pu_ 0 (some 44) #[true, false, false, false, false, false] rfl rfl (by kernel_rfl) ?_
       refine tk5_ 1 (some 45) #[true, true, false, false, false, false] rfl rfl (by kernel_rfl) hHeld ?_
       refine join_ (σ := Nat) 1 #[true, true, true, true, true, false] (fun s_ => [(46, .agg #[.int .u64 t735, .int .u64 t736]), (47, .agg #[.int .u64 t737, .int .u64 t738]), (6, .pointer (some ⟨s_, 0, none⟩))]) (fun s_ w' => (w'.cell? ⟨gb731, 0, none⟩ = some (.bool a1_0) ∧ w'.cell? ⟨gb731, 1, none⟩ = some (.int .u64 a1_1) ∧ w'.cell? ⟨gb731, 2, none⟩ = some (.int .u64 a1_2) ∧ w'.cell? ⟨gb731, 3, none⟩ = some (.int .i64 a1_3) ∧ w'.cell? ⟨gb731, 4, none⟩ = some (.bool a1_4)) ∧ (w'.heap[gb731]? = some (.cells #[.bool a1_0, .int .u64 a1_1, .int .u64 a1_2, .int .i64 a1_3, .bool a1_4] 44 (0, 0))) ∧ (w'.heap[s_]? = some (.cells #[.int .u64 0, .int .u64 0] 42 (0, 0))) ∧ (w.heap.size ≤ s_) ∧ (w.heap.size ≤ s_) ∧ (gb731 ≠ s_) ∧ (s_ ≠ gb731) ∧ (Below w.heap.size w w')) ?_ ?_
       rotate_left
       ·intro hCont
        refine two_ (i := 2) (j := 4) (Ni := some 46) (Nj := some 6) #[true, true, true, false, false, false] #[true, true, false, false, true, false] rfl rfl rfl rfl (by kernel_rfl) (by decide) (by decide) (fun K hK => ?_) (fun K hK => ?_)
        ·skip
         refine goes_ Try.func39 (by kernel_rfl) rfl #[.int .u64 1] (by rfl) rfl rfl mp_ ?_
         with_reducible refine (wide_Of.calls 1 t735 t736 _ A20.out).mono ?_
         rintro e w28 ⟨rfl, hb⟩
         refine ⟨_, rfl, ?_⟩
         replace BK731 := A_ (bb_ BK731.out hb)
         replace HB := A_ (below_step (hb1_ HB.out GE731.out) hb);(try clear hb);(try clear hb2);(try clear hk);(try clear hi)
         refine hK.out _ _ ⟨bc_ BK731.out 0, bc_ BK731.out 1, bc_ BK731.out 2, bc_ BK731.out 3, bc_ BK731.out 4⟩ (fun hHeld => ?_)
         clear hK K
         refine norm_ (a' := ?_) ?_ ?_
         rotate_left
         ·show Act.put _ (some 46) _ = _
          simp only [Act.put, lI_, l0_, lS_, i64_w, i32_w]
          rfl
         refine two_ (i := 3) (j := 4) (Ni := some 47) (Nj := some 6) #[true, true, true, true, false, false] #[true, true, true, false, true, false] rfl rfl rfl rfl (by kernel_rfl) (by decide) (by decide) (fun K hK => ?_) (fun K hK => ?_)
         ·skip
          refine goes_ Try.func38 (by kernel_rfl) rfl #[.agg #[.int .u64 a1_1, .int .u64 a1_2], .agg #[.int .u64 t735, .int .u64 t736]] (by rfl) rfl rfl mp_ ?_
          with_reducible refine (wide_Add.calls a1_1 a1_2 t735 t736 t737 t738 _ A21.out).mono ?_
          rintro e w29 ⟨rfl, hb⟩
          refine ⟨_, rfl, ?_⟩
          replace BK731 := A_ (bb_ BK731.out hb)
          replace HB := A_ (below_step (hb1_ HB.out GE731.out) hb);(try clear hb);(try clear hb2);(try clear hk);(try clear hi)
          refine hK.out _ _ ⟨bc_ BK731.out 0, bc_ BK731.out 1, bc_ BK731.out 2, bc_ BK731.out 3, bc_ BK731.out 4⟩ (fun hHeld => ?_)
          clear hK K
          refine norm_ (a' := ?_) ?_ ?_
          rotate_left
          ·show Act.put _ (some 47) _ = _
           simp only [Act.put, lI_, l0_, lS_, i64_w, i32_w]
           rfl
          refine one_ (i := 4) (N := some 6) #[true, true, true, true, true, false] rfl rfl (by kernel_rfl) (by decide) (fun K hK => ?_)
          refine box_step ?hg (N := 6) ?hd (cs := #[.int .u64 0, .int .u64 0]) (t := 42) ?hr ?_; (case hd => rfl); (case hg => rfl); (case hr => first | (go_simp; done) | (go_simp; rfl))
          intro gb739 hg w30 hbox hb
          have BK739 := A_ (hbox)
          have GW739 := A_ (sz_ hg (hb1_ HB.out GE731.out))
          have GE739 := A_ (sz_ hg (hb1_ HB.out GE731.out))
          have NB731_739 := A_ (nl_ hg BK731.out)
          have NB739_731 := A_ (ng_ hg BK731.out)
          replace BK731 := A_ (bb_ BK731.out hb)
          replace HB := A_ (below_step (hb1_ HB.out GE731.out) hb);clear hb hbox hg
          refine hK.out _ _ ⟨bc_ BK731.out 0, bc_ BK731.out 1, bc_ BK731.out 2, bc_ BK731.out 3, bc_ BK731.out 4⟩ (fun hHeld => ?_)
          clear hK K
          refine norm_ (a' := ?_) ?_ ?_
          rotate_left
          ·show Act.put _ (some 6) _ = _
           simp only [Act.put, lI_, l0_, lS_, i64_w, i32_w]
           rfl
          exact norm_ (by simp only [putAll, Act.put, lI_, l0_, lS_]) (hCont (gb739) _ ⟨hHeld, (bk_ BK731.out), (bk_ BK739.out), GW739.out, GE739.out, NB731_739.out, NB739_731.out, (hb2_ HB.out GE731.out GE739.out)⟩)
         ·skip
          refine box_step ?hg (N := 6) ?hd (cs := #[.int .u64 0, .int .u64 0]) (t := 42) ?hr ?_; (case hd => rfl); (case hg => rfl); (case hr => first | (go_simp; done) | (go_simp; rfl))
          intro gb739 hg w29 hbox hb
          have BK739 := A_ (hbox)
          have GW739 := A_ (sz_ hg (hb1_ HB.out GE731.out))
          have GE739 := A_ (sz_ hg (hb1_ HB.out GE731.out))
          have NB731_739 := A_ (nl_ hg BK731.out)
          have NB739_731 := A_ (ng_ hg BK731.out)
          replace BK731 := A_ (bb_ BK731.out hb)
          replace HB := A_ (below_step (hb1_ HB.out GE731.out) hb);clear hb hbox hg
          refine hK.out _ _ ⟨bc_ BK731.out 0, bc_ BK731.out 1, bc_ BK731.out 2, bc_ BK731.out 3, bc_ BK731.out 4⟩ (fun hHeld => ?_)
          clear hK K
          refine norm_ (a' := ?_) ?_ ?_
          rotate_left
          ·show Act.put _ (some 6) _ = _
           simp only [Act.put, lI_, l0_, lS_, i64_w, i32_w]
           rfl
          refine one_ (i := 3) (N := some 47) #[true, true, true, true, true, false] rfl rfl (by kernel_rfl) (by decide) (fun K hK => ?_)
          refine goes_ Try.func38 (by kernel_rfl) rfl #[.agg #[.int .u64 a1_1, .int .u64 a1_2], .agg #[.int .u64 t735, .int .u64 t736]] (by rfl) rfl rfl mp_ ?_
          with_reducible refine (wide_Add.calls a1_1 a1_2 t735 t736 t737 t738 _ A21.out).mono ?_
          rintro e w30 ⟨rfl, hb⟩
          refine ⟨_, rfl, ?_⟩
          replace BK731 := A_ (bb_ BK731.out hb)
          replace BK739 := A_ (bb_ BK739.out hb)
          replace HB := A_ (below_step (hb2_ HB.out GE731.out GE739.out) hb);(try clear hb);(try clear hb2);(try clear hk);(try clear hi)
          refine hK.out _ _ ⟨bc_ BK731.out 0, bc_ BK731.out 1, bc_ BK731.out 2, bc_ BK731.out 3, bc_ BK731.out 4⟩ (fun hHeld => ?_)
          clear hK K
          refine norm_ (a' := ?_) ?_ ?_
          rotate_left
          ·show Act.put _ (some 47) _ = _
           simp only [Act.put, lI_, l0_, lS_, i64_w, i32_w]
           rfl
          exact norm_ (by simp only [putAll, Act.put, lI_, l0_, lS_]) (hCont (gb739) _ ⟨hHeld, (bk_ BK731.out), (bk_ BK739.out), GW739.out, GE739.out, NB731_739.out, NB739_731.out, (hb2_ HB.out GE731.out GE739.out)⟩)
        ·skip
         refine box_step ?hg (N := 6) ?hd (cs := #[.int .u64 0, .int .u64 0]) (t := 42) ?hr ?_; (case hd => rfl); (case hg => rfl); (case hr => first | (go_simp; done) | (go_simp; rfl))
         intro gb739 hg w28 hbox hb
         have BK739 := A_ (hbox)
         have GW739 := A_ (sz_ hg (hb1_ HB.out GE731.out))
         have GE739 := A_ (sz_ hg (hb1_ HB.out GE731.out))
         have NB731_739 := A_ (nl_ hg BK731.out)
         have NB739_731 := A_ (ng_ hg BK731.out)
         replace BK731 := A_ (bb_ BK731.out hb)
         replace HB := A_ (below_step (hb1_ HB.out GE731.out) hb);clear hb hbox hg
         refine hK.out _ _ ⟨bc_ BK731.out 0, bc_ BK731.out 1, bc_ BK731.out 2, bc_ BK731.out 3, bc_ BK731.out 4⟩ (fun hHeld => ?_)
         clear hK K
         refine norm_ (a' := ?_) ?_ ?_
         rotate_left
         ·show Act.put _ (some 6) _ = _
          simp only [Act.put, lI_, l0_, lS_, i64_w, i32_w]
          rfl
         refine one_ (i := 2) (N := some 46) #[true, true, true, false, true, false] rfl rfl (by kernel_rfl) (by decide) (fun K hK => ?_)
         refine goes_ Try.func39 (by kernel_rfl) rfl #[.int .u64 1] (by rfl) rfl rfl mp_ ?_
         with_reducible refine (wide_Of.calls 1 t735 t736 _ A20.out).mono ?_
         rintro e w29 ⟨rfl, hb⟩
         refine ⟨_, rfl, ?_⟩
         replace BK731 := A_ (bb_ BK731.out hb)
         replace BK739 := A_ (bb_ BK739.out hb)
         replace HB := A_ (below_step (hb2_ HB.out GE731.out GE739.out) hb);(try clear hb);(try clear hb2);(try clear hk);(try clear hi)
         refine hK.out _ _ ⟨bc_ BK731.out 0, bc_ BK731.out 1, bc_ BK731.out 2, bc_ BK731.out 3, bc_ BK731.out 4⟩ (fun hHeld => ?_)
         clear hK K
         refine norm_ (a' := ?_) ?_ ?_
         rotate_left
         ·show Act.put _ (some 46) _ = _
          simp only [Act.put, lI_, l0_, lS_, i64_w, i32_w]
          rfl
         refine one_ (i := 3) (N := some 47) #[true, true, true, true, true, false] rfl rfl (by kernel_rfl) (by decide) (fun K hK => ?_)
         refine goes_ Try.func38 (by kernel_rfl) rfl #[.agg #[.int .u64 a1_1, .int .u64 a1_2], .agg #[.int .u64 t735, .int .u64 t736]] (by rfl) rfl rfl mp_ ?_
         with_reducible refine (wide_Add.calls a1_1 a1_2 t735 t736 t737 t738 _ A21.out).mono ?_
         rintro e w30 ⟨rfl, hb⟩
         refine ⟨_, rfl, ?_⟩
         replace BK731 := A_ (bb_ BK731.out hb)
         replace BK739 := A_ (bb_ BK739.out hb)
         replace HB := A_ (below_step (hb2_ HB.out GE731.out GE739.out) hb);(try clear hb);(try clear hb2);(try clear hk);(try clear hi)
         refine hK.out _ _ ⟨bc_ BK731.out 0, bc_ BK731.out 1, bc_ BK731.out 2, bc_ BK731.out 3, bc_ BK731.out 4⟩ (fun hHeld => ?_)
         clear hK K
         refine norm_ (a' := ?_) ?_ ?_
         rotate_left
         ·show Act.put _ (some 47) _ = _
          simp only [Act.put, lI_, l0_, lS_, i64_w, i32_w]
          rfl
         exact norm_ (by simp only [putAll, Act.put, lI_, l0_, lS_]) (hCont (gb739) _ ⟨hHeld, (bk_ BK731.out), (bk_ BK739.out), GW739.out, GE739.out, NB731_739.out, NB739_731.out, (hb2_ HB.out GE731.out GE739.out)⟩)
       rintro gb739 w31 ⟨hS_, h0_, h1_, h2_, h3_, h4_, h5_, h6_⟩
       have n0_ : Aside0 (w31.heap[gb731]? = some (.cells #[.bool a1_0, .int .u64 a1_1, .int .u64 a1_2, .int .i64 a1_3, .bool a1_4] 44 (0, 0))) := ⟨h0_⟩
       have n1_ : Aside0 (w31.heap[gb739]? = some (.cells #[.int .u64 0, .int .u64 0] 42 (0, 0))) := ⟨h1_⟩
       have n2_ : Aside0 (w.heap.size ≤ gb739) := ⟨h2_⟩
       have n3_ : Aside0 (w.heap.size ≤ gb739) := ⟨h3_⟩
       have n4_ : Aside0 (gb731 ≠ gb739) := ⟨h4_⟩
       have n5_ : Aside0 (gb739 ≠ gb731) := ⟨h5_⟩
       have n6_ : Aside0 (Below w.heap.size w w31) := ⟨h6_⟩
       clear BK731;clear HB;clear h0_ h1_ h2_ h3_ h4_ h5_ h6_;have BK731 := n0_;have BK739 := n1_;have GW739 := n2_;have GE739 := n3_;have NB731_739 := n4_;have NB739_731 := n5_;have HB := n6_;clear n0_ n1_ n2_ n3_ n4_ n5_ n6_
       have hHeld : w31.cell? ⟨gb731, 0, none⟩ = some (.bool a1_0) ∧ w31.cell? ⟨gb731, 1, none⟩ = some (.int .u64 a1_1) ∧ w31.cell? ⟨gb731, 2, none⟩ = some (.int .u64 a1_2) ∧ w31.cell? ⟨gb731, 3, none⟩ = some (.int .i64 a1_3) ∧ w31.cell? ⟨gb731, 4, none⟩ = some (.bool a1_4) := hS_
       refine norm_ (a' := ?_) ?_ ?_
       rotate_left
       ·simp only [putAll, Act.put, lI_, l0_, lS_]
        rfl
       refine one_ (i := 5) (N := none) #[true, true, true, true, true, true] rfl rfl (by kernel_rfl) (by decide) (fun K hK => ?_)
       have hs32 : w31.cell? ⟨gb739, 0, none⟩ = some (.int .u64 0) := bc_ BK739.out 0
       have hfs32 := blk_frozen BK739.out 0
       have hns32_0 := NB731_739.out
       have hms32_0 := NB739_731.out
       have hs33 : w31.cell? ⟨gb739, 1, none⟩ = some (.int .u64 0) := bc_ BK739.out 1
       have hfs33 := blk_frozen BK739.out 1
       have hns33_0 := NB731_739.out
       have hms33_0 := NB739_731.out
       refine skip_ (w1 := ?_) (by rfl) rfl ?_ ?_
       rotate_left
       ·go_simp
        rfl
       refine hK.out _ _ ⟨((cell_far (p := ⟨gb739, _, none⟩) NB731_739.out _).trans (((cell_far (p := ⟨gb739, _, none⟩) NB731_739.out _).trans (hHeld.1)))), ((cell_far (p := ⟨gb739, _, none⟩) NB731_739.out _).trans (((cell_far (p := ⟨gb739, _, none⟩) NB731_739.out _).trans (hHeld.2.1)))), ((cell_far (p := ⟨gb739, _, none⟩) NB731_739.out _).trans (((cell_far (p := ⟨gb739, _, none⟩) NB731_739.out _).trans (hHeld.2.2.1)))), ((cell_far (p := ⟨gb739, _, none⟩) NB731_739.out _).trans (((cell_far (p := ⟨gb739, _, none⟩) NB731_739.out _).trans (hHeld.2.2.2.1)))), ((cell_far (p := ⟨gb739, _, none⟩) NB731_739.out _).trans (((cell_far (p := ⟨gb739, _, none⟩) NB731_739.out _).trans (hHeld.2.2.2.2))))⟩ (fun hHeld => ?_)
       clear hK K
       refine done_ (by kernel_rfl) ?_
       have hnb34 := NB739_731.out
       have hnc34 := NB731_739.out
       have hcz35_0 := bv_ BK739.out 0
       have hcz35_1 := bv_ BK739.out 1
       have hfz35_0 := blk_frozen BK739.out 0
       have hfz35_1 := blk_frozen BK739.out 1
       try go_wp2
       go_ret
       exact ⟨er_, hb2_ HB.out GE731.out GE739.out⟩
      ·rw [if_neg c22] at H
       have c22b0 : (t737 == 0 && (t738 == 0)) = false := by simpa using c22
       (try (have c22b1 : decide (t737 = 0 && (t738 == 0)) = false := by simpa using c22))
       (try (have c22b2 : (t737 == 0 && (t738 == 0)) = false := by simpa using c22))
       (try (have c22b3 : ¬ (t737 = 0 && (t738 == 0)) := by simpa using c22))
       clear c22
       replace H := ob_ H
       obtain ⟨t740, A360, H⟩ := H
       replace H : (some (decide (t740 ≥ t733))) = some r := H
       have A36 := A_ A360;clear A360
       obtain rfl := Option.some.inj H
       have hcz37_0 := bv_ BK731.out 0
       have hcz37_1 := bv_ BK731.out 1
       have hcz37_2 := bv_ BK731.out 2
       have hcz37_3 := bv_ BK731.out 3
       have hcz37_4 := bv_ BK731.out 4
       have hfz37_0 := blk_frozen BK731.out 0
       have hfz37_1 := blk_frozen BK731.out 1
       have hfz37_2 := blk_frozen BK731.out 2
       have hfz37_3 := blk_frozen BK731.out 3
       have hfz37_4 := blk_frozen BK731.out 4
       try go_wp2_with (first | ((with_reducible refine gate_callee (f := 36) rfl ?_); refine gl_ (some 32) Try.func36 #[.int .i64 a0, .bool false, .agg #[.int .u64 a1_1, .int .u64 a1_2], .int .i64 a1_3, .bool a1_4] ?_; (with_reducible refine (round_Pack.calls a0 false a1_1 a1_2 a1_3 a1_4 t733 _ A17.out).mono ?_); rintro e w38 ⟨rfl, hb⟩; refine ⟨_, rfl, ?_⟩; replace BK731 := A_ (bb_ BK731.out hb); replace HB := A_ (below_step (hb1_ HB.out GE731.out) hb); (try clear hb); (try clear hb2); (try clear hk); (try clear hi); have hcz39_0 := bv_ BK731.out 0; have hcz39_1 := bv_ BK731.out 1; have hcz39_2 := bv_ BK731.out 2; have hcz39_3 := bv_ BK731.out 3; have hcz39_4 := bv_ BK731.out 4; have hfz39_0 := blk_frozen BK731.out 0; have hfz39_1 := blk_frozen BK731.out 1; have hfz39_2 := blk_frozen BK731.out 2; have hfz39_3 := blk_frozen BK731.out 3; have hfz39_4 := blk_frozen BK731.out 4) | ((with_reducible refine gate_callee (f := 36) rfl ?_); refine gl_ (some 41) Try.func36 #[.int .i64 a0, .bool false, .agg #[.int .u64 a1_1, .int .u64 a1_2], .int .i64 (wrap64 (a1_3 + 1)), .bool a1_4] ?_; (with_reducible refine (round_Pack.calls a0 false a1_1 a1_2 (wrap64 (a1_3 + 1)) a1_4 t734 _ A18.out).mono ?_); rintro e w40 ⟨rfl, hb⟩; refine ⟨_, rfl, ?_⟩; replace BK731 := A_ (bb_ BK731.out hb); replace HB := A_ (below_step (hb1_ HB.out GE731.out) hb); (try clear hb); (try clear hb2); (try clear hk); (try clear hi)))
       replace BK731 := A_ (blk_drew BK731.out)
       replace HB := A_ (below_drew1 HB.out)
       refine start_ (n := 6) (S := fun w' => w'.cell? ⟨gb731, 0, none⟩ = some (.bool a1_0) ∧ w'.cell? ⟨gb731, 1, none⟩ = some (.int .u64 a1_1) ∧ w'.cell? ⟨gb731, 2, none⟩ = some (.int .u64 a1_2) ∧ w'.cell? ⟨gb731, 3, none⟩ = some (.int .i64 a1_3) ∧ w'.cell? ⟨gb731, 4, none⟩ = some (.bool a1_4)) (ds := []) #[false, false, false, false, false, false] (by kernel_rfl) rfl rfl ⟨bc_ BK731.out 0, bc_ BK731.out 1, bc_ BK731.out 2, bc_ BK731.out 3, bc_ BK731.out 4⟩ (fun hHeld => ?_)
       generalize w40.drew = w41 at BK731 HB hHeld ⊢
       refine pu_ 0 (some 44) #[true, false, false, false, false, false] rfl rfl (by kernel_rfl) ?_
       refine tk5_ 1 (some 45) #[true, true, false, false, false, false] rfl rfl (by kernel_rfl) hHeld ?_
       refine join_ (σ := Nat) 1 #[true, true, true, true, true, false] (fun s_ => [(46, .agg #[.int .u64 t735, .int .u64 t736]), (47, .agg #[.int .u64 t737, .int .u64 t738]), (6, .pointer (some ⟨s_, 0, none⟩))]) (fun s_ w' => (w'.cell? ⟨gb731, 0, none⟩ = some (.bool a1_0) ∧ w'.cell? ⟨gb731, 1, none⟩ = some (.int .u64 a1_1) ∧ w'.cell? ⟨gb731, 2, none⟩ = some (.int .u64 a1_2) ∧ w'.cell? ⟨gb731, 3, none⟩ = some (.int .i64 a1_3) ∧ w'.cell? ⟨gb731, 4, none⟩ = some (.bool a1_4)) ∧ (w'.heap[gb731]? = some (.cells #[.bool a1_0, .int .u64 a1_1, .int .u64 a1_2, .int .i64 a1_3, .bool a1_4] 44 (0, 0))) ∧ (w'.heap[s_]? = some (.cells #[.int .u64 0, .int .u64 0] 42 (0, 0))) ∧ (w.heap.size ≤ s_) ∧ (w.heap.size ≤ s_) ∧ (gb731 ≠ s_) ∧ (s_ ≠ gb731) ∧ (Below w.heap.size w w')) ?_ ?_
       rotate_left
       ·intro hCont
        refine two_ (i := 2) (j := 4) (Ni := some 46) (Nj := some 6) #[true, true, true, false, false, false] #[true, true, false, false, true, false] rfl rfl rfl rfl (by kernel_rfl) (by decide) (by decide) (fun K hK => ?_) (fun K hK => ?_)
        ·skip
         refine goes_ Try.func39 (by kernel_rfl) rfl #[.int .u64 1] (by rfl) rfl rfl mp_ ?_
         with_reducible refine (wide_Of.calls 1 t735 t736 _ A20.out).mono ?_
         rintro e w42 ⟨rfl, hb⟩
         refine ⟨_, rfl, ?_⟩
         replace BK731 := A_ (bb_ BK731.out hb)
         replace HB := A_ (below_step (hb1_ HB.out GE731.out) hb);(try clear hb);(try clear hb2);(try clear hk);(try clear hi)
         refine hK.out _ _ ⟨bc_ BK731.out 0, bc_ BK731.out 1, bc_ BK731.out 2, bc_ BK731.out 3, bc_ BK731.out 4⟩ (fun hHeld => ?_)
         clear hK K
         refine norm_ (a' := ?_) ?_ ?_
         rotate_left
         ·show Act.put _ (some 46) _ = _
          simp only [Act.put, lI_, l0_, lS_, i64_w, i32_w]
          rfl
         refine two_ (i := 3) (j := 4) (Ni := some 47) (Nj := some 6) #[true, true, true, true, false, false] #[true, true, true, false, true, false] rfl rfl rfl rfl (by kernel_rfl) (by decide) (by decide) (fun K hK => ?_) (fun K hK => ?_)
         ·skip
          refine goes_ Try.func38 (by kernel_rfl) rfl #[.agg #[.int .u64 a1_1, .int .u64 a1_2], .agg #[.int .u64 t735, .int .u64 t736]] (by rfl) rfl rfl mp_ ?_
          with_reducible refine (wide_Add.calls a1_1 a1_2 t735 t736 t737 t738 _ A21.out).mono ?_
          rintro e w43 ⟨rfl, hb⟩
          refine ⟨_, rfl, ?_⟩
          replace BK731 := A_ (bb_ BK731.out hb)
          replace HB := A_ (below_step (hb1_ HB.out GE731.out) hb);(try clear hb);(try clear hb2);(try clear hk);(try clear hi)
          refine hK.out _ _ ⟨bc_ BK731.out 0, bc_ BK731.out 1, bc_ BK731.out 2, bc_ BK731.out 3, bc_ BK731.out 4⟩ (fun hHeld => ?_)
          clear hK K
          refine norm_ (a' := ?_) ?_ ?_
          rotate_left
          ·show Act.put _ (some 47) _ = _
           simp only [Act.put, lI_, l0_, lS_, i64_w, i32_w]
           rfl
          refine one_ (i := 4) (N := some 6) #[true, true, true, true, true, false] rfl rfl (by kernel_rfl) (by decide) (fun K hK => ?_)
          refine box_step ?hg (N := 6) ?hd (cs := #[.int .u64 0, .int .u64 0]) (t := 42) ?hr ?_; (case hd => rfl); (case hg => rfl); (case hr => first | (go_simp; done) | (go_simp; rfl))
          intro gb739 hg w44 hbox hb
          have BK739 := A_ (hbox)
          have GW739 := A_ (sz_ hg (hb1_ HB.out GE731.out))
          have GE739 := A_ (sz_ hg (hb1_ HB.out GE731.out))
          have NB731_739 := A_ (nl_ hg BK731.out)
          have NB739_731 := A_ (ng_ hg BK731.out)
          replace BK731 := A_ (bb_ BK731.out hb)
          replace HB := A_ (below_step (hb1_ HB.out GE731.out) hb);clear hb hbox hg
          refine hK.out _ _ ⟨bc_ BK731.out 0, bc_ BK731.out 1, bc_ BK731.out 2, bc_ BK731.out 3, bc_ BK731.out 4⟩ (fun hHeld => ?_)
          clear hK K
          refine norm_ (a' := ?_) ?_ ?_
          rotate_left
          ·show Act.put _ (some 6) _ = _
           simp only [Act.put, lI_, l0_, lS_, i64_w, i32_w]
           rfl
          exact norm_ (by simp only [putAll, Act.put, lI_, l0_, lS_]) (hCont (gb739) _ ⟨hHeld, (bk_ BK731.out), (bk_ BK739.out), GW739.out, GE739.out, NB731_739.out, NB739_731.out, (hb2_ HB.out GE731.out GE739.out)⟩)
         ·skip
          refine box_step ?hg (N := 6) ?hd (cs := #[.int .u64 0, .int .u64 0]) (t := 42) ?hr ?_; (case hd => rfl); (case hg => rfl); (case hr => first | (go_simp; done) | (go_simp; rfl))
          intro gb739 hg w43 hbox hb
          have BK739 := A_ (hbox)
          have GW739 := A_ (sz_ hg (hb1_ HB.out GE731.out))
          have GE739 := A_ (sz_ hg (hb1_ HB.out GE731.out))
          have NB731_739 := A_ (nl_ hg BK731.out)
          have NB739_731 := A_ (ng_ hg BK731.out)
          replace BK731 := A_ (bb_ BK731.out hb)
          replace HB := A_ (below_step (hb1_ HB.out GE731.out) hb);clear hb hbox hg
          refine hK.out _ _ ⟨bc_ BK731.out 0, bc_ BK731.out 1, bc_ BK731.out 2, bc_ BK731.out 3, bc_ BK731.out 4⟩ (fun hHeld => ?_)
          clear hK K
          refine norm_ (a' := ?_) ?_ ?_
          rotate_left
          ·show Act.put _ (some 6) _ = _
           simp only [Act.put, lI_, l0_, lS_, i64_w, i32_w]
           rfl
          refine one_ (i := 3) (N := some 47) #[true, true, true, true, true, false] rfl rfl (by kernel_rfl) (by decide) (fun K hK => ?_)
          refine goes_ Try.func38 (by kernel_rfl) rfl #[.agg #[.int .u64 a1_1, .int .u64 a1_2], .agg #[.int .u64 t735, .int .u64 t736]] (by rfl) rfl rfl mp_ ?_
          with_reducible refine (wide_Add.calls a1_1 a1_2 t735 t736 t737 t738 _ A21.out).mono ?_
          rintro e w44 ⟨rfl, hb⟩
          refine ⟨_, rfl, ?_⟩
          replace BK731 := A_ (bb_ BK731.out hb)
          replace BK739 := A_ (bb_ BK739.out hb)
          replace HB := A_ (below_step (hb2_ HB.out GE731.out GE739.out) hb);(try clear hb);(try clear hb2);(try clear hk);(try clear hi)
          refine hK.out _ _ ⟨bc_ BK731.out 0, bc_ BK731.out 1, bc_ BK731.out 2, bc_ BK731.out 3, bc_ BK731.out 4⟩ (fun hHeld => ?_)
          clear hK K
          refine norm_ (a' := ?_) ?_ ?_
          rotate_left
          ·show Act.put _ (some 47) _ = _
           simp only [Act.put, lI_, l0_, lS_, i64_w, i32_w]
           rfl
          exact norm_ (by simp only [putAll, Act.put, lI_, l0_, lS_]) (hCont (gb739) _ ⟨hHeld, (bk_ BK731.out), (bk_ BK739.out), GW739.out, GE739.out, NB731_739.out, NB739_731.out, (hb2_ HB.out GE731.out GE739.out)⟩)
        ·skip
         refine box_step ?hg (N := 6) ?hd (cs := #[.int .u64 0, .int .u64 0]) (t := 42) ?hr ?_; (case hd => rfl); (case hg => rfl); (case hr => first | (go_simp; done) | (go_simp; rfl))
         intro gb739 hg w42 hbox hb
         have BK739 := A_ (hbox)
         have GW739 := A_ (sz_ hg (hb1_ HB.out GE731.out))
         have GE739 := A_ (sz_ hg (hb1_ HB.out GE731.out))
         have NB731_739 := A_ (nl_ hg BK731.out)
         have NB739_731 := A_ (ng_ hg BK731.out)
         replace BK731 := A_ (bb_ BK731.out hb)
         replace HB := A_ (below_step (hb1_ HB.out GE731.out) hb);clear hb hbox hg
         refine hK.out _ _ ⟨bc_ BK731.out 0, bc_ BK731.out 1, bc_ BK731.out 2, bc_ BK731.out 3, bc_ BK731.out 4⟩ (fun hHeld => ?_)
         clear hK K
         refine norm_ (a' := ?_) ?_ ?_
         rotate_left
         ·show Act.put _ (some 6) _ = _
          simp only [Act.put, lI_, l0_, lS_, i64_w, i32_w]
          rfl
         refine one_ (i := 2) (N := some 46) #[true, true, true, false, true, false] rfl rfl (by kernel_rfl) (by decide) (fun K hK => ?_)
         refine goes_ Try.func39 (by kernel_rfl) rfl #[.int .u64 1] (by rfl) rfl rfl mp_ ?_
         with_reducible refine (wide_Of.calls 1 t735 t736 _ A20.out).mono ?_
         rintro e w43 ⟨rfl, hb⟩
         refine ⟨_, rfl, ?_⟩
         replace BK731 := A_ (bb_ BK731.out hb)
         replace BK739 := A_ (bb_ BK739.out hb)
         replace HB := A_ (below_step (hb2_ HB.out GE731.out GE739.out) hb);(try clear hb);(try clear hb2);(try clear hk);(try clear hi)
         refine hK.out _ _ ⟨bc_ BK731.out 0, bc_ BK731.out 1, bc_ BK731.out 2, bc_ BK731.out 3, bc_ BK731.out 4⟩ (fun hHeld => ?_)
         clear hK K
         refine norm_ (a' := ?_) ?_ ?_
         rotate_left
         ·show Act.put _ (some 46) _ = _
          simp only [Act.put, lI_, l0_, lS_, i64_w, i32_w]
          rfl
         refine one_ (i := 3) (N := some 47) #[true, true, true, true, true, false] rfl rfl (by kernel_rfl) (by decide) (fun K hK => ?_)
         refine goes_ Try.func38 (by kernel_rfl) rfl #[.agg #[.int .u64 a1_1, .int .u64 a1_2], .agg #[.int .u64 t735, .int .u64 t736]] (by rfl) rfl rfl mp_ ?_
         with_reducible refine (wide_Add.calls a1_1 a1_2 t735 t736 t737 t738 _ A21.out).mono ?_
         rintro e w44 ⟨rfl, hb⟩
         refine ⟨_, rfl, ?_⟩
         replace BK731 := A_ (bb_ BK731.out hb)
         replace BK739 := A_ (bb_ BK739.out hb)
         replace HB := A_ (below_step (hb2_ HB.out GE731.out GE739.out) hb);(try clear hb);(try clear hb2);(try clear hk);(try clear hi)
         refine hK.out _ _ ⟨bc_ BK731.out 0, bc_ BK731.out 1, bc_ BK731.out 2, bc_ BK731.out 3, bc_ BK731.out 4⟩ (fun hHeld => ?_)
         clear hK K
         refine norm_ (a' := ?_) ?_ ?_
         rotate_left
         ·show Act.put _ (some 47) _ = _
          simp only [Act.put, lI_, l0_, lS_, i64_w, i32_w]
          rfl
         exact norm_ (by simp only [putAll, Act.put, lI_, l0_, lS_]) (hCont (gb739) _ ⟨hHeld, (bk_ BK731.out), (bk_ BK739.out), GW739.out, GE739.out, NB731_739.out, NB739_731.out, (hb2_ HB.out GE731.out GE739.out)⟩)
       rintro gb739 w45 ⟨hS_, h0_, h1_, h2_, h3_, h4_, h5_, h6_⟩
       have n0_ : Aside0 (w45.heap[gb731]? = some (.cells #[.bool a1_0, .int .u64 a1_1, .int .u64 a1_2, .int .i64 a1_3, .bool a1_4] 44 (0, 0))) := ⟨h0_⟩
       have n1_ : Aside0 (w45.heap[gb739]? = some (.cells #[.int .u64 0, .int .u64 0] 42 (0, 0))) := ⟨h1_⟩
       have n2_ : Aside0 (w.heap.size ≤ gb739) := ⟨h2_⟩
       have n3_ : Aside0 (w.heap.size ≤ gb739) := ⟨h3_⟩
       have n4_ : Aside0 (gb731 ≠ gb739) := ⟨h4_⟩
       have n5_ : Aside0 (gb739 ≠ gb731) := ⟨h5_⟩
       have n6_ : Aside0 (Below w.heap.size w w45) := ⟨h6_⟩
       clear BK731;clear HB;clear h0_ h1_ h2_ h3_ h4_ h5_ h6_;have BK731 := n0_;have BK739 := n1_;have GW739 := n2_;have GE739 := n3_;have NB731_739 := n4_;have NB739_731 := n5_;have HB := n6_;clear n0_ n1_ n2_ n3_ n4_ n5_ n6_
       have hHeld : w45.cell? ⟨gb731, 0, none⟩ = some (.bool a1_0) ∧ w45.cell? ⟨gb731, 1, none⟩ = some (.int .u64 a1_1) ∧ w45.cell? ⟨gb731, 2, none⟩ = some (.int .u64 a1_2) ∧ w45.cell? ⟨gb731, 3, none⟩ = some (.int .i64 a1_3) ∧ w45.cell? ⟨gb731, 4, none⟩ = some (.bool a1_4) := hS_
       refine norm_ (a' := ?_) ?_ ?_
       rotate_left
       ·simp only [putAll, Act.put, lI_, l0_, lS_]
        rfl
       refine one_ (i := 5) (N := none) #[true, true, true, true, true, true] rfl rfl (by kernel_rfl) (by decide) (fun K hK => ?_)
       have hs46 : w45.cell? ⟨gb739, 0, none⟩ = some (.int .u64 0) := bc_ BK739.out 0
       have hfs46 := blk_frozen BK739.out 0
       have hns46_0 := NB731_739.out
       have hms46_0 := NB739_731.out
       have hs47 : w45.cell? ⟨gb739, 1, none⟩ = some (.int .u64 0) := bc_ BK739.out 1
       have hfs47 := blk_frozen BK739.out 1
       have hns47_0 := NB731_739.out
       have hms47_0 := NB739_731.out
       refine skip_ (w1 := ?_) (by rfl) rfl ?_ ?_
       rotate_left
       ·go_simp
        rfl
       refine hK.out _ _ ⟨((cell_far (p := ⟨gb739, _, none⟩) NB731_739.out _).trans (((cell_far (p := ⟨gb739, _, none⟩) NB731_739.out _).trans (hHeld.1)))), ((cell_far (p := ⟨gb739, _, none⟩) NB731_739.out _).trans (((cell_far (p := ⟨gb739, _, none⟩) NB731_739.out _).trans (hHeld.2.1)))), ((cell_far (p := ⟨gb739, _, none⟩) NB731_739.out _).trans (((cell_far (p := ⟨gb739, _, none⟩) NB731_739.out _).trans (hHeld.2.2.1)))), ((cell_far (p := ⟨gb739, _, none⟩) NB731_739.out _).trans (((cell_far (p := ⟨gb739, _, none⟩) NB731_739.out _).trans (hHeld.2.2.2.1)))), ((cell_far (p := ⟨gb739, _, none⟩) NB731_739.out _).trans (((cell_far (p := ⟨gb739, _, none⟩) NB731_739.out _).trans (hHeld.2.2.2.2))))⟩ (fun hHeld => ?_)
       clear hK K
       refine done_ (by kernel_rfl) ?_
       have hnb48 := NB739_731.out
       have hnc48 := NB731_739.out
       have hcz49_0 := bv_ BK739.out 0
       have hcz49_1 := bv_ BK739.out 1
       have hfz49_0 := blk_frozen BK739.out 0
       have hfz49_1 := blk_frozen BK739.out 1
       have hcz50_0 := bv_ BK731.out 0
       have hcz50_1 := bv_ BK731.out 1
       have hcz50_2 := bv_ BK731.out 2
       have hcz50_3 := bv_ BK731.out 3
       have hcz50_4 := bv_ BK731.out 4
       have hfz50_0 := blk_frozen BK731.out 0
       have hfz50_1 := blk_frozen BK731.out 1
       have hfz50_2 := blk_frozen BK731.out 2
       have hfz50_3 := blk_frozen BK731.out 3
       have hfz50_4 := blk_frozen BK731.out 4
       try go_wp2_with (first | (go_at_call 36; (with_reducible refine (round_Pack.calls a0 false t737 t738 a1_3 a1_4 t740 _ A36.out).mono ?_); rintro e w51 ⟨rfl, hb⟩; replace BK731 := A_ (blk_below (g := gb731) (o := .cells #[.bool a1_0, .int .u64 a1_1, .int .u64 a1_2, .int .i64 a1_3, .bool a1_4] 44 (0, 0)) (bf2_ BK731.out NB731_739.out NB731_739.out) hb); replace BK739 := A_ (blk_below (g := gb739) (o := .cells #[.int .u64 t737, .int .u64 t738] 42 (0, 0)) (by (with_reducible repeat (first | refine blk_drewN ?_ _ | refine blk_drew ?_ | refine blk_alloc ?_ _)); refine blk_put (cs := #[.int .u64 t737, .int .u64 0]) ?_ 1 _ rfl; (with_reducible repeat (first | refine blk_drewN ?_ _ | refine blk_drew ?_ | refine blk_alloc ?_ _)); refine blk_put (cs := #[.int .u64 0, .int .u64 0]) ?_ 0 _ rfl; (with_reducible repeat (first | refine blk_drewN ?_ _ | refine blk_drew ?_ | refine blk_alloc ?_ _)); exact BK739.out) hb); replace HB := A_ (below_step (hb2_ HB.out GE731.out GE739.out) hb); (try clear hb); (try clear hb2); (try clear hk); (try clear hi)))
       go_ret
       exact ⟨er_, hb2_ HB.out GE731.out GE739.out⟩
 ·replace c4 := Bool.eq_false_iff.mpr c4
  subst c4
  have H1 : (some false) = some r := by rw [if_neg (show ¬ (false = true) by decide)] at H; exact H
  clear H;have H := H1;clear H1
  exact absurd ((Option.some.inj H).trans hr_.out) (by decide)
def L03_RoundRises.Pure : Prop := ∀ (a0 : Int) (a1_0 : Bool) (a1_1 : Int) (a1_2 : Int) (a1_3 : Int) (a1_4 : Bool), (Lit.int .i64 a0).wf = true → (Lit.int .u64 a1_1).wf = true → (Lit.int .u64 a1_2).wf = true → (Lit.int .i64 a1_3).wf = true → ∃ k, L03_RoundRises.f k a0 a1_0 a1_1 a1_2 a1_3 a1_4 = some true
theorem L03_RoundRises.walk (P : L03_RoundRises.Pure) (a0 : Int) (a1_0 : Bool) (a1_1 : Int) (a1_2 : Int) (a1_3 : Int) (a1_4 : Bool) (w : World) (w0 : (Lit.int .i64 a0).wf = true) (wh : (Lit.int .u64 a1_1).wf = true) (wl : (Lit.int .u64 a1_2).wf = true) (we : (Lit.int .i64 a1_3).wf = true) :
  Calls Try.prog 9 #[.int .i64 a0, .agg #[.bool a1_0, .int .u64 a1_1, .int .u64 a1_2, .int .i64 a1_3, .bool a1_4]] w fun e w' => e = .returned (.bool true) ∧ Below w.heap.size w w' := by
 obtain ⟨k, h⟩ := P a0 a1_0 a1_1 a1_2 a1_3 a1_4 w0 wh wl we
 refine (L03_RoundRises.calls k a0 a1_0 a1_1 a1_2 a1_3 a1_4 true w h ⟨rfl⟩).mono ?_
 rintro e w' ⟨rfl, hd⟩
 exact ⟨rfl, hd⟩
end Go.Proofs.Ytbpmnmceajmmcaa.PA
section
set_option linter.unusedVariables false
set_option linter.unusedSimpArgs false
namespace Go.Proofs.Ytbpmnmceajmmcaa.Th
open Go.RowKit Go.Proofs.YtbpmnmceajmmcaaW.PrintWords Go.Proofs.YtbpmnmceajmmcaaW.PrintLast Go.Proofs.YtbpmnmceajmmcaaW.PrintMore Go.Proofs.Ytbpmnmceajmmcaa.PA Bit Flo
def nn (w : Int) (a : Nat) : Bool := (opn w a).2.1 == 3
end Go.Proofs.Ytbpmnmceajmmcaa.Th
end
section
set_option linter.unusedVariables false
set_option linter.unusedSimpArgs false
namespace Go.Proofs.Ytbpmnmceajmmcaa.Th
open Flo
theorem fmt_bd (w : Int) : (fmt w).f < 100 ∧ (-5000 < (fmt w).low ∧ (fmt w).low < 0) ∧ (fmt w).top < 5000 := by
  unfold fmt; split <;> decide
end Go.Proofs.Ytbpmnmceajmmcaa.Th
end
namespace Go.Proofs.Ytbpmnmceajmmcaa.PA
open Go.RowKit Go.Proofs.YtbpmnmceajmmcaaW.PrintWords Go.Proofs.YtbpmnmceajmmcaaW.PrintLast Go.Proofs.YtbpmnmceajmmcaaW.PrintMore
attribute [local go_sem] max2_int min2_int max_two min_two max_three min_three max_four min_four   -- for this text's walks alone
set_option linter.unusedVariables false
set_option linter.unusedSimpArgs false
set_option maxHeartbeats 8000000
set_option maxRecDepth 100000
def r1_Div.l0 : Nat → Int → List Int → List Int → List Int → Option (List Int × List Int)
 | 0, _, _, _, _ => none
 | k + 1, x8, x426000, x429000, x430000 => if x8 ≥ 0 then ((r1_Shl.f k x426000 x8).bind fun t432 => ((r1_Cmp.f k x430000 t432).bind fun t436 => (if t436 ≥ 0 then ((r1_Sub.f k x430000 t432).bind fun t437 => ((r1_Of.f k 1).bind fun t440 => ((r1_Shl.f k t440 x8).bind fun t443 => ((r1_Add.f k x429000 t443).bind fun t446 => (r1_Div.l0 k (wrap64 (x8 - 1)) x426000 t446 t437))))) else (r1_Div.l0 k (wrap64 (x8 - 1)) x426000 x429000 x430000)))) else (some (x429000, x430000))
def r1_Div.f (k : Nat) (l0_0 : List Int) (l1_0 : List Int) : Option (List Int × List Int) := (r1_Len.f k l0_0).bind fun t430 => ((r1_Len.f k l1_0).bind fun t431 => (r1_Div.l0 k (wrap64 (t430 - t431)) l1_0 ([] : List Int) l0_0))
theorem r1_Div.mono_l : ∀ k, (∀ y0 y1 y2 y3, LeO (r1_Div.l0 k y0 y1 y2 y3) (r1_Div.l0 (k + 1) y0 y1 y2 y3))
 | 0 => fun _ _ _ _ r h => by simp [r1_Div.l0] at h
 | k + 1 => by
  have ih0 := r1_Div.mono_l k
  ·intro y0 y1 y2 y3
   unfold r1_Div.l0
   repeat' first
   | (with_reducible exact ih0 _ _ _ _)
   | (with_reducible exact r1_Add.mono _ _ _)
   | (with_reducible exact r1_Cmp.mono _ _ _)
   | (with_reducible exact r1_Len.mono _ _)
   | (with_reducible exact r1_Of.mono _ _)
   | (with_reducible exact r1_Shl.mono _ _ _)
   | (with_reducible exact r1_Sub.mono _ _ _)
   | (with_reducible exact LeO.refl _)
   | (with_reducible exact LeO.none _)
   | (with_reducible refine LeO.ite ?_ ?_)
   | (with_reducible refine LeO.bind ?_ (fun _ => ?_))
   | exact ih0 _ _ _ _
   | exact r1_Add.mono _ _ _
   | exact r1_Cmp.mono _ _ _
   | exact r1_Len.mono _ _
   | exact r1_Of.mono _ _
   | exact r1_Shl.mono _ _ _
   | exact r1_Sub.mono _ _ _
   | exact LeO.none _
   | refine LeO.ite ?_ ?_
   | refine LeO.bind ?_ (fun _ => ?_)
theorem r1_Div.mono : ∀ a0 a1 k, LeO (r1_Div.f k a0 a1) (r1_Div.f (k + 1) a0 a1) := by
 intro a0 a1 k
 have ih0 := r1_Div.mono_l k
 unfold r1_Div.f
 repeat' first
   | (with_reducible exact ih0 _ _ _ _)
   | (with_reducible exact r1_Add.mono _ _ _)
   | (with_reducible exact r1_Cmp.mono _ _ _)
   | (with_reducible exact r1_Len.mono _ _)
   | (with_reducible exact r1_Of.mono _ _)
   | (with_reducible exact r1_Shl.mono _ _ _)
   | (with_reducible exact r1_Sub.mono _ _ _)
   | (with_reducible exact LeO.refl _)
   | (with_reducible exact LeO.none _)
   | (with_reducible refine LeO.ite ?_ ?_)
   | (with_reducible refine LeO.bind ?_ (fun _ => ?_))
   | exact ih0 _ _ _ _
   | exact r1_Add.mono _ _ _
   | exact r1_Cmp.mono _ _ _
   | exact r1_Len.mono _ _
   | exact r1_Of.mono _ _
   | exact r1_Shl.mono _ _ _
   | exact r1_Sub.mono _ _ _
   | exact LeO.none _
   | refine LeO.ite ?_ ?_
   | refine LeO.bind ?_ (fun _ => ?_)
-- IMPORT Derived.Deep.RegionHeld3
-- IMPORT Derived.Test.YtbpmnmceajmmcaaNr
theorem Nr.len (k : Nat) (v : Value) (l : List Int) (r : Int) (w : World) (n : Nr.Nr w v l) (h : r1_Len.f k l = some r) : Calls Try.prog 96 #[.agg #[v]] w fun e w' => e = .returned (.int .i64 r) ∧ Below w.heap.size w w' := by
 obtain ⟨A, c, rfl, hc, hC⟩ := n
 exact r1_Len.calls k A c l r w hC hc h
theorem Nr.cmp (k : Nat) (v v1 : Value) (l l1 : List Int) (r : Int) (w : World) (n : Nr.Nr w v l) (n1 : Nr.Nr w v1 l1) (h : r1_Cmp.f k l l1 = some r) : Calls Try.prog 113 #[.agg #[v], .agg #[v1]] w fun e w' => e = .returned (.int .i64 r) ∧ Below w.heap.size w w' := by
 obtain ⟨A, c, rfl, hc, hC⟩ := n
 obtain ⟨A1, c1, rfl, hc1, hC1⟩ := n1
 exact r1_Cmp.calls k A c l A1 c1 l1 r w hC hc hC1 hc1 h
theorem Nr.outR {f : Nat} {xs : Array Value} {w : World} {r : List Int} (h : Calls Try.prog f xs w fun e w' => ∃ v0_ : Value, e = .returned (.agg #[v0_]) ∧ Kd.R (Kd.int .u64) 22 w' w.heap.size (fun _ => True) v0_ r ∧ Below w.heap.size w w') : Calls Try.prog f xs w fun e w' => ∃ A c, e = .returned (.agg #[.slice A r.length c]) ∧ Nr.Ow 22 w.heap.size w' (.slice A r.length c) r ∧ Below w.heap.size w w' := by
 refine h.mono ?_
 rintro e w' ⟨v0, rfl, hR, hb⟩
 obtain ⟨A, c, rfl, _⟩ := Nr.Nr.of_R hR
 exact ⟨A, c, rfl, Nr.Ow.of_R hR (Nat.le_refl _), hb⟩
theorem Nr.shl (k : Nat) (v : Value) (l : List Int) (a : Int) (r : List Int) (w : World) (n : Nr.Nr w v l) (h : r1_Shl.f k l a = some r) : Calls Try.prog 78 #[.agg #[v], .int .i64 a] w fun e w' => ∃ A c, e = .returned (.agg #[.slice A r.length c]) ∧ Nr.Ow 22 w.heap.size w' (.slice A r.length c) r ∧ Below w.heap.size w w' := by
 obtain ⟨A, c, rfl, hc, hC⟩ := n
 exact Nr.outR (r1_Shl.calls k A c l a r w hC hc h)
theorem Nr.sub (k : Nat) (v v1 : Value) (l l1 : List Int) (r : List Int) (w : World) (n : Nr.Nr w v l) (n1 : Nr.Nr w v1 l1) (h : r1_Sub.f k l l1 = some r) : Calls Try.prog 118 #[.agg #[v], .agg #[v1]] w fun e w' => ∃ A c, e = .returned (.agg #[.slice A r.length c]) ∧ Nr.Ow 22 w.heap.size w' (.slice A r.length c) r ∧ Below w.heap.size w w' := by
 obtain ⟨A, c, rfl, hc, hC⟩ := n
 obtain ⟨A1, c1, rfl, hc1, hC1⟩ := n1
 exact Nr.outR (r1_Sub.calls k A c l A1 c1 l1 r w hC hc hC1 hc1 h)
theorem Nr.add (k : Nat) (v v1 : Value) (l l1 : List Int) (r : List Int) (w : World) (n : Nr.Nr w v l) (n1 : Nr.Nr w v1 l1) (h : r1_Add.f k l l1 = some r) : Calls Try.prog 80 #[.agg #[v], .agg #[v1]] w fun e w' => ∃ A c, e = .returned (.agg #[.slice A r.length c]) ∧ Nr.Ow 22 w.heap.size w' (.slice A r.length c) r ∧ Below w.heap.size w w' := by
 obtain ⟨A, c, rfl, hc, hC⟩ := n
 obtain ⟨A1, c1, rfl, hc1, hC1⟩ := n1
 exact Nr.outR (r1_Add.calls k A c l A1 c1 l1 r w hC hc hC1 hc1 h)
theorem Nr.of (k : Nat) (a : Int) (r : List Int) (w : World) (h : r1_Of.f k a = some r) : Calls Try.prog 62 #[.int .u64 a] w fun e w' => ∃ A c, e = .returned (.agg #[.slice A r.length c]) ∧ Nr.Ow 22 w.heap.size w' (.slice A r.length c) r ∧ Below w.heap.size w w' :=
 Nr.outR (r1_Of.calls k a r w h)
theorem Nr.lower {e b b' : Nat} {w : World} {v : Value} {l : List Int} (h : Nr.Ow e b w v l) (hb : b' ≤ b) : Nr.Ow e b' w v l := Nr.Ow.of_R h.out hb
theorem Nr.fresh {P : Nat → Prop} {e e' base : Nat} {w0 w1 : World} {vq vr : Value} {lq lr : List Int} (hq : Nr.Ow e base w0 vq lq) (hr : Nr.Ow e' w0.heap.size w1 vr lr) (hb : base ≤ w0.heap.size) : Nr.At (fun k => (P k ∨ base ≤ k) ∧ some k ≠ vq.ownBlock) vr :=
 (Nr.At.of_R hr.out).mono fun k hk => ⟨Or.inr (Nat.le_trans hb hk.1), fun e => Nat.lt_irrefl _ (Nat.lt_of_lt_of_le (Kd.R_lt hq.out k e.symm) hk.1)⟩
theorem Nr.atlt {w : World} {v : Value} {l : List Int} (h : Nr.Nr w v l) : Nr.At (fun k => k < w.heap.size) v := by
 obtain ⟨A, c, hv, hl, h1, h2, h3⟩ := h
 intro ad n c' e hn
 rw [hv] at e
 injection e with e1 e2 e3
 subst e2
 obtain ⟨ad', e4, h4⟩ := h3 hn
 rw [e1] at e4
 injection e4 with e4
 subst e4
 obtain ⟨x, hx⟩ : ∃ x, l[0]? = some x := ⟨l[0]'hn, List.getElem?_eq_getElem hn⟩
 obtain ⟨cs, k1, k2, k3⟩ := h4 0 x hx
 have k2' : cs = [Value.int .u64 x] := k2
 have := World.block_lt_of_cell? w _ (k3 0 (.int .u64 x) (by rw [k2']; rfl))
 rwa [add_block] at this
theorem Nr.other {P : Nat → Prop} {e' : Nat} {w0 w1 : World} {vq vq' vr : Value} {lq' lr : List Int} (ha : Nr.At (fun k => P k ∧ some k ≠ vq.ownBlock) vr) (hn : Nr.Nr w0 vr lr) (hq : Nr.Ow e' w0.heap.size w1 vq' lq') : Nr.At (fun k => P k ∧ some k ≠ vq'.ownBlock) vr := fun ad n c e hn' =>
 ⟨(ha ad n c e hn').1, fun e2 => Nat.lt_irrefl _ (Nat.lt_of_lt_of_le (Nr.atlt hn ad n c e hn') (Kd.R_base hq.out _ e2.symm))⟩
theorem Nr.undrew {w w1 : World} (h : Below w.drew.heap.size w.drew w1) : Below w.heap.size w w1 := below_step (below_drew1 (Below.refl _ _)) h
theorem Nr.unalloc {w w1 : World} {o : Obj} (h : Below (w.alloc o).heap.size (w.alloc o) w1) : Below w.heap.size w w1 := below_step (below_alloc (Below.refl _ _) o) h
theorem Nr.newlt {w w1 : World} {o : Obj} (h : Below (w.alloc o).heap.size (w.alloc o) w1) : w.heap.size < w1.heap.size := by
 have := h.size
 simp at this
 omega
theorem Nr.newcell {w w1 : World} {v : Value} {ty : Nat} (h : Below (w.alloc (.cells #[v] ty)).heap.size (w.alloc (.cells #[v] ty)) w1) : w1.cell? ⟨w.heap.size, 0, none⟩ = some v := by
 rw [(Nr.bcell h).1 _ _ (by simp)]
 exact (World.cell?_alloc_new _ _ _ _).trans rfl
theorem r1_Div.calls (k : Nat) (P0_0_ : Nat → Prop) (A0_0 : Option Addr) (c0_0 : Nat) (l0_0 : List Int) (A1_0 : Option Addr) (c1_0 : Nat) (l1_0 : List Int) (r1 : List Int) (r2 : List Int) (w : World) (hs0_0 : Kd.V (Kd.int .u64) 22 w w.heap.size (fun k_ => P0_0_ k_) (.slice A0_0 l0_0.length c0_0) l0_0) (hr1_0 : Kd.C (Kd.int .u64) w A1_0 l1_0.length l1_0) (hc1_0 : l1_0.length ≤ c1_0) (h : r1_Div.f k l0_0 l1_0 = some (r1, r2)) :
  Calls Try.prog 115 #[.agg #[.slice A0_0 l0_0.length c0_0], .agg #[.slice A1_0 l1_0.length c1_0]] w fun e w' => ∃ v0_ v1_ : Value, e = .returned (.tuple #[.agg #[v0_], .agg #[v1_]]) ∧ Kd.R (Kd.int .u64) 22 w' w.heap.size (fun k_ => (w.heap.size ≤ k_)) v0_ r1 ∧ Kd.V (Kd.int .u64) 22 w' w.heap.size (fun k_ => (P0_0_ k_ ∨ w.heap.size ≤ k_) ∧ some k_ ≠ (v0_ : Value).ownBlock) v1_ r2 ∧ Below w.heap.size w w' := by
 obtain ⟨t0, A0, H⟩ := ob_ h
 obtain ⟨t1, A1, H⟩ := ob_ H
 have L0 := A_ A0;have L1 := A_ A1;have HL := A_ H;clear h A0 A1 H
 have NA := Nr.Nr.of_V hs0_0
 have AA := A_ (Nr.At.of_V hs0_0)
 have NB := Nr.Nr.of_C hc1_0 hr1_0
 clear hs0_0 hr1_0
 go_enter Try.func115, Try.ntmps115
 go_wp2
 go_region_held3 (fun w' => w'.cell? ⟨w.heap.size, 0, none⟩ = some (.slice A0_0 l0_0.length c0_0) ∧ w'.cell? ⟨w.heap.size + 1, 0, none⟩ = some (.slice A1_0 l1_0.length c1_0) ∧ w'.cell? ⟨w.heap.size + 2, 0, none⟩ = some (.slice none 0 0) ∧ w'.cell? ⟨w.heap.size + 3, 0, none⟩ = some (.slice none 0 0) ∧ w'.cell? ⟨w.heap.size + 4, 0, none⟩ = some (.slice none 0 0) ∧ w'.cell? ⟨w.heap.size + 5, 0, none⟩ = some (.slice A0_0 l0_0.length c0_0) ∧ w'.frozen? ⟨w.heap.size + 2, 0, none⟩ = false ∧ w'.frozen? ⟨w.heap.size + 3, 0, none⟩ = false ∧ w'.frozen? ⟨w.heap.size + 4, 0, none⟩ = false ∧ w'.frozen? ⟨w.heap.size + 5, 0, none⟩ = false ∧ w.heap.size + 5 < w'.heap.size ∧ Nr.Nr w' (.slice A0_0 l0_0.length c0_0) l0_0 ∧ Nr.Nr w' (.slice A1_0 l1_0.length c1_0) l1_0 ∧ Nr.Ow 22 w.heap.size w' (.slice none 0 0) [] ∧ Below w.heap.size w w')
  (((try go_split_ands); (try dsimp only); (repeat' apply And.intro) <;> first | assumption | (rw [hc _ _ (by omega)]; assumption) | (rw [hf _ _ (by omega)]; assumption) | (rw [Nr.al (by omega)]; assumption) | (rw [Nr.alf (by omega)]; assumption) | (apply Nr.lt_al; assumption) | (have := hb.size; omega) | (refine Nr.Nr.below ?_ hb; assumption) | (apply Nr.Nr.drew; (repeat apply Nr.Nr.alloc); assumption) | (apply Nr.Nr.alloc; assumption) | (apply Nr.Nr.drew; assumption) | (exact Nr.Ow.nil _ _ _) | (refine Nr.Ow.below ?_ hb; assumption) | (apply Nr.Ow.alloc; assumption) | (apply Nr.Ow.drew; assumption) | (refine below_step ?_ hb; assumption) | (simp [go_sem, World.cell?_alloc_past]; done) | (repeat (first | assumption | exact Below.refl _ _ | apply below_drew1 | apply below_alloc | (refine below_set ?_ (by omega))))))
  ((first | (go_at_call 96; (try go_split_ands); refine (Nr.len k _ l0_0 t0 _ ?_ L0.out).mono ?_; (assumption); rintro e w1 ⟨rfl, hb⟩; obtain ⟨hc, hf⟩ := Nr.bcell hb) | (go_at_call 96; (try go_split_ands); refine (Nr.len k _ l1_0 t1 _ ?_ L1.out).mono ?_; (assumption); rintro e w2 ⟨rfl, hb⟩; obtain ⟨hc, hf⟩ := Nr.bcell hb)))
 rename_i hH
 obtain ⟨q0, q1, q2, q3, q4, q5, f2, f3, f4, f5, hz, nr, nb, ow, bl⟩ := hH
 (repeat clear hc hf)
 (repeat clear hb)
 go_wp2
 iterate 30 (rename_i left_; clear left_)
 rename_i hK
 clear H
 have at0 : Nr.At (fun k_ => (P0_0_ k_ ∨ w.heap.size ≤ k_) ∧ some k_ ≠ (Value.slice none 0 0).ownBlock) (.slice A0_0 l0_0.length c0_0) := AA.out.mono fun k hk => ⟨Or.inl hk, fun e => by cases e⟩
 go_loopg [8] k (fun kq v8 w' => ∃ (x : Int) (Aq : Option Addr) (cq : Nat) (lq : List Int) (Ar : Option Addr) (cr : Nat) (lr : List Int), v8 = .int .i64 x ∧ Aside0 (r1_Div.l0 kq x l1_0 lq lr = some (r1, r2)) ∧ Aside0 (w'.cell? ⟨w.heap.size + 1, 0, none⟩ = some (.slice A1_0 l1_0.length c1_0) ∧ w'.cell? ⟨w.heap.size + 2, 0, none⟩ = some (.slice none 0 0) ∧ w'.cell? ⟨w.heap.size + 3, 0, none⟩ = some (.slice none 0 0) ∧ w'.cell? ⟨w.heap.size + 4, 0, none⟩ = some (.slice Aq lq.length cq) ∧ w'.cell? ⟨w.heap.size + 5, 0, none⟩ = some (.slice Ar lr.length cr) ∧ w'.frozen? ⟨w.heap.size + 2, 0, none⟩ = false ∧ w'.frozen? ⟨w.heap.size + 3, 0, none⟩ = false ∧ w'.frozen? ⟨w.heap.size + 4, 0, none⟩ = false ∧ w'.frozen? ⟨w.heap.size + 5, 0, none⟩ = false ∧ w.heap.size + 5 < w'.heap.size ∧ Nr.Nr w' (.slice A1_0 l1_0.length c1_0) l1_0 ∧ Nr.Nr w' (.slice Ar lr.length cr) lr ∧ Nr.Ow 22 (w.heap.size + 6) w' (.slice Aq lq.length cq) lq ∧ Nr.At (fun k_ => (P0_0_ k_ ∨ w.heap.size ≤ k_) ∧ some k_ ≠ (Value.slice Aq lq.length cq).ownBlock) (.slice Ar lr.length cr) ∧ Below w.heap.size w w'))
 case atStart => exact ⟨_, none, 0, [], A0_0, c0_0, l0_0, by rw [i64_w], HL, q1, q2, q3, q4, q5, f2, f3, f4, f5, hz, nb, nr, Nr.Ow.nil _ _ _, at0, bl⟩
 case round =>
  (repeat clear q0 q1 q2 q3 q4 q5 f2 f3 f4 f5 hz nr ow bl at0 nb)
  obtain ⟨x, Aq, cq, lq, Ar, cr, lr, rfl, E, F⟩ := hrel
  obtain ⟨q1, q2, q3, q4, q5, f2, f3, f4, f5, hz, nb, nr, ow, at0, bl⟩ := F.out
  clear F HL
  obtain _ | kr := gk
  ·cases E.out
  have E := E.out
  unfold r1_Div.l0 at E
  by_cases hx : x ≥ 0
  ·rw [if_pos hx] at E
   have c0 : decide (0 ≤ x) = true := decide_eq_true hx
   obtain ⟨t, T0, E⟩ := ob_ E
   obtain ⟨u, T1, E⟩ := ob_ E
   replace T0 := A_ T0;replace T1 := A_ T1;replace hx := A_ hx
   by_cases hu : u ≥ 0
   ·rw [if_pos hu] at E
    obtain ⟨s, S0, E⟩ := ob_ E
    obtain ⟨o1, S1, E⟩ := ob_ E
    obtain ⟨o2, S2, E⟩ := ob_ E
    obtain ⟨q', S3, E⟩ := ob_ E
    replace S0 := A_ S0;replace S1 := A_ S1;replace S2 := A_ S2;replace S3 := A_ S3;have EE := A_ E;clear E
    have cu : decide (0 ≤ u) = true := decide_eq_true hu
    clear hu
    go_wp2_with (first | (go_at_call 78; refine (Nr.shl kr _ l1_0 x t _ nb T0.out).mono ?_; rintro e w1 ⟨At, ct, rfl, ot, hb⟩; (try replace hb := Nr.undrew hb); obtain ⟨hc, hf⟩ := Nr.bcell hb; have hs := hb.size; replace q1 := (hc _ _ (by omega)).trans q1; replace q2 := (hc _ _ (by omega)).trans q2; replace q3 := (hc _ _ (by omega)).trans q3; replace q4 := (hc _ _ (by omega)).trans q4; replace q5 := (hc _ _ (by omega)).trans q5; replace f2 := (hf _ _ (by omega)).trans f2; replace f3 := (hf _ _ (by omega)).trans f3; replace f4 := (hf _ _ (by omega)).trans f4; replace f5 := (hf _ _ (by omega)).trans f5; replace nb := Nr.Nr.below nb hb; replace nr := Nr.Nr.below nr hb; replace ow := Nr.Ow.below ow hb; replace bl := below_step bl hb; replace hz := Nat.lt_of_lt_of_le hz hs; clear hc hf hs hb) | (go_at_call 113; refine (Nr.cmp kr _ _ lr t u _ (Nr.Nr.alloc nr _) (Nr.Nr.alloc ot.nr _) T1.out).mono ?_; rintro e w2 ⟨rfl, hb⟩; have tq := Nr.newcell hb; have ht := Nr.newlt hb; replace hb := Nr.unalloc hb; (try replace hb := Nr.undrew hb); obtain ⟨hc, hf⟩ := Nr.bcell hb; have hs := hb.size; replace q1 := (hc _ _ (by omega)).trans q1; replace q2 := (hc _ _ (by omega)).trans q2; replace q3 := (hc _ _ (by omega)).trans q3; replace q4 := (hc _ _ (by omega)).trans q4; replace q5 := (hc _ _ (by omega)).trans q5; replace f2 := (hf _ _ (by omega)).trans f2; replace f3 := (hf _ _ (by omega)).trans f3; replace f4 := (hf _ _ (by omega)).trans f4; replace f5 := (hf _ _ (by omega)).trans f5; replace nb := Nr.Nr.below nb hb; replace nr := Nr.Nr.below nr hb; replace ow := Nr.Ow.below ow hb; replace ot := Nr.Ow.below ot hb; replace bl := below_step bl hb; replace hz := Nat.lt_of_lt_of_le hz hs; clear hc hf hs hb) | (go_at_call 118; refine (Nr.sub kr _ _ lr t s _ nr ot.nr S0.out).mono ?_; rintro e w3 ⟨As, cs, rfl, os, hb⟩; have at1 := Nr.fresh (P := P0_0_) (Nr.lower ow (b' := w.heap.size) (by omega)) os (by omega); replace os := Nr.lower os (b' := w.heap.size + 6) (by omega); (try replace hb := Nr.undrew hb); obtain ⟨hc, hf⟩ := Nr.bcell hb; have hs := hb.size; replace q1 := (hc _ _ (by omega)).trans q1; replace q2 := (hc _ _ (by omega)).trans q2; replace q3 := (hc _ _ (by omega)).trans q3; replace q4 := (hc _ _ (by omega)).trans q4; replace q5 := (hc _ _ (by omega)).trans q5; replace f2 := (hf _ _ (by omega)).trans f2; replace f3 := (hf _ _ (by omega)).trans f3; replace f4 := (hf _ _ (by omega)).trans f4; replace f5 := (hf _ _ (by omega)).trans f5; replace nb := Nr.Nr.below nb hb; replace nr := Nr.Nr.below nr hb; replace ow := Nr.Ow.below ow hb; replace ot := Nr.Ow.below ot hb; replace bl := below_step bl hb; replace hz := Nat.lt_of_lt_of_le hz hs; clear hc hf hs hb))
    generalize hW : World.setCell _ _ _ = w4
    have hz4 : w4.heap.size = w3.heap.size := by rw [← hW]; simp
    have hc : ∀ b, b ≠ w.heap.size + 5 → w4.cell? ⟨b, 0, none⟩ = w3.cell? ⟨b, 0, none⟩ := fun b hb => by rw [← hW]; exact World.cell?_setCell_far _ _ _ _ (fun e => hb e.symm)
    have hf : ∀ b, w4.frozen? ⟨b, 0, none⟩ = w3.frozen? ⟨b, 0, none⟩ := fun b => by rw [← hW]; exact World.frozen?_setCell _ _ _ _
    have hi : Nr.IsRow (w3.cell? ⟨w.heap.size + 5, 0, none⟩) := by rw [q5]; exact Nr.IsRow.slice _ _ _
    replace q5 : w4.cell? ⟨w.heap.size + 5, 0, none⟩ = some (.slice As s.length cs) := by rw [← hW]; exact World.cell?_setCell_same _ _ _ q5
    replace q1 := (hc _ (by omega)).trans q1
    replace q2 := (hc _ (by omega)).trans q2
    replace q3 := (hc _ (by omega)).trans q3
    replace q4 := (hc _ (by omega)).trans q4
    replace f2 := (hf _).trans f2
    replace f3 := (hf _).trans f3
    replace f4 := (hf _).trans f4
    replace f5 := (hf _).trans f5
    replace nb : Nr.Nr w4 (.slice A1_0 l1_0.length c1_0) l1_0 := by rw [← hW]; exact Nr.Nr.set nb _ hi
    replace ow : Nr.Ow 22 (w.heap.size + 6) w4 (.slice Aq lq.length cq) lq := by rw [← hW]; exact Nr.Ow.set ow _ (fun e => by have h6 : _ ≤ w.heap.size + 5 := Kd.R_base ow.out _ e; omega)
    replace os : Nr.Ow 22 (w.heap.size + 6) w4 (.slice As s.length cs) s := by rw [← hW]; exact Nr.Ow.set os _ (fun e => by have h6 : _ ≤ w.heap.size + 5 := Kd.R_base os.out _ e; omega)
    replace bl : Below w.heap.size w w4 := by rw [← hW]; exact below_set bl (by omega)
    replace hz : w.heap.size + 5 < w4.heap.size := by omega
    clear hW hc hf hi hz4
    replace nr := os.nr
    clear os
    go_region_with (first | (go_at_call 62; refine (Nr.of kr 1 o1 _ S1.out).mono ?_; rintro e w5 ⟨Ao, co, rfl, oo, hb⟩; (try replace hb := Nr.undrew hb); obtain ⟨hc, hf⟩ := Nr.bcell hb; have hs := hb.size; replace q1 := (hc _ _ (by omega)).trans q1; replace q2 := (hc _ _ (by omega)).trans q2; replace q3 := (hc _ _ (by omega)).trans q3; replace q4 := (hc _ _ (by omega)).trans q4; replace q5 := (hc _ _ (by omega)).trans q5; replace f2 := (hf _ _ (by omega)).trans f2; replace f3 := (hf _ _ (by omega)).trans f3; replace f4 := (hf _ _ (by omega)).trans f4; replace f5 := (hf _ _ (by omega)).trans f5; replace nb := Nr.Nr.below nb hb; replace nr := Nr.Nr.below nr hb; replace ow := Nr.Ow.below ow hb; replace bl := below_step bl hb; replace hz := Nat.lt_of_lt_of_le hz hs; clear hc hf hs hb) | (go_at_call 78; refine (Nr.shl kr _ o1 x o2 _ oo.nr S2.out).mono ?_; rintro e w6 ⟨Ap, cp, rfl, op, hb⟩; (try replace hb := Nr.undrew hb); obtain ⟨hc, hf⟩ := Nr.bcell hb; have hs := hb.size; replace q1 := (hc _ _ (by omega)).trans q1; replace q2 := (hc _ _ (by omega)).trans q2; replace q3 := (hc _ _ (by omega)).trans q3; replace q4 := (hc _ _ (by omega)).trans q4; replace q5 := (hc _ _ (by omega)).trans q5; replace f2 := (hf _ _ (by omega)).trans f2; replace f3 := (hf _ _ (by omega)).trans f3; replace f4 := (hf _ _ (by omega)).trans f4; replace f5 := (hf _ _ (by omega)).trans f5; replace nb := Nr.Nr.below nb hb; replace nr := Nr.Nr.below nr hb; replace ow := Nr.Ow.below ow hb; replace oo := Nr.Ow.below oo hb; replace bl := below_step bl hb; replace hz := Nat.lt_of_lt_of_le hz hs; clear hc hf hs hb) | (go_at_call 80; refine (Nr.add kr _ _ lq o2 q' _ ow.nr op.nr S3.out).mono ?_; rintro e w7 ⟨Az, cz, rfl, oz, hb⟩; have at2 := Nr.other at1 nr oz; have oz := Nr.lower oz (b' := w.heap.size + 6) (by omega); (try replace hb := Nr.undrew hb); obtain ⟨hc, hf⟩ := Nr.bcell hb; have hs := hb.size; replace q1 := (hc _ _ (by omega)).trans q1; replace q2 := (hc _ _ (by omega)).trans q2; replace q3 := (hc _ _ (by omega)).trans q3; replace q4 := (hc _ _ (by omega)).trans q4; replace q5 := (hc _ _ (by omega)).trans q5; replace f2 := (hf _ _ (by omega)).trans f2; replace f3 := (hf _ _ (by omega)).trans f3; replace f4 := (hf _ _ (by omega)).trans f4; replace f5 := (hf _ _ (by omega)).trans f5; replace nb := Nr.Nr.below nb hb; replace nr := Nr.Nr.below nr hb; replace ow := Nr.Ow.below ow hb; replace bl := below_step bl hb; replace hz := Nat.lt_of_lt_of_le hz hs; clear hc hf hs hb))
    all_goals (
     generalize hW : World.setCell _ _ _ = w8
     have hz4 : w8.heap.size = w7.heap.size := by rw [← hW]; simp
     have hc : ∀ b, b ≠ w.heap.size + 4 → w8.cell? ⟨b, 0, none⟩ = w7.cell? ⟨b, 0, none⟩ := fun b hb => by rw [← hW]; exact World.cell?_setCell_far _ _ _ _ (fun e => hb e.symm)
     have hf : ∀ b, w8.frozen? ⟨b, 0, none⟩ = w7.frozen? ⟨b, 0, none⟩ := fun b => by rw [← hW]; exact World.frozen?_setCell _ _ _ _
     have hi : Nr.IsRow (w7.cell? ⟨w.heap.size + 4, 0, none⟩) := by rw [q4]; exact Nr.IsRow.slice _ _ _
     replace q4 : w8.cell? ⟨w.heap.size + 4, 0, none⟩ = some (.slice Az q'.length cz) := by rw [← hW]; exact World.cell?_setCell_same _ _ _ q4
     replace q1 := (hc _ (by omega)).trans q1
     replace q2 := (hc _ (by omega)).trans q2
     replace q3 := (hc _ (by omega)).trans q3
     replace q5 := (hc _ (by omega)).trans q5
     replace f2 := (hf _).trans f2
     replace f3 := (hf _).trans f3
     replace f4 := (hf _).trans f4
     replace f5 := (hf _).trans f5
     replace nb : Nr.Nr w8 (.slice A1_0 l1_0.length c1_0) l1_0 := by rw [← hW]; exact Nr.Nr.set nb _ hi
     replace nr : Nr.Nr w8 (.slice As s.length cs) s := by rw [← hW]; exact Nr.Nr.set nr _ hi
     replace oz : Nr.Ow 22 (w.heap.size + 6) w8 (.slice Az q'.length cz) q' := by rw [← hW]; exact Nr.Ow.set oz _ (fun e => by have h6 : _ ≤ w.heap.size + 4 := Kd.R_base oz.out _ e; omega)
     replace bl : Below w.heap.size w w8 := by rw [← hW]; exact below_set bl (by omega)
     replace hz : w.heap.size + 5 < w8.heap.size := by omega
     clear hW hc hf hi hz4
     go_wp2
     go_roundg kr
     case measure => omega
     case rel => exact ⟨_, Az, cz, q', As, cs, s, rfl, EE, ⟨q1, q2, q3, q4, q5, f2, f3, f4, f5, hz, nb, nr, oz, at2, bl⟩⟩)
   ·rw [if_neg hu] at E
    have EE := A_ E;clear E
    have cu : decide (0 ≤ u) = false := decide_eq_false hu
    clear hu
    go_wp2_with (first | (go_at_call 78; refine (Nr.shl kr _ l1_0 x t _ nb T0.out).mono ?_; rintro e w1 ⟨At, ct, rfl, ot, hb⟩; (try replace hb := Nr.undrew hb); obtain ⟨hc, hf⟩ := Nr.bcell hb; have hs := hb.size; replace q1 := (hc _ _ (by omega)).trans q1; replace q2 := (hc _ _ (by omega)).trans q2; replace q3 := (hc _ _ (by omega)).trans q3; replace q4 := (hc _ _ (by omega)).trans q4; replace q5 := (hc _ _ (by omega)).trans q5; replace f2 := (hf _ _ (by omega)).trans f2; replace f3 := (hf _ _ (by omega)).trans f3; replace f4 := (hf _ _ (by omega)).trans f4; replace f5 := (hf _ _ (by omega)).trans f5; replace nb := Nr.Nr.below nb hb; replace nr := Nr.Nr.below nr hb; replace ow := Nr.Ow.below ow hb; replace bl := below_step bl hb; replace hz := Nat.lt_of_lt_of_le hz hs; clear hc hf hs hb) | (go_at_call 113; refine (Nr.cmp kr _ _ lr t u _ (Nr.Nr.alloc nr _) (Nr.Nr.alloc ot.nr _) T1.out).mono ?_; rintro e w2 ⟨rfl, hb⟩; have tq := Nr.newcell hb; have ht := Nr.newlt hb; replace hb := Nr.unalloc hb; (try replace hb := Nr.undrew hb); obtain ⟨hc, hf⟩ := Nr.bcell hb; have hs := hb.size; replace q1 := (hc _ _ (by omega)).trans q1; replace q2 := (hc _ _ (by omega)).trans q2; replace q3 := (hc _ _ (by omega)).trans q3; replace q4 := (hc _ _ (by omega)).trans q4; replace q5 := (hc _ _ (by omega)).trans q5; replace f2 := (hf _ _ (by omega)).trans f2; replace f3 := (hf _ _ (by omega)).trans f3; replace f4 := (hf _ _ (by omega)).trans f4; replace f5 := (hf _ _ (by omega)).trans f5; replace nb := Nr.Nr.below nb hb; replace nr := Nr.Nr.below nr hb; replace ow := Nr.Ow.below ow hb; replace ot := Nr.Ow.below ot hb; replace bl := below_step bl hb; replace hz := Nat.lt_of_lt_of_le hz hs; clear hc hf hs hb))
    go_roundg kr
    case measure => omega
    case rel => exact ⟨_, Aq, cq, lq, Ar, cr, lr, rfl, EE, ⟨q1, q2, q3, q4, q5, f2, f3, f4, f5, hz, nb, nr, ow, at0, bl⟩⟩
  ·rw [if_neg hx] at E
   have c0 : decide (0 ≤ x) = false := decide_eq_false hx
   injection E with E
   injection E with E1 E2
   subst E1
   subst E2
   clear hx E
   go_wp2
   go_region
   go_wp2
   have i2 : Nr.IsRow (wr.cell? ⟨w.heap.size + 2, 0, none⟩) := by rw [q2]; exact Nr.IsRow.slice _ _ _
   have e2 := World.cell?_setCell_same _ _ (.slice Aq lq.length cq) q2
   have e3 : (wr.setCell ⟨w.heap.size + 2, 0, none⟩ (.slice Aq lq.length cq)).cell? ⟨w.heap.size + 3, 0, none⟩ = some (.slice none 0 0) := (World.cell?_setCell_far _ _ _ _ (by simp)).trans q3
   have i3 : Nr.IsRow ((wr.setCell ⟨w.heap.size + 2, 0, none⟩ (.slice Aq lq.length cq)).cell? ⟨w.heap.size + 3, 0, none⟩) := by rw [e3]; exact Nr.IsRow.slice _ _ _
   have e4 := World.cell?_setCell_same _ _ (.slice Ar lr.length cr) e3
   have e5 : ((wr.setCell ⟨w.heap.size + 2, 0, none⟩ (.slice Aq lq.length cq)).setCell ⟨w.heap.size + 3, 0, none⟩ (.slice Ar lr.length cr)).cell? ⟨w.heap.size + 2, 0, none⟩ = some (.slice Aq lq.length cq) := (World.cell?_setCell_far _ _ _ _ (by simp)).trans e2
   have ow' := Nr.Ow.drew (Nr.Ow.set (Nr.Ow.set ow (p := ⟨w.heap.size + 2, 0, none⟩) (.slice Aq lq.length cq) (fun e => by have h6 : _ ≤ w.heap.size + 2 := Kd.R_base ow.out _ e; omega)) (p := ⟨w.heap.size + 3, 0, none⟩) (.slice Ar lr.length cr) (fun e => by have h6 : _ ≤ w.heap.size + 3 := Kd.R_base ow.out _ e; omega))
   have nr' := Nr.Nr.drew (Nr.Nr.set (Nr.Nr.set nr (.slice Aq lq.length cq) i2) (.slice Ar lr.length cr) i3)
   exact bodyPost_ret (v := .tuple #[.agg #[.slice Aq lq.length cq], .agg #[.slice Ar lr.length cr]]) (by simp [results, Try.results115, go_sem, e4, e5]) rfl ⟨_, _, rfl, (Nr.lower ow' (by omega)).out, Nr.Nr.toV nr' at0, below_drew1 (below_set (below_set bl (by omega)) (by omega))⟩
end Go.Proofs.Ytbpmnmceajmmcaa.PA
section
set_option linter.unusedVariables false
set_option linter.unusedSimpArgs false
namespace Go.Proofs.Ytbpmnmceajmmcaa.Th
open Go.RowKit Go.Proofs.YtbpmnmceajmmcaaW.PrintWords Go.Proofs.YtbpmnmceajmmcaaW.PrintLast Go.Proofs.YtbpmnmceajmmcaaW.PrintMore Go.Proofs.Ytbpmnmceajmmcaa.PA Bit Flo
theorem packE (w : Int) (hw : w = 32 ∨ w = 64) (s : Bool) (h l : Nat) (hh : h < 18446744073709551616) (hl : l < 18446744073709551616) (e : Int) (m : Bool) : round_Pack.f w s h l e m = some ((mkN w (pkm (fmt w) (wn h l) e m) s : Nat) : Int) := by
  unfold round_Pack.f
  rw [if_pos (by omega), if_pos hw, Int.toNat_natCast, Int.toNat_natCast]
end Go.Proofs.Ytbpmnmceajmmcaa.Th
end
section
set_option linter.unusedVariables false
set_option linter.unusedSimpArgs false
namespace Go.Proofs.Ytbpmnmceajmmcaa.Th
open Go.RowKit Go.Proofs.YtbpmnmceajmmcaaW.PrintWords Go.Proofs.YtbpmnmceajmmcaaW.PrintLast Go.Proofs.YtbpmnmceajmmcaaW.PrintMore Go.Proofs.Ytbpmnmceajmmcaa.PA Bit Dig Flo
theorem awake03R : L03_awake.f = some true := rfl
theorem packF (w : Int) (hw : w = 32 ∨ w = 64) (h l : Nat) (hh : h < 18446744073709551616) (hl : l < 18446744073709551616) (e : Int) (m : Bool) : round_Pack.f w false h l e m = some (((fmt w).rnd (pkx (wn h l) e m) : Nat) : Int) := by
  have bd := fmt_bd w
  rw [packE w hw false h l hh hl e m, ← pkm_rnd (fmt w) bd.1 bd.2.1 bd.2.2 _ e m (wn_lt hh hl)]
  simp [mkN]
theorem pkx_e (S : Nat) (e : Int) (m : Bool) : pkx S e m ≤ pkx S (e + 1) m := by
  unfold pkx
  have T := tw_pos (e - 1)
  rw [show e + 1 - 1 = e - 1 + 1 by omega, tw_succ]
  have : (0 : Rat) ≤ ((2 * S + (if m then 1 else 0) : Nat) : Rat) := by exact_mod_cast Nat.zero_le _
  have h2 := Rat.mul_nonneg this (Rat.le_of_lt T)
  grind
theorem pkx_s {S S' : Nat} (h : S ≤ S') (e : Int) (m : Bool) : pkx S e m ≤ pkx S' e m := by
  unfold pkx
  exact mul_le (nat_le.2 (by omega)) (tw_pos _)
theorem RoundRisesP : L03_RoundRises.Pure := by
  intro w s h l e m hw0 hh0 hl0 he0
  obtain ⟨hh1, hh2⟩ := wf_u64 hh0
  obtain ⟨h, rfl⟩ := Int.eq_ofNat_of_zero_le hh1
  have hh : h < 18446744073709551616 := by omega
  obtain ⟨hl1, hl2⟩ := wf_u64 hl0
  obtain ⟨l, rfl⟩ := Int.eq_ofNat_of_zero_le hl1
  have hl : l < 18446744073709551616 := by omega
  refine Ev.rounds ?_
  unfold L03_RoundRises.f
  refine Ev.bs awake03R (Ev.pos rfl ?_)
  have out : Ev (fun k => L03_RoundRises.j0 k w true s h l e m) true := Ev.step (fun _ => L03_RoundRises.j0.eq_2 ..) (Ev.pos rfl (Ev.out rfl))
  have main : (w = 32 ∨ w = 64) → ¬ e < -1073741824 → Ev (fun k => L03_RoundRises.j0 k w (decide (e > 1073741824)) s h l e m) true := by
    intro hw c1
    by_cases c2 : e > 1073741824
    · rw [decide_eq_true c2]; exact out
    · rw [decide_eq_false c2]
      refine Ev.step (fun _ => L03_RoundRises.j0.eq_2 ..) (Ev.neg (by decide) ?_)
      have V := wn_lt hh hl
      have d := addW h l 0 1 hh hl (by decide) (by decide)
      rw [show wn 0 1 = 1 by decide] at d
      have p1 := packF w hw h l hh hl e m
      have p2 := packF w hw h l hh hl (e + 1) m
      rw [w64_id (n := e + 1) (by omega) (by omega)]
      have m1 := (fmt w).rnd_mono (pkx_e (wn h l) e m)
      refine Ev.bs p1 (Ev.bs p2 (Ev.neg (by omega) (Ev.bs (show wide_Of.f 1 = some (0, 1) from rfl) (Ev.bs d ?_))))
      simp only
      by_cases c3 : (wn h l + 1) % 340282366920938463463374607431768211456 = 0
      · rw [c3]; exact Ev.pos rfl (Ev.out rfl)
      · have hX : (wn h l + 1) % 340282366920938463463374607431768211456 = wn h l + 1 := by omega
        rw [hX]
        have p3 := packF w hw ((wn h l + 1) / 18446744073709551616) ((wn h l + 1) % 18446744073709551616) (by omega) (by omega) e m
        rw [wn_div] at p3
        have m2 := (fmt w).rnd_mono (pkx_s (show wn h l ≤ wn h l + 1 by omega) e m)
        refine Ev.neg ?_ (Ev.bs p3 (Ev.out ?_))
        · rw [Bool.and_eq_true, beq_iff_eq, beq_iff_eq]; omega
        · rw [decide_eq_true]; omega
  by_cases a : w = 32
  · refine Ev.pos a ?_
    by_cases c1 : e < -1073741824
    · exact Ev.pos c1 out
    · exact Ev.neg c1 (main (.inl a) c1)
  · refine Ev.neg a ?_
    by_cases b : w = 64
    · refine Ev.pos b ?_
      by_cases c1 : e < -1073741824
      · exact Ev.pos c1 out
      · exact Ev.neg c1 (main (.inr b) c1)
    · exact Ev.neg b out
end Go.Proofs.Ytbpmnmceajmmcaa.Th
end
namespace Go.Proofs.Ytbpmnmceajmmcaa.Pure
theorem RoundRises : Go.Proofs.Ytbpmnmceajmmcaa.PA.L03_RoundRises.Pure := Go.Proofs.Ytbpmnmceajmmcaa.Th.RoundRisesP
end Go.Proofs.Ytbpmnmceajmmcaa.Pure
namespace Go.Proofs.Ytbpmnmceajmmcaa.Facts
abbrev ch (n : Nat) : Char := Char.ofNat n
theorem words_word (w : List Char) (r : List Char) (h : w.all (fun c => c != ch 32) = true) : wordsSigns (w ++ ch 32 :: r) = w :: wordsSigns r := by
  induction w with
  | nil => rfl
  | cons c w ih =>
    rw [List.all_cons, Bool.and_eq_true] at h
    have hc : c ≠ ch 32 := bne_iff_ne.1 h.1
    rw [List.cons_append]
    rw [wordsSigns.eq_3 c _ (fun e => hc e), ih h.2]
def w1 : List Char := [ch 104, ch 97, ch 114, ch 110, ch 101, ch 115, ch 115]
def w2 : List Char := [ch 97, ch 57, ch 99, ch 102, ch 100, ch 53, ch 99, ch 57, ch 100, ch 54, ch 48, ch 56, ch 102, ch 100, ch 52, ch 54, ch 54, ch 52, ch 54, ch 53, ch 57, ch 56, ch 53, ch 100, ch 57, ch 55, ch 54, ch 57, ch 102, ch 102, ch 100, ch 56, ch 53, ch 100, ch 49, ch 56, ch 54, ch 56, ch 53, ch 55, ch 54, ch 97, ch 49, ch 53, ch 100, ch 100, ch 56, ch 49, ch 54, ch 55, ch 99, ch 101, ch 56, ch 52, ch 54, ch 98, ch 102, ch 55, ch 57, ch 48, ch 52, ch 55, ch 56, ch 49]
def w3 : List Char := [ch 99, ch 117, ch 116]
set_option maxRecDepth 100000 in
def tailSigns : List Char := [ch 97, ch 116, ch 32, ch 116, ch 114, ch 117, ch 110, ch 110, ch 105, ch 111, ch 110, ch 47, ch 116, ch 114, ch 117, ch 110, ch 110, ch 105, ch 111, ch 110, ch 108, ch 97, ch 119, ch 48, ch 53, ch 46, ch 80, ch 114, ch 111, ch 100, ch 117, ch 99, ch 116, ch 84, ch 119, ch 105, ch 99, ch 101, ch 32, ch 116, ch 114, ch 117, ch 110, ch 110, ch 105, ch 111, ch 110, ch 47, ch 116, ch 114, ch 117, ch 110, ch 110, ch 105, ch 111, ch 110, ch 108, ch 97, ch 119, ch 48, ch 53, ch 46, ch 80, ch 114, ch 111, ch 100, ch 117, ch 99, ch 116, ch 83, ch 99, ch 97, ch 108, ch 101, ch 115, ch 32, ch 116, ch 114, ch 117, ch 110, ch 110, ch 105, ch 111, ch 110, ch 47, ch 116, ch 114, ch 117, ch 110, ch 110, ch 105, ch 111, ch 110, ch 108, ch 97, ch 119, ch 48, ch 54, ch 46, ch 81, ch 117, ch 111, ch 116, ch 105, ch 101, ch 110, ch 116, ch 68, ch 105, ch 118, ch 115, ch 32, ch 116, ch 114, ch 117, ch 110, ch 110, ch 105, ch 111, ch 110, ch 47, ch 116, ch 114, ch 117, ch 110, ch 110, ch 105, ch 111, ch 110, ch 108, ch 97, ch 119, ch 48, ch 54, ch 46, ch 81, ch 117, ch 111, ch 116, ch 105, ch 101, ch 110, ch 116, ch 75, ch 101, ch 101, ch 112, ch 115, ch 32, ch 116, ch 114, ch 117, ch 110, ch 110, ch 105, ch 111, ch 110, ch 47, ch 116, ch 114, ch 117, ch 110, ch 110, ch 105, ch 111, ch 110, ch 108, ch 97, ch 119, ch 48, ch 54, ch 46, ch 81, ch 117, ch 111, ch 116, ch 105, ch 101, ch 110, ch 116, ch 83, ch 99, ch 97, ch 108, ch 101, ch 32, ch 116, ch 114, ch 117, ch 110, ch 110, ch 105, ch 111, ch 110, ch 47, ch 116, ch 114, ch 117, ch 110, ch 110, ch 105, ch 111, ch 110, ch 108, ch 97, ch 119, ch 48, ch 51, ch 46, ch 82, ch 111, ch 117, ch 110, ch 100, ch 80, ch 97, ch 99, ch 107, ch 115, ch 32, ch 116, ch 114, ch 117, ch 110, ch 110, ch 105, ch 111, ch 110, ch 47, ch 116, ch 114, ch 117, ch 110, ch 110, ch 105, ch 111, ch 110, ch 108, ch 97, ch 119, ch 48, ch 51, ch 46, ch 82, ch 111, ch 117, ch 110, ch 100, ch 82, ch 105, ch 115, ch 101, ch 115, ch 32, ch 116, ch 114, ch 117, ch 110, ch 110, ch 105, ch 111, ch 110, ch 47, ch 116, ch 114, ch 117, ch 110, ch 110, ch 105, ch 111, ch 110, ch 108, ch 97, ch 119, ch 48, ch 51, ch 46, ch 82, ch 111, ch 117, ch 110, ch 100, ch 75, ch 101, ch 101, ch 112, ch 115, ch 32, ch 116, ch 114, ch 117, ch 110, ch 110, ch 105, ch 111, ch 110, ch 47, ch 116, ch 114, ch 117, ch 110, ch 110, ch 105, ch 111, ch 110, ch 108, ch 97, ch 119, ch 48, ch 52, ch 46, ch 83, ch 117, ch 109, ch 65, ch 100, ch 100, ch 115, ch 32, ch 116, ch 114, ch 117, ch 110, ch 110, ch 105, ch 111, ch 110, ch 47, ch 116, ch 114, ch 117, ch 110, ch 110, ch 105, ch 111, ch 110, ch 108, ch 97, ch 119, ch 48, ch 52, ch 46, ch 83, ch 117, ch 109, ch 79, ch 114, ch 100, ch 101, ch 114, ch 32, ch 116, ch 114, ch 117, ch 110, ch 110, ch 105, ch 111, ch 110, ch 47, ch 116, ch 114, ch 117, ch 110, ch 110, ch 105, ch 111, ch 110, ch 108, ch 97, ch 119, ch 48, ch 52, ch 46, ch 83, ch 117, ch 109, ch 67, ch 108, ch 111, ch 115, ch 101, ch 32, ch 116, ch 114, ch 117, ch 110, ch 110, ch 105, ch 111, ch 110, ch 47, ch 116, ch 114, ch 117, ch 110, ch 110, ch 105, ch 111, ch 110, ch 108, ch 97, ch 119, ch 48, ch 52, ch 46, ch 83, ch 117, ch 109, ch 84, ch 111, ch 116, ch 97, ch 108, ch 115]
set_option maxRecDepth 100000 in
theorem head_list : Try.prog.initOrder.toList = w1 ++ ch 32 :: (w2 ++ ch 32 :: (w3 ++ ch 32 :: tailSigns)) :=
  (congrArg String.toList (show Try.prog.initOrder = String.ofList (w1 ++ ch 32 :: (w2 ++ ch 32 :: (w3 ++ ch 32 :: tailSigns))) from rfl)).trans String.toList_ofList
theorem words : ∃ rest, behindMainWord (wordsSigns Try.prog.initOrder.toList) = w3 :: rest := by
  refine ⟨wordsSigns tailSigns, ?_⟩
  rw [head_list, words_word w1 _ (by kernel_rfl), words_word w2 _ (by kernel_rfl), words_word w3 _ (by kernel_rfl)]
  generalize wordsSigns tailSigns = rest
  have e : ((w1 == "harness".toList || w1 == "ownmain".toList) && isSumSigns w2) = true := by kernel_rfl
  show (if ((w1 == "harness".toList || w1 == "ownmain".toList) && isSumSigns w2) = true then w3 :: rest else w1 :: w2 :: w3 :: rest) = w3 :: rest
  rw [if_pos e]
theorem c3 : (w3 == "gc".toList) = false ∧ (w3 == "spec".toList) = false ∧ (w3 == "cut".toList) = true ∧ (w3 == "carried".toList) = false ∧ (w3 == "finals".toList) = false := ⟨by kernel_rfl, by kernel_rfl, by kernel_rfl, by kernel_rfl, by kernel_rfl⟩
theorem strip (rest : List (List Char)) : stripLifts liftWords (w3 :: rest) = ([], w3 :: rest) := by
  have key : ∀ l : List String, l.all (fun o => !(w3 == o.toList)) = true → stripLifts l (w3 :: rest) = ([], w3 :: rest) := by
    intro l
    induction l with
    | nil => intro _; rfl
    | cons o l ih =>
      intro h
      rw [List.all_cons, Bool.and_eq_true] at h
      unfold stripLifts
      rw [if_neg (fun e => by have h1 := h.1; rw [e] at h1; cases h1)]
      exact ih h.2
  exact key liftWords (by kernel_rfl)
theorem make_of (P : Program) (h : ∃ rest, behindMainWord (wordsSigns P.initOrder.toList) = w3 :: rest) : P.make = some .cut := by
  obtain ⟨rest, h⟩ := h
  unfold Program.make
  rw [h]
  show (if (w3 == "gc".toList || w3 == "spec".toList) = true then some Make.whole else if (w3 == "cut".toList || (w3 == "finals".toList && rest.head? == some "cut".toList)) = true then some Make.cut else _) = some Make.cut
  rw [if_neg (by rw [c3.1, c3.2.1]; decide), if_pos (by rw [c3.2.2.1, Bool.true_or])]
set_option maxRecDepth 100000 in
theorem liftsFact : Try.prog.liftsFinal = false := by
  unfold Program.liftsFinal Program.headLifts
  rw [head_list]
  kernel_rfl
theorem doorFact : (!Try.prog.laysLater && !Try.prog.bearsReflect && Try.prog.doorFits []) = true := by kernel_rfl
theorem makeFact : Try.prog.make = some .cut := make_of _ words
theorem enter_of (P : Program) (h : ∃ rest, behindMainWord (wordsSigns P.initOrder.toList) = w3 :: rest) (d : (!P.laysLater && !P.bearsReflect && P.doorFits []) = true) : P.mayEnter = true := by
  obtain ⟨rest, h⟩ := h
  rw [Bool.and_eq_true, Bool.and_eq_true] at d
  have e : ((some w3 == some "cut".toList) : Bool) = true := by kernel_rfl
  unfold Program.mayEnter
  rw [h]
  show ((_ || _) || ((stripLifts liftWords (w3 :: rest)).2.head? == some "cut".toList && ((stripLifts liftWords (w3 :: rest)).1.contains "finals" || !P.laysLater) && ((stripLifts liftWords (w3 :: rest)).1.contains "reflectrows" || !P.bearsReflect) &&
      ((stripLifts liftWords (w3 :: rest)).1.contains "reflectrows" || !(stripLifts liftWords (w3 :: rest)).1.contains "leanrows") && P.doorFits (stripLifts liftWords (w3 :: rest)).1)) = true
  rw [strip, Bool.or_eq_true]
  refine .inr ?_
  rw [Bool.and_eq_true, Bool.and_eq_true, Bool.and_eq_true, Bool.and_eq_true, Bool.or_eq_true, Bool.or_eq_true]
  exact ⟨⟨⟨⟨e, .inr d.1.1⟩, .inr d.1.2⟩, rfl⟩, d.2⟩
theorem enterFact : Try.prog.mayEnter = true := enter_of _ words doorFact
end Go.Proofs.Ytbpmnmceajmmcaa.Facts
/- How a value of a struct with a struct in it reads as data, and back: trunnionlaw03.Number. -/
namespace Go.Proofs.Ytbpmnmceajmmcaa.NumS
open Go.ChangeShapes Go.WideShapes Go.ChangeAt Go.RowKit Go.Joins
section
variable {H : Type} {enc : TypeId × Value → H} {P : Program} {w : World} {base : Nat} {spare : Nat → Bool} {held : Bool}
theorem array5 {α : Type} {cs : Array α} (h : cs.size = 5) : ∃ c0 c1 c2 c3 c4, cs = #[c0, c1, c2, c3, c4] := by
  obtain ⟨l⟩ := cs
  match l, h with
  | [c0, c1, c2, c3, c4], _ => exact ⟨c0, c1, c2, c3, c4, rfl⟩
structure Nest (P : Program) (t : TypeId) (f0 f1 f2 f3 g0 g1 : Field) : Prop where
  hs : P.underlying t = some (.struct #[f0, f1, f2, f3])
  hw : P.underlying f1.type = some (.struct #[g0, g1])
  o : f0.offset = 0 ∧ f1.offset = 1 ∧ f2.offset = 3 ∧ f3.offset = 4 ∧ g0.offset = 0 ∧ g1.offset = 1
  hC : P.cellsOf t = 5
  c0 : P.cellsOf f0.type = 1
  c1 : P.cellsOf f1.type = 2
  c2 : P.cellsOf f2.type = 1
  c3 : P.cellsOf f3.type = 1
  d0 : P.cellsOf g0.type = 1
  d1 : P.cellsOf g1.type = 1
theorem opn {r : Reach} {b0 : Nat} {t : TypeId} {f0 f1 f2 f3 g0 g1 : Field} (N : Nest P t f0 f1 f2 f3 g0 g1) {v : Value} {d : DataW H} {p : List MemPlace} (hv : Value.okWide P w r b0 t v) (h : DataW.Trod enc P w base spare held t v d p) :
    ∃ (v0 v1 v2 v3 v4 : Value) (y0 z0 z1 y2 y3 : DataW H × List MemPlace) (n : Nat), v = .agg #[v0, v1, v2, v3, v4] ∧ d = .agg [y0.1, .agg [z0.1, z1.1], y2.1, y3.1] ∧ p = y0.2 ++ ((z0.2 ++ z1.2) ++ (y2.2 ++ y3.2)) ∧
      DataW.trod enc P w base spare held n f0.type [v0] = some y0 ∧ (∃ m, DataW.trod enc P w base spare held m g0.type [v1] = some z0 ∧ DataW.trod enc P w base spare held m g1.type [v2] = some z1) ∧ DataW.trod enc P w base spare held n f2.type [v3] = some y2 ∧ DataW.trod enc P w base spare held n f3.type [v4] = some y3 := by
  obtain ⟨hs, hw, ⟨o0, o1, o2, o3, o4, o5⟩, hC, c0, c1, c2, c3, d0, d1⟩ := N
  obtain ⟨cs, rfl, hsz⟩ := okWide_struct hs hv
  obtain ⟨v0, v1, v2, v3, v4, rfl⟩ := array5 (hsz.trans hC)
  obtain ⟨fuel, hf⟩ := h
  obtain ⟨y0, y1, y2, y3, n, hx, _, h0, h1, h2, h3⟩ := trod_struct4 hs hf
  have k1 : DataW.trod enc P w base spare held n f1.type [v1, v2] = some y1 := by simpa [Value.cells, o1, c1] using h1
  obtain ⟨z0, z1, m, hx1, _, i0, i1⟩ := trod_struct2 hw k1
  simp only [Prod.mk.injEq] at hx
  subst hx1
  exact ⟨v0, v1, v2, v3, v4, y0, z0, z1, y2, y3, n, rfl, hx.1, hx.2, by simpa [Value.cells, o0, c0] using h0, ⟨m, by simpa [o4, d0] using i0, by simpa [o5, d1] using i1⟩, by simpa [Value.cells, o2, c2] using h2, by simpa [Value.cells, o3, c3] using h3⟩
theorem sht {t : TypeId} {f0 f1 f2 f3 g0 g1 : Field} (N : Nest P t f0 f1 f2 f3 g0 g1) {v0 v1 v2 v3 v4 : Value} {y0 z0 z1 y2 y3 : DataW H × List MemPlace} 
    (t0 : DataW.trod enc P w base spare held 2 f0.type [v0] = some y0) (s0 : DataW.trod enc P w base spare held 1 g0.type [v1] = some z0) (s1 : DataW.trod enc P w base spare held 1 g1.type [v2] = some z1) (t2 : DataW.trod enc P w base spare held 2 f2.type [v3] = some y2) (t3 : DataW.trod enc P w base spare held 2 f3.type [v4] = some y3) :
    DataW.Trod enc P w base spare held t (.agg #[v0, v1, v2, v3, v4]) (.agg [y0.1, .agg [z0.1, z1.1], y2.1, y3.1]) (y0.2 ++ ((z0.2 ++ z1.2) ++ (y2.2 ++ y3.2))) := by
  obtain ⟨hs, hw, ⟨o0, o1, o2, o3, o4, o5⟩, hC, c0, c1, c2, c3, d0, d1⟩ := N
  have tt := trod_struct2_mk (enc := enc) (w := w) (base := base) (spare := spare) (held := held) (n := 1) (cs := [v1, v2]) (y0 := z0) (y1 := z1) hw (by simp [c1]) (by simpa [o4, d0] using s0) (by simpa [o5, d1] using s1)
  have ts := trod_struct4_mk (enc := enc) (w := w) (base := base) (spare := spare) (held := held) (n := 2) (cs := [v0, v1, v2, v3, v4]) (y0 := y0) (y1 := (.agg [z0.1, z1.1], z0.2 ++ z1.2)) (y2 := y2) (y3 := y3) hs (by simp [hC])
    (by simpa [o0, c0] using t0) (by simpa [o1, c1] using tt) (by simpa [o2, c2] using t2) (by simpa [o3, c3] using t3)
  exact ⟨_, by simpa [Value.cells] using ts⟩
end
end Go.Proofs.Ytbpmnmceajmmcaa.NumS
