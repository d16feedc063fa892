/- What the Go functions that the statement RadixRoots reaches compute, and the mathematics on it, in the order in which one leans on the other; for every input. -/
import Derived.Test.YtjjehbedpgdhgaaVRadixRoots0
import Derived.Test.YtjjehbedpgdhgaaMRadixRoots0
import Derived.Test.YtjjehbedpgdhgaaMRadixRoots8
import Derived.Test.YtjjehbedpgdhgaaMRadixRoots7
import Derived.Test.YtjjehbedpgdhgaaMRadixRoots3
import Derived.Test.YtjjehbedpgdhgaaMRadixRoots6
import Derived.Test.YtjjehbedpgdhgaaMRadixRoots2
import Derived.Test.YtjjehbedpgdhgaaMRadixRoots1
import Derived.Test.YtjjehbedpgdhgaaMRadixRoots5
import Derived.Deep.RegionHeld3
import Derived.Test.YtjjehbedpgdhgaaMRadixRoots4
import Derived.Test.YtjjehbedpgdhgaaRows
import Derived.ProofKit
import Derived.JoinedOf
import Derived.KernelRfl
namespace Go.Proofs.Ytjjehbedpgdhgaa.PA
open Go.RowKit Go.Proofs.YtjjehbedpgdhgaaW.PrintWords Go.Proofs.YtjjehbedpgdhgaaW.PrintLast Go.Proofs.YtjjehbedpgdhgaaW.PrintMore
attribute [local go_sem] max2_int min2_int max_two min_two max_three min_three max_four min_four   -- for this text's walks alone
set_option linter.unusedVariables false
set_option linter.unusedSimpArgs false
set_option maxHeartbeats 8000000
set_option maxRecDepth 100000
mutual
def r7_Sqrt.j0 : Nat → Int → Bool → Bool → Int → Int → Int → Option (Int)
 | 0, _, _, _, _, _, _ => none
 | k + 1, x0, x26, x357000, x357001, x357002, x357003 => if x26 = true then ((r2_Nan.f k x0).bind fun t358 => (some t358)) else (if x357001 = 2 then ((r2_Inf.f k x0 false).bind fun t359 => (some t359)) else ((r2_Inf.f k x0 false).bind fun t360 => (r7_Sqrt.l0 k x0 0 (IntKind.u64.wrap (t360 - 1)) x357000 x357001 x357002 x357003)))
def r7_Sqrt.l0 : Nat → Int → Int → Int → Bool → Int → Int → Int → Option (Int)
 | 0, _, _, _, _, _, _, _ => none
 | k + 1, x0, x6, x7, x357000, x357001, x357002, x357003 => if x6 < x7 then ((r7_side.f k x0 (IntKind.u64.wrap (x6 + (IntKind.u64.wrap (Int.tdiv (IntKind.u64.wrap (x7 - x6)) 2)))) x357000 x357001 x357002 x357003).bind fun t361 => (if t361 > 0 then (r7_Sqrt.l0 k x0 (IntKind.u64.wrap ((IntKind.u64.wrap (x6 + (IntKind.u64.wrap (Int.tdiv (IntKind.u64.wrap (x7 - x6)) 2)))) + 1)) x7 x357000 x357001 x357002 x357003) else (if t361 = 0 then (if (Int.tmod (IntKind.u64.wrap (x6 + (IntKind.u64.wrap (Int.tdiv (IntKind.u64.wrap (x7 - x6)) 2)))) 2) = 1 then (r7_Sqrt.l0 k x0 (IntKind.u64.wrap ((IntKind.u64.wrap (x6 + (IntKind.u64.wrap (Int.tdiv (IntKind.u64.wrap (x7 - x6)) 2)))) + 1)) x7 x357000 x357001 x357002 x357003) else (r7_Sqrt.l0 k x0 x6 (IntKind.u64.wrap (x6 + (IntKind.u64.wrap (Int.tdiv (IntKind.u64.wrap (x7 - x6)) 2)))) x357000 x357001 x357002 x357003)) else (r7_Sqrt.l0 k x0 x6 (IntKind.u64.wrap (x6 + (IntKind.u64.wrap (Int.tdiv (IntKind.u64.wrap (x7 - x6)) 2)))) x357000 x357001 x357002 x357003)))) else (some x6)
end
def r7_Sqrt.f (k : Nat) (a0 : Int) (a1 : Int) : Option (Int) := (r2_Open.f k a0 a1).bind fun bt352 => (if bt352.2.1 = 0 then ((r2_Make.f k a0 bt352.1 0 0).bind fun t357 => (some t357)) else (if bt352.2.1 = 3 then (r7_Sqrt.j0 k a0 true bt352.1 bt352.2.1 bt352.2.2.1 bt352.2.2.2) else (r7_Sqrt.j0 k a0 bt352.1 bt352.1 bt352.2.1 bt352.2.2.1 bt352.2.2.2)))
theorem r7_Sqrt.mono_l : ∀ k, (∀ y0 y1 y2 y3 y4 y5, LeO (r7_Sqrt.j0 k y0 y1 y2 y3 y4 y5) (r7_Sqrt.j0 (k + 1) y0 y1 y2 y3 y4 y5)) ∧ (∀ y0 y1 y2 y3 y4 y5 y6, LeO (r7_Sqrt.l0 k y0 y1 y2 y3 y4 y5 y6) (r7_Sqrt.l0 (k + 1) y0 y1 y2 y3 y4 y5 y6))
 | 0 => ⟨fun _ _ _ _ _ _ r h => by simp [r7_Sqrt.j0] at h, fun _ _ _ _ _ _ _ r h => by simp [r7_Sqrt.l0] at h⟩
 | k + 1 => by
  obtain ⟨ih0, ih1⟩ := r7_Sqrt.mono_l k
  refine ⟨?_, ?_⟩
  ·intro y0 y1 y2 y3 y4 y5
   unfold r7_Sqrt.j0
   repeat' first
   | (with_reducible exact ih0 _ _ _ _ _ _)
   | (with_reducible exact ih1 _ _ _ _ _ _ _)
   | (with_reducible exact r2_Inf.mono _ _ _)
   | (with_reducible exact r2_Make.mono _ _ _ _ _)
   | (with_reducible exact r2_Nan.mono _ _)
   | (with_reducible exact r2_Open.mono _ _ _)
   | (with_reducible exact r7_side.mono _ _ _ _ _ _ _)
   | (with_reducible exact LeO.refl _)
   | (with_reducible exact LeO.none _)
   | (with_reducible refine LeO.ite ?_ ?_)
   | (with_reducible refine LeO.bind ?_ (fun _ => ?_))
   | exact ih0 _ _ _ _ _ _
   | exact ih1 _ _ _ _ _ _ _
   | exact r2_Inf.mono _ _ _
   | exact r2_Make.mono _ _ _ _ _
   | exact r2_Nan.mono _ _
   | exact r2_Open.mono _ _ _
   | exact r7_side.mono _ _ _ _ _ _ _
   | exact LeO.none _
   | refine LeO.ite ?_ ?_
   | refine LeO.bind ?_ (fun _ => ?_)
  ·intro y0 y1 y2 y3 y4 y5 y6
   unfold r7_Sqrt.l0
   repeat' first
   | (with_reducible exact ih0 _ _ _ _ _ _)
   | (with_reducible exact ih1 _ _ _ _ _ _ _)
   | (with_reducible exact r2_Inf.mono _ _ _)
   | (with_reducible exact r2_Make.mono _ _ _ _ _)
   | (with_reducible exact r2_Nan.mono _ _)
   | (with_reducible exact r2_Open.mono _ _ _)
   | (with_reducible exact r7_side.mono _ _ _ _ _ _ _)
   | (with_reducible exact LeO.refl _)
   | (with_reducible exact LeO.none _)
   | (with_reducible refine LeO.ite ?_ ?_)
   | (with_reducible refine LeO.bind ?_ (fun _ => ?_))
   | exact ih0 _ _ _ _ _ _
   | exact ih1 _ _ _ _ _ _ _
   | exact r2_Inf.mono _ _ _
   | exact r2_Make.mono _ _ _ _ _
   | exact r2_Nan.mono _ _
   | exact r2_Open.mono _ _ _
   | exact r7_side.mono _ _ _ _ _ _ _
   | exact LeO.none _
   | refine LeO.ite ?_ ?_
   | refine LeO.bind ?_ (fun _ => ?_)
theorem r7_Sqrt.mono : ∀ a0 a1 k, LeO (r7_Sqrt.f k a0 a1) (r7_Sqrt.f (k + 1) a0 a1) := by
 intro a0 a1 k
 obtain ⟨ih0, ih1⟩ := r7_Sqrt.mono_l k
 unfold r7_Sqrt.f
 repeat' first
   | (with_reducible exact ih0 _ _ _ _ _ _)
   | (with_reducible exact ih1 _ _ _ _ _ _ _)
   | (with_reducible exact r2_Inf.mono _ _ _)
   | (with_reducible exact r2_Make.mono _ _ _ _ _)
   | (with_reducible exact r2_Nan.mono _ _)
   | (with_reducible exact r2_Open.mono _ _ _)
   | (with_reducible exact r7_side.mono _ _ _ _ _ _ _)
   | (with_reducible exact LeO.refl _)
   | (with_reducible exact LeO.none _)
   | (with_reducible refine LeO.ite ?_ ?_)
   | (with_reducible refine LeO.bind ?_ (fun _ => ?_))
   | exact ih0 _ _ _ _ _ _
   | exact ih1 _ _ _ _ _ _ _
   | exact r2_Inf.mono _ _ _
   | exact r2_Make.mono _ _ _ _ _
   | exact r2_Nan.mono _ _
   | exact r2_Open.mono _ _ _
   | exact r7_side.mono _ _ _ _ _ _ _
   | exact LeO.none _
   | refine LeO.ite ?_ ?_
   | refine LeO.bind ?_ (fun _ => ?_)
theorem r7_Sqrt.calls (k : Nat) (a0 : Int) (a1 : Int) (r : Int) (w : World) (h : r7_Sqrt.f k a0 a1 = some r) :
  Calls Try.prog 11 #[.int .i64 a0, .int .u64 a1] w fun e w' => e = .returned (.int .u64 r) ∧ Below w.heap.size w w' := by
 have hu67 := Try.underlying67
 have HB := A_ (Below.refl w.heap.size w)
 have H : ((r2_Open.f k a0 a1).bind fun bt352 => (if bt352.2.1 = 0 then ((r2_Make.f k a0 bt352.1 0 0).bind fun t357 => (some t357)) else (if bt352.2.1 = 3 then (r7_Sqrt.j0 k a0 true bt352.1 bt352.2.1 bt352.2.2.1 bt352.2.2.2) else (r7_Sqrt.j0 k a0 bt352.1 bt352.1 bt352.2.1 bt352.2.2.1 bt352.2.2.2)))) = some r := h
 clear h
 replace H := ob_ H
 obtain ⟨⟨t352, t353, t354, t355⟩, A30, H⟩ := H
 replace H : (if t353 = 0 then ((r2_Make.f k a0 t352 0 0).bind fun t357 => (some t357)) else (if t353 = 3 then (r7_Sqrt.j0 k a0 true t352 t353 t354 t355) else (r7_Sqrt.j0 k a0 t352 t352 t353 t354 t355))) = some r := H
 have A3 := A_ A30;clear A30
 by_cases c4 : t353 = 0
 ·rw [if_pos c4] at H
  have c4b0 : (t353 == 0) = true := beq_iff_eq.mpr c4
  have c4b1 : (t353 != 0) = false := bne_eq_false_iff_eq.mpr c4
  clear c4
  replace H := ob_ H
  obtain ⟨t357, A50, H⟩ := H
  replace H : (some t357) = some r := H
  have A5 := A_ A50;clear A50
  obtain rfl := Option.some.inj H
  go_enter Try.func11, Try.ntmps11
  go_wp2_with (first | ((with_reducible refine gate_callee (f := 46) rfl ?_); refine gl_ (some 12) Try.func46 #[.int .i64 a0, .int .u64 a1] ?_; (with_reducible refine (r2_Open.calls k a0 a1 t352 t353 t354 t355 _ A3.out).mono ?_); rintro e w6 ⟨rfl, hb⟩; refine ⟨_, rfl, ?_⟩; replace HB := A_ (below_step (hb_ HB.out) hb); (try clear hb); (try clear hb2); (try clear hk); (try clear hi)) | ((with_reducible refine gate_dst (N := 5) rfl ?_); refine be_ 5 #[.bool false, .int .i64 0, .int .i64 0, .int .u64 0] 67 ?_; intro gb356 hg w7 hbox hb; have BK356 := A_ (hbox); have GW356 := A_ (sz_ hg (hb_ HB.out)); have GE356 := A_ (sz_ hg (hb_ HB.out)); replace HB := A_ (below_step (hb_ HB.out) hb); clear hb hbox hg; have hcz8_0 := bv_ BK356.out 0; have hcz8_1 := bv_ BK356.out 1; have hcz8_2 := bv_ BK356.out 2; have hcz8_3 := bv_ BK356.out 3; have hfz8_0 := blk_frozen BK356.out 0; have hfz8_1 := blk_frozen BK356.out 1; have hfz8_2 := blk_frozen BK356.out 2; have hfz8_3 := blk_frozen BK356.out 3) | ((with_reducible refine gate_callee (f := 47) rfl ?_); refine gl_ (some 19) Try.func47 #[.int .i64 a0, .bool t352, .int .i64 0, .int .u64 0] ?_; (with_reducible refine (r2_Make.calls k a0 t352 0 0 t357 _ A5.out).mono ?_); rintro e w' ⟨rfl, ⟨nd, rfl⟩⟩; refine ⟨_, rfl, ?_⟩))
  go_ret
  exact ⟨er_, hb1_ HB.out GE356.out⟩
 ·rw [if_neg c4] at H
  have c4b0 : (t353 == 0) = false := beq_eq_false_iff_ne.mpr c4
  have c4b1 : (t353 != 0) = true := bne_iff_ne.mpr c4
  have HC9 := A_ H;clear H
  go_enter Try.func11, Try.ntmps11
  go_upto_region 4 with (first | ((with_reducible refine gate_callee (f := 46) rfl ?_); refine gl_ (some 12) Try.func46 #[.int .i64 a0, .int .u64 a1] ?_; (with_reducible refine (r2_Open.calls k a0 a1 t352 t353 t354 t355 _ A3.out).mono ?_); rintro e w10 ⟨rfl, hb⟩; refine ⟨_, rfl, ?_⟩; replace HB := A_ (below_step (hb_ HB.out) hb); (try clear hb); (try clear hb2); (try clear hk); (try clear hi)) | ((with_reducible refine gate_dst (N := 5) rfl ?_); refine be_ 5 #[.bool false, .int .i64 0, .int .i64 0, .int .u64 0] 67 ?_; intro gb356 hg w11 hbox hb; have BK356 := A_ (hbox); have GW356 := A_ (sz_ hg (hb_ HB.out)); have GE356 := A_ (sz_ hg (hb_ HB.out)); replace HB := A_ (below_step (hb_ HB.out) hb); clear hb hbox hg; have hcz12_0 := bv_ BK356.out 0; have hcz12_1 := bv_ BK356.out 1; have hcz12_2 := bv_ BK356.out 2; have hcz12_3 := bv_ BK356.out 3; have hfz12_0 := blk_frozen BK356.out 0; have hfz12_1 := blk_frozen BK356.out 1; have hfz12_2 := blk_frozen BK356.out 2; have hfz12_3 := blk_frozen BK356.out 3))
  (try simp only [Act.put, lI_, l0_, lS_])
  go_cut [26] (fun v26 wc => ∃ (kq : Nat) (x26_8 : Bool), v26 = .bool x26_8 ∧ Aside0 (r7_Sqrt.j0 kq a0 x26_8 t352 t353 t354 t355 = some r) ∧ Aside0 (kq ≤ k) ∧ Aside0 (wc.heap[gb356]? = some (.cells #[.bool t352, .int .i64 t353, .int .i64 t354, .int .u64 t355] 67 (0, 0))) ∧ Aside0 (Below w.heap.size w wc))
  case first =>
   have H := HC9.out
   clear HC9
   by_cases c13 : t353 = 3
   ·rw [if_pos c13] at H
    have c13b0 : (t353 == 3) = true := beq_iff_eq.mpr c13
    have c13b1 : (t353 != 3) = false := bne_eq_false_iff_eq.mpr c13
    clear c13
    (first | rw [c13b0] | (simp only [i64_w, i32_w]; rw [c13b0]) | skip)
    have H' := A_ H
    clear H
    have hcz14_0 := bv_ BK356.out 0
    have hcz14_1 := bv_ BK356.out 1
    have hcz14_2 := bv_ BK356.out 2
    have hcz14_3 := bv_ BK356.out 3
    have hfz14_0 := blk_frozen BK356.out 0
    have hfz14_1 := blk_frozen BK356.out 1
    have hfz14_2 := blk_frozen BK356.out 2
    have hfz14_3 := blk_frozen BK356.out 3
    go_wp2
    go_meet
    case rel => exact ⟨_, (true), sm_, H', ⟨by first | omega | exact Nat.le_refl _⟩, ⟨by (with_reducible repeat (first | refine blk_drewN ?_ _ | refine blk_drew ?_ | refine blk_alloc ?_ _)); refine blk_put (cs := #[.bool t352, .int .i64 t353, .int .i64 t354, .int .u64 0]) ?_ 3 _ rfl; (with_reducible repeat (first | refine blk_drewN ?_ _ | refine blk_drew ?_ | refine blk_alloc ?_ _)); refine blk_put (cs := #[.bool t352, .int .i64 t353, .int .i64 0, .int .u64 0]) ?_ 2 _ rfl; (with_reducible repeat (first | refine blk_drewN ?_ _ | refine blk_drew ?_ | refine blk_alloc ?_ _)); refine blk_put (cs := #[.bool t352, .int .i64 0, .int .i64 0, .int .u64 0]) ?_ 1 _ rfl; (with_reducible repeat (first | refine blk_drewN ?_ _ | refine blk_drew ?_ | refine blk_alloc ?_ _)); refine blk_put (cs := #[.bool false, .int .i64 0, .int .i64 0, .int .u64 0]) ?_ 0 _ rfl; (with_reducible repeat (first | refine blk_drewN ?_ _ | refine blk_drew ?_ | refine blk_alloc ?_ _)); exact BK356.out⟩, ⟨hb1_ HB.out GE356.out⟩⟩
   ·rw [if_neg c13] at H
    have c13b0 : (t353 == 3) = false := beq_eq_false_iff_ne.mpr c13
    have c13b1 : (t353 != 3) = true := bne_iff_ne.mpr c13
    (first | rw [c13b0] | (simp only [i64_w, i32_w]; rw [c13b0]) | skip)
    have H' := A_ H
    clear H
    have hcz15_0 := bv_ BK356.out 0
    have hcz15_1 := bv_ BK356.out 1
    have hcz15_2 := bv_ BK356.out 2
    have hcz15_3 := bv_ BK356.out 3
    have hfz15_0 := blk_frozen BK356.out 0
    have hfz15_1 := blk_frozen BK356.out 1
    have hfz15_2 := blk_frozen BK356.out 2
    have hfz15_3 := blk_frozen BK356.out 3
    go_wp2
    go_meet
    case rel => exact ⟨_, (t352), sm_, H', ⟨by first | omega | exact Nat.le_refl _⟩, ⟨by (with_reducible repeat (first | refine blk_drewN ?_ _ | refine blk_drew ?_ | refine blk_alloc ?_ _)); refine blk_put (cs := #[.bool t352, .int .i64 t353, .int .i64 t354, .int .u64 0]) ?_ 3 _ rfl; (with_reducible repeat (first | refine blk_drewN ?_ _ | refine blk_drew ?_ | refine blk_alloc ?_ _)); refine blk_put (cs := #[.bool t352, .int .i64 t353, .int .i64 0, .int .u64 0]) ?_ 2 _ rfl; (with_reducible repeat (first | refine blk_drewN ?_ _ | refine blk_drew ?_ | refine blk_alloc ?_ _)); refine blk_put (cs := #[.bool t352, .int .i64 0, .int .i64 0, .int .u64 0]) ?_ 1 _ rfl; (with_reducible repeat (first | refine blk_drewN ?_ _ | refine blk_drew ?_ | refine blk_alloc ?_ _)); refine blk_put (cs := #[.bool false, .int .i64 0, .int .i64 0, .int .u64 0]) ?_ 0 _ rfl; (with_reducible repeat (first | refine blk_drewN ?_ _ | refine blk_drew ?_ | refine blk_alloc ?_ _)); exact BK356.out⟩, ⟨hb1_ HB.out GE356.out⟩⟩
  case rest =>
   clear HC9
   try clear c1
   try clear p2
   try clear c4
   try clear c4b0
   try clear c4b1
   try clear c11
   try clear c13
   try clear c13b0
   try clear c13b1
   try clear hcz12_0
   try clear hcz12_1
   try clear hcz12_2
   try clear hcz12_3
   try clear hcz14_0
   try clear hcz14_1
   try clear hcz14_2
   try clear hcz14_3
   try clear hcz15_0
   try clear hcz15_1
   try clear hcz15_2
   try clear hcz15_3
   try clear hcz8_0
   try clear hcz8_1
   try clear hcz8_2
   try clear hcz8_3
   try clear hfz12_0
   try clear hfz12_1
   try clear hfz12_2
   try clear hfz12_3
   try clear hfz14_0
   try clear hfz14_1
   try clear hfz14_2
   try clear hfz14_3
   try clear hfz15_0
   try clear hfz15_1
   try clear hfz15_2
   try clear hfz15_3
   try clear hfz8_0
   try clear hfz8_1
   try clear hfz8_2
   try clear hfz8_3
   obtain ⟨kq, x26_8, rfl, HA, HJ8, BK356, HB⟩ := hcut
   cases kq with
   | zero => exact absurd HA.out (by simp [r7_Sqrt.j0])
   | succ kj8 =>
    have H := HA.out
    clear HA
    simp only [r7_Sqrt.j0] at H
    by_cases c16 : x26_8 = true
    ·subst c16
     have H1 : ((r2_Nan.f kj8 a0).bind fun t358 => (some t358)) = some r := by rw [if_pos rfl] at H; exact H
     clear H;have H := H1;clear H1
     replace H := ob_ H
     obtain ⟨t358, A170, H⟩ := H
     replace H : (some t358) = some r := H
     have A17 := A_ A170;clear A170
     obtain rfl := Option.some.inj H
     go_wp2_with (first | ((with_reducible refine gate_callee (f := 48) rfl ?_); refine gl_ (some 28) Try.func48 #[.int .i64 a0] ?_; (with_reducible refine (r2_Nan.calls kj8 a0 t358 _ A17.out).mono ?_); rintro e w' ⟨rfl, ⟨nd, rfl⟩⟩; refine ⟨_, rfl, ?_⟩))
     go_ret
     exact ⟨er_, hb1_ HB.out GE356.out⟩
    ·replace c16 := Bool.eq_false_iff.mpr c16
     subst c16
     have H1 : (if t353 = 2 then ((r2_Inf.f kj8 a0 false).bind fun t359 => (some t359)) else ((r2_Inf.f kj8 a0 false).bind fun t360 => (r7_Sqrt.l0 kj8 a0 0 (IntKind.u64.wrap (t360 - 1)) t352 t353 t354 t355))) = some r := by rw [if_neg (show ¬ (false = true) by decide)] at H; exact H
     clear H;have H := H1;clear H1
     by_cases c18 : t353 = 2
     ·rw [if_pos c18] at H
      have c18b0 : (t353 == 2) = true := beq_iff_eq.mpr c18
      have c18b1 : (t353 != 2) = false := bne_eq_false_iff_eq.mpr c18
      clear c18
      replace H := ob_ H
      obtain ⟨t359, A190, H⟩ := H
      replace H : (some t359) = some r := H
      have A19 := A_ A190;clear A190
      obtain rfl := Option.some.inj H
      have hcz20_0 := bv_ BK356.out 0
      have hcz20_1 := bv_ BK356.out 1
      have hcz20_2 := bv_ BK356.out 2
      have hcz20_3 := bv_ BK356.out 3
      have hfz20_0 := blk_frozen BK356.out 0
      have hfz20_1 := blk_frozen BK356.out 1
      have hfz20_2 := blk_frozen BK356.out 2
      have hfz20_3 := blk_frozen BK356.out 3
      go_wp2_with (first | ((with_reducible refine gate_callee (f := 49) rfl ?_); refine gl_ (some 33) Try.func49 #[.int .i64 a0, .bool false] ?_; (with_reducible refine (r2_Inf.calls kj8 a0 false t359 _ A19.out).mono ?_); rintro e w' ⟨rfl, ⟨nd, rfl⟩⟩; refine ⟨_, rfl, ?_⟩))
      go_ret
      exact ⟨er_, hb1_ HB.out GE356.out⟩
     ·rw [if_neg c18] at H
      have c18b0 : (t353 == 2) = false := beq_eq_false_iff_ne.mpr c18
      have c18b1 : (t353 != 2) = true := bne_iff_ne.mpr c18
      replace H := ob_ H
      obtain ⟨t360, A210, H⟩ := H
      replace H : (r7_Sqrt.l0 kj8 a0 0 (IntKind.u64.wrap (t360 - 1)) t352 t353 t354 t355) = some r := H
      have A21 := A_ A210;clear A210
      have H' := A_ H
      clear H
      have hcz22_0 := bv_ BK356.out 0
      have hcz22_1 := bv_ BK356.out 1
      have hcz22_2 := bv_ BK356.out 2
      have hcz22_3 := bv_ BK356.out 3
      have hfz22_0 := blk_frozen BK356.out 0
      have hfz22_1 := blk_frozen BK356.out 1
      have hfz22_2 := blk_frozen BK356.out 2
      have hfz22_3 := blk_frozen BK356.out 3
      go_wp2_with (first | ((with_reducible refine gate_callee (f := 49) rfl ?_); refine gl_ (some 35) Try.func49 #[.int .i64 a0, .bool false] ?_; (with_reducible refine (r2_Inf.calls kj8 a0 false t360 _ A21.out).mono ?_); rintro e w' ⟨rfl, ⟨nd, rfl⟩⟩; refine ⟨_, rfl, ?_⟩))
      go_loopg [6, 7] kj8 (fun kq v6 v7 w' => ∃ (x6_2 : Int) (x7_2 : Int), v6 = .int .u64 x6_2 ∧ v7 = .int .u64 x7_2 ∧ Aside0 (r7_Sqrt.l0 kq a0 x6_2 x7_2 t352 t353 t354 t355 = some r) ∧ Aside0 (kq ≤ kj8) ∧ Aside0 (w'.heap[gb356]? = some (.cells #[.bool t352, .int .i64 t353, .int .i64 t354, .int .u64 t355] 67 (0, 0))) ∧ Aside0 (Below w.heap.size w w'))
      case atStart => exact ⟨(0), (IntKind.u64.wrap (t360 - 1)), sm_, sm_, H', ⟨Nat.le_refl _⟩, ⟨bk_ BK356.out⟩, ⟨hb1_ HB.out GE356.out⟩⟩
      case round =>
       clear H'
       try clear c1
       try clear p2
       try clear c4
       try clear c4b0
       try clear c4b1
       try clear c11
       try clear c13
       try clear c13b0
       try clear c13b1
       try clear c16
       try clear c18
       try clear c18b0
       try clear c18b1
       try clear hcz12_0
       try clear hcz12_1
       try clear hcz12_2
       try clear hcz12_3
       try clear hcz14_0
       try clear hcz14_1
       try clear hcz14_2
       try clear hcz14_3
       try clear hcz15_0
       try clear hcz15_1
       try clear hcz15_2
       try clear hcz15_3
       try clear hcz20_0
       try clear hcz20_1
       try clear hcz20_2
       try clear hcz20_3
       try clear hcz22_0
       try clear hcz22_1
       try clear hcz22_2
       try clear hcz22_3
       try clear hcz8_0
       try clear hcz8_1
       try clear hcz8_2
       try clear hcz8_3
       try clear hfz12_0
       try clear hfz12_1
       try clear hfz12_2
       try clear hfz12_3
       try clear hfz14_0
       try clear hfz14_1
       try clear hfz14_2
       try clear hfz14_3
       try clear hfz15_0
       try clear hfz15_1
       try clear hfz15_2
       try clear hfz15_3
       try clear hfz20_0
       try clear hfz20_1
       try clear hfz20_2
       try clear hfz20_3
       try clear hfz22_0
       try clear hfz22_1
       try clear hfz22_2
       try clear hfz22_3
       try clear hfz8_0
       try clear hfz8_1
       try clear hfz8_2
       try clear hfz8_3
       try clear p2
       obtain ⟨x6_2, x7_2, rfl, rfl, HA, HK2, BK356, HB⟩ := hrel
       cases gk with
       | zero => exact absurd HA.out (by simp [r7_Sqrt.l0])
       | succ k2 =>
        have H := HA.out
        clear HA
        simp only [r7_Sqrt.l0] at H
        by_cases c23 : x6_2 < x7_2
        ·rw [if_pos c23] at H
         have c23b0 : decide (x6_2 < x7_2) = true := decide_eq_true c23
         clear c23
         replace H := ob_ H
         obtain ⟨t361, A240, H⟩ := H
         replace H : (if t361 > 0 then (r7_Sqrt.l0 k2 a0 (IntKind.u64.wrap ((IntKind.u64.wrap (x6_2 + (IntKind.u64.wrap (Int.tdiv (IntKind.u64.wrap (x7_2 - x6_2)) 2)))) + 1)) x7_2 t352 t353 t354 t355) else (if t361 = 0 then (if (Int.tmod (IntKind.u64.wrap (x6_2 + (IntKind.u64.wrap (Int.tdiv (IntKind.u64.wrap (x7_2 - x6_2)) 2)))) 2) = 1 then (r7_Sqrt.l0 k2 a0 (IntKind.u64.wrap ((IntKind.u64.wrap (x6_2 + (IntKind.u64.wrap (Int.tdiv (IntKind.u64.wrap (x7_2 - x6_2)) 2)))) + 1)) x7_2 t352 t353 t354 t355) else (r7_Sqrt.l0 k2 a0 x6_2 (IntKind.u64.wrap (x6_2 + (IntKind.u64.wrap (Int.tdiv (IntKind.u64.wrap (x7_2 - x6_2)) 2)))) t352 t353 t354 t355)) else (r7_Sqrt.l0 k2 a0 x6_2 (IntKind.u64.wrap (x6_2 + (IntKind.u64.wrap (Int.tdiv (IntKind.u64.wrap (x7_2 - x6_2)) 2)))) t352 t353 t354 t355))) = some r := H
         have A24 := A_ A240;clear A240
         by_cases c25 : t361 > 0
         ·rw [if_pos c25] at H
          have c25b0 : decide (0 < t361) = true := decide_eq_true c25
          clear c25
          have H' := A_ H
          clear H
          have hcz26_0 := bv_ BK356.out 0
          have hcz26_1 := bv_ BK356.out 1
          have hcz26_2 := bv_ BK356.out 2
          have hcz26_3 := bv_ BK356.out 3
          have hfz26_0 := blk_frozen BK356.out 0
          have hfz26_1 := blk_frozen BK356.out 1
          have hfz26_2 := blk_frozen BK356.out 2
          have hfz26_3 := blk_frozen BK356.out 3
          go_wp2_with (first | ((with_reducible refine gate_callee (f := 50) rfl ?_); refine gl_ (some 49) Try.func50 #[.int .i64 a0, .int .u64 (IntKind.u64.wrap (x6_2 + (IntKind.u64.wrap (Int.tdiv (IntKind.u64.wrap (x7_2 - x6_2)) 2)))), .agg #[.bool t352, .int .i64 t353, .int .i64 t354, .int .u64 t355]] ?_; (with_reducible refine (r7_side.calls k2 a0 (IntKind.u64.wrap (x6_2 + (IntKind.u64.wrap (Int.tdiv (IntKind.u64.wrap (x7_2 - x6_2)) 2)))) t352 t353 t354 t355 t361 _ A24.out).mono ?_); rintro e w27 ⟨rfl, hb⟩; refine ⟨_, rfl, ?_⟩; replace BK356 := A_ (bb_ BK356.out hb); replace HB := A_ (below_step (hb1_ HB.out GE356.out) hb); (try clear hb); (try clear hb2); (try clear hk); (try clear hi)))
          go_roundg k2
          case measure => have := HJ8.out; have := HK2.out; omega
          case rel => exact ⟨(IntKind.u64.wrap ((IntKind.u64.wrap (x6_2 + (IntKind.u64.wrap (Int.tdiv (IntKind.u64.wrap (x7_2 - x6_2)) 2)))) + 1)), (x7_2), sm_, sm_, H', ⟨by have := HJ8.out; have := HK2.out; omega⟩, ⟨bk_ BK356.out⟩, ⟨hb1_ HB.out GE356.out⟩⟩
         ·rw [if_neg c25] at H
          have c25b0 : decide (0 < t361) = false := decide_eq_false c25
          clear c25
          by_cases c28 : t361 = 0
          ·rw [if_pos c28] at H
           have c28b0 : (t361 == 0) = true := beq_iff_eq.mpr c28
           have c28b1 : (t361 != 0) = false := bne_eq_false_iff_eq.mpr c28
           clear c28
           by_cases c29 : (Int.tmod (IntKind.u64.wrap (x6_2 + (IntKind.u64.wrap (Int.tdiv (IntKind.u64.wrap (x7_2 - x6_2)) 2)))) 2) = 1
           ·rw [if_pos c29] at H
            have c29b0 : ((Int.tmod (IntKind.u64.wrap (x6_2 + (IntKind.u64.wrap (Int.tdiv (IntKind.u64.wrap (x7_2 - x6_2)) 2)))) 2) == 1) = true := beq_iff_eq.mpr c29
            have c29b1 : ((Int.tmod (IntKind.u64.wrap (x6_2 + (IntKind.u64.wrap (Int.tdiv (IntKind.u64.wrap (x7_2 - x6_2)) 2)))) 2) != 1) = false := bne_eq_false_iff_eq.mpr c29
            clear c29
            have H' := A_ H
            clear H
            have hcz30_0 := bv_ BK356.out 0
            have hcz30_1 := bv_ BK356.out 1
            have hcz30_2 := bv_ BK356.out 2
            have hcz30_3 := bv_ BK356.out 3
            have hfz30_0 := blk_frozen BK356.out 0
            have hfz30_1 := blk_frozen BK356.out 1
            have hfz30_2 := blk_frozen BK356.out 2
            have hfz30_3 := blk_frozen BK356.out 3
            go_wp2_with (first | ((with_reducible refine gate_callee (f := 50) rfl ?_); refine gl_ (some 49) Try.func50 #[.int .i64 a0, .int .u64 (IntKind.u64.wrap (x6_2 + (IntKind.u64.wrap (Int.tdiv (IntKind.u64.wrap (x7_2 - x6_2)) 2)))), .agg #[.bool t352, .int .i64 t353, .int .i64 t354, .int .u64 t355]] ?_; (with_reducible refine (r7_side.calls k2 a0 (IntKind.u64.wrap (x6_2 + (IntKind.u64.wrap (Int.tdiv (IntKind.u64.wrap (x7_2 - x6_2)) 2)))) t352 t353 t354 t355 t361 _ A24.out).mono ?_); rintro e w31 ⟨rfl, hb⟩; refine ⟨_, rfl, ?_⟩; replace BK356 := A_ (bb_ BK356.out hb); replace HB := A_ (below_step (hb1_ HB.out GE356.out) hb); (try clear hb); (try clear hb2); (try clear hk); (try clear hi)))
            go_roundg k2
            case measure => have := HJ8.out; have := HK2.out; omega
            case rel => exact ⟨(IntKind.u64.wrap ((IntKind.u64.wrap (x6_2 + (IntKind.u64.wrap (Int.tdiv (IntKind.u64.wrap (x7_2 - x6_2)) 2)))) + 1)), (x7_2), sm_, sm_, H', ⟨by have := HJ8.out; have := HK2.out; omega⟩, ⟨bk_ BK356.out⟩, ⟨hb1_ HB.out GE356.out⟩⟩
           ·rw [if_neg c29] at H
            have c29b0 : ((Int.tmod (IntKind.u64.wrap (x6_2 + (IntKind.u64.wrap (Int.tdiv (IntKind.u64.wrap (x7_2 - x6_2)) 2)))) 2) == 1) = false := beq_eq_false_iff_ne.mpr c29
            have c29b1 : ((Int.tmod (IntKind.u64.wrap (x6_2 + (IntKind.u64.wrap (Int.tdiv (IntKind.u64.wrap (x7_2 - x6_2)) 2)))) 2) != 1) = true := bne_iff_ne.mpr c29
            have H' := A_ H
            clear H
            have hcz32_0 := bv_ BK356.out 0
            have hcz32_1 := bv_ BK356.out 1
            have hcz32_2 := bv_ BK356.out 2
            have hcz32_3 := bv_ BK356.out 3
            have hfz32_0 := blk_frozen BK356.out 0
            have hfz32_1 := blk_frozen BK356.out 1
            have hfz32_2 := blk_frozen BK356.out 2
            have hfz32_3 := blk_frozen BK356.out 3
            go_wp2_with (first | ((with_reducible refine gate_callee (f := 50) rfl ?_); refine gl_ (some 49) Try.func50 #[.int .i64 a0, .int .u64 (IntKind.u64.wrap (x6_2 + (IntKind.u64.wrap (Int.tdiv (IntKind.u64.wrap (x7_2 - x6_2)) 2)))), .agg #[.bool t352, .int .i64 t353, .int .i64 t354, .int .u64 t355]] ?_; (with_reducible refine (r7_side.calls k2 a0 (IntKind.u64.wrap (x6_2 + (IntKind.u64.wrap (Int.tdiv (IntKind.u64.wrap (x7_2 - x6_2)) 2)))) t352 t353 t354 t355 t361 _ A24.out).mono ?_); rintro e w33 ⟨rfl, hb⟩; refine ⟨_, rfl, ?_⟩; replace BK356 := A_ (bb_ BK356.out hb); replace HB := A_ (below_step (hb1_ HB.out GE356.out) hb); (try clear hb); (try clear hb2); (try clear hk); (try clear hi)))
            go_roundg k2
            case measure => have := HJ8.out; have := HK2.out; omega
            case rel => exact ⟨(x6_2), (IntKind.u64.wrap (x6_2 + (IntKind.u64.wrap (Int.tdiv (IntKind.u64.wrap (x7_2 - x6_2)) 2)))), sm_, sm_, H', ⟨by have := HJ8.out; have := HK2.out; omega⟩, ⟨bk_ BK356.out⟩, ⟨hb1_ HB.out GE356.out⟩⟩
          ·rw [if_neg c28] at H
           have c28b0 : (t361 == 0) = false := beq_eq_false_iff_ne.mpr c28
           have c28b1 : (t361 != 0) = true := bne_iff_ne.mpr c28
           have H' := A_ H
           clear H
           have hcz34_0 := bv_ BK356.out 0
           have hcz34_1 := bv_ BK356.out 1
           have hcz34_2 := bv_ BK356.out 2
           have hcz34_3 := bv_ BK356.out 3
           have hfz34_0 := blk_frozen BK356.out 0
           have hfz34_1 := blk_frozen BK356.out 1
           have hfz34_2 := blk_frozen BK356.out 2
           have hfz34_3 := blk_frozen BK356.out 3
           go_wp2_with (first | ((with_reducible refine gate_callee (f := 50) rfl ?_); refine gl_ (some 49) Try.func50 #[.int .i64 a0, .int .u64 (IntKind.u64.wrap (x6_2 + (IntKind.u64.wrap (Int.tdiv (IntKind.u64.wrap (x7_2 - x6_2)) 2)))), .agg #[.bool t352, .int .i64 t353, .int .i64 t354, .int .u64 t355]] ?_; (with_reducible refine (r7_side.calls k2 a0 (IntKind.u64.wrap (x6_2 + (IntKind.u64.wrap (Int.tdiv (IntKind.u64.wrap (x7_2 - x6_2)) 2)))) t352 t353 t354 t355 t361 _ A24.out).mono ?_); rintro e w35 ⟨rfl, hb⟩; refine ⟨_, rfl, ?_⟩; replace BK356 := A_ (bb_ BK356.out hb); replace HB := A_ (below_step (hb1_ HB.out GE356.out) hb); (try clear hb); (try clear hb2); (try clear hk); (try clear hi)))
           go_roundg k2
           case measure => have := HJ8.out; have := HK2.out; omega
           case rel => exact ⟨(x6_2), (IntKind.u64.wrap (x6_2 + (IntKind.u64.wrap (Int.tdiv (IntKind.u64.wrap (x7_2 - x6_2)) 2)))), sm_, sm_, H', ⟨by have := HJ8.out; have := HK2.out; omega⟩, ⟨bk_ BK356.out⟩, ⟨hb1_ HB.out GE356.out⟩⟩
        ·rw [if_neg c23] at H
         have c23b0 : decide (x6_2 < x7_2) = false := decide_eq_false c23
         clear c23
         obtain rfl := Option.some.inj H
         go_wp2
         go_ret
         exact ⟨er_, hb1_ HB.out GE356.out⟩
def L07_RadixRoots.f (k : Nat) (a0 : Int) (a1 : Int) : Option (Bool) := (L07_awake.f k).bind fun t362 => (if t362 = true then ((radix_Sqrt.f k a0 a1).bind fun t363 => ((r2_Known.f a0).bind fun t364 => (if t364 = true then ((r7_Sqrt.f k a0 a1).bind fun t365 => (some (t363 == t365))) else (some (t363 == 0))))) else (some false))
theorem L07_RadixRoots.mono : ∀ a0 a1 k, LeO (L07_RadixRoots.f k a0 a1) (L07_RadixRoots.f (k + 1) a0 a1) := by
 intro a0 a1 k
 unfold L07_RadixRoots.f
 repeat' first
   | (with_reducible exact radix_Sqrt.mono _ _ _)
   | (with_reducible exact L07_awake.mono _)
   | (with_reducible exact r7_Sqrt.mono _ _ _)
   | (with_reducible exact LeO.refl _)
   | (with_reducible exact LeO.none _)
   | (with_reducible refine LeO.ite ?_ ?_)
   | (with_reducible refine LeO.bind ?_ (fun _ => ?_))
   | exact radix_Sqrt.mono _ _ _
   | exact L07_awake.mono _
   | exact r7_Sqrt.mono _ _ _
   | exact LeO.none _
   | refine LeO.ite ?_ ?_
   | refine LeO.bind ?_ (fun _ => ?_)
theorem L07_RadixRoots.calls (k : Nat) (a0 : Int) (a1 : Int) (r : Bool) (w : World) (h : L07_RadixRoots.f k a0 a1 = some r) (hr_ : Aside0 (r = true)) :
  Calls Try.prog 3 #[.int .i64 a0, .int .u64 a1] w fun e w' => e = .returned (.bool r) ∧ Below w.heap.size w w' := by
 have HB := A_ (Below.refl w.heap.size w)
 have H : ((L07_awake.f k).bind fun t362 => (if t362 = true then ((radix_Sqrt.f k a0 a1).bind fun t363 => ((r2_Known.f a0).bind fun t364 => (if t364 = true then ((r7_Sqrt.f k a0 a1).bind fun t365 => (some (t363 == t365))) else (some (t363 == 0))))) else (some false))) = some r := h
 clear h
 replace H := ob_ H
 obtain ⟨t362, A30, H⟩ := H
 replace H : (if t362 = true then ((radix_Sqrt.f k a0 a1).bind fun t363 => ((r2_Known.f a0).bind fun t364 => (if t364 = true then ((r7_Sqrt.f k a0 a1).bind fun t365 => (some (t363 == t365))) else (some (t363 == 0))))) else (some false)) = some r := H
 have A3 := A_ A30;clear A30
 by_cases c4 : t362 = true
 ·subst c4
  have H1 : ((radix_Sqrt.f k a0 a1).bind fun t363 => ((r2_Known.f a0).bind fun t364 => (if t364 = true then ((r7_Sqrt.f k a0 a1).bind fun t365 => (some (t363 == t365))) else (some (t363 == 0))))) = some r := by rw [if_pos rfl] at H; exact H
  clear H;have H := H1;clear H1
  replace H := ob_ H
  obtain ⟨t363, A50, H⟩ := H
  replace H : ((r2_Known.f a0).bind fun t364 => (if t364 = true then ((r7_Sqrt.f k a0 a1).bind fun t365 => (some (t363 == t365))) else (some (t363 == 0)))) = some r := H
  have A5 := A_ A50;clear A50
  replace H := ob_ H
  obtain ⟨t364, A60, H⟩ := H
  replace H : (if t364 = true then ((r7_Sqrt.f k a0 a1).bind fun t365 => (some (t363 == t365))) else (some (t363 == 0))) = some r := H
  have A6 := A_ A60;clear A60
  by_cases c7 : t364 = true
  ·subst c7
   have H1 : ((r7_Sqrt.f k a0 a1).bind fun t365 => (some (t363 == t365))) = some r := by rw [if_pos rfl] at H; exact H
   clear H;have H := H1;clear H1
   replace H := ob_ H
   obtain ⟨t365, A80, H⟩ := H
   replace H : (some (t363 == t365)) = some r := H
   have A8 := A_ A80;clear A80
   obtain rfl := Option.some.inj H
   go_enter Try.func3, Try.ntmps3
   go_wp2_with (first | ((with_reducible refine gate_callee (f := 8) rfl ?_); refine gl_ (some 6) Try.func8 #[] ?_; (with_reducible refine (L07_awake.calls k  true _ A3.out).mono ?_); rintro e w9 ⟨rfl, hb⟩; refine ⟨_, rfl, ?_⟩; replace HB := A_ (below_step (hb_ HB.out) hb); (try clear hb); (try clear hb2); (try clear hk); (try clear hi)) | ((with_reducible refine gate_callee (f := 9) rfl ?_); refine gl_ (some 10) Try.func9 #[.int .i64 a0, .int .u64 a1] ?_; (with_reducible refine (radix_Sqrt.calls k a0 a1 t363 _ A5.out).mono ?_); rintro e w10 ⟨rfl, hb⟩; refine ⟨_, rfl, ?_⟩; replace HB := A_ (below_step (hb_ HB.out) hb); (try clear hb); (try clear hb2); (try clear hk); (try clear hi)) | ((with_reducible refine gate_callee (f := 10) rfl ?_); refine gl_ (some 12) Try.func10 #[.int .i64 a0] ?_; (with_reducible refine (r2_Known.calls a0 true _ A6.out).mono ?_); rintro e w' ⟨rfl, ⟨nd, rfl⟩⟩; refine ⟨_, rfl, ?_⟩) | ((with_reducible refine gate_callee (f := 11) rfl ?_); refine gl_ (some 19) Try.func11 #[.int .i64 a0, .int .u64 a1] ?_; (with_reducible refine (r7_Sqrt.calls k a0 a1 t365 _ A8.out).mono ?_); rintro e w11 ⟨rfl, hb⟩; refine ⟨_, rfl, ?_⟩; replace HB := A_ (below_step (hb_ HB.out) hb); (try clear hb); (try clear hb2); (try clear hk); (try clear hi)))
   go_ret
   exact ⟨er_, hb_ HB.out⟩
  ·replace c7 := Bool.eq_false_iff.mpr c7
   subst c7
   have H1 : (some (t363 == 0)) = some r := by rw [if_neg (show ¬ (false = true) by decide)] at H; exact H
   clear H;have H := H1;clear H1
   obtain rfl := Option.some.inj H
   go_enter Try.func3, Try.ntmps3
   go_wp2_with (first | ((with_reducible refine gate_callee (f := 8) rfl ?_); refine gl_ (some 6) Try.func8 #[] ?_; (with_reducible refine (L07_awake.calls k  true _ A3.out).mono ?_); rintro e w12 ⟨rfl, hb⟩; refine ⟨_, rfl, ?_⟩; replace HB := A_ (below_step (hb_ HB.out) hb); (try clear hb); (try clear hb2); (try clear hk); (try clear hi)) | ((with_reducible refine gate_callee (f := 9) rfl ?_); refine gl_ (some 10) Try.func9 #[.int .i64 a0, .int .u64 a1] ?_; (with_reducible refine (radix_Sqrt.calls k a0 a1 t363 _ A5.out).mono ?_); rintro e w13 ⟨rfl, hb⟩; refine ⟨_, rfl, ?_⟩; replace HB := A_ (below_step (hb_ HB.out) hb); (try clear hb); (try clear hb2); (try clear hk); (try clear hi)) | ((with_reducible refine gate_callee (f := 10) rfl ?_); refine gl_ (some 12) Try.func10 #[.int .i64 a0] ?_; (with_reducible refine (r2_Known.calls a0 false _ A6.out).mono ?_); rintro e w' ⟨rfl, ⟨nd, rfl⟩⟩; refine ⟨_, rfl, ?_⟩))
   go_ret
   exact ⟨er_, hb_ HB.out⟩
 ·replace c4 := Bool.eq_false_iff.mpr c4
  subst c4
  have H1 : (some false) = some r := by rw [if_neg (show ¬ (false = true) by decide)] at H; exact H
  clear H;have H := H1;clear H1
  exact absurd ((Option.some.inj H).trans hr_.out) (by decide)
def L07_RadixRoots.Pure : Prop := ∀ (a0 : Int) (a1 : Int), (Lit.int .i64 a0).wf = true → (Lit.int .u64 a1).wf = true → ∃ k, L07_RadixRoots.f k a0 a1 = some true
theorem L07_RadixRoots.walk (P : L07_RadixRoots.Pure) (a0 : Int) (a1 : Int) (w : World) (w0 : (Lit.int .i64 a0).wf = true) (w1 : (Lit.int .u64 a1).wf = true) :
  Calls Try.prog 3 #[.int .i64 a0, .int .u64 a1] w fun e w' => e = .returned (.bool true) ∧ Below w.heap.size w w' := by
 obtain ⟨k, h⟩ := P a0 a1 w0 w1
 refine (L07_RadixRoots.calls k a0 a1 true w h ⟨rfl⟩).mono ?_
 rintro e w' ⟨rfl, hd⟩
 exact ⟨rfl, hd⟩
end Go.Proofs.Ytjjehbedpgdhgaa.PA
section
set_option linter.unusedVariables false
set_option linter.unusedSimpArgs false
namespace Go.Proofs.Ytjjehbedpgdhgaa.Th
open Go.RowKit Go.Proofs.YtjjehbedpgdhgaaW.PrintWords Go.Proofs.YtjjehbedpgdhgaaW.PrintLast Go.Proofs.YtjjehbedpgdhgaaW.PrintMore Go.Proofs.Ytjjehbedpgdhgaa.PA Bit Flo
theorem two_i {n : Int} (m : Nat) (h : n = m) (hm : m < 64) : Ev (fun k => r2_Two.f k n) ((2 ^ m : Nat) : Int) := by subst h; exact two_f m hm

theorem r2E32 : r2_E.f 32 = some 8 := by decide +kernel
theorem r2F32 : r2_F.f 32 = some 23 := by decide +kernel
theorem r2B32 : r2_B.f 32 = some 127 := by decide +kernel
theorem r2Tf32 : Ev (fun k => r2_Two.f k 23) ((8388608 : Nat) : Int) := by have h := two_i (n := 23) 23 rfl (by decide); rw [show (2 : Nat) ^ 23 = 8388608 by decide] at h; exact h
theorem r2Te32 : Ev (fun k => r2_Two.f k 8) ((256 : Nat) : Int) := by have h := two_i (n := 8) 8 rfl (by decide); rw [show (2 : Nat) ^ 8 = 256 by decide] at h; exact h
theorem r2Ts32 : Ev (fun k => r2_Two.f k (wrap64 (32 - 1))) ((2147483648 : Nat) : Int) := by have h := two_i (n := wrap64 (32 - 1)) 31 (by decide +kernel) (by decide); rw [show (2 : Nat) ^ 31 = 2147483648 by decide] at h; exact h
theorem r2Th32 : Ev (fun k => r2_Two.f k (wrap64 (23 - 1))) ((4194304 : Nat) : Int) := by have h := two_i (n := wrap64 (23 - 1)) 22 (by decide +kernel) (by decide); rw [show (2 : Nat) ^ 22 = 4194304 by decide] at h; exact h
theorem r2Exp32 (a : Nat) (ha : a < 18446744073709551616) : Ev (fun k => r2_Exp.f k 32 a) ((a / 8388608 % 256 : Nat) : Int) := by
  unfold r2_Exp.f
  refine Ev.bs (r2Cut 32 a (by decide)) (Ev.bs r2F32 (Ev.bind r2Tf32 (Ev.neg (by decide) (Ev.bs r2E32 (Ev.bind r2Te32 (Ev.neg (by decide) (Ev.out ?_)))))))
  have hc : cutN 32 a = a % 4294967296 := by unfold cutN; rw [if_pos rfl]
  rw [hc, Int.tdiv_eq_ediv_of_nonneg (by omega), u64_id (by omega) (by omega), Int.tmod_eq_emod_of_nonneg (by omega), w64_id (by omega) (by omega)]
  omega
theorem r2Frac32 (a : Nat) (ha : a < 18446744073709551616) : Ev (fun k => r2_Frac.f k 32 a) ((a % 8388608 : Nat) : Int) := by
  unfold r2_Frac.f
  refine Ev.bs r2F32 (Ev.bind r2Tf32 (Ev.neg (by decide) (Ev.out ?_)))
  rw [Int.tmod_eq_emod_of_nonneg (by omega)]; omega
theorem r2Top32 : Ev (fun k => r2_Top.f k 32) ((255 : Nat) : Int) := by
  unfold r2_Top.f
  exact Ev.bs r2E32 (Ev.bind r2Te32 (Ev.out (by decide +kernel)))
theorem r2Make32 (s : Bool) (e fr : Nat) (he : e ≤ 255) (hf : fr < 8388608) : Ev (fun k => r2_Make.f k 32 s e fr) ((mkN 32 (e * 8388608 + fr) s : Nat) : Int) := by
  unfold r2_Make.f
  refine Ev.bs r2F32 (Ev.bind r2Tf32 ?_)
  rw [u64_id (n := (e : Int)) (by omega) (by omega), u64_id (n := (e : Int) * ((8388608 : Nat) : Int)) (by omega) (by omega), u64_id (n := (e : Int) * ((8388608 : Nat) : Int) + fr) (by omega) (by omega)]
  unfold mkN
  rw [show sb 32 = 2147483648 by decide]
  cases s
  · exact Ev.neg (by decide) (Ev.out (by simp))
  · refine Ev.pos rfl (Ev.bind r2Ts32 (Ev.out ?_))
    rw [u64_id (by omega) (by omega)]; simp only [if_true]; omega
theorem r2Nan32 : Ev (fun k => r2_Nan.f k 32) ((nanN 32 : Nat) : Int) := by
  unfold r2_Nan.f
  refine Ev.bind r2Top32 (Ev.bs r2F32 (Ev.bind r2Th32 (Ev.bind (r2Make32 false 255 4194304 (by decide) (by decide)) (Ev.out (by decide)))))
theorem r2Inf32 (s : Bool) : Ev (fun k => r2_Inf.f k 32 s) ((mkN 32 f32.inf s : Nat) : Int) := by
  unfold r2_Inf.f
  have h := r2Make32 s 255 0 (by decide) (by decide)
  exact Ev.bind r2Top32 (Ev.bind h (Ev.out (by rw [inf32])))
theorem r2Open32 (a : Nat) (ha : a < 18446744073709551616) : Ev (fun k => r2_Open.f k 32 a) (opn 32 a) := by
  rw [opn32]
  unfold r2_Open.f
  refine Ev.bind (r2Exp32 a ha) (Ev.bind (r2Frac32 a ha) (Ev.bind (r2Neg 32 (by decide) a ha) (Ev.bind r2Top32 ?_)))
  unfold sgB
  rw [show sb 32 = 2147483648 by decide]
  have hP : a % 2147483648 % 8388608 = a % 8388608 := by omega
  have hQ : a % 2147483648 / 8388608 = a / 8388608 % 256 := by omega
  have hT : a / 8388608 % 256 < 256 := Nat.mod_lt _ (by decide)
  have hE : a % 2147483648 = a / 8388608 % 256 * 8388608 + a % 8388608 := by omega
  rw [hP, hQ, hE]
  generalize a / 8388608 % 256 = e at *
  have hF : a % 8388608 < 8388608 := Nat.mod_lt _ (by decide)
  generalize a % 8388608 = fr at *
  generalize decide (a / 2147483648 % 2 = 1) = s
  by_cases h1 : e = 255
  · subst h1
    refine Ev.pos rfl ?_
    by_cases h2 : fr = 0
    · subst h2
      refine Ev.pos rfl (Ev.out ?_)
      rw [if_neg (by omega), if_neg (by omega), if_pos (by omega)]
    · refine Ev.neg (by omega) (Ev.out ?_)
      rw [if_neg (by omega), if_neg (by omega), if_neg (by omega)]
  · refine Ev.neg (by omega) ?_
    by_cases h2 : e = 0
    · subst h2
      refine Ev.pos rfl ?_
      by_cases h3 : fr = 0
      · subst h3
        refine Ev.pos rfl (Ev.out ?_)
        rw [Nat.zero_mul, Nat.zero_add, if_pos rfl]
      · refine Ev.neg (by omega) (Ev.bs r2B32 (Ev.bs r2F32 (Ev.out ?_)))
        rw [if_neg (by omega), if_pos (by omega), if_pos (by omega), if_pos (by omega), show wrap64 (wrap64 (1 - 127) - 23) = (-149 : Int) by decide +kernel]
        simp
    · refine Ev.neg (by omega) (Ev.bs r2B32 (Ev.bs r2F32 (Ev.bs r2F32 (Ev.bind r2Tf32 (Ev.out ?_)))))
      rw [if_neg (by omega), if_pos (by omega), if_neg (by omega), if_neg (by omega)]
      rw [w64_id (n := ((e : Nat) : Int) - 127) (by omega) (by omega), w64_id (by omega) (by omega), u64_id (by omega) (by omega)]
      congr 2
      congr 1
      omega

theorem r2E64 : r2_E.f 64 = some 11 := by decide +kernel
theorem r2F64 : r2_F.f 64 = some 52 := by decide +kernel
theorem r2B64 : r2_B.f 64 = some 1023 := by decide +kernel
theorem r2Tf64 : Ev (fun k => r2_Two.f k 52) ((4503599627370496 : Nat) : Int) := by have h := two_i (n := 52) 52 rfl (by decide); rw [show (2 : Nat) ^ 52 = 4503599627370496 by decide] at h; exact h
theorem r2Te64 : Ev (fun k => r2_Two.f k 11) ((2048 : Nat) : Int) := by have h := two_i (n := 11) 11 rfl (by decide); rw [show (2 : Nat) ^ 11 = 2048 by decide] at h; exact h
theorem r2Ts64 : Ev (fun k => r2_Two.f k (wrap64 (64 - 1))) ((9223372036854775808 : Nat) : Int) := by have h := two_i (n := wrap64 (64 - 1)) 63 (by decide +kernel) (by decide); rw [show (2 : Nat) ^ 63 = 9223372036854775808 by decide] at h; exact h
theorem r2Th64 : Ev (fun k => r2_Two.f k (wrap64 (52 - 1))) ((2251799813685248 : Nat) : Int) := by have h := two_i (n := wrap64 (52 - 1)) 51 (by decide +kernel) (by decide); rw [show (2 : Nat) ^ 51 = 2251799813685248 by decide] at h; exact h
theorem r2Exp64 (a : Nat) (ha : a < 18446744073709551616) : Ev (fun k => r2_Exp.f k 64 a) ((a / 4503599627370496 % 2048 : Nat) : Int) := by
  unfold r2_Exp.f
  refine Ev.bs (r2Cut 64 a (by decide)) (Ev.bs r2F64 (Ev.bind r2Tf64 (Ev.neg (by decide) (Ev.bs r2E64 (Ev.bind r2Te64 (Ev.neg (by decide) (Ev.out ?_)))))))
  have hc : cutN 64 a = a % 18446744073709551616 := by unfold cutN; rw [if_neg (by decide), if_pos rfl]; omega
  rw [hc, Int.tdiv_eq_ediv_of_nonneg (by omega), u64_id (by omega) (by omega), Int.tmod_eq_emod_of_nonneg (by omega), w64_id (by omega) (by omega)]
  omega
theorem r2Frac64 (a : Nat) (ha : a < 18446744073709551616) : Ev (fun k => r2_Frac.f k 64 a) ((a % 4503599627370496 : Nat) : Int) := by
  unfold r2_Frac.f
  refine Ev.bs r2F64 (Ev.bind r2Tf64 (Ev.neg (by decide) (Ev.out ?_)))
  rw [Int.tmod_eq_emod_of_nonneg (by omega)]; omega
theorem r2Top64 : Ev (fun k => r2_Top.f k 64) ((2047 : Nat) : Int) := by
  unfold r2_Top.f
  exact Ev.bs r2E64 (Ev.bind r2Te64 (Ev.out (by decide +kernel)))
theorem r2Make64 (s : Bool) (e fr : Nat) (he : e ≤ 2047) (hf : fr < 4503599627370496) : Ev (fun k => r2_Make.f k 64 s e fr) ((mkN 64 (e * 4503599627370496 + fr) s : Nat) : Int) := by
  unfold r2_Make.f
  refine Ev.bs r2F64 (Ev.bind r2Tf64 ?_)
  rw [u64_id (n := (e : Int)) (by omega) (by omega), u64_id (n := (e : Int) * ((4503599627370496 : Nat) : Int)) (by omega) (by omega), u64_id (n := (e : Int) * ((4503599627370496 : Nat) : Int) + fr) (by omega) (by omega)]
  unfold mkN
  rw [show sb 64 = 9223372036854775808 by decide]
  cases s
  · exact Ev.neg (by decide) (Ev.out (by simp))
  · refine Ev.pos rfl (Ev.bind r2Ts64 (Ev.out ?_))
    rw [u64_id (by omega) (by omega)]; simp only [if_true]; omega
theorem r2Nan64 : Ev (fun k => r2_Nan.f k 64) ((nanN 64 : Nat) : Int) := by
  unfold r2_Nan.f
  refine Ev.bind r2Top64 (Ev.bs r2F64 (Ev.bind r2Th64 (Ev.bind (r2Make64 false 2047 2251799813685248 (by decide) (by decide)) (Ev.out (by decide)))))
theorem r2Inf64 (s : Bool) : Ev (fun k => r2_Inf.f k 64 s) ((mkN 64 f64.inf s : Nat) : Int) := by
  unfold r2_Inf.f
  have h := r2Make64 s 2047 0 (by decide) (by decide)
  exact Ev.bind r2Top64 (Ev.bind h (Ev.out (by rw [inf64])))
theorem r2Open64 (a : Nat) (ha : a < 18446744073709551616) : Ev (fun k => r2_Open.f k 64 a) (opn 64 a) := by
  rw [opn64]
  unfold r2_Open.f
  refine Ev.bind (r2Exp64 a ha) (Ev.bind (r2Frac64 a ha) (Ev.bind (r2Neg 64 (by decide) a ha) (Ev.bind r2Top64 ?_)))
  unfold sgB
  rw [show sb 64 = 9223372036854775808 by decide]
  have hP : a % 9223372036854775808 % 4503599627370496 = a % 4503599627370496 := by omega
  have hQ : a % 9223372036854775808 / 4503599627370496 = a / 4503599627370496 % 2048 := by omega
  have hT : a / 4503599627370496 % 2048 < 2048 := Nat.mod_lt _ (by decide)
  have hE : a % 9223372036854775808 = a / 4503599627370496 % 2048 * 4503599627370496 + a % 4503599627370496 := by omega
  rw [hP, hQ, hE]
  generalize a / 4503599627370496 % 2048 = e at *
  have hF : a % 4503599627370496 < 4503599627370496 := Nat.mod_lt _ (by decide)
  generalize a % 4503599627370496 = fr at *
  generalize decide (a / 9223372036854775808 % 2 = 1) = s
  by_cases h1 : e = 2047
  · subst h1
    refine Ev.pos rfl ?_
    by_cases h2 : fr = 0
    · subst h2
      refine Ev.pos rfl (Ev.out ?_)
      rw [if_neg (by omega), if_neg (by omega), if_pos (by omega)]
    · refine Ev.neg (by omega) (Ev.out ?_)
      rw [if_neg (by omega), if_neg (by omega), if_neg (by omega)]
  · refine Ev.neg (by omega) ?_
    by_cases h2 : e = 0
    · subst h2
      refine Ev.pos rfl ?_
      by_cases h3 : fr = 0
      · subst h3
        refine Ev.pos rfl (Ev.out ?_)
        rw [Nat.zero_mul, Nat.zero_add, if_pos rfl]
      · refine Ev.neg (by omega) (Ev.bs r2B64 (Ev.bs r2F64 (Ev.out ?_)))
        rw [if_neg (by omega), if_pos (by omega), if_pos (by omega), if_pos (by omega), show wrap64 (wrap64 (1 - 1023) - 52) = (-1074 : Int) by decide +kernel]
        simp
    · refine Ev.neg (by omega) (Ev.bs r2B64 (Ev.bs r2F64 (Ev.bs r2F64 (Ev.bind r2Tf64 (Ev.out ?_)))))
      rw [if_neg (by omega), if_pos (by omega), if_neg (by omega), if_neg (by omega)]
      rw [w64_id (n := ((e : Nat) : Int) - 1023) (by omega) (by omega), w64_id (by omega) (by omega), u64_id (by omega) (by omega)]
      congr 2
      congr 1
      omega
theorem r2Open (w : Int) (hw : w = 32 ∨ w = 64) (a : Nat) (ha : a < 18446744073709551616) : Ev (fun k => r2_Open.f k w a) (opn w a) := by
  rcases hw with rfl | rfl
  · exact r2Open32 a ha
  · exact r2Open64 a ha
theorem opn_mk (w : Int) (hw : w = 32 ∨ w = 64) (m : Nat) (s : Bool) (h : m < sb w) : opn w (mkN w m s) = if m = 0 then (s, 0, 0, 0) else if m < (fmt w).inf then (s, 1, (fmt w).ex m, ((fmt w).sg m : Int)) else if m = (fmt w).inf then (s, 2, 0, 0) else (false, 3, 0, 0) := by
  unfold opn; simp only [sg_mk w hw m s h, mag_mk w hw m s h]
end Go.Proofs.Ytjjehbedpgdhgaa.Th
end
section
set_option linter.unusedVariables false
set_option linter.unusedSimpArgs false
namespace Go.Proofs.Ytjjehbedpgdhgaa.Th
open Go.RowKit Go.Proofs.YtjjehbedpgdhgaaW.PrintWords Go.Proofs.YtjjehbedpgdhgaaW.PrintLast Go.Proofs.YtjjehbedpgdhgaaW.PrintMore Go.Proofs.Ytjjehbedpgdhgaa.PA Bit Flo Dig
theorem inf_pos (w : Int) (hw : w = 32 ∨ w = 64) : 0 < (fmt w).inf := by rcases hw with rfl | rfl <;> decide
theorem kinds (w : Int) (hw : w = 32 ∨ w = 64) (a : Nat) : (magN w a = 0 ∧ opn w a = (sgB w a, 0, 0, 0)) ∨ (0 < magN w a ∧ magN w a < (fmt w).inf ∧ opn w a = (sgB w a, 1, (fmt w).ex (magN w a), ((fmt w).sg (magN w a) : Int))) ∨ (magN w a = (fmt w).inf ∧ opn w a = (sgB w a, 2, 0, 0)) ∨ ((fmt w).inf < magN w a ∧ opn w a = (false, 3, 0, 0)) := by
  have h0 := inf_pos w hw
  unfold opn; simp only
  by_cases h1 : magN w a = 0
  · left; rw [if_pos h1]; exact ⟨h1, rfl⟩
  · right; rw [if_neg h1]
    by_cases h2 : magN w a < (fmt w).inf
    · left; rw [if_pos h2]; exact ⟨by omega, h2, rfl⟩
    · right; rw [if_neg h2]
      by_cases h3 : magN w a = (fmt w).inf
      · left; rw [if_pos h3]; exact ⟨h3, rfl⟩
      · right; rw [if_neg h3]; exact ⟨by omega, rfl⟩
theorem ex_bd (w : Int) (hw : w = 32 ∨ w = 64) (m : Nat) (h : m < (fmt w).inf) : -1074 ≤ (fmt w).ex m ∧ (fmt w).ex m ≤ 971 := by
  rcases hw with rfl | rfl
  · rw [fmt32, inf32] at h; rw [fmt32, ex32]; split <;> omega
  · rw [fmt64, inf64] at h; rw [fmt64, ex64]; split <;> omega
theorem sg_64 (w : Int) (hw : w = 32 ∨ w = 64) (m : Nat) : (fmt w).sg m < 9007199254740992 := by
  have h := (fmt w).sg_lt m
  rcases hw with rfl | rfl
  · rw [fmt32] at h ⊢; rw [show (2 : Nat) ^ (f32.f + 1) = 16777216 by decide] at h; omega
  · rw [fmt64] at h ⊢; rw [show (2 : Nat) ^ (f64.f + 1) = 9007199254740992 by decide] at h; omega
end Go.Proofs.Ytjjehbedpgdhgaa.Th
end
section
set_option linter.unusedVariables false
set_option linter.unusedSimpArgs false
namespace Go.Proofs.Ytjjehbedpgdhgaa.Th
open Flo
theorem fmt_bd (w : Int) : (fmt w).f < 100 ∧ (-5000 < (fmt w).low ∧ (fmt w).low < 0) ∧ (fmt w).top < 5000 := by
  unfold fmt; split <;> decide
theorem fmt_f (w : Int) : (fmt w).f ≤ 52 := by unfold fmt; split <;> decide
theorem pk_ex (w : Int) (S : Nat) (e : Int) (hS : S < 340282366920938463463374607431768211456) : pkm (fmt w) S e false = (fmt w).rnd ((S : Rat) * tw e) := by
  have h := fmt_bd w
  rw [← pkx_f, pkm_rnd _ h.1 h.2.1 h.2.2 S e false hS]
abbrev Pt := Bool × Int × Int × Int
noncomputable def pv (p : Pt) : Rat := if p.2.1 = 1 then (if p.1 then -((p.2.2.2.toNat : Rat) * tw p.2.2.1) else (p.2.2.2.toNat : Rat) * tw p.2.2.1) else 0
end Go.Proofs.Ytjjehbedpgdhgaa.Th
end
section
set_option linter.unusedVariables false
set_option linter.unusedSimpArgs false
namespace Go.Proofs.Ytjjehbedpgdhgaa.Th
open Go.RowKit Go.Proofs.YtjjehbedpgdhgaaW.PrintWords Go.Proofs.YtjjehbedpgdhgaaW.PrintLast Go.Proofs.YtjjehbedpgdhgaaW.PrintMore Go.Proofs.Ytjjehbedpgdhgaa.PA Bit Flo
theorem packE (w : Int) (hw : w = 32 ∨ w = 64) (s : Bool) (h l : Nat) (hh : h < 18446744073709551616) (hl : l < 18446744073709551616) (e : Int) (m : Bool) : round_Pack.f w s h l e m = some ((mkN w (pkm (fmt w) (wn h l) e m) s : Nat) : Int) := by
  unfold round_Pack.f
  rw [if_pos (by omega), if_pos hw, Int.toNat_natCast, Int.toNat_natCast]
theorem shN (w : Int) (hw : w = 32 ∨ w = 64) : shape_Nan.f w = some ((nanN w : Nat) : Int) := by rcases hw with rfl | rfl; exact shNan32; exact shNan64
theorem pv1 (s : Bool) (e : Int) (g : Nat) : pv (s, 1, e, (g : Int)) = if s then -((g : Rat) * tw e) else (g : Rat) * tw e := by
  unfold pv; rw [if_pos rfl]; simp
def PtOk (p : Pt) : Prop := (p.2.1 = 0 ∨ p.2.1 = 1 ∨ p.2.1 = 2 ∨ p.2.1 = 3) ∧ (p.2.1 = 1 → 0 < p.2.2.2) ∧ (p.2.1 ≠ 1 → p.2.2.2 = 0 ∧ p.2.2.1 = 0) ∧ 0 ≤ p.2.2.2 ∧ p.2.2.2 < 9007199254740992 ∧ -1100 ≤ p.2.2.1 ∧ p.2.2.1 ≤ 1000
theorem opn_ok (w : Int) (hw : w = 32 ∨ w = 64) (a : Nat) : PtOk (opn w a) := by
  rcases kinds w hw a with ⟨_, h⟩ | ⟨h1, h2, h⟩ | ⟨_, h⟩ | ⟨_, h⟩ <;> rw [h]
  · exact ⟨.inl rfl, fun h => absurd h (by simp), fun _ => ⟨rfl, rfl⟩, by simp, by simp, by simp, by simp⟩
  · have h3 := ex_bd w hw _ h2
    have h4 := sg_64 w hw (magN w a)
    refine ⟨.inr (.inl rfl), fun _ => ?_, fun h => absurd rfl h, by simp, by simp; omega, by simp; omega, by simp; omega⟩
    have : 0 < (fmt w).val (magN w a) := (fmt w).val_pos.2 h1
    unfold Fmt.val at this
    rcases Nat.eq_zero_or_pos ((fmt w).sg (magN w a)) with h5 | h5
    · rw [h5] at this; simp at this
    · simp; omega
  · exact ⟨.inr (.inr (.inl rfl)), fun h => absurd h (by simp), fun _ => ⟨rfl, rfl⟩, by simp, by simp, by simp, by simp⟩
  · exact ⟨.inr (.inr (.inr rfl)), fun h => absurd h (by simp), fun _ => ⟨rfl, rfl⟩, by simp, by simp, by simp, by simp⟩
end Go.Proofs.Ytjjehbedpgdhgaa.Th
end
section
set_option linter.unusedVariables false
set_option linter.unusedSimpArgs false
namespace Go.Proofs.Ytjjehbedpgdhgaa.Th
open Go.RowKit Go.Proofs.YtjjehbedpgdhgaaW.PrintWords Go.Proofs.YtjjehbedpgdhgaaW.PrintLast Go.Proofs.YtjjehbedpgdhgaaW.PrintMore Go.Proofs.Ytjjehbedpgdhgaa.PA Bit Dig Flo
theorem r2Infw (w : Int) (hw : w = 32 ∨ w = 64) (s : Bool) : Ev (fun k => r2_Inf.f k w s) ((mkN w (fmt w).inf s : Nat) : Int) := by rcases hw with rfl | rfl; exact r2Inf32 s; exact r2Inf64 s
theorem r2Nanw (w : Int) (hw : w = 32 ∨ w = 64) : Ev (fun k => r2_Nan.f k w) ((nanN w : Nat) : Int) := by rcases hw with rfl | rfl; exact r2Nan32; exact r2Nan64
theorem r2Makew (w : Int) (hw : w = 32 ∨ w = 64) (s : Bool) (e fr : Nat) (he : e ≤ (fmt w).top) (hf : fr < 2 ^ (fmt w).f) : Ev (fun k => r2_Make.f k w s e fr) ((mkN w (e * 2 ^ (fmt w).f + fr) s : Nat) : Int) := by
  rcases hw with rfl | rfl
  · exact r2Make32 s e fr he hf
  · exact r2Make64 s e fr he hf
theorem zero_mul' (w : Int) (hw : w = 32 ∨ w = 64) (s : Bool) : Ev (fun k => r2_Make.f k w s 0 0) ((mkN w 0 s : Nat) : Int) := by
  have := r2Makew w hw s 0 0 (Nat.zero_le _) ((fmt w).pow_pos)
  rwa [Nat.zero_mul] at this
end Go.Proofs.Ytjjehbedpgdhgaa.Th
end
set_option linter.unusedVariables false
set_option linter.unusedSimpArgs false
namespace Flo
theorem sq_lt {a b : Rat} (ha : 0 ≤ a) (h : a < b) : a * a < b * b := by
  have h1 : a * a ≤ a * b := Rat.mul_le_mul_of_nonneg_left (Rat.le_of_lt h) ha
  have h2 : a * b < b * b := mul_lt h (by grind)
  grind
theorem sq_le {a b : Rat} (ha : 0 ≤ a) (h : a ≤ b) : a * a ≤ b * b := by
  have h1 : a * a ≤ a * b := Rat.mul_le_mul_of_nonneg_left h ha
  have h2 : a * b ≤ b * b := Rat.mul_le_mul_of_nonneg_right h (by grind)
  grind
theorem lt_of_sq {a b : Rat} (hb : 0 ≤ b) (h : a * a < b * b) : a < b := by
  have : ¬ b ≤ a := fun h1 => by have := sq_le hb h1; grind
  grind
theorem eq_of_sq {a b : Rat} (ha : 0 ≤ a) (hb : 0 ≤ b) (h : a * a = b * b) : a = b := by
  have h1 : ¬ a < b := fun h1 => by have := sq_lt ha h1; grind
  have h2 : ¬ b < a := fun h1 => by have := sq_lt hb h1; grind
  grind
namespace Fmt
variable (F : Fmt)
theorem mid_pos (m : Nat) : 0 < F.mid m := by
  have h1 := F.lt_mid m
  have h2 := F.val_nonneg m
  grind
def USq (x : Rat) (m : Nat) : Prop := F.mid m * F.mid m < x ∨ F.mid m * F.mid m = x ∧ m % 2 = 1
theorem USq.down {x : Rat} {m n : Nat} (h : n ≤ m) (u : F.USq x m) : F.USq x n := by
  rcases Nat.lt_or_eq_of_le h with h1 | rfl
  · left
    have h2 := sq_lt (Rat.le_of_lt (F.mid_pos n)) (F.mid_lt h1)
    rcases u with u | ⟨u, _⟩ <;> grind
  · exact u
theorem USq.mono' {x y : Rat} (h : x ≤ y) (m : Nat) (u : F.USq x m) : F.USq y m := by
  rcases u with u | ⟨u, v⟩
  · exact .inl (by grind)
  · rcases (Rat.le_iff_lt_or_eq).1 h with h | h
    · exact .inl (by grind)
    · exact .inr ⟨by grind, v⟩
noncomputable def rsq (x : Rat) : Nat := Classical.choose (Rnd.exists F (F.USq x))
theorem rsq_spec (x : Rat) : F.Rnd (F.USq x) (F.rsq x) := Classical.choose_spec (Rnd.exists F (F.USq x))
theorem rsq_of {x : Rat} {r : Nat} (h : F.Rnd (F.USq x) r) : F.rsq x = r := Rnd.unique F (F.rsq_spec x) h fun _ => Iff.rfl
theorem usq_up {x : Rat} (hx : 0 ≤ x) (m : Nat) : F.USq (x * x) m ↔ F.Up x m := by
  have hm := F.mid_pos m
  constructor
  · rintro (h | ⟨h, k⟩)
    · exact .inl (lt_of_sq hx h)
    · exact .inr ⟨eq_of_sq (Rat.le_of_lt hm) hx h, k⟩
  · rintro (h | ⟨h, k⟩)
    · exact .inl (sq_lt (Rat.le_of_lt hm) h)
    · exact .inr ⟨by rw [h], k⟩
theorem Rnd.root {n S r : Nat} {h : Int} (k : F.Rnd (F.Up (((2 * S + 1 : Nat) : Rat) * tw (h - 1))) r) (h1 : S * S < n) (h2 : n < (S + 1) * (S + 1)) (hS : 2 ^ (F.f + 1) ≤ S) : F.Rnd (F.USq ((n : Rat) * tw (2 * h))) r := by
  have T := tw_pos h
  have e : tw (2 * h) = tw h * tw h := by rw [← tw_add]; congr 1; omega
  have T2 : 0 < tw h * tw h := by rw [← e]; exact tw_pos _
  refine Rnd.sticky F k (fun m hm => ?_) (fun m hm u => ?_) (.inl hS)
  · left
    have h3 := sq_le (Rat.le_of_lt (F.mid_pos m)) hm
    have h4 : ((S * S : Nat) : Rat) < (n : Rat) := nat_lt.2 h1
    have h5 := mul_lt h4 T2
    rw [e]
    push_cast at h5
    generalize tw h = t at *
    grind
  · have h3 := sq_le (by
      have : (0 : Rat) ≤ ((S + 1 : Nat) : Rat) := by exact_mod_cast Nat.zero_le _
      exact Rat.mul_nonneg this (Rat.le_of_lt T)) hm
    have h4 : (n : Rat) < (((S + 1) * (S + 1) : Nat) : Rat) := nat_lt.2 h2
    have h5 := mul_lt h4 T2
    rw [USq, e] at u
    push_cast at h5 h3
    generalize tw h = t at *
    rcases u with u | ⟨u, _⟩ <;> grind
theorem Rnd.root_exact {S r : Nat} {h : Int} (k : F.Rnd (F.Up ((S : Rat) * tw h)) r) : F.Rnd (F.USq (((S * S : Nat) : Rat) * tw (2 * h))) r := by
  have e : ((S * S : Nat) : Rat) * tw (2 * h) = ((S : Rat) * tw h) * ((S : Rat) * tw h) := by
    rw [show tw (2 * h) = tw h * tw h by rw [← tw_add]; congr 1; omega]
    push_cast; grind
  rw [e]
  refine Rnd.congr F k fun m => (F.usq_up ?_ m).symm
  have : (0 : Rat) ≤ (S : Rat) := by exact_mod_cast Nat.zero_le _
  exact Rat.mul_nonneg this (Rat.le_of_lt (tw_pos h))
end Fmt
end Flo
section
set_option linter.unusedVariables false
set_option linter.unusedSimpArgs false
namespace Go.Proofs.Ytjjehbedpgdhgaa.Th
open Go.RowKit Go.Proofs.YtjjehbedpgdhgaaW.PrintWords Go.Proofs.YtjjehbedpgdhgaaW.PrintLast Go.Proofs.YtjjehbedpgdhgaaW.PrintMore Go.Proofs.Ytjjehbedpgdhgaa.PA Bit Dig Flo
theorem inf_sb (w : Int) (hw : w = 32 ∨ w = 64) : (fmt w).inf < sb w ∧ nanN w < sb w ∧ (fmt w).inf < nanN w ∧ nanN w = mkN w (nanN w) false := by
  rcases hw with rfl | rfl
  · rw [fmt32, inf32]; exact ⟨by decide, by decide, by decide, by decide⟩
  · rw [fmt64, inf64]; exact ⟨by decide, by decide, by decide, by decide⟩
def oneN (w : Int) : Nat := if w = 32 then 1065353216 else 4607182418800017408
theorem val_one (w : Int) (hw : w = 32 ∨ w = 64) : (fmt w).val (oneN w) = 1 ∧ oneN w < (fmt w).inf ∧ 0 < oneN w := by
  rcases hw with rfl | rfl
  · refine ⟨?_, by rw [fmt32, inf32]; decide, by decide⟩
    unfold Fmt.val
    rw [fmt32, show oneN 32 = 127 * 2 ^ f32.f + 0 by decide]
    have := Fmt.sg_mk f32 126 (2 ^ f32.f) (by decide) (fun _ => Nat.le_refl _)
    rw [show 127 * 2 ^ f32.f + 0 = 126 * 2 ^ f32.f + 2 ^ f32.f by decide, this.1, this.2]
    rw [show ((2 ^ f32.f : Nat) : Rat) = tw 23 from (tw_nat 23).symm, ← tw_add]
    exact tw_zero
  · refine ⟨?_, by rw [fmt64, inf64]; decide, by decide⟩
    unfold Fmt.val
    rw [fmt64, show oneN 64 = 1022 * 2 ^ f64.f + 2 ^ f64.f by decide]
    have := Fmt.sg_mk f64 1022 (2 ^ f64.f) (by decide) (fun _ => Nat.le_refl _)
    rw [this.1, this.2]
    rw [show ((2 ^ f64.f : Nat) : Rat) = tw 52 from (tw_nat 52).symm, ← tw_add]
    exact tw_zero
noncomputable def sqP (w : Int) (p : Pt) : Nat := if p.2.1 = 0 then mkN w 0 p.1 else if p.2.1 = 3 ∨ p.1 = true then nanN w else if p.2.1 = 2 then mkN w (fmt w).inf false else mkN w ((fmt w).rsq (pv p)) false
theorem sqPack (w : Int) {S r : Nat} {e h : Int} (he : e = 2 * h) (h1 : r * r ≤ S) (h2 : S < (r + 1) * (r + 1)) (hr : 9007199254740992 ≤ r) (hlt : r < 18446744073709551616) : pkm (fmt w) r h (decide (r * r ≠ S)) = (fmt w).rsq ((S : Rat) * tw e) := by
  have bd := fmt_bd w
  have hp : 2 ^ ((fmt w).f + 1) ≤ r := by
    have : 2 ^ ((fmt w).f + 1) ≤ 2 ^ 53 := Nat.pow_le_pow_right (by decide) (by have := fmt_f w; omega)
    rw [show (2 : Nat) ^ 53 = 9007199254740992 by decide] at this
    omega
  by_cases c : r * r = S
  · rw [decide_eq_false (fun x => x c), pk_ex w r h (by omega)]
    rw [he, ← c]
    exact ((fmt w).rsq_of (Fmt.Rnd.root_exact _ ((fmt w).rnd_spec _))).symm
  · rw [decide_eq_true c, ← pkm_rnd (fmt w) bd.1 bd.2.1 bd.2.2 r h true (by omega), he]
    refine ((fmt w).rsq_of (Fmt.Rnd.root (fmt w) ?_ (by omega) h2 hp)).symm
    have := (fmt w).rnd_spec (pkx r h true)
    unfold pkx at this ⊢
    simp only [if_true] at this ⊢
    exact this
theorem rsq_lt (w : Int) (hw : w = 32 ∨ w = 64) {m : Nat} (hm : m < (fmt w).inf) : (fmt w).rsq ((fmt w).val m) < (fmt w).inf := by
  rcases Nat.lt_or_ge ((fmt w).rsq ((fmt w).val m)) (fmt w).inf with h | h
  · exact h
  · exfalso
    have hi := (fmt w).inf_pos
    have u := ((fmt w).rsq_spec ((fmt w).val m)).2.1 ((fmt w).inf - 1) (by omega)
    have o := val_one w hw
    have v1 : (1 : Rat) ≤ (fmt w).val ((fmt w).inf - 1) := by rw [← o.1]; exact (fmt w).val_mono (by omega)
    have v2 : (fmt w).val m ≤ (fmt w).val ((fmt w).inf - 1) := (fmt w).val_mono (by omega)
    have v3 := (fmt w).lt_mid ((fmt w).inf - 1)
    have v4 : (fmt w).val ((fmt w).inf - 1) ≤ (fmt w).val ((fmt w).inf - 1) * (fmt w).val ((fmt w).inf - 1) := by
      have := Rat.mul_le_mul_of_nonneg_right v1 (show 0 ≤ (fmt w).val ((fmt w).inf - 1) by grind)
      rwa [Rat.one_mul] at this
    have v5 := sq_lt (show 0 ≤ (fmt w).val ((fmt w).inf - 1) by grind) v3
    unfold Fmt.USq at u
    rcases u with u | ⟨u, _⟩ <;> grind
theorem usq_iff (w : Int) {x : Rat} {R m : Nat} (hR : (fmt w).rsq x = R) (hlt : R < (fmt w).inf) : (fmt w).USq x m ↔ m < R := by
  have s := (fmt w).rsq_spec x
  rw [hR] at s
  constructor
  · intro u
    rcases Nat.lt_or_ge m R with h | h
    · exact h
    · exact absurd (Fmt.USq.down (fmt w) h u) (s.2.2 hlt)
  · exact s.2.1 m
theorem twx {g : Nat} {e lo : Int} {u : Nat} (h : (u : Int) = e - lo) : (g : Rat) * tw e = ((g * 2 ^ u : Nat) : Rat) * tw lo := by
  rw [show e = (u : Int) + lo by omega, tw_add, tw_nat]
  push_cast
  grind
theorem tmod2 (x : Int) : Int.tmod x 2 = 0 ↔ x % 2 = 0 :=
  ⟨fun h => by have := Int.dvd_of_tmod_eq_zero h; omega, fun h => Int.tmod_eq_zero_of_dvd (Int.dvd_of_emod_eq_zero h)⟩
theorem spreadE (s : Bool) (kd : Int) {e : Int} {g : Nat} (h : 0 < g) (hg : g < 9007199254740992) (he : -1100 ≤ e ∧ e ≤ 1000) :
    ∃ u : Nat, 125 ≤ bl g + u ∧ bl g + u ≤ 126 ∧ (e - u) % 2 = 0 ∧ Ev (fun k => radix_spread.f k s kd e g) (wH (g * 2 ^ u), wL (g * 2 ^ u), e - u) := by
  have hb := bl64 (show g < 18446744073709551616 by omega)
  have h0 := bl_pos.2 h
  have b53 : bl g ≤ 53 := bl_le.2 hg
  have hlen : wide_Len.f 0 (g : Int) = some ((bl g : Nat) : Int) := by
    have := wLen (V := g) (by omega)
    rwa [(wSmall (show g < 18446744073709551616 by omega)).1, (wSmall (show g < 18446744073709551616 by omega)).2] at this
  have hleft : ∀ u : Nat, bl g + u ≤ 126 → wide_Left.f 0 (g : Int) (u : Int) = some (wH (g * 2 ^ u), wL (g * 2 ^ u)) := by
    intro u hu
    have hV : g * 2 ^ u < 340282366920938463463374607431768211456 := by
      have := Nat.mul_lt_mul_of_pos_right (lt_two_bl g) (Nat.pow_pos (n := u) (show 0 < 2 by decide))
      rw [← Nat.pow_add] at this
      have h2 : 2 ^ (bl g + u) ≤ 2 ^ 128 := Nat.pow_le_pow_right (by decide) (by omega)
      rw [show (2 : Nat) ^ 128 = 340282366920938463463374607431768211456 by decide] at h2
      omega
    have := wLeft (V := g) (by omega) u (by omega) hV
    rwa [(wSmall (show g < 18446744073709551616 by omega)).1, (wSmall (show g < 18446744073709551616 by omega)).2] at this
  obtain ⟨u0, hu0⟩ := Int.eq_ofNat_of_zero_le (show 0 ≤ 126 - ((bl g : Nat) : Int) by omega)
  have go : ∀ u : Nat, bl g + u ≤ 126 → Ev (fun k => radix_spread.l0 k e u0) (u : Int) → Ev (fun k => radix_spread.f k s kd e g) (wH (g * 2 ^ u), wL (g * 2 ^ u), e - u) := by
    intro u hu hl
    unfold radix_spread.f
    refine Ev.bs (ofW g) (Ev.bs hlen ?_)
    rw [w64_id (n := 126 - ((bl g : Nat) : Int)) (by omega) (by omega), hu0]
    refine Ev.bind hl (Ev.bs (hleft u hu) (Ev.out ?_))
    rw [w64_id (n := e - (u : Int)) (by omega) (by omega)]
  by_cases c : (e - (u0 : Int)) % 2 = 0
  · refine ⟨u0, by omega, by omega, c, go u0 (by omega) ?_⟩
    refine Ev.step (fun _ => radix_spread.l0.eq_2 ..) ?_
    rw [w64_id (n := e - (u0 : Int)) (by omega) (by omega)]
    exact Ev.pos ((tmod2 _).2 c) (Ev.out rfl)
  · refine ⟨u0 - 1, by omega, by omega, by omega, go (u0 - 1) (by omega) ?_⟩
    refine Ev.step (fun _ => radix_spread.l0.eq_2 ..) ?_
    rw [w64_id (n := e - (u0 : Int)) (by omega) (by omega), w64_id (n := (u0 : Int) - 1) (by omega) (by omega), show (u0 : Int) - 1 = ((u0 - 1 : Nat) : Int) by omega]
    refine Ev.neg (fun x => c ((tmod2 _).1 x)) (Ev.step (fun _ => radix_spread.l0.eq_2 ..) ?_)
    rw [w64_id (n := e - ((u0 - 1 : Nat) : Int)) (by omega) (by omega)]
    exact Ev.pos ((tmod2 _).2 (by omega)) (Ev.out rfl)
theorem big_root {S x : Nat} (hS : 21267647932558653966460912964485513216 ≤ S) (h : S < (x + 1) * (x + 1)) : 9007199254740992 ≤ x := by
  rcases Nat.lt_or_ge x 9007199254740992 with c | c
  · have := Nat.mul_le_mul (show x + 1 ≤ 9007199254740992 by omega) (show x + 1 ≤ 9007199254740992 by omega)
    omega
  · exact c
theorem finiteE (w : Int) (hw : w = 32 ∨ w = 64) (s : Bool) (kd : Int) {e : Int} {g : Nat} (h : 0 < g) (hg : g < 9007199254740992) (he : -1100 ≤ e ∧ e ≤ 1000) :
    Ev (fun k => radix_finite.f k w s kd e g) ((mkN w ((fmt w).rsq ((g : Rat) * tw e)) false : Nat) : Int) := by
  obtain ⟨u, u1, u2, u3, hs⟩ := spreadE s kd h hg he
  have hS1 : g * 2 ^ u < 85070591730234615865843651857942052864 := by
    have := Nat.mul_lt_mul_of_pos_right (lt_two_bl g) (Nat.pow_pos (n := u) (show 0 < 2 by decide))
    rw [← Nat.pow_add] at this
    have h2 : 2 ^ (bl g + u) ≤ 2 ^ 126 := Nat.pow_le_pow_right (by decide) (by omega)
    rw [show (2 : Nat) ^ 126 = 85070591730234615865843651857942052864 by decide] at h2
    omega
  have hS2 : 21267647932558653966460912964485513216 ≤ g * 2 ^ u := by
    have h0 := bl_pos.2 h
    have h1 := Nat.mul_le_mul_right (2 ^ u) (two_bl_le h)
    rw [← Nat.pow_add] at h1
    have h2 : 2 ^ 124 ≤ 2 ^ (bl g - 1 + u) := Nat.pow_le_pow_right (by decide) (by omega)
    rw [show (2 : Nat) ^ 124 = 21267647932558653966460912964485513216 by decide] at h2
    omega
  rw [twx (g := g) (e := e) (lo := e - u) (u := u) (by omega)]
  generalize g * 2 ^ u = S at *
  obtain ⟨h', hh'⟩ : ∃ h' : Int, e - u = 2 * h' := ⟨(e - u) / 2, by omega⟩
  obtain ⟨x, x1, x2, x3, hx⟩ := rootW (S / 18446744073709551616) (S % 18446744073709551616) (hi64 (by omega)) (lo64 S)
  rw [wn_div] at x1 x2 hx
  have hb := big_root hS2 x2
  unfold radix_finite.f
  refine Ev.bind hs (Ev.bind hx (Ev.bs (ofW x) ?_))
  simp only
  have hd : Int.tdiv (e - (u : Int)) 2 = h' := by rw [hh', Int.mul_tdiv_cancel_left h' (by decide)]
  rw [hd, w64_id (n := h') (by omega) (by omega)]
  have p := packE w hw false 0 x (by decide) x3 h' (decide (x * x ≠ S))
  rw [show wn 0 x = x by unfold wn; omega, sqPack w hh' x1 x2 hb x3] at p
  exact Ev.bs p (Ev.out rfl)
theorem sqrtE (w : Int) (hw : w = 32 ∨ w = 64) (a : Nat) (ha : a < 18446744073709551616) : Ev (fun k => radix_Sqrt.f k w a) ((sqP w (opn w a) : Nat) : Int) := by
  have main : Ev (fun k => radix_Sqrt.j0 k w a false) ((sqP w (opn w a) : Nat) : Int) := by
    refine Ev.step (fun _ => radix_Sqrt.j0.eq_2 ..) (Ev.neg (by decide) (Ev.bind (openS w hw a ha) ?_))
    have ok := opn_ok w hw a
    generalize opn w a = p at *
    obtain ⟨s, kd, e, g⟩ := p
    obtain ⟨h1, h2, h0, h3, h4, h5, h6⟩ := ok
    simp only at h1 h2 h0 h3 h4 h5 h6
    obtain ⟨g, rfl⟩ := Int.eq_ofNat_of_zero_le h3
    unfold sqP
    simp only
    by_cases k0 : kd = 0
    · rw [if_pos k0]; exact Ev.pos k0 (Ev.bs (shZ w hw s) (Ev.out rfl))
    · rw [if_neg k0]
      refine Ev.neg k0 ?_
      by_cases k3 : kd = 3
      · rw [if_pos (.inl k3)]
        exact Ev.pos k3 (Ev.step (fun _ => radix_Sqrt.j1.eq_2 ..) (Ev.pos rfl (Ev.bs (shN w hw) (Ev.out rfl))))
      · refine Ev.neg k3 (Ev.step (fun _ => radix_Sqrt.j1.eq_2 ..) ?_)
        by_cases ks : s = true
        · rw [if_pos (.inr ks)]
          exact Ev.pos ks (Ev.bs (shN w hw) (Ev.out rfl))
        · rw [if_neg (by simp [k3, ks])]
          refine Ev.neg ks ?_
          by_cases k2 : kd = 2
          · rw [if_pos k2]; exact Ev.pos k2 (Ev.bs (shI w hw false) (Ev.out rfl))
          · rw [if_neg k2]
            have k1 : kd = 1 := by omega
            subst k1
            have hs : s = false := by cases s; rfl; exact absurd rfl ks
            subst hs
            refine Ev.neg k2 (Ev.bind (finiteE w hw false 1 (by have := h2 rfl; omega) (by omega) ⟨h5, h6⟩) (Ev.out ?_))
            rw [pv1]; simp
  unfold radix_Sqrt.f
  rcases hw with rfl | rfl
  · exact Ev.pos rfl main
  · exact Ev.neg (by decide) main
theorem sqrt_no {w : Int} (hw : ¬ (w = 32 ∨ w = 64)) (a : Int) : Ev (fun k => radix_Sqrt.f k w a) 0 := by
  unfold radix_Sqrt.f
  refine Ev.neg (by omega) (Ev.step (fun _ => radix_Sqrt.j0.eq_2 ..) (Ev.pos ?_ (Ev.out rfl)))
  rw [bne_iff_ne]; omega
theorem awake07 : Ev (fun k => L07_awake.f k) true := Ev.of (fun k => L07_awake.mono k) (k := 80) (by decide +kernel)
theorem cmpN_side (X Y : Nat) : wrap64 (-(cmpN X Y)) = if X < Y then 1 else if X = Y then 0 else -1 := by
  unfold cmpN
  by_cases h1 : X < Y
  · rw [if_pos h1, if_pos h1]; decide +kernel
  · rw [if_neg h1, if_neg h1]
    by_cases h2 : Y < X
    · rw [if_pos h2, if_neg (by omega)]; decide +kernel
    · rw [if_neg h2, if_pos (by omega)]; decide +kernel
theorem overS (m a : Nat) (kk e : Int) (hm : m < 18446744073709551616) (ha : a < 18446744073709551616) (hk : -2000 < kk ∧ kk < 2000) (he : -2000 < e ∧ e < 2000) :
    ∃ X Y : Nat, ((X < Y ↔ ((m * m : Nat) : Rat) * tw (2 * kk) < (a : Rat) * tw e) ∧ (X = Y ↔ ((m * m : Nat) : Rat) * tw (2 * kk) = (a : Rat) * tw e)) ∧ Ev (fun k => r7_over.f k m kk a e) (cmpN X Y) := by
  obtain ⟨lo, hlo⟩ : ∃ lo, mn (2 * kk) e = lo := ⟨_, rfl⟩
  have hl : lo ≤ 2 * kk ∧ lo ≤ e ∧ (lo = 2 * kk ∨ lo = e) := by unfold mn at hlo; split at hlo <;> omega
  obtain ⟨u, hu⟩ := Int.eq_ofNat_of_zero_le (show 0 ≤ 2 * kk - lo by omega)
  obtain ⟨v, hv⟩ := Int.eq_ofNat_of_zero_le (show 0 ≤ e - lo by omega)
  have T := tw_pos lo
  have bm := bl64 hm
  have ba := bl64 ha
  have bmm := bl_mul m m
  have bs := bl_shl (m * m) u
  have bt := bl_shl a v
  refine ⟨m * m * 2 ^ u, a * 2 ^ v, ?_, ?_⟩
  · rw [twx (g := m * m) hu.symm, twx (g := a) hv.symm]
    constructor
    · rw [← nat_lt]
      exact ⟨fun h => mul_lt h T, fun h => lt_of_mul h T⟩
    · constructor
      · intro h; rw [h]
      · intro h
        have h1 : ¬ m * m * 2 ^ u < a * 2 ^ v := fun c => by have := mul_lt (nat_lt.2 c) T; grind
        have h2 : ¬ a * 2 ^ v < m * m * 2 ^ u := fun c => by have := mul_lt (nat_lt.2 c) T; grind
        omega
  · unfold r7_over.f
    rw [w64_id (n := 2 * kk) (by omega) (by omega), hlo, w64_id (n := 2 * kk - lo) (by omega) (by omega), w64_id (n := e - lo) (by omega) (by omega), hu, hv]
    exact Ev.bind (of_dg m hm) (Ev.bind (of_dg m hm) (Ev.bind (mul_bl m m (by omega) (by omega)) (Ev.bind (of_dg a ha) (Ev.bind (shl_bl (m * m) u (by omega) (by omega)) (Ev.bind (shl_bl a v (by omega) (by omega)) (Ev.bind (cmp_bl _ _ (by omega) (by omega)) (Ev.out rfl)))))))
theorem sideS (w : Int) (hw : w = 32 ∨ w = 64) {m : Nat} (hm : m < (fmt w).inf) (s : Bool) (kd : Int) {e : Int} {g : Nat} (hg : g < 9007199254740992) (he : -1100 ≤ e ∧ e ≤ 1000) :
    ∃ c : Int, Ev (fun k => r7_side.f k w m s kd e g) c ∧ ((c > 0 ∨ c = 0 ∧ m % 2 = 1) ↔ (fmt w).USq ((g : Rat) * tw e) m) := by
  have hi := inf_sb w hw
  have hs2 : 2 * sb w ≤ 18446744073709551616 := by unfold sb; split <;> decide
  have op : ∀ n, n < (fmt w).inf → opn w n = if n = 0 then (false, 0, 0, 0) else (false, 1, (fmt w).ex n, ((fmt w).sg n : Int)) := by
    intro n hn
    have := opn_mk w hw n false (by omega)
    rw [show mkN w n false = n by simp [mkN]] at this
    rw [this, if_pos hn]
  have hx := ex_bd w hw m hm
  have hsg := sg_64 w hw m
  have mid2 : (fmt w).mid m * (fmt w).mid m = (((2 * (fmt w).sg m + 1) * (2 * (fmt w).sg m + 1) : Nat) : Rat) * tw (2 * ((fmt w).ex m - 1)) := by
    unfold Fmt.mid
    rw [show 2 * ((fmt w).ex m - 1) = ((fmt w).ex m - 1) + ((fmt w).ex m - 1) by omega, tw_add]
    push_cast; grind
  obtain ⟨X, Y, ⟨h1, h2⟩, ho⟩ := overS (2 * (fmt w).sg m + 1) g ((fmt w).ex m - 1) e (by omega) (by omega) (by omega) (by omega)
  rw [← mid2] at h1 h2
  refine ⟨if X < Y then 1 else if X = Y then 0 else -1, ?_, ?_⟩
  · rw [← cmpN_side X Y]
    unfold r7_side.f
    refine Ev.bind (r2Open w hw m (by omega)) ?_
    rw [op m hm]
    have e2 : IntKind.u64.wrap ((IntKind.u64.wrap (2 * (((fmt w).sg m : Nat) : Int))) + 1) = ((2 * (fmt w).sg m + 1 : Nat) : Int) := by
      rw [u64_id (n := 2 * (((fmt w).sg m : Nat) : Int)) (by omega) (by omega), u64_id (by omega) (by omega)]; omega
    by_cases h0 : m = 0
    · rw [if_pos h0]
      have ip := (fmt w).inf_pos
      have i1 : 1 < (fmt w).inf := by rcases hw with rfl | rfl; rw [fmt32, inf32]; decide; rw [fmt64, inf64]; decide
      have e1 : (fmt w).ex 1 = (fmt w).ex m := by
        subst h0
        rcases hw with rfl | rfl
        · rw [fmt32]; decide
        · rw [fmt64]; decide
      have e0 : (fmt w).sg m = 0 := by subst h0; rcases hw with rfl | rfl; rw [fmt32]; decide; rw [fmt64]; decide
      refine Ev.pos rfl (Ev.bind (r2Open w hw 1 (by decide)) ?_)
      rw [op 1 i1, if_neg (by decide)]
      simp only
      rw [e0] at e2 ho
      have e3 : IntKind.u64.wrap ((IntKind.u64.wrap (2 * (0 : Int))) + 1) = ((2 * 0 + 1 : Nat) : Int) := e2
      rw [e3, e1, w64_id (n := (fmt w).ex m - 1) (by omega) (by omega)]
      exact Ev.bind ho (Ev.out rfl)
    · rw [if_neg h0]
      simp only
      rw [e2, w64_id (n := (fmt w).ex m - 1) (by omega) (by omega)]
      exact Ev.neg (by decide) (Ev.bind ho (Ev.out rfl))
  · unfold Fmt.USq
    rw [← h1, ← h2]
    by_cases c1 : X < Y
    · rw [if_pos c1]
      exact ⟨fun _ => .inl c1, fun _ => .inl (by decide)⟩
    · rw [if_neg c1]
      by_cases c2 : X = Y
      · rw [if_pos c2]
        constructor
        · rintro (h | ⟨_, h⟩)
          · exact absurd h (by decide)
          · exact .inr ⟨c2, h⟩
        · rintro (h | ⟨_, h⟩)
          · exact absurd h c1
          · exact .inr ⟨rfl, h⟩
      · rw [if_neg c2]
        constructor
        · rintro (h | ⟨h, _⟩)
          · exact absurd h (by decide)
          · exact absurd h (by decide)
        · rintro (h | ⟨h, _⟩)
          · exact absurd h c1
          · exact absurd h c2
theorem halfLoop (w : Int) (hw : w = 32 ∨ w = 64) (s : Bool) (kd : Int) {e : Int} {g R : Nat} (hg : g < 9007199254740992) (he : -1100 ≤ e ∧ e ≤ 1000) (hR : (fmt w).rsq ((g : Rat) * tw e) = R) (hlt : R < (fmt w).inf) : ∀ (d lo hi : Nat), hi - lo ≤ d → lo ≤ R → R ≤ hi → hi < (fmt w).inf →
    Ev (fun k => r7_Sqrt.l0 k w lo hi s kd e g) (R : Int)
  | 0, lo, hi, hd, h1, h2, h3 => by
    have : lo = R := by omega
    subst this
    exact Ev.step (fun _ => r7_Sqrt.l0.eq_2 ..) (Ev.neg (by omega) (Ev.out rfl))
  | d + 1, lo, hi, hd, h1, h2, h3 => by
    have hib := inf_sb w hw
    have hs2 : 2 * sb w ≤ 18446744073709551616 := by unfold sb; split <;> decide
    refine Ev.step (fun _ => r7_Sqrt.l0.eq_2 ..) ?_
    by_cases c : lo < hi
    · have em : IntKind.u64.wrap ((lo : Int) + (IntKind.u64.wrap (Int.tdiv (IntKind.u64.wrap ((hi : Int) - (lo : Int))) 2))) = ((lo + (hi - lo) / 2 : Nat) : Int) := by
        rw [u64_id (n := (hi : Int) - (lo : Int)) (by omega) (by omega), Int.tdiv_eq_ediv_of_nonneg (by omega), u64_id (n := ((hi : Int) - (lo : Int)) / 2) (by omega) (by omega), u64_id (by omega) (by omega)]; omega
      rw [em]
      obtain ⟨m, hm⟩ : ∃ m, lo + (hi - lo) / 2 = m := ⟨_, rfl⟩
      rw [hm]
      obtain ⟨v, v1, v2⟩ := sideS w hw (m := m) (by omega) s kd hg he
      rw [usq_iff w hR hlt] at v2
      have up : m < R → Ev (fun k => r7_Sqrt.l0 k w (IntKind.u64.wrap ((m : Int) + 1)) hi s kd e g) (R : Int) := fun h => by
        rw [u64_id (n := (m : Int) + 1) (by omega) (by omega), show (m : Int) + 1 = ((m + 1 : Nat) : Int) by omega]
        exact halfLoop w hw s kd hg he hR hlt d (m + 1) hi (by omega) (by omega) h2 h3
      have dn : ¬ m < R → Ev (fun k => r7_Sqrt.l0 k w lo m s kd e g) (R : Int) := fun h => halfLoop w hw s kd hg he hR hlt d lo m (by omega) h1 (by omega) (by omega)
      have et : (Int.tmod (m : Int) 2 = 1) ↔ m % 2 = 1 := by rw [Int.tmod_eq_emod_of_nonneg (by omega)]; omega
      refine Ev.pos (by omega) (Ev.bind v1 ?_)
      by_cases p1 : v > 0
      · exact Ev.pos p1 (up (v2.1 (.inl p1)))
      · refine Ev.neg p1 ?_
        by_cases p2 : v = 0
        · refine Ev.pos p2 ?_
          by_cases p3 : m % 2 = 1
          · exact Ev.pos (et.2 p3) (up (v2.1 (.inr ⟨p2, p3⟩)))
          · exact Ev.neg (fun x => p3 (et.1 x)) (dn fun x => by rcases v2.2 x with y | ⟨_, y⟩; exact p1 y; exact p3 y)
        · exact Ev.neg p2 (dn fun x => by rcases v2.2 x with y | ⟨y, _⟩; exact p1 y; exact p2 y)
    · have : lo = R := by omega
      subst this
      exact Ev.neg (by omega) (Ev.out rfl)
theorem sqrtR (w : Int) (hw : w = 32 ∨ w = 64) (a : Nat) (ha : a < 18446744073709551616) : Ev (fun k => r7_Sqrt.f k w a) ((sqP w (opn w a) : Nat) : Int) := by
  have hib := inf_sb w hw
  have hs2 : 2 * sb w ≤ 18446744073709551616 := by unfold sb; split <;> decide
  have ip := (fmt w).inf_pos
  unfold r7_Sqrt.f
  refine Ev.bind (r2Open w hw a ha) ?_
  have ok := opn_ok w hw a
  have kin := kinds w hw a
  generalize hp : opn w a = p at *
  obtain ⟨s, kd, e, g⟩ := p
  obtain ⟨h1, h2, h0, h3, h4, h5, h6⟩ := ok
  simp only at h1 h2 h0 h3 h4 h5 h6
  obtain ⟨g, rfl⟩ := Int.eq_ofNat_of_zero_le h3
  unfold sqP
  simp only
  by_cases k0 : kd = 0
  · rw [if_pos k0]; exact Ev.pos k0 (Ev.bind (zero_mul' w hw s) (Ev.out rfl))
  · rw [if_neg k0]
    refine Ev.neg k0 ?_
    by_cases k3 : kd = 3
    · rw [if_pos (.inl k3)]
      exact Ev.pos k3 (Ev.step (fun _ => r7_Sqrt.j0.eq_2 ..) (Ev.pos rfl (Ev.bind (r2Nanw w hw) (Ev.out rfl))))
    · refine Ev.neg k3 (Ev.step (fun _ => r7_Sqrt.j0.eq_2 ..) ?_)
      by_cases ks : s = true
      · rw [if_pos (.inr ks)]
        exact Ev.pos ks (Ev.bind (r2Nanw w hw) (Ev.out rfl))
      · rw [if_neg (by simp [k3, ks])]
        refine Ev.neg ks ?_
        by_cases k2 : kd = 2
        · rw [if_pos k2]; exact Ev.pos k2 (Ev.bind (r2Infw w hw false) (Ev.out rfl))
        · rw [if_neg k2]
          have k1 : kd = 1 := by omega
          subst k1
          have hs : s = false := by cases s; rfl; exact absurd rfl ks
          subst hs
          have hval : ∃ m, m < (fmt w).inf ∧ (fmt w).val m = (g : Rat) * tw e := by
            rcases kin with ⟨_, hk⟩ | ⟨m1, m2, hk⟩ | ⟨_, hk⟩ | ⟨_, hk⟩
            · injection hk with _ hk; injection hk with hk; exact absurd hk (by decide)
            · injection hk with hk1 hk; injection hk with hk2 hk; injection hk with hk3 hk4
              refine ⟨magN w a, m2, ?_⟩
              have : g = (fmt w).sg (magN w a) := by exact_mod_cast hk4
              rw [this, hk3]; rfl
            · injection hk with _ hk; injection hk with hk; exact absurd hk (by decide)
            · injection hk with _ hk; injection hk with hk; exact absurd hk (by decide)
          obtain ⟨m, hm, hv⟩ := hval
          have hlt := rsq_lt w hw hm
          rw [hv] at hlt
          refine Ev.neg k2 (Ev.bind (r2Infw w hw false) ?_)
          rw [show mkN w (fmt w).inf false = (fmt w).inf by simp [mkN], u64_id (n := (((fmt w).inf : Nat) : Int) - 1) (by omega) (by omega), show (((fmt w).inf : Nat) : Int) - 1 = (((fmt w).inf - 1 : Nat) : Int) by omega]
          have L := halfLoop w hw false 1 (by omega) ⟨h5, h6⟩ (R := (fmt w).rsq ((g : Rat) * tw e)) rfl hlt ((fmt w).inf) 0 ((fmt w).inf - 1) (by omega) (by omega) (by omega) (by omega)
          rw [pv1]
          simp only [Bool.false_eq_true, if_false]
          rw [show ∀ n, mkN w n false = n from fun n => by simp [mkN]]
          exact L
theorem RadixRootsP : L07_RadixRoots.Pure := by
  intro w a hw0 ha0
  obtain ⟨ha1, ha2⟩ := wf_u64 ha0
  obtain ⟨a, rfl⟩ := Int.eq_ofNat_of_zero_le ha1
  have ha : a < 18446744073709551616 := by omega
  refine Ev.rounds ?_
  unfold L07_RadixRoots.f
  refine Ev.bind awake07 (Ev.pos rfl ?_)
  by_cases hw : w = 32 ∨ w = 64
  · refine Ev.bind (sqrtE w hw a ha) (Ev.bs (known_f w) ?_)
    rw [decide_eq_true hw]
    exact Ev.pos rfl (Ev.bind (sqrtR w hw a ha) (Ev.out (by simp)))
  · refine Ev.bind (sqrt_no hw a) (Ev.bs (known_f w) ?_)
    rw [decide_eq_false hw]
    exact Ev.neg (by decide) (Ev.out rfl)
end Go.Proofs.Ytjjehbedpgdhgaa.Th
end
namespace Go.Proofs.Ytjjehbedpgdhgaa.Pure
theorem RadixRoots : Go.Proofs.Ytjjehbedpgdhgaa.PA.L07_RadixRoots.Pure := Go.Proofs.Ytjjehbedpgdhgaa.Th.RadixRootsP
end Go.Proofs.Ytjjehbedpgdhgaa.Pure
namespace Go.Proofs.Ytjjehbedpgdhgaa.Facts
abbrev ch (n : Nat) : Char := Char.ofNat n
theorem words_word (w : List Char) (r : List Char) (h : w.all (fun c => c != ch 32) = true) : wordsSigns (w ++ ch 32 :: r) = w :: wordsSigns r := by
  induction w with
  | nil => rfl
  | cons c w ih =>
    rw [List.all_cons, Bool.and_eq_true] at h
    have hc : c ≠ ch 32 := bne_iff_ne.1 h.1
    rw [List.cons_append]
    rw [wordsSigns.eq_3 c _ (fun e => hc e), ih h.2]
def w1 : List Char := [ch 104, ch 97, ch 114, ch 110, ch 101, ch 115, ch 115]
def w2 : List Char := [ch 51, ch 52, ch 101, ch 53, ch 102, ch 48, ch 55, ch 101, ch 100, ch 56, ch 100, ch 53, ch 49, ch 98, ch 54, ch 101, ch 48, ch 51, ch 57, ch 99, ch 100, ch 54, ch 51, ch 49, ch 100, ch 101, ch 55, ch 50, ch 100, ch 101, ch 48, ch 52, ch 53, ch 100, ch 99, ch 49, ch 49, ch 53, ch 100, ch 98, ch 56, ch 51, ch 51, ch 55, ch 52, ch 57, ch 98, ch 51, ch 101, ch 57, ch 50, ch 51, ch 54, ch 99, ch 56, ch 51, ch 100, ch 101, ch 54, ch 53, ch 57, ch 52, ch 101, ch 97]
def w3 : List Char := [ch 99, ch 117, ch 116]
set_option maxRecDepth 100000 in
def tailSigns : List Char := [ch 97, ch 116, ch 32, ch 116, ch 114, ch 117, ch 110, ch 110, ch 105, ch 111, ch 110, ch 47, ch 116, ch 114, ch 117, ch 110, ch 110, ch 105, ch 111, ch 110, ch 108, ch 97, ch 119, ch 48, ch 55, ch 46, ch 82, ch 97, ch 100, ch 105, ch 120, ch 82, ch 111, ch 111, ch 116, ch 115, ch 32, ch 116, ch 114, ch 117, ch 110, ch 110, ch 105, ch 111, ch 110, ch 47, ch 116, ch 114, ch 117, ch 110, ch 110, ch 105, ch 111, ch 110, ch 108, ch 97, ch 119, ch 48, ch 55, ch 46, ch 82, ch 97, ch 100, ch 105, ch 120, ch 75, ch 101, ch 101, ch 112, ch 115, ch 32, ch 116, ch 114, ch 117, ch 110, ch 110, ch 105, ch 111, ch 110, ch 47, ch 116, ch 114, ch 117, ch 110, ch 110, ch 105, ch 111, ch 110, ch 108, ch 97, ch 119, ch 48, ch 55, ch 46, ch 82, ch 97, ch 100, ch 105, ch 120, ch 83, ch 99, ch 97, ch 108, ch 101, ch 32, ch 116, ch 114, ch 117, ch 110, ch 110, ch 105, ch 111, ch 110, ch 47, ch 116, ch 114, ch 117, ch 110, ch 110, ch 105, ch 111, ch 110, ch 108, ch 97, ch 119, ch 49, ch 50, ch 46, ch 67, ch 104, ch 111, ch 112, ch 84, ch 114, ch 97, ch 112, ch 115, ch 32, ch 116, ch 114, ch 117, ch 110, ch 110, ch 105, ch 111, ch 110, ch 47, ch 116, ch 114, ch 117, ch 110, ch 110, ch 105, ch 111, ch 110, ch 108, ch 97, ch 119, ch 48, ch 49, ch 46, ch 87, ch 105, ch 100, ch 101, ch 83, ch 117, ch 109, ch 115]
set_option maxRecDepth 100000 in
theorem head_list : Try.prog.initOrder.toList = w1 ++ ch 32 :: (w2 ++ ch 32 :: (w3 ++ ch 32 :: tailSigns)) :=
  (congrArg String.toList (show Try.prog.initOrder = String.ofList (w1 ++ ch 32 :: (w2 ++ ch 32 :: (w3 ++ ch 32 :: tailSigns))) from rfl)).trans String.toList_ofList
theorem words : ∃ rest, behindMainWord (wordsSigns Try.prog.initOrder.toList) = w3 :: rest := by
  refine ⟨wordsSigns tailSigns, ?_⟩
  rw [head_list, words_word w1 _ (by kernel_rfl), words_word w2 _ (by kernel_rfl), words_word w3 _ (by kernel_rfl)]
  generalize wordsSigns tailSigns = rest
  have e : ((w1 == "harness".toList || w1 == "ownmain".toList) && isSumSigns w2) = true := by kernel_rfl
  show (if ((w1 == "harness".toList || w1 == "ownmain".toList) && isSumSigns w2) = true then w3 :: rest else w1 :: w2 :: w3 :: rest) = w3 :: rest
  rw [if_pos e]
theorem c3 : (w3 == "gc".toList) = false ∧ (w3 == "spec".toList) = false ∧ (w3 == "cut".toList) = true ∧ (w3 == "carried".toList) = false ∧ (w3 == "finals".toList) = false := ⟨by kernel_rfl, by kernel_rfl, by kernel_rfl, by kernel_rfl, by kernel_rfl⟩
theorem strip (rest : List (List Char)) : stripLifts liftWords (w3 :: rest) = ([], w3 :: rest) := by
  have key : ∀ l : List String, l.all (fun o => !(w3 == o.toList)) = true → stripLifts l (w3 :: rest) = ([], w3 :: rest) := by
    intro l
    induction l with
    | nil => intro _; rfl
    | cons o l ih =>
      intro h
      rw [List.all_cons, Bool.and_eq_true] at h
      unfold stripLifts
      rw [if_neg (fun e => by have h1 := h.1; rw [e] at h1; cases h1)]
      exact ih h.2
  exact key liftWords (by kernel_rfl)
theorem make_of (P : Program) (h : ∃ rest, behindMainWord (wordsSigns P.initOrder.toList) = w3 :: rest) : P.make = some .cut := by
  obtain ⟨rest, h⟩ := h
  unfold Program.make
  rw [h]
  show (if (w3 == "gc".toList || w3 == "spec".toList) = true then some Make.whole else if (w3 == "cut".toList || (w3 == "finals".toList && rest.head? == some "cut".toList)) = true then some Make.cut else _) = some Make.cut
  rw [if_neg (by rw [c3.1, c3.2.1]; decide), if_pos (by rw [c3.2.2.1, Bool.true_or])]
set_option maxRecDepth 100000 in
theorem liftsFact : Try.prog.liftsFinal = false := by
  unfold Program.liftsFinal Program.headLifts
  rw [head_list]
  kernel_rfl
theorem doorFact : (!Try.prog.laysLater && !Try.prog.bearsReflect && Try.prog.doorFits []) = true := by kernel_rfl
theorem makeFact : Try.prog.make = some .cut := make_of _ words
theorem enter_of (P : Program) (h : ∃ rest, behindMainWord (wordsSigns P.initOrder.toList) = w3 :: rest) (d : (!P.laysLater && !P.bearsReflect && P.doorFits []) = true) : P.mayEnter = true := by
  obtain ⟨rest, h⟩ := h
  rw [Bool.and_eq_true, Bool.and_eq_true] at d
  have e : ((some w3 == some "cut".toList) : Bool) = true := by kernel_rfl
  unfold Program.mayEnter
  rw [h]
  show ((_ || _) || ((stripLifts liftWords (w3 :: rest)).2.head? == some "cut".toList && ((stripLifts liftWords (w3 :: rest)).1.contains "finals" || !P.laysLater) && ((stripLifts liftWords (w3 :: rest)).1.contains "reflectrows" || !P.bearsReflect) &&
      ((stripLifts liftWords (w3 :: rest)).1.contains "reflectrows" || !(stripLifts liftWords (w3 :: rest)).1.contains "leanrows") && P.doorFits (stripLifts liftWords (w3 :: rest)).1)) = true
  rw [strip, Bool.or_eq_true]
  refine .inr ?_
  rw [Bool.and_eq_true, Bool.and_eq_true, Bool.and_eq_true, Bool.and_eq_true, Bool.or_eq_true, Bool.or_eq_true]
  exact ⟨⟨⟨⟨e, .inr d.1.1⟩, .inr d.1.2⟩, rfl⟩, d.2⟩
theorem enterFact : Try.prog.mayEnter = true := enter_of _ words doorFact
end Go.Proofs.Ytjjehbedpgdhgaa.Facts
