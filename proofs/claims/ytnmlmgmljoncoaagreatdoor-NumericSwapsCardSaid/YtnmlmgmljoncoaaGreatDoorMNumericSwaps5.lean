/- What the Go functions that the statement NumericSwaps reaches compute, and the mathematics on it, in the order in which one leans on the other; for every input. -/
import Derived.Test.YtnmlmgmljoncoaaGreatDoorVNumericSwaps0
import Derived.Test.YtnmlmgmljoncoaaGreatDoorMNumericSwaps0
import Derived.Test.YtnmlmgmljoncoaaGreatDoorMNumericSwaps4
import Derived.Test.YtnmlmgmljoncoaaGreatDoorMNumericSwaps3
import Derived.Test.YtnmlmgmljoncoaaGreatDoorMNumericSwaps2
import Derived.Test.YtnmlmgmljoncoaaGreatDoorMNumericSwaps1
import Derived.Deep.RegionHeld3
import Derived.Deep.DeepCutAuto
import Derived.BigRegion
import Derived.StillTail
import Derived.OrdersHeld
import Derived.RegionTactic
namespace Go.Proofs.YtnmlmgmljoncoaaGreatDoor.PA
open Go.RowKit Go.Proofs.YtnmlmgmljoncoaaGreatDoorW.PrintWords Go.Proofs.YtnmlmgmljoncoaaGreatDoorW.PrintLast Go.Proofs.YtnmlmgmljoncoaaGreatDoorW.PrintMore
attribute [local go_sem] max2_int min2_int max_two min_two max_three min_three max_four min_four   -- for this text's walks alone
set_option linter.unusedVariables false
set_option linter.unusedSimpArgs false
set_option maxHeartbeats 8000000
set_option maxRecDepth 100000
def shape_Close.j0 : Nat → Int → Bool → Bool → Int → Int → Int → Option (Int × Int)
 | 0, _, _, _, _, _, _ => none
 | k + 1, x0, x36, x334000, x334001, x334002, x334003 => if x36 = true then (some (0, 2)) else (if x334001 = 0 then ((shape_Zero.f x0 x334000).bind fun t340 => (some (t340, 0))) else (if x334001 = 2 then ((shape_Inf.f x0 x334000).bind fun t341 => (some (t341, 0))) else (if x334001 = 3 then ((shape_Nan.f x0).bind fun t342 => (some (t342, 0))) else (some (0, 2)))))
def shape_Close.f (k : Nat) (a0 : Int) (a1_0 : Bool) (a1_1 : Int) (a1_2 : Int) (a1_3 : Int) : Option (Int × Int) := (shape_of.f a0).bind fun bt334 => (if bt334.2.2 = true then (if a1_1 = 1 then ((shape_format_finite.f k bt334.1 bt334.2.1 a1_0 a1_1 a1_2 a1_3).bind fun bt338 => (if bt338.2 = true then (some (bt338.1, 0)) else (some (0, 2)))) else (if a1_3 = 0 then (shape_Close.j0 k a0 (a1_2 != 0) a1_0 a1_1 a1_2 a1_3) else (shape_Close.j0 k a0 true a1_0 a1_1 a1_2 a1_3))) else (some (0, 2)))
theorem shape_Close.mono_l : ∀ k, (∀ y0 y1 y2 y3 y4 y5, LeO (shape_Close.j0 k y0 y1 y2 y3 y4 y5) (shape_Close.j0 (k + 1) y0 y1 y2 y3 y4 y5))
 | 0 => fun _ _ _ _ _ _ r h => by simp [shape_Close.j0] at h
 | k + 1 => by
  have ih0 := shape_Close.mono_l k
  ·intro y0 y1 y2 y3 y4 y5
   unfold shape_Close.j0
   repeat' first
   | (with_reducible exact ih0 _ _ _ _ _ _)
   | (with_reducible exact shape_format_finite.mono _ _ _ _ _ _ _)
   | (with_reducible exact LeO.refl _)
   | (with_reducible exact LeO.none _)
   | (with_reducible refine LeO.ite ?_ ?_)
   | (with_reducible refine LeO.bind ?_ (fun _ => ?_))
   | exact ih0 _ _ _ _ _ _
   | exact shape_format_finite.mono _ _ _ _ _ _ _
   | exact LeO.none _
   | refine LeO.ite ?_ ?_
   | refine LeO.bind ?_ (fun _ => ?_)
theorem shape_Close.mono : ∀ a0 a1 a2 a3 a4 k, LeO (shape_Close.f k a0 a1 a2 a3 a4) (shape_Close.f (k + 1) a0 a1 a2 a3 a4) := by
 intro a0 a1 a2 a3 a4 k
 have ih0 := shape_Close.mono_l k
 unfold shape_Close.f
 repeat' first
   | (with_reducible exact ih0 _ _ _ _ _ _)
   | (with_reducible exact shape_format_finite.mono _ _ _ _ _ _ _)
   | (with_reducible exact LeO.refl _)
   | (with_reducible exact LeO.none _)
   | (with_reducible refine LeO.ite ?_ ?_)
   | (with_reducible refine LeO.bind ?_ (fun _ => ?_))
   | exact ih0 _ _ _ _ _ _
   | exact shape_format_finite.mono _ _ _ _ _ _ _
   | exact LeO.none _
   | refine LeO.ite ?_ ?_
   | refine LeO.bind ?_ (fun _ => ?_)
theorem shape_Close.calls (k : Nat) (a0 : Int) (a1_0 : Bool) (a1_1 : Int) (a1_2 : Int) (a1_3 : Int) (r1 : Int) (r2 : Int) (w : World) (h : shape_Close.f k a0 a1_0 a1_1 a1_2 a1_3 = some (r1, r2)) :
  Calls Tryz.prog 259 #[.int .i64 a0, .agg #[.bool a1_0, .int .i64 a1_1, .int .i64 a1_2, .int .u64 a1_3]] w fun e w' => e = .returned (.tuple #[.int .u64 r1, .int .i64 r2]) ∧ Below w.heap.size w w' := by
 have hu27 := Tryz.underlying27
 have hu65 := Tryz.underlying65
 have HB := A_ (Below.refl w.heap.size w)
 have H : ((shape_of.f a0).bind fun bt334 => (if bt334.2.2 = true then (if a1_1 = 1 then ((shape_format_finite.f k bt334.1 bt334.2.1 a1_0 a1_1 a1_2 a1_3).bind fun bt338 => (if bt338.2 = true then (some (bt338.1, 0)) else (some (0, 2)))) else (if a1_3 = 0 then (shape_Close.j0 k a0 (a1_2 != 0) a1_0 a1_1 a1_2 a1_3) else (shape_Close.j0 k a0 true a1_0 a1_1 a1_2 a1_3))) else (some (0, 2)))) = some (r1, r2) := h
 clear h
 replace H := ob_ H
 obtain ⟨⟨t334, t335, t336⟩, A30, H⟩ := H
 replace H : (if t336 = true then (if a1_1 = 1 then ((shape_format_finite.f k t334 t335 a1_0 a1_1 a1_2 a1_3).bind fun bt338 => (if bt338.2 = true then (some (bt338.1, 0)) else (some (0, 2)))) else (if a1_3 = 0 then (shape_Close.j0 k a0 (a1_2 != 0) a1_0 a1_1 a1_2 a1_3) else (shape_Close.j0 k a0 true a1_0 a1_1 a1_2 a1_3))) else (some (0, 2))) = some (r1, r2) := H
 have A3 := A_ A30;clear A30
 by_cases c4 : t336 = true
 ·subst c4
  have H1 : (if a1_1 = 1 then ((shape_format_finite.f k t334 t335 a1_0 a1_1 a1_2 a1_3).bind fun bt338 => (if bt338.2 = true then (some (bt338.1, 0)) else (some (0, 2)))) else (if a1_3 = 0 then (shape_Close.j0 k a0 (a1_2 != 0) a1_0 a1_1 a1_2 a1_3) else (shape_Close.j0 k a0 true a1_0 a1_1 a1_2 a1_3))) = some (r1, r2) := by rw [if_pos rfl] at H; exact H
  clear H;have H := H1;clear H1
  by_cases c5 : a1_1 = 1
  ·rw [if_pos c5] at H
   have c5b0 : (a1_1 == 1) = true := beq_iff_eq.mpr c5
   have c5b1 : (a1_1 != 1) = false := bne_eq_false_iff_eq.mpr c5
   clear c5
   replace H := ob_ H
   obtain ⟨⟨t338, t339⟩, A60, H⟩ := H
   replace H : (if t339 = true then (some (t338, 0)) else (some (0, 2))) = some (r1, r2) := H
   have A6 := A_ A60;clear A60
   by_cases c7 : t339 = true
   ·subst c7
    have H1 : (some (t338, 0)) = some (r1, r2) := by rw [if_pos rfl] at H; exact H
    clear H;have H := H1;clear H1
    simp only [Option.some.injEq, Prod.mk.injEq] at H
    obtain ⟨rfl, rfl⟩ := H
    go_enter Tryz.func259, Tryz.ntmps259
    go_wp2_with (first | ((with_reducible refine gate_dst (N := 3) rfl ?_); refine be_ 3 #[.bool a1_0, .int .i64 a1_1, .int .i64 a1_2, .int .u64 a1_3] 27 ?_; intro gb333 hg w8 hbox hb; have BK333 := A_ (hbox); have GW333 := A_ (sz_ hg (hb_ HB.out)); have GE333 := A_ (sz_ hg (hb_ HB.out)); replace HB := A_ (below_step (hb_ HB.out) hb); clear hb hbox hg) | ((with_reducible refine gate_callee (f := 35) rfl ?_); refine goesL_ (some 12) rfl rfl Tryz.func35 (by kernel_rfl) rfl #[.int .i64 a0] rfl mp_ ?_; (with_reducible refine (shape_of.calls a0 t334 t335 true _ A3.out).mono ?_); rintro e w9 ⟨rfl, hb⟩; refine ⟨_, rfl, ?_⟩; replace BK333 := A_ (bb_ BK333.out hb); replace HB := A_ (below_step (hb1_ HB.out GE333.out) hb); (try clear hb); (try clear hb2); (try clear hk); (try clear hi)) | ((with_reducible refine gate_dst (N := 6) rfl ?_); refine be_ 6 #[.int .i64 0, .int .i64 0] 65 ?_; intro gb337 hg w10 hbox hb; have BK337 := A_ (hbox); have GW337 := A_ (sz_ hg (hb1_ HB.out GE333.out)); have GE337 := A_ (sz_ hg (hb1_ HB.out GE333.out)); have NB333_337 := A_ (nl_ hg BK333.out); have NB337_333 := A_ (ng_ hg BK333.out); replace BK333 := A_ (bb_ BK333.out hb); replace HB := A_ (below_step (hb1_ HB.out GE333.out) hb); clear hb hbox hg; have hnb11 := NB337_333.out; have hnc11 := NB333_337.out; have hcz12_0 := bv_ BK337.out 0; have hcz12_1 := bv_ BK337.out 1; have hfz12_0 := blk_frozen BK337.out 0; have hfz12_1 := blk_frozen BK337.out 1; have hcz13_0 := bv_ BK333.out 0; have hcz13_1 := bv_ BK333.out 1; have hcz13_2 := bv_ BK333.out 2; have hcz13_3 := bv_ BK333.out 3; have hfz13_0 := blk_frozen BK333.out 0; have hfz13_1 := blk_frozen BK333.out 1; have hfz13_2 := blk_frozen BK333.out 2; have hfz13_3 := blk_frozen BK333.out 3) | ((with_reducible refine gate_callee (f := 266) rfl ?_); refine goesL_ (some 23) rfl rfl Tryz.func266 (by kernel_rfl) rfl #[.agg #[.int .i64 t334, .int .i64 t335], .agg #[.bool a1_0, .int .i64 a1_1, .int .i64 a1_2, .int .u64 a1_3]] rfl mp_ ?_; (with_reducible refine (shape_format_finite.calls k t334 t335 a1_0 a1_1 a1_2 a1_3 t338 true _ A6.out).mono ?_); rintro e w14 ⟨rfl, hb⟩; refine ⟨_, rfl, ?_⟩; replace BK333 := A_ (blk_below (g := gb333) (o := .cells #[.bool a1_0, .int .i64 a1_1, .int .i64 a1_2, .int .u64 a1_3] 27 (0, 0)) (bf2_ BK333.out NB333_337.out NB333_337.out) hb); replace BK337 := A_ (blk_below (g := gb337) (o := .cells #[.int .i64 t334, .int .i64 t335] 65 (0, 0)) (by (with_reducible repeat (first | refine blk_drewN ?_ _ | refine blk_drew ?_ | refine blk_alloc ?_ _)); refine blk_put (cs := #[.int .i64 t334, .int .i64 0]) ?_ 1 _ rfl; (with_reducible repeat (first | refine blk_drewN ?_ _ | refine blk_drew ?_ | refine blk_alloc ?_ _)); refine blk_put (cs := #[.int .i64 0, .int .i64 0]) ?_ 0 _ rfl; (with_reducible repeat (first | refine blk_drewN ?_ _ | refine blk_drew ?_ | refine blk_alloc ?_ _)); exact BK337.out) hb); replace HB := A_ (below_step (hb2_ HB.out GE333.out GE337.out) hb); (try clear hb); (try clear hb2); (try clear hk); (try clear hi)))
    go_ret2
    exact ⟨er_, hb2_ HB.out GE333.out GE337.out⟩
   ·replace c7 := Bool.eq_false_iff.mpr c7
    subst c7
    have H1 : (some (0, 2)) = some (r1, r2) := by rw [if_neg (show ¬ (false = true) by decide)] at H; exact H
    clear H;have H := H1;clear H1
    simp only [Option.some.injEq, Prod.mk.injEq] at H
    obtain ⟨rfl, rfl⟩ := H
    go_enter Tryz.func259, Tryz.ntmps259
    go_wp2_with (first | ((with_reducible refine gate_dst (N := 3) rfl ?_); refine be_ 3 #[.bool a1_0, .int .i64 a1_1, .int .i64 a1_2, .int .u64 a1_3] 27 ?_; intro gb333 hg w15 hbox hb; have BK333 := A_ (hbox); have GW333 := A_ (sz_ hg (hb_ HB.out)); have GE333 := A_ (sz_ hg (hb_ HB.out)); replace HB := A_ (below_step (hb_ HB.out) hb); clear hb hbox hg) | ((with_reducible refine gate_callee (f := 35) rfl ?_); refine goesL_ (some 12) rfl rfl Tryz.func35 (by kernel_rfl) rfl #[.int .i64 a0] rfl mp_ ?_; (with_reducible refine (shape_of.calls a0 t334 t335 true _ A3.out).mono ?_); rintro e w16 ⟨rfl, hb⟩; refine ⟨_, rfl, ?_⟩; replace BK333 := A_ (bb_ BK333.out hb); replace HB := A_ (below_step (hb1_ HB.out GE333.out) hb); (try clear hb); (try clear hb2); (try clear hk); (try clear hi)) | ((with_reducible refine gate_dst (N := 6) rfl ?_); refine be_ 6 #[.int .i64 0, .int .i64 0] 65 ?_; intro gb337 hg w17 hbox hb; have BK337 := A_ (hbox); have GW337 := A_ (sz_ hg (hb1_ HB.out GE333.out)); have GE337 := A_ (sz_ hg (hb1_ HB.out GE333.out)); have NB333_337 := A_ (nl_ hg BK333.out); have NB337_333 := A_ (ng_ hg BK333.out); replace BK333 := A_ (bb_ BK333.out hb); replace HB := A_ (below_step (hb1_ HB.out GE333.out) hb); clear hb hbox hg; have hnb18 := NB337_333.out; have hnc18 := NB333_337.out; have hcz19_0 := bv_ BK337.out 0; have hcz19_1 := bv_ BK337.out 1; have hfz19_0 := blk_frozen BK337.out 0; have hfz19_1 := blk_frozen BK337.out 1; have hcz20_0 := bv_ BK333.out 0; have hcz20_1 := bv_ BK333.out 1; have hcz20_2 := bv_ BK333.out 2; have hcz20_3 := bv_ BK333.out 3; have hfz20_0 := blk_frozen BK333.out 0; have hfz20_1 := blk_frozen BK333.out 1; have hfz20_2 := blk_frozen BK333.out 2; have hfz20_3 := blk_frozen BK333.out 3) | ((with_reducible refine gate_callee (f := 266) rfl ?_); refine goesL_ (some 23) rfl rfl Tryz.func266 (by kernel_rfl) rfl #[.agg #[.int .i64 t334, .int .i64 t335], .agg #[.bool a1_0, .int .i64 a1_1, .int .i64 a1_2, .int .u64 a1_3]] rfl mp_ ?_; (with_reducible refine (shape_format_finite.calls k t334 t335 a1_0 a1_1 a1_2 a1_3 t338 false _ A6.out).mono ?_); rintro e w21 ⟨rfl, hb⟩; refine ⟨_, rfl, ?_⟩; replace BK333 := A_ (blk_below (g := gb333) (o := .cells #[.bool a1_0, .int .i64 a1_1, .int .i64 a1_2, .int .u64 a1_3] 27 (0, 0)) (bf2_ BK333.out NB333_337.out NB333_337.out) hb); replace BK337 := A_ (blk_below (g := gb337) (o := .cells #[.int .i64 t334, .int .i64 t335] 65 (0, 0)) (by (with_reducible repeat (first | refine blk_drewN ?_ _ | refine blk_drew ?_ | refine blk_alloc ?_ _)); refine blk_put (cs := #[.int .i64 t334, .int .i64 0]) ?_ 1 _ rfl; (with_reducible repeat (first | refine blk_drewN ?_ _ | refine blk_drew ?_ | refine blk_alloc ?_ _)); refine blk_put (cs := #[.int .i64 0, .int .i64 0]) ?_ 0 _ rfl; (with_reducible repeat (first | refine blk_drewN ?_ _ | refine blk_drew ?_ | refine blk_alloc ?_ _)); exact BK337.out) hb); replace HB := A_ (below_step (hb2_ HB.out GE333.out GE337.out) hb); (try clear hb); (try clear hb2); (try clear hk); (try clear hi)))
    go_ret2
    exact ⟨er_, hb2_ HB.out GE333.out GE337.out⟩
  ·rw [if_neg c5] at H
   have c5b0 : (a1_1 == 1) = false := beq_eq_false_iff_ne.mpr c5
   have c5b1 : (a1_1 != 1) = true := bne_iff_ne.mpr c5
   have HC22 := A_ H;clear H
   go_enter Tryz.func259, Tryz.ntmps259
   go_upto_region 9 with (first | ((with_reducible refine gate_dst (N := 3) rfl ?_); refine be_ 3 #[.bool a1_0, .int .i64 a1_1, .int .i64 a1_2, .int .u64 a1_3] 27 ?_; intro gb333 hg w23 hbox hb; have BK333 := A_ (hbox); have GW333 := A_ (sz_ hg (hb_ HB.out)); have GE333 := A_ (sz_ hg (hb_ HB.out)); replace HB := A_ (below_step (hb_ HB.out) hb); clear hb hbox hg) | ((with_reducible refine gate_callee (f := 35) rfl ?_); refine goesL_ (some 12) rfl rfl Tryz.func35 (by kernel_rfl) rfl #[.int .i64 a0] rfl mp_ ?_; (with_reducible refine (shape_of.calls a0 t334 t335 true _ A3.out).mono ?_); rintro e w24 ⟨rfl, hb⟩; refine ⟨_, rfl, ?_⟩; replace BK333 := A_ (bb_ BK333.out hb); replace HB := A_ (below_step (hb1_ HB.out GE333.out) hb); (try clear hb); (try clear hb2); (try clear hk); (try clear hi)) | ((with_reducible refine gate_dst (N := 6) rfl ?_); refine be_ 6 #[.int .i64 0, .int .i64 0] 65 ?_; intro gb337 hg w25 hbox hb; have BK337 := A_ (hbox); have GW337 := A_ (sz_ hg (hb1_ HB.out GE333.out)); have GE337 := A_ (sz_ hg (hb1_ HB.out GE333.out)); have NB333_337 := A_ (nl_ hg BK333.out); have NB337_333 := A_ (ng_ hg BK333.out); replace BK333 := A_ (bb_ BK333.out hb); replace HB := A_ (below_step (hb1_ HB.out GE333.out) hb); clear hb hbox hg; have hnb26 := NB337_333.out; have hnc26 := NB333_337.out; have hcz27_0 := bv_ BK337.out 0; have hcz27_1 := bv_ BK337.out 1; have hfz27_0 := blk_frozen BK337.out 0; have hfz27_1 := blk_frozen BK337.out 1; have hcz28_0 := bv_ BK333.out 0; have hcz28_1 := bv_ BK333.out 1; have hcz28_2 := bv_ BK333.out 2; have hcz28_3 := bv_ BK333.out 3; have hfz28_0 := blk_frozen BK333.out 0; have hfz28_1 := blk_frozen BK333.out 1; have hfz28_2 := blk_frozen BK333.out 2; have hfz28_3 := blk_frozen BK333.out 3))
   (try simp only [Act.put, lI_, l0_, lS_])
   go_cut [36] (fun v36 wc => ∃ (kq : Nat) (x36_21 : Bool), v36 = .bool x36_21 ∧ Aside0 (shape_Close.j0 kq a0 x36_21 a1_0 a1_1 a1_2 a1_3 = some (r1, r2)) ∧ Aside0 (kq ≤ k) ∧ Aside0 (wc.heap[gb333]? = some (.cells #[.bool a1_0, .int .i64 a1_1, .int .i64 a1_2, .int .u64 a1_3] 27 (0, 0))) ∧ Aside0 (wc.heap[gb337]? = some (.cells #[.int .i64 t334, .int .i64 t335] 65 (0, 0))) ∧ Aside0 (Below w.heap.size w wc))
   case first =>
    have H := HC22.out
    clear HC22
    by_cases c29 : a1_3 = 0
    ·rw [if_pos c29] at H
     have c29b0 : (a1_3 == 0) = true := beq_iff_eq.mpr c29
     have c29b1 : (a1_3 != 0) = false := bne_eq_false_iff_eq.mpr c29
     clear c29
     (first | rw [c29b0] | (simp only [i64_w, i32_w]; rw [c29b0]) | skip)
     have H' := A_ H
     clear H
     have hnb30 := NB333_337.out
     have hnc30 := NB337_333.out
     have hcz31_0 := bv_ BK333.out 0
     have hcz31_1 := bv_ BK333.out 1
     have hcz31_2 := bv_ BK333.out 2
     have hcz31_3 := bv_ BK333.out 3
     have hfz31_0 := blk_frozen BK333.out 0
     have hfz31_1 := blk_frozen BK333.out 1
     have hfz31_2 := blk_frozen BK333.out 2
     have hfz31_3 := blk_frozen BK333.out 3
     go_wp2
     go_meet
     case rel => exact ⟨_, ((a1_2 != 0)), sm_, H', ⟨by first | omega | exact Nat.le_refl _⟩, ⟨bf2_ BK333.out NB333_337.out NB333_337.out⟩, ⟨by (with_reducible repeat (first | refine blk_drewN ?_ _ | refine blk_drew ?_ | refine blk_alloc ?_ _)); refine blk_put (cs := #[.int .i64 t334, .int .i64 0]) ?_ 1 _ rfl; (with_reducible repeat (first | refine blk_drewN ?_ _ | refine blk_drew ?_ | refine blk_alloc ?_ _)); refine blk_put (cs := #[.int .i64 0, .int .i64 0]) ?_ 0 _ rfl; (with_reducible repeat (first | refine blk_drewN ?_ _ | refine blk_drew ?_ | refine blk_alloc ?_ _)); exact BK337.out⟩, ⟨hb2_ HB.out GE333.out GE337.out⟩⟩
    ·rw [if_neg c29] at H
     have c29b0 : (a1_3 == 0) = false := beq_eq_false_iff_ne.mpr c29
     have c29b1 : (a1_3 != 0) = true := bne_iff_ne.mpr c29
     (first | rw [c29b0] | (simp only [i64_w, i32_w]; rw [c29b0]) | skip)
     have H' := A_ H
     clear H
     have hnb32 := NB333_337.out
     have hnc32 := NB337_333.out
     have hcz33_0 := bv_ BK333.out 0
     have hcz33_1 := bv_ BK333.out 1
     have hcz33_2 := bv_ BK333.out 2
     have hcz33_3 := bv_ BK333.out 3
     have hfz33_0 := blk_frozen BK333.out 0
     have hfz33_1 := blk_frozen BK333.out 1
     have hfz33_2 := blk_frozen BK333.out 2
     have hfz33_3 := blk_frozen BK333.out 3
     go_wp2
     go_meet
     case rel => exact ⟨_, (true), sm_, H', ⟨by first | omega | exact Nat.le_refl _⟩, ⟨bf2_ BK333.out NB333_337.out NB333_337.out⟩, ⟨by (with_reducible repeat (first | refine blk_drewN ?_ _ | refine blk_drew ?_ | refine blk_alloc ?_ _)); refine blk_put (cs := #[.int .i64 t334, .int .i64 0]) ?_ 1 _ rfl; (with_reducible repeat (first | refine blk_drewN ?_ _ | refine blk_drew ?_ | refine blk_alloc ?_ _)); refine blk_put (cs := #[.int .i64 0, .int .i64 0]) ?_ 0 _ rfl; (with_reducible repeat (first | refine blk_drewN ?_ _ | refine blk_drew ?_ | refine blk_alloc ?_ _)); exact BK337.out⟩, ⟨hb2_ HB.out GE333.out GE337.out⟩⟩
   case rest =>
    clear HC22
    try clear c1
    try clear c2
    try clear p2
    try clear c3
    try clear c4
    try clear c5
    try clear c5b0
    try clear c5b1
    try clear c7
    try clear c11
    try clear c18
    try clear c25
    try clear c26
    try clear c29
    try clear c29b0
    try clear c29b1
    try clear c30
    try clear c32
    try clear hcz12_0
    try clear hcz12_1
    try clear hcz13_0
    try clear hcz13_1
    try clear hcz13_2
    try clear hcz13_3
    try clear hcz19_0
    try clear hcz19_1
    try clear hcz20_0
    try clear hcz20_1
    try clear hcz20_2
    try clear hcz20_3
    try clear hcz27_0
    try clear hcz27_1
    try clear hcz28_0
    try clear hcz28_1
    try clear hcz28_2
    try clear hcz28_3
    try clear hcz31_0
    try clear hcz31_1
    try clear hcz31_2
    try clear hcz31_3
    try clear hcz33_0
    try clear hcz33_1
    try clear hcz33_2
    try clear hcz33_3
    try clear hfz12_0
    try clear hfz12_1
    try clear hfz13_0
    try clear hfz13_1
    try clear hfz13_2
    try clear hfz13_3
    try clear hfz19_0
    try clear hfz19_1
    try clear hfz20_0
    try clear hfz20_1
    try clear hfz20_2
    try clear hfz20_3
    try clear hfz27_0
    try clear hfz27_1
    try clear hfz28_0
    try clear hfz28_1
    try clear hfz28_2
    try clear hfz28_3
    try clear hfz31_0
    try clear hfz31_1
    try clear hfz31_2
    try clear hfz31_3
    try clear hfz33_0
    try clear hfz33_1
    try clear hfz33_2
    try clear hfz33_3
    obtain ⟨kq, x36_21, rfl, HA, HJ21, BK333, BK337, HB⟩ := hcut
    cases kq with
    | zero => exact absurd HA.out (by simp [shape_Close.j0])
    | succ kj21 =>
     have H := HA.out
     clear HA
     simp only [shape_Close.j0] at H
     by_cases c34 : x36_21 = true
     ·subst c34
      have H1 : (some (0, 2)) = some (r1, r2) := by rw [if_pos rfl] at H; exact H
      clear H;have H := H1;clear H1
      simp only [Option.some.injEq, Prod.mk.injEq] at H
      obtain ⟨rfl, rfl⟩ := H
      go_wp2
      go_ret2
      exact ⟨er_, hb2_ HB.out GE333.out GE337.out⟩
     ·replace c34 := Bool.eq_false_iff.mpr c34
      subst c34
      have H1 : (if a1_1 = 0 then ((shape_Zero.f a0 a1_0).bind fun t340 => (some (t340, 0))) else (if a1_1 = 2 then ((shape_Inf.f a0 a1_0).bind fun t341 => (some (t341, 0))) else (if a1_1 = 3 then ((shape_Nan.f a0).bind fun t342 => (some (t342, 0))) else (some (0, 2))))) = some (r1, r2) := by rw [if_neg (show ¬ (false = true) by decide)] at H; exact H
      clear H;have H := H1;clear H1
      by_cases c35 : a1_1 = 0
      ·rw [if_pos c35] at H
       have c35b0 : (a1_1 == 0) = true := beq_iff_eq.mpr c35
       have c35b1 : (a1_1 != 0) = false := bne_eq_false_iff_eq.mpr c35
       clear c35
       replace H := ob_ H
       obtain ⟨t340, A360, H⟩ := H
       replace H : (some (t340, 0)) = some (r1, r2) := H
       have A36 := A_ A360;clear A360
       simp only [Option.some.injEq, Prod.mk.injEq] at H
       obtain ⟨rfl, rfl⟩ := H
       have hnb37 := NB333_337.out
       have hnc37 := NB337_333.out
       have hcz38_0 := bv_ BK333.out 0
       have hcz38_1 := bv_ BK333.out 1
       have hcz38_2 := bv_ BK333.out 2
       have hcz38_3 := bv_ BK333.out 3
       have hfz38_0 := blk_frozen BK333.out 0
       have hfz38_1 := blk_frozen BK333.out 1
       have hfz38_2 := blk_frozen BK333.out 2
       have hfz38_3 := blk_frozen BK333.out 3
       go_wp2_with (first | ((with_reducible refine gate_callee (f := 145) rfl ?_); refine goesL_ (some 44) rfl rfl Tryz.func145 (by kernel_rfl) rfl #[.int .i64 a0, .bool a1_0] rfl mp_ ?_; (with_reducible refine (shape_Zero.calls a0 a1_0 t340 _ A36.out).mono ?_); rintro e w39 ⟨rfl, hb⟩; refine ⟨_, rfl, ?_⟩; replace BK333 := A_ (bb_ BK333.out hb); replace BK337 := A_ (bb_ BK337.out hb); replace HB := A_ (below_step (hb2_ HB.out GE333.out GE337.out) hb); (try clear hb); (try clear hb2); (try clear hk); (try clear hi)))
       go_ret2
       exact ⟨er_, hb2_ HB.out GE333.out GE337.out⟩
      ·rw [if_neg c35] at H
       have c35b0 : (a1_1 == 0) = false := beq_eq_false_iff_ne.mpr c35
       have c35b1 : (a1_1 != 0) = true := bne_iff_ne.mpr c35
       by_cases c40 : a1_1 = 2
       ·rw [if_pos c40] at H
        have c40b0 : (a1_1 == 2) = true := beq_iff_eq.mpr c40
        have c40b1 : (a1_1 != 2) = false := bne_eq_false_iff_eq.mpr c40
        clear c40
        replace H := ob_ H
        obtain ⟨t341, A410, H⟩ := H
        replace H : (some (t341, 0)) = some (r1, r2) := H
        have A41 := A_ A410;clear A410
        simp only [Option.some.injEq, Prod.mk.injEq] at H
        obtain ⟨rfl, rfl⟩ := H
        have hnb42 := NB333_337.out
        have hnc42 := NB337_333.out
        have hcz43_0 := bv_ BK333.out 0
        have hcz43_1 := bv_ BK333.out 1
        have hcz43_2 := bv_ BK333.out 2
        have hcz43_3 := bv_ BK333.out 3
        have hfz43_0 := blk_frozen BK333.out 0
        have hfz43_1 := blk_frozen BK333.out 1
        have hfz43_2 := blk_frozen BK333.out 2
        have hfz43_3 := blk_frozen BK333.out 3
        go_wp2_with (first | ((with_reducible refine gate_callee (f := 147) rfl ?_); refine goesL_ (some 50) rfl rfl Tryz.func147 (by kernel_rfl) rfl #[.int .i64 a0, .bool a1_0] rfl mp_ ?_; (with_reducible refine (shape_Inf.calls a0 a1_0 t341 _ A41.out).mono ?_); rintro e w44 ⟨rfl, hb⟩; refine ⟨_, rfl, ?_⟩; replace BK333 := A_ (bb_ BK333.out hb); replace BK337 := A_ (bb_ BK337.out hb); replace HB := A_ (below_step (hb2_ HB.out GE333.out GE337.out) hb); (try clear hb); (try clear hb2); (try clear hk); (try clear hi)))
        go_ret2
        exact ⟨er_, hb2_ HB.out GE333.out GE337.out⟩
       ·rw [if_neg c40] at H
        have c40b0 : (a1_1 == 2) = false := beq_eq_false_iff_ne.mpr c40
        have c40b1 : (a1_1 != 2) = true := bne_iff_ne.mpr c40
        by_cases c45 : a1_1 = 3
        ·rw [if_pos c45] at H
         have c45b0 : (a1_1 == 3) = true := beq_iff_eq.mpr c45
         have c45b1 : (a1_1 != 3) = false := bne_eq_false_iff_eq.mpr c45
         clear c45
         replace H := ob_ H
         obtain ⟨t342, A460, H⟩ := H
         replace H : (some (t342, 0)) = some (r1, r2) := H
         have A46 := A_ A460;clear A460
         simp only [Option.some.injEq, Prod.mk.injEq] at H
         obtain ⟨rfl, rfl⟩ := H
         have hnb47 := NB333_337.out
         have hnc47 := NB337_333.out
         have hcz48_0 := bv_ BK333.out 0
         have hcz48_1 := bv_ BK333.out 1
         have hcz48_2 := bv_ BK333.out 2
         have hcz48_3 := bv_ BK333.out 3
         have hfz48_0 := blk_frozen BK333.out 0
         have hfz48_1 := blk_frozen BK333.out 1
         have hfz48_2 := blk_frozen BK333.out 2
         have hfz48_3 := blk_frozen BK333.out 3
         go_wp2_with (first | ((with_reducible refine gate_callee (f := 146) rfl ?_); refine goesL_ (some 54) rfl rfl Tryz.func146 (by kernel_rfl) rfl #[.int .i64 a0] rfl mp_ ?_; (with_reducible refine (shape_Nan.calls a0 t342 _ A46.out).mono ?_); rintro e w49 ⟨rfl, hb⟩; refine ⟨_, rfl, ?_⟩; replace BK333 := A_ (bb_ BK333.out hb); replace BK337 := A_ (bb_ BK337.out hb); replace HB := A_ (below_step (hb2_ HB.out GE333.out GE337.out) hb); (try clear hb); (try clear hb2); (try clear hk); (try clear hi)))
         go_ret2
         exact ⟨er_, hb2_ HB.out GE333.out GE337.out⟩
        ·rw [if_neg c45] at H
         have c45b0 : (a1_1 == 3) = false := beq_eq_false_iff_ne.mpr c45
         have c45b1 : (a1_1 != 3) = true := bne_iff_ne.mpr c45
         simp only [Option.some.injEq, Prod.mk.injEq] at H
         obtain ⟨rfl, rfl⟩ := H
         have hnb50 := NB333_337.out
         have hnc50 := NB337_333.out
         have hcz51_0 := bv_ BK333.out 0
         have hcz51_1 := bv_ BK333.out 1
         have hcz51_2 := bv_ BK333.out 2
         have hcz51_3 := bv_ BK333.out 3
         have hfz51_0 := blk_frozen BK333.out 0
         have hfz51_1 := blk_frozen BK333.out 1
         have hfz51_2 := blk_frozen BK333.out 2
         have hfz51_3 := blk_frozen BK333.out 3
         go_wp2
         go_ret2
         exact ⟨er_, hb2_ HB.out GE333.out GE337.out⟩
 ·replace c4 := Bool.eq_false_iff.mpr c4
  subst c4
  have H1 : (some (0, 2)) = some (r1, r2) := by rw [if_neg (show ¬ (false = true) by decide)] at H; exact H
  clear H;have H := H1;clear H1
  simp only [Option.some.injEq, Prod.mk.injEq] at H
  obtain ⟨rfl, rfl⟩ := H
  go_enter Tryz.func259, Tryz.ntmps259
  go_wp2_with (first | ((with_reducible refine gate_dst (N := 3) rfl ?_); refine be_ 3 #[.bool a1_0, .int .i64 a1_1, .int .i64 a1_2, .int .u64 a1_3] 27 ?_; intro gb333 hg w52 hbox hb; have BK333 := A_ (hbox); have GW333 := A_ (sz_ hg (hb_ HB.out)); have GE333 := A_ (sz_ hg (hb_ HB.out)); replace HB := A_ (below_step (hb_ HB.out) hb); clear hb hbox hg) | ((with_reducible refine gate_callee (f := 35) rfl ?_); refine goesL_ (some 12) rfl rfl Tryz.func35 (by kernel_rfl) rfl #[.int .i64 a0] rfl mp_ ?_; (with_reducible refine (shape_of.calls a0 t334 t335 false _ A3.out).mono ?_); rintro e w53 ⟨rfl, hb⟩; refine ⟨_, rfl, ?_⟩; replace BK333 := A_ (bb_ BK333.out hb); replace HB := A_ (below_step (hb1_ HB.out GE333.out) hb); (try clear hb); (try clear hb2); (try clear hk); (try clear hi)) | ((with_reducible refine gate_dst (N := 6) rfl ?_); refine be_ 6 #[.int .i64 0, .int .i64 0] 65 ?_; intro gb337 hg w54 hbox hb; have BK337 := A_ (hbox); have GW337 := A_ (sz_ hg (hb1_ HB.out GE333.out)); have GE337 := A_ (sz_ hg (hb1_ HB.out GE333.out)); have NB333_337 := A_ (nl_ hg BK333.out); have NB337_333 := A_ (ng_ hg BK333.out); replace BK333 := A_ (bb_ BK333.out hb); replace HB := A_ (below_step (hb1_ HB.out GE333.out) hb); clear hb hbox hg; have hnb55 := NB337_333.out; have hnc55 := NB333_337.out; have hcz56_0 := bv_ BK337.out 0; have hcz56_1 := bv_ BK337.out 1; have hfz56_0 := blk_frozen BK337.out 0; have hfz56_1 := blk_frozen BK337.out 1))
  go_ret2
  exact ⟨er_, hb2_ HB.out GE333.out GE337.out⟩
end Go.Proofs.YtnmlmgmljoncoaaGreatDoor.PA
/- What the Go method that makes a rounded number's float does, for every receiver in its bounds. -/
namespace Go.Proofs.YtnmlmgmljoncoaaGreatDoor.PA
open Go.RowKit Go.Proofs.YtnmlmgmljoncoaaGreatDoorW.PrintWords Go.Proofs.YtnmlmgmljoncoaaGreatDoorW.PrintLast Go.Proofs.YtnmlmgmljoncoaaGreatDoorW.PrintMore
attribute [local go_sem] max2_int min2_int max_two min_two max_three min_three max_four min_four   -- for this text's walks alone
set_option linter.unusedVariables false
set_option linter.unusedSimpArgs false
set_option maxHeartbeats 8000000 in
set_option maxRecDepth 100000 in
theorem rp_close (b : Nat) (W f t2 t1 hi l l2 e e2 r : Int) (m ng : Bool) (w : World) (hW : (W = 32 ∧ f = 23 ∧ t2 = 16777216 ∧ t1 = 8388608) ∨ (W = 64 ∧ f = 52 ∧ t2 = 9007199254740992 ∧ t1 = 4503599627370496))
    (c0 : w.cell? ⟨b, 0, none⟩ = some (.int .u64 0)) (c1 : w.cell? ⟨b, 1, none⟩ = some (.int .u64 l)) (c2 : w.cell? ⟨b, 2, none⟩ = some (.int .i64 e)) (c3 : w.cell? ⟨b, 3, none⟩ = some (.bool m))
    (c4 : w.cell? ⟨b, 4, none⟩ = some (.int .i64 W)) (c5 : w.cell? ⟨b, 5, none⟩ = some (.int .i64 f)) (c7 : w.cell? ⟨b, 7, none⟩ = some (.int .i64 hi)) (c8 : w.cell? ⟨b, 8, none⟩ = some (.bool ng))
    (f1 : w.frozen? ⟨b, 1, none⟩ = false) (f2 : w.frozen? ⟨b, 2, none⟩ = false)
    (e0 : -1099511627776 < e) (e1 : e < 1099511627776)
    (X : (l = t2 ∧ t1 = l2 ∧ e + 1 = e2) ∨ (l ≠ t2 ∧ l = l2 ∧ e = e2))
    (Y : (l2 = 0 ∧ shape_Zero.f W ng = some r) ∨ (l2 ≠ 0 ∧ hi < e2 ∧ shape_Inf.f W ng = some r) ∨ (l2 ≠ 0 ∧ e2 ≤ hi ∧ ∃ k z, shape_Close.f k W ng 1 e2 l2 = some (r, z))) :
    Calls Tryz.prog 245 #[.pointer (some ⟨b, 0, none⟩)] w fun en w' => en = .returned (.int .u64 r) ∧ Below b w w' := by
  have hu50 := Tryz.underlying27
  have P2 := Aside0.mk (rp_PK.start c0 c1 c2 c3)
  have F := Aside0.mk (show w.frozen? ⟨b, 1, none⟩ = false ∧ w.frozen? ⟨b, 2, none⟩ = false from ⟨f1, f2⟩)
  have C := Aside0.mk (show w.cell? ⟨b, 4, none⟩ = some (.int .i64 W) ∧ w.cell? ⟨b, 7, none⟩ = some (.int .i64 hi) ∧ w.cell? ⟨b, 8, none⟩ = some (.bool ng) from ⟨c4, c7, c8⟩)
  have W1 : IntKind.i64.wrap (e + 1) = e + 1 := by rw [i64_w]; unfold wrap64; omega
  have hd : ((l == t2) = true ∧ Aside0 (t1 = l2 ∧ e + 1 = e2)) ∨ ((l == t2) = false ∧ Aside0 (l = l2 ∧ e = e2)) := by
    rcases X with ⟨h1, h2⟩ | ⟨h1, h2⟩
    · exact .inl ⟨beq_iff_eq.2 h1, ⟨h2⟩⟩
    · exact .inr ⟨beq_eq_false_iff_ne.2 h1, ⟨h2⟩⟩
  have YD : ((l2 == 0) = true ∧ Aside0 (shape_Zero.f W ng = some r)) ∨ ((l2 == 0) = false ∧ decide (hi < e2) = true ∧ Aside0 (shape_Inf.f W ng = some r)) ∨ ((l2 == 0) = false ∧ decide (hi < e2) = false ∧ Aside0 (∃ k z, shape_Close.f k W ng 1 e2 l2 = some (r, z))) := by
    rcases Y with ⟨y0, y⟩ | ⟨y0, y1, y⟩ | ⟨y0, y1, y⟩
    · exact .inl ⟨beq_iff_eq.2 y0, ⟨y⟩⟩
    · exact .inr (.inl ⟨beq_eq_false_iff_ne.2 y0, decide_eq_true y1, ⟨y⟩⟩)
    · exact .inr (.inr ⟨beq_eq_false_iff_ne.2 y0, decide_eq_false (by omega), ⟨y⟩⟩)
  clear Y X e0 e1
  have key : ∀ (w5 : World), rp_PK b 0 l2 e2 m w w5 → w5.cell? ⟨b, 4, none⟩ = some (.int .i64 W) ∧ w5.cell? ⟨b, 7, none⟩ = some (.int .i64 hi) ∧ w5.cell? ⟨b, 8, none⟩ = some (.bool ng) := fun w5 P3 => ⟨(P3.cs 4 (by decide)).trans C.out.1, (P3.cs 7 (by decide)).trans C.out.2.1, (P3.cs 8 (by decide)).trans C.out.2.2⟩
  have KEY := Aside0.mk key
  clear key C F
  obtain ⟨W_, hW_⟩ : ∃ y, W = y := ⟨_, rfl⟩
  subst hW_
  replace hW : (f = 23 ∧ t2 = 16777216 ∧ t1 = 8388608) ∨ (f = 52 ∧ t2 = 9007199254740992 ∧ t1 = 4503599627370496) := by rcases hW with h | h; exact .inl h.2; exact .inr h.2
  rcases hW with ⟨rfl, rfl, rfl⟩ | ⟨rfl, rfl, rfl⟩
  all_goals
    rcases hd with ⟨hd, X2⟩ | ⟨hd, X2⟩
  all_goals
    go_enter Tryz.func245, Tryz.ntmps245
    go_wp2
    go_quiet (fail)
    go_upto_region 3 with fail
  all_goals first
    | (have P3 := P2.out.below (pw_below_drewN (Below.refl _ _) nq)
       rw [X2.out.1, X2.out.2] at P3
       generalize w.drewN nq = w5 at P3 ⊢)
    | (have P3 := ((P2.out.below (pw_below_drewN (Below.refl _ _) (nq + 1))).put1 8388608).put2 (e + 1)
       go_region
       generalize ((w.drewN (nq + 1)).setCell ⟨b, 1, none⟩ _).setCell ⟨b, 2, none⟩ _ = w5 at P3 ⊢
       rw [X2.out.1, X2.out.2] at P3
       go_upto_region 3 with fail)
    | (have P3 := ((P2.out.below (pw_below_drewN (Below.refl _ _) (nq + 1))).put1 4503599627370496).put2 (e + 1)
       go_region
       generalize ((w.drewN (nq + 1)).setCell ⟨b, 1, none⟩ _).setCell ⟨b, 2, none⟩ _ = w5 at P3 ⊢
       rw [X2.out.1, X2.out.2] at P3
       go_upto_region 3 with fail)
  all_goals
    have P := Aside0.mk P3
    have c1 := P3.c1; have c2 := P3.c2
    obtain ⟨c4, c7, c8⟩ := KEY.out _ P3
    clear P3 X2 P2 hd W1
    rcases YD with ⟨d0, Y⟩ | ⟨d0, d1, Y⟩ | ⟨d0, d1, Y⟩
    · have lt := P.out.lt
      have PP := P.out
      go_wp2_with fail
      go_region_held3 (fun w' => w'.cell? ⟨b, 1, none⟩ = some (.int .u64 l2) ∧ w'.cell? ⟨b, 2, none⟩ = some (.int .i64 e2) ∧ w'.cell? ⟨b, 4, none⟩ = some (.int .i64 W) ∧ w'.cell? ⟨b, 8, none⟩ = some (.bool ng) ∧ b < w'.heap.size ∧ rp_PK b 0 l2 e2 m w w')
        (((try go_split_ands); (try dsimp only); (repeat' apply And.intro) <;> first | assumption | (rw [hc _ _ (by assumption)]; assumption) | (exact Nat.lt_of_lt_of_le (by assumption) hb.size) | (exact rp_PK.below (by assumption) hb) | (apply rp_PK.drew; assumption)))
        ((go_at_call 145; (with_reducible refine (shape_Zero.calls _ ng r _ Y.out).mono ?_); rintro en w6 ⟨rfl, hb⟩; obtain ⟨hc, hf⟩ := Nr.bcell hb))
      rename_i hH
      go_wp2; go_ret; exact ⟨rfl, hH.2.2.2.2.2.bl⟩
    · go_wp2_with fail
      go_quiet (fail)
      have P5 := P.out.below (pw_below_drewN (Below.refl _ _) nq)
      clear P c1 c2 c4 c7 c8
      generalize w5.drewN nq = w7 at P5 ⊢
      have lt := P5.lt
      have c1 := P5.c1; have c2 := P5.c2
      obtain ⟨c4, c7, c8⟩ := KEY.out _ P5
      go_wp2_with fail
      go_region_held3 (fun w' => w'.cell? ⟨b, 1, none⟩ = some (.int .u64 l2) ∧ w'.cell? ⟨b, 2, none⟩ = some (.int .i64 e2) ∧ w'.cell? ⟨b, 4, none⟩ = some (.int .i64 W) ∧ w'.cell? ⟨b, 8, none⟩ = some (.bool ng) ∧ b < w'.heap.size ∧ rp_PK b 0 l2 e2 m w w')
        (((try go_split_ands); (try dsimp only); (repeat' apply And.intro) <;> first | assumption | (rw [hc _ _ (by assumption)]; assumption) | (exact Nat.lt_of_lt_of_le (by assumption) hb.size) | (exact rp_PK.below (by assumption) hb) | (apply rp_PK.drew; assumption)))
        ((go_at_call 147; (with_reducible refine (shape_Inf.calls _ ng r _ Y.out).mono ?_); rintro en w6 ⟨rfl, hb⟩; obtain ⟨hc, hf⟩ := Nr.bcell hb))
      rename_i hH
      go_wp2; go_ret; exact ⟨rfl, hH.2.2.2.2.2.bl⟩
    · go_wp2_with fail
      go_quiet (fail)
      have P5 := P.out.below (pw_below_drewN (Below.refl _ _) nq)
      clear P c1 c2 c4 c7 c8
      generalize w5.drewN nq = w7 at P5 ⊢
      have lt := P5.lt
      have c1 := P5.c1; have c2 := P5.c2
      obtain ⟨c4, c7, c8⟩ := KEY.out _ P5
      obtain ⟨k, z, y⟩ := Y.out
      have B := Aside0.mk y
      clear y Y
      go_wp2_with fail
      go_region_held3 (fun w' => w'.cell? ⟨b, 1, none⟩ = some (.int .u64 l2) ∧ w'.cell? ⟨b, 2, none⟩ = some (.int .i64 e2) ∧ w'.cell? ⟨b, 4, none⟩ = some (.int .i64 W) ∧ w'.cell? ⟨b, 8, none⟩ = some (.bool ng) ∧ b < w'.heap.size ∧ rp_PK b 0 l2 e2 m w w')
        (((try go_split_ands); (try dsimp only); (repeat' apply And.intro) <;> first | assumption | (rw [hc _ _ (by assumption)]; assumption) | (exact Nat.lt_of_lt_of_le (by assumption) hb.size) | (exact rp_PK.below (by assumption) hb) | (apply rp_PK.drew; assumption)))
        ((go_at_call 259; (with_reducible refine (shape_Close.calls k _ ng 1 e2 l2 r z _ B.out).mono ?_); rintro en w6 ⟨rfl, hb⟩; obtain ⟨hc, hf⟩ := Nr.bcell hb))
      rename_i hH
      go_wp2; go_ret; exact ⟨rfl, hH.2.2.2.2.2.bl⟩
end Go.Proofs.YtnmlmgmljoncoaaGreatDoor.PA
set_option linter.unusedVariables false
namespace Go.Proofs.YtnmlmgmljoncoaaGreatDoor.Reg
open Go
section
variable {P : Program} {ops : Array Oper} {Q : Exit → Act → World → Prop} {S : World → Prop} {n : Nat}
def T (P : Program) (ops : Array Oper) (Q : Exit → Act → World → Prop) (S : World → Prop) (n : Nat) : Nat → Array Bool → Act → World → Prop
  | 0, l, a, w => Region.ready .any ops l = [] ∧ Q .normal a w
  | f + 1, l, a, w => (Region.ready .any ops l = [] → Q .normal a w) ∧ ∀ i ∈ Region.ready .any ops l, wpOp P ops Q i (fun a' w' => (i < n → S w') ∧ T P ops Q S n f (l.setIfInBounds i true) a' w') a w
theorem T.any : ∀ (f : Nat) (l : Array Bool) (a : Act) (w : World), T P ops Q S n f l a w → wpAny P .any ops Q f l a w
  | 0, _, _, _, h => h
  | f + 1, l, _, _, h => ⟨h.1, fun i hi => wpOp_mono (fun a' w' k => T.any f _ a' w' k.2) (h.2 i hi)⟩
def G (P : Program) (ops : Array Oper) (Q : Exit → Act → World → Prop) (S : World → Prop) (n f : Nat) (l : Array Bool) (a : Act) (w : World) : Prop := HeadInv .any ops n l → S w → T P ops Q S n f l a w
theorem inv0 (h : n < ops.size) : HeadInv .any ops n (Array.replicate ops.size false) :=
  ⟨by simp, fun j oj _ hl => (by rw [getD_replicate_false] at hl; cases hl), fun t ht ht' => getD_in (by simpa using ht') (getD_replicate_false _ _)⟩
theorem start {id : Nat} {a : Act} {w : World} (S : World → Prop) (n : Nat) (hm : P.follows .mixedOrders = true) (hn : n < ops.size) (hS : S w.drew) (h : G P ops Q S n ops.size (Array.replicate ops.size false) a w.drew) : (Code.region id ops true).wp P Q a w :=
  wp_region_any hm (T.any _ _ _ _ (h (inv0 hn) hS))
theorem T.first {i : Nat} {oi : Oper} {v : Value} (hi : ops[i]? = some oi) (hsel : ∀ (j : Nat) (o : Oper) cs b, ops[j]? = some o → o.op ≠ .select cs b)
    (hQ : ∀ c a w, Q (.panic c) (a.put oi.dst v) w → Q (.panic c) a w) (hs : Region.sinkB .any ops n = true) (hc : Region.chainB .any ops n = true) (hn : n < ops.size) (hin : i < n) :
    ∀ (f : Nat) (l : Array Bool) (a : Act) (w : World), HeadInv .any ops n l →
      (∀ j oj, ops[j]? = some oj → j ≠ i → l.getD j true = false → (∀ e ∈ oj.after, Region.binds .any e = true → e.on ≠ i) → oi.apart ops oj = true) →
      i ∈ Region.ready .any ops l → YieldsIf P ops S oi v a → S w → T P ops Q S n f (l.setIfInBounds i true) (a.put oi.dst v) w → T P ops Q S n (f + 1) l a w := by
  intro f
  induction f with
  | zero =>
    intro l a w _ _ hr hy hS H
    refine ⟨fun h => absurd hr (by rw [h]; simp), fun j hj => ?_⟩
    rcases Nat.decEq j i with hji | rfl
    · exact absurd (ready_mono hj hji) (by rw [H.1]; simp)
    · exact hy.wpOp hi hS ⟨fun _ => hS, H⟩
  | succ f ih =>
    intro l a w inv hfree hr hy hS H
    have hun := (mem_ready.1 hr).1
    refine ⟨fun h => absurd hr (by rw [h]; simp), fun j hj => ?_⟩
    rcases Nat.decEq j i with hji | rfl
    · have hjn : j < n := by
        rcases Nat.lt_or_ge j n with h | h
        · exact h
        · exact absurd hj (tail_waits hs hc hn inv _ i rfl hin hun j h)
      obtain ⟨hjun, oj, hoj, hall⟩ := mem_ready.1 hj
      have hno : ∀ e ∈ oj.after, Region.binds .any e = true → e.on ≠ i := fun e he hb k => by
        have := hall e he hb
        rw [k, getD_both hun] at this
        cases this
      have h2 := wpOp_putIf hoj (hfree j oj hoj hji hjun hno) (fun cs b => hsel i oi cs b hi) (fun cs b => hsel j oj cs b hoj) hQ hy (H.2 j (ready_mono hj hji))
      refine wpOp_mono (fun a' w' k => ⟨fun _ => k.2.1 hjn, ih (l.setIfInBounds j true) a' w' (inv.set hj hjn) (fun m om hm hmi hmun => hfree m om hm hmi ?_) (ready_mono hr (Ne.symm hji)) k.1 (k.2.1 hjn) ?_⟩) h2
      · rcases Nat.decEq j m with hjm | rfl
        · rwa [getD_set_ne true hjm] at hmun
        · exact hjun
      · rw [Array.setIfInBounds_comm _ _ hji]
        exact k.2.2
    · exact hy.wpOp hi hS ⟨fun _ => hS, H⟩
theorem take {i f : Nat} {oi : Oper} {v : Value} {l : Array Bool} {a : Act} {w : World} (hi : ops[i]? = some oi) (hb : (Region.noSelect ops && Region.free .any ops l i && (Region.ready .any ops l).contains i && Region.sinkB .any ops n && Region.chainB .any ops n && decide (n < ops.size) && decide (i < n)) = true)
    (hQ : ∀ c a w, Q (.panic c) (a.put oi.dst v) w → Q (.panic c) a w) (hy : YieldsIf P ops S oi v a)
    (h : G P ops Q S n f (l.setIfInBounds i true) (a.put oi.dst v) w) : G P ops Q S n (f + 1) l a w := by
  simp only [Bool.and_eq_true, decide_eq_true_eq] at hb
  obtain ⟨⟨⟨⟨⟨⟨h1, h2⟩, h3⟩, h4⟩, h5⟩, h6⟩, h7⟩ := hb
  have hr : i ∈ Region.ready .any ops l := by simpa using h3
  exact fun inv hS => T.first hi (Region.noSelect_spec h1) hQ h4 h5 h6 h7 f l a w inv (Region.free_spec hi h2) hr hy hS (h (inv.set hr h7) hS)
theorem one {i f : Nat} {oi : Oper} {l : Array Bool} {a : Act} {w : World} (hi : ops[i]? = some oi) (hb : (decide (Region.ready .any ops l = [i]) && decide (i < n)) = true)
    (h : ∀ K : Act → World → Prop, (∀ a' w', S w' → G P ops Q S n f (l.setIfInBounds i true) a' w' → K a' w') → if Region.wanted oi (yielded ops a.tmps) = true then Oper.wp P oi a w K Q else K (a.put oi.dst undef) w) : G P ops Q S n (f + 1) l a w := by
  simp only [Bool.and_eq_true, decide_eq_true_eq] at hb
  intro inv _
  refine ⟨fun k => (by rw [hb.1] at k; cases k), fun j hj => ?_⟩
  rw [hb.1] at hj
  obtain rfl := List.mem_singleton.1 hj
  exact wpOp_step hi fun K hK => h K fun a' w' s g => hK a' w' ⟨fun _ => s, g (inv.set (by rw [hb.1]; exact List.mem_singleton.2 rfl) hb.2) s⟩
theorem last {f : Nat} {oi : Oper} {l : Array Bool} {a : Act} {w : World} (hi : ops[n]? = some oi) (hb : (decide (Region.ready .any ops l = [n]) && decide (Region.ready .any ops (l.setIfInBounds n true) = [])) = true)
    (h : ∀ K : Act → World → Prop, (∀ a' w', Q .normal a' w' → K a' w') → if Region.wanted oi (yielded ops a.tmps) = true then Oper.wp P oi a w K Q else K (a.put oi.dst undef) w) : G P ops Q S n (f + 1) l a w := by
  simp only [Bool.and_eq_true, decide_eq_true_eq] at hb
  intro inv _
  refine ⟨fun k => (by rw [hb.1] at k; cases k), fun j hj => ?_⟩
  rw [hb.1] at hj
  obtain rfl := List.mem_singleton.1 hj
  refine wpOp_step hi fun K hK => h K fun a' w' q => hK a' w' ⟨fun k => absurd k (Nat.lt_irrefl _), ?_⟩
  cases f with
  | zero => exact ⟨hb.2, q⟩
  | succ f => exact ⟨fun _ => q, fun i hi => absurd hi (by rw [hb.2]; simp)⟩
end
end Go.Proofs.YtnmlmgmljoncoaaGreatDoor.Reg
namespace Go.Proofs.YtnmlmgmljoncoaaGreatDoor.PA
open Go.RowKit Go.Proofs.YtnmlmgmljoncoaaGreatDoorW.PrintWords Go.Proofs.YtnmlmgmljoncoaaGreatDoorW.PrintLast Go.Proofs.YtnmlmgmljoncoaaGreatDoorW.PrintMore
attribute [local go_sem] max2_int min2_int max_two min_two max_three min_three max_four min_four   -- for this text's walks alone
set_option linter.unusedVariables false
set_option linter.unusedSimpArgs false
set_option maxHeartbeats 8000000
set_option maxRecDepth 100000
def shape_Fields.f (a0 : Int) : Option (Int × Int) := (shape_of.f a0).bind fun bt292 => (some (bt292.1, bt292.2.1))
theorem shape_Fields.calls (a0 : Int) (r1 : Int) (r2 : Int) (w : World) (h : shape_Fields.f a0 = some (r1, r2)) :
  Calls Tryz.prog 15 #[.int .i64 a0] w fun e w' => e = .returned (.tuple #[.int .i64 r1, .int .i64 r2]) ∧ Below w.heap.size w w' := by
 have hu65 := Tryz.underlying65
 have HB := A_ (Below.refl w.heap.size w)
 have H : ((shape_of.f a0).bind fun bt292 => (some (bt292.1, bt292.2.1))) = some (r1, r2) := h
 clear h
 replace H := ob_ H
 obtain ⟨⟨t292, t293, t294⟩, A20, H⟩ := H
 replace H : (some (t292, t293)) = some (r1, r2) := H
 have A2 := A_ A20;clear A20
 simp only [Option.some.injEq, Prod.mk.injEq] at H
 obtain ⟨rfl, rfl⟩ := H
 go_enter Tryz.func15, Tryz.ntmps15
 go_wp2_with (first | (go_at_call 35; (with_reducible refine (shape_of.calls a0 t292 t293 t294 _ A2.out).mono ?_); rintro e w3 ⟨rfl, hb⟩; replace HB := A_ (below_step (hb_ HB.out) hb); (try clear hb); (try clear hb2); (try clear hk); (try clear hi)) | ((with_reducible refine gate_dst (N := 4) rfl ?_); refine be_ 4 #[.int .i64 0, .int .i64 0] 65 ?_; intro gb295 hg w4 hbox hb; have BK295 := A_ (hbox); have GW295 := A_ (sz_ hg (hb_ HB.out)); have GE295 := A_ (sz_ hg (hb_ HB.out)); replace HB := A_ (below_step (hb_ HB.out) hb); clear hb hbox hg; have hcz5_0 := bv_ BK295.out 0; have hcz5_1 := bv_ BK295.out 1; have hfz5_0 := blk_frozen BK295.out 0; have hfz5_1 := blk_frozen BK295.out 1))
 repeat (go_quiet (first | (go_at_call 35; (with_reducible refine (shape_of.calls a0 t292 t293 t294 _ A2.out).mono ?_); rintro e w3 ⟨rfl, hb⟩; replace HB := A_ (below_step (hb_ HB.out) hb); (try clear hb); (try clear hb2); (try clear hk); (try clear hi)) | ((with_reducible refine gate_dst (N := 4) rfl ?_); refine be_ 4 #[.int .i64 0, .int .i64 0] 65 ?_; intro gb295 hg w4 hbox hb; have BK295 := A_ (hbox); have GW295 := A_ (sz_ hg (hb_ HB.out)); have GE295 := A_ (sz_ hg (hb_ HB.out)); replace HB := A_ (below_step (hb_ HB.out) hb); clear hb hbox hg; have hcz5_0 := bv_ BK295.out 0; have hcz5_1 := bv_ BK295.out 1; have hfz5_0 := blk_frozen BK295.out 0; have hfz5_1 := blk_frozen BK295.out 1)); try go_wp2_with (first | (go_at_call 35; (with_reducible refine (shape_of.calls a0 t292 t293 t294 _ A2.out).mono ?_); rintro e w3 ⟨rfl, hb⟩; replace HB := A_ (below_step (hb_ HB.out) hb); (try clear hb); (try clear hb2); (try clear hk); (try clear hi)) | ((with_reducible refine gate_dst (N := 4) rfl ?_); refine be_ 4 #[.int .i64 0, .int .i64 0] 65 ?_; intro gb295 hg w4 hbox hb; have BK295 := A_ (hbox); have GW295 := A_ (sz_ hg (hb_ HB.out)); have GE295 := A_ (sz_ hg (hb_ HB.out)); replace HB := A_ (below_step (hb_ HB.out) hb); clear hb hbox hg; have hcz5_0 := bv_ BK295.out 0; have hcz5_1 := bv_ BK295.out 1; have hfz5_0 := blk_frozen BK295.out 0; have hfz5_1 := blk_frozen BK295.out 1)))
 go_ret2
 exact ⟨er_, hb1_ HB.out GE295.out⟩
def round_aim.f (a0 : Int) (a1 : Bool) (a2_0 : Int) (a2_1 : Int) (a2_2 : Int) (a2_3 : Bool) : Option (Int × Int × Int × Bool × Int × Int × Int × Int × Bool × Bool) := (shape_Fields.f a0).bind fun bt298 => (if bt298.1 = 0 then (some (0, 0, 0, false, 0, 0, 0, 0, false, false)) else (if 0 ≤ (wrap64 (bt298.1 - 1)) then (if 0 ≤ bt298.1 then (some (a2_0, a2_1, a2_2, a2_3, a0, bt298.2, wrap64 ((wrap64 (2 - (shl .i64 1 (wrap64 (bt298.1 - 1))))) - bt298.2), wrap64 ((wrap64 ((wrap64 ((wrap64 (2 - (shl .i64 1 (wrap64 (bt298.1 - 1))))) - bt298.2)) + (shl .i64 1 bt298.1))) - 3), a1, true)) else (none)) else (none)))
def round_aim.T5 : Bool × List (List Nat × List Nat) := (true, [([], []), ([], []), ([], []), ([], []), ([], []), ([], []), ([5], [5]), ([4, 6], [4, 6]), ([7], [7]), ([], []), ([0, 1, 2, 3, 8, 9], [0, 1, 2, 3, 8, 9]), ([10, 0, 1, 2, 3, 4, 5, 6, 7, 8, 9, 10], [10]), ([11, 0, 1, 2, 3, 4, 5, 6, 7, 8, 9, 10, 11], [])])
def round_aim.B5 : List Nat := [0, 0, 0, 0, 0, 0, 32, 112, 240, 0, 1023, 2047, 4095]
theorem round_aim.tab5 : rtab .any (opsOf Tryz.f239 5) = round_aim.T5 := by kernel_rfl
theorem round_aim.bits5 : waitsOk round_aim.T5.2 round_aim.B5 = true := by kernel_rfl
theorem round_aim.calls (a0 : Int) (a1 : Bool) (a2_0 : Int) (a2_1 : Int) (a2_2 : Int) (a2_3 : Bool) (r1 : Int) (r2 : Int) (r3 : Int) (r4 : Bool) (r5 : Int) (r6 : Int) (r7 : Int) (r8 : Int) (r9 : Bool) (r10 : Bool) (w : World) (h : round_aim.f a0 a1 a2_0 a2_1 a2_2 a2_3 = some (r1, r2, r3, r4, r5, r6, r7, r8, r9, r10)) :
  Calls Tryz.prog 239 #[.int .i64 a0, .bool a1, .agg #[.int .u64 a2_0, .int .u64 a2_1, .int .i64 a2_2, .bool a2_3]] w fun e w' => e = .returned (.tuple #[.agg #[.int .u64 r1, .int .u64 r2, .int .i64 r3, .bool r4, .int .i64 r5, .int .i64 r6, .int .i64 r7, .int .i64 r8, .bool r9], .bool r10]) ∧ Below w.heap.size w w' := by
 have hu191 := Tryz.underlying191
 have hu193 := Tryz.underlying193
 have HB := A_ (Below.refl w.heap.size w)
 have H : ((shape_Fields.f a0).bind fun bt298 => (if bt298.1 = 0 then (some (0, 0, 0, false, 0, 0, 0, 0, false, false)) else (if 0 ≤ (wrap64 (bt298.1 - 1)) then (if 0 ≤ bt298.1 then (some (a2_0, a2_1, a2_2, a2_3, a0, bt298.2, wrap64 ((wrap64 (2 - (shl .i64 1 (wrap64 (bt298.1 - 1))))) - bt298.2), wrap64 ((wrap64 ((wrap64 ((wrap64 (2 - (shl .i64 1 (wrap64 (bt298.1 - 1))))) - bt298.2)) + (shl .i64 1 bt298.1))) - 3), a1, true)) else (none)) else (none)))) = some (r1, r2, r3, r4, r5, r6, r7, r8, r9, r10) := h
 clear h
 replace H := ob_ H
 obtain ⟨⟨t298, t299⟩, A40, H⟩ := H
 replace H : (if t298 = 0 then (some (0, 0, 0, false, 0, 0, 0, 0, false, false)) else (if 0 ≤ (wrap64 (t298 - 1)) then (if 0 ≤ t298 then (some (a2_0, a2_1, a2_2, a2_3, a0, t299, wrap64 ((wrap64 (2 - (shl .i64 1 (wrap64 (t298 - 1))))) - t299), wrap64 ((wrap64 ((wrap64 ((wrap64 (2 - (shl .i64 1 (wrap64 (t298 - 1))))) - t299)) + (shl .i64 1 t298))) - 3), a1, true)) else (none)) else (none))) = some (r1, r2, r3, r4, r5, r6, r7, r8, r9, r10) := H
 have A4 := A_ A40;clear A40
 by_cases c5 : t298 = 0
 ·rw [if_pos c5] at H
  have c5b0 : (t298 == 0) = true := beq_iff_eq.mpr c5
  have c5b1 : (t298 != 0) = false := bne_eq_false_iff_eq.mpr c5
  clear c5
  simp only [Option.some.injEq, Prod.mk.injEq] at H
  obtain ⟨rfl, rfl, rfl, rfl, rfl, rfl, rfl, rfl, rfl, rfl⟩ := H
  go_enter Tryz.func239, Tryz.ntmps239
  go_wp2_with (first | ((with_reducible refine gate_dst (N := 5) rfl ?_); refine be_ 5 #[.int .u64 a2_0, .int .u64 a2_1, .int .i64 a2_2, .bool a2_3] 191 ?_; intro gb296 hg w6 hbox hb; have BK296 := A_ (hbox); have GW296 := A_ (sz_ hg (hb_ HB.out)); have GE296 := A_ (sz_ hg (hb_ HB.out)); replace HB := A_ (below_step (hb_ HB.out) hb); clear hb hbox hg) | ((with_reducible refine gate_dst (N := 6) rfl ?_); refine be_ 6 #[.int .u64 0, .int .u64 0, .int .i64 0, .bool false, .int .i64 0, .int .i64 0, .int .i64 0, .int .i64 0, .bool false] 193 ?_; intro gb297 hg w7 hbox hb; have BK297 := A_ (hbox); have GW297 := A_ (sz_ hg (hb1_ HB.out GE296.out)); have GE297 := A_ (sz_ hg (hb1_ HB.out GE296.out)); have NB296_297 := A_ (nl_ hg BK296.out); have NB297_296 := A_ (ng_ hg BK296.out); replace BK296 := A_ (bb_ BK296.out hb); replace HB := A_ (below_step (hb1_ HB.out GE296.out) hb); clear hb hbox hg) | ((with_reducible refine gate_callee (f := 15) rfl ?_); refine goesL_ (some 13) rfl rfl Tryz.func15 (by kernel_rfl) rfl #[.int .i64 a0] rfl mp_ ?_; (with_reducible refine (shape_Fields.calls a0 t298 t299 _ A4.out).mono ?_); rintro e w8 ⟨rfl, hb⟩; refine ⟨_, rfl, ?_⟩; replace BK296 := A_ (bb_ BK296.out hb); replace BK297 := A_ (bb_ BK297.out hb); replace HB := A_ (below_step (hb2_ HB.out GE296.out GE297.out) hb); (try clear hb); (try clear hb2); (try clear hk); (try clear hi); have hnb9 := NB297_296.out; have hnc9 := NB296_297.out; have hcz10_0 := bv_ BK297.out 0; have hcz10_1 := bv_ BK297.out 1; have hcz10_2 := bv_ BK297.out 2; have hcz10_3 := bv_ BK297.out 3; have hcz10_4 := bv_ BK297.out 4; have hcz10_5 := bv_ BK297.out 5; have hcz10_6 := bv_ BK297.out 6; have hcz10_7 := bv_ BK297.out 7; have hcz10_8 := bv_ BK297.out 8; have hfz10_0 := blk_frozen BK297.out 0; have hfz10_1 := blk_frozen BK297.out 1; have hfz10_2 := blk_frozen BK297.out 2; have hfz10_3 := blk_frozen BK297.out 3; have hfz10_4 := blk_frozen BK297.out 4; have hfz10_5 := blk_frozen BK297.out 5; have hfz10_6 := blk_frozen BK297.out 6; have hfz10_7 := blk_frozen BK297.out 7; have hfz10_8 := blk_frozen BK297.out 8))
  refine bodyPost_ret (results_ct rfl _ _ gb297 193 #[.int .u64 0, .int .u64 0, .int .i64 0, .bool false, .int .i64 0, .int .i64 0, .int .i64 0, .int .i64 0, .bool false] (0, 0) _ rfl (by (with_reducible repeat (first | refine blk_drewN ?_ _ | refine blk_drew ?_ | refine blk_alloc ?_ _)); refine blk_put (cs := #[.int .u64 0, .int .u64 0, .int .i64 0, .bool false, .int .i64 0, .int .i64 0, .int .i64 0, .int .i64 0, .bool false]) ?_ 8 _ rfl; (with_reducible repeat (first | refine blk_drewN ?_ _ | refine blk_drew ?_ | refine blk_alloc ?_ _)); refine blk_put (cs := #[.int .u64 0, .int .u64 0, .int .i64 0, .bool false, .int .i64 0, .int .i64 0, .int .i64 0, .int .i64 0, .bool false]) ?_ 7 _ rfl; (with_reducible repeat (first | refine blk_drewN ?_ _ | refine blk_drew ?_ | refine blk_alloc ?_ _)); refine blk_put (cs := #[.int .u64 0, .int .u64 0, .int .i64 0, .bool false, .int .i64 0, .int .i64 0, .int .i64 0, .int .i64 0, .bool false]) ?_ 6 _ rfl; (with_reducible repeat (first | refine blk_drewN ?_ _ | refine blk_drew ?_ | refine blk_alloc ?_ _)); refine blk_put (cs := #[.int .u64 0, .int .u64 0, .int .i64 0, .bool false, .int .i64 0, .int .i64 0, .int .i64 0, .int .i64 0, .bool false]) ?_ 5 _ rfl; (with_reducible repeat (first | refine blk_drewN ?_ _ | refine blk_drew ?_ | refine blk_alloc ?_ _)); refine blk_put (cs := #[.int .u64 0, .int .u64 0, .int .i64 0, .bool false, .int .i64 0, .int .i64 0, .int .i64 0, .int .i64 0, .bool false]) ?_ 4 _ rfl; (with_reducible repeat (first | refine blk_drewN ?_ _ | refine blk_drew ?_ | refine blk_alloc ?_ _)); refine blk_put (cs := #[.int .u64 0, .int .u64 0, .int .i64 0, .bool false, .int .i64 0, .int .i64 0, .int .i64 0, .int .i64 0, .bool false]) ?_ 3 _ rfl; (with_reducible repeat (first | refine blk_drewN ?_ _ | refine blk_drew ?_ | refine blk_alloc ?_ _)); refine blk_put (cs := #[.int .u64 0, .int .u64 0, .int .i64 0, .bool false, .int .i64 0, .int .i64 0, .int .i64 0, .int .i64 0, .bool false]) ?_ 2 _ rfl; (with_reducible repeat (first | refine blk_drewN ?_ _ | refine blk_drew ?_ | refine blk_alloc ?_ _)); refine blk_put (cs := #[.int .u64 0, .int .u64 0, .int .i64 0, .bool false, .int .i64 0, .int .i64 0, .int .i64 0, .int .i64 0, .bool false]) ?_ 1 _ rfl; (with_reducible repeat (first | refine blk_drewN ?_ _ | refine blk_drew ?_ | refine blk_alloc ?_ _)); refine blk_put (cs := #[.int .u64 0, .int .u64 0, .int .i64 0, .bool false, .int .i64 0, .int .i64 0, .int .i64 0, .int .i64 0, .bool false]) ?_ 0 _ rfl; (with_reducible repeat (first | refine blk_drewN ?_ _ | refine blk_drew ?_ | refine blk_alloc ?_ _)); exact BK297.out) Tryz.underlying193 rfl (by kernel_rfl)) rfl ?_
  exact ⟨er_, hb2_ HB.out GE296.out GE297.out⟩
 ·rw [if_neg c5] at H
  have c5b0 : (t298 == 0) = false := beq_eq_false_iff_ne.mpr c5
  have c5b1 : (t298 != 0) = true := bne_iff_ne.mpr c5
  obtain ⟨ji11, hji11⟩ : ∃ j_ : Int, (wrap64 (t298 - 1)) = j_ := ⟨_, rfl⟩
  replace H : (if 0 ≤ (ji11) then (if 0 ≤ t298 then (some (a2_0, a2_1, a2_2, a2_3, a0, t299, wrap64 ((wrap64 (2 - (shl .i64 1 (ji11)))) - t299), wrap64 ((wrap64 ((wrap64 ((wrap64 (2 - (shl .i64 1 (ji11)))) - t299)) + (shl .i64 1 t298))) - 3), a1, true)) else (none)) else (none)) = some (r1, r2, r3, r4, r5, r6, r7, r8, r9, r10) := by first | (rw [hji11] at H; exact H) | (simp only [hji11] at H ⊢; exact H)
  (try rw [hji11] at A4)
  have hji11w : (IntKind.i64.wrap (t298 - 1)) = ji11 := (i64_w _).trans hji11
  by_cases c12 : 0 ≤ (ji11)
  ·rw [if_pos c12] at H
   have c12b0 := eq_true c12
   have c12b1 : decide (0 ≤ (ji11)) = true := decide_eq_true c12
   clear c12
   obtain ⟨ji13, hji13⟩ : ∃ j_ : Int, (shl .i64 1 (ji11)) = j_ := ⟨_, rfl⟩
   replace H : (if 0 ≤ t298 then (some (a2_0, a2_1, a2_2, a2_3, a0, t299, wrap64 ((wrap64 (2 - (ji13))) - t299), wrap64 ((wrap64 ((wrap64 ((wrap64 (2 - (ji13))) - t299)) + (shl .i64 1 t298))) - 3), a1, true)) else (none)) = some (r1, r2, r3, r4, r5, r6, r7, r8, r9, r10) := by first | (rw [hji13] at H; exact H) | (simp only [hji13] at H ⊢; exact H)
   (try rw [hji13] at A4)
   have hji13_ : (IntKind.i64.wrap (1 * 2 ^ min (ji11).toNat 64)) = ji13 := hji13
   have hji13z : (ji11) ≤ 64 → (IntKind.i64.wrap (1 * 2 ^ (ji11).toNat)) = ji13 := shl_small hji13
   have hji13u : (IntKind.i64.wrap (2 ^ min (ji11).toNat 64)) = ji13 := by have h_ := hji13_; rw [Int.one_mul] at h_; exact h_
   have hji13v : (ji11) ≤ 64 → (IntKind.i64.wrap (2 ^ (ji11).toNat)) = ji13 := fun hle_ => by have h_ := hji13z hle_; rw [Int.one_mul] at h_; exact h_
   have hji13y : (wrap64 (1 * 2 ^ min (ji11).toNat 64)) = ji13 := (i64_w _).symm.trans hji13_
   have hji13x : (ji11) ≤ 64 → (wrap64 (1 * 2 ^ (ji11).toNat)) = ji13 := fun h_ => (i64_w _).symm.trans (hji13z h_)
   by_cases c14 : 0 ≤ t298
   ·rw [if_pos c14] at H
    have c14b0 := eq_true c14
    have c14b1 : decide (0 ≤ t298) = true := decide_eq_true c14
    clear c14
    obtain ⟨ji15, hji15⟩ : ∃ j_ : Int, (shl .i64 1 t298) = j_ := ⟨_, rfl⟩
    replace H : (some (a2_0, a2_1, a2_2, a2_3, a0, t299, wrap64 ((wrap64 (2 - (ji13))) - t299), wrap64 ((wrap64 ((wrap64 ((wrap64 (2 - (ji13))) - t299)) + (ji15))) - 3), a1, true)) = some (r1, r2, r3, r4, r5, r6, r7, r8, r9, r10) := by first | (rw [hji15] at H; exact H) | (simp only [hji15] at H ⊢; exact H)
    (try rw [hji15] at A4)
    have hji15_ : (IntKind.i64.wrap (1 * 2 ^ min t298.toNat 64)) = ji15 := hji15
    have hji15z : t298 ≤ 64 → (IntKind.i64.wrap (1 * 2 ^ t298.toNat)) = ji15 := shl_small hji15
    have hji15u : (IntKind.i64.wrap (2 ^ min t298.toNat 64)) = ji15 := by have h_ := hji15_; rw [Int.one_mul] at h_; exact h_
    have hji15v : t298 ≤ 64 → (IntKind.i64.wrap (2 ^ t298.toNat)) = ji15 := fun hle_ => by have h_ := hji15z hle_; rw [Int.one_mul] at h_; exact h_
    have hji15y : (wrap64 (1 * 2 ^ min t298.toNat 64)) = ji15 := (i64_w _).symm.trans hji15_
    have hji15x : t298 ≤ 64 → (wrap64 (1 * 2 ^ t298.toNat)) = ji15 := fun h_ => (i64_w _).symm.trans (hji15z h_)
    simp only [Option.some.injEq, Prod.mk.injEq] at H
    obtain ⟨rfl, rfl, rfl, rfl, rfl, rfl, rfl, rfl, rfl, rfl⟩ := H
    go_enter Tryz.func239, Tryz.ntmps239
    try go_wp2_with (first | ((with_reducible refine gate_dst (N := 5) rfl ?_); refine be_ 5 #[.int .u64 a2_0, .int .u64 a2_1, .int .i64 a2_2, .bool a2_3] 191 ?_; intro gb296 hg w16 hbox hb; have BK296 := A_ (hbox); have GW296 := A_ (sz_ hg (hb_ HB.out)); have GE296 := A_ (sz_ hg (hb_ HB.out)); replace HB := A_ (below_step (hb_ HB.out) hb); clear hb hbox hg) | ((with_reducible refine gate_dst (N := 6) rfl ?_); refine be_ 6 #[.int .u64 0, .int .u64 0, .int .i64 0, .bool false, .int .i64 0, .int .i64 0, .int .i64 0, .int .i64 0, .bool false] 193 ?_; intro gb297 hg w17 hbox hb; have BK297 := A_ (hbox); have GW297 := A_ (sz_ hg (hb1_ HB.out GE296.out)); have GE297 := A_ (sz_ hg (hb1_ HB.out GE296.out)); have NB296_297 := A_ (nl_ hg BK296.out); have NB297_296 := A_ (ng_ hg BK296.out); replace BK296 := A_ (bb_ BK296.out hb); replace HB := A_ (below_step (hb1_ HB.out GE296.out) hb); clear hb hbox hg) | ((with_reducible refine gate_callee (f := 15) rfl ?_); refine goesL_ (some 13) rfl rfl Tryz.func15 (by kernel_rfl) rfl #[.int .i64 a0] rfl mp_ ?_; (with_reducible refine (shape_Fields.calls a0 t298 t299 _ A4.out).mono ?_); rintro e w18 ⟨rfl, hb⟩; refine ⟨_, rfl, ?_⟩; replace BK296 := A_ (bb_ BK296.out hb); replace BK297 := A_ (bb_ BK297.out hb); replace HB := A_ (below_step (hb2_ HB.out GE296.out GE297.out) hb); (try clear hb); (try clear hb2); (try clear hk); (try clear hi)))
    replace BK296 := A_ (blk_drew BK296.out)
    replace BK297 := A_ (blk_drew BK297.out)
    replace HB := A_ (below_drew1 HB.out)
    refine start_ (n := 13) (S := fun w' => w'.cell? ⟨gb296, 0, none⟩ = some (.int .u64 a2_0) ∧ w'.cell? ⟨gb296, 1, none⟩ = some (.int .u64 a2_1) ∧ w'.cell? ⟨gb296, 2, none⟩ = some (.int .i64 a2_2) ∧ w'.cell? ⟨gb296, 3, none⟩ = some (.bool a2_3)) (ds := []) #[false, false, false, false, false, false, false, false, false, false, false, false, false] (by kernel_rfl) rfl rfl ⟨bc_ BK296.out 0, bc_ BK296.out 1, bc_ BK296.out 2, bc_ BK296.out 3⟩ (fun hHeld => ?_); refine with_tabW round_aim.tab5 round_aim.bits5 (fun HT_ HW_ => ?_)
    generalize w18.drew = w19 at BK296 BK297 HB hHeld ⊢
    refine pu_ 1 (some 26) #[false, true, false, false, false, false, false, false, false, false, false, false, false] rfl rfl (any_of HT_.out (by kernel_rfl)) ?_
    refine pu_ 2 (some 27) #[false, true, true, false, false, false, false, false, false, false, false, false, false] rfl rfl (any_of HT_.out (by kernel_rfl)) ?_
    refine pu_ 3 (some 28) #[false, true, true, true, false, false, false, false, false, false, false, false, false] rfl rfl (any_of HT_.out (by kernel_rfl)) ?_
    refine pu_ 4 (some 29) #[false, true, true, true, true, false, false, false, false, false, false, false, false] rfl rfl (any_of HT_.out (by kernel_rfl)) ?_
    refine pu_ 5 (some 30) #[false, true, true, true, true, true, false, false, false, false, false, false, false] rfl rfl (any_of HT_.out (by kernel_rfl)) ?_
    refine pu_ 6 (some 31) #[false, true, true, true, true, true, true, false, false, false, false, false, false] rfl rfl (any_of HT_.out (by kernel_rfl)) ?_
    refine pu_ 7 (some 32) #[false, true, true, true, true, true, true, true, false, false, false, false, false] rfl rfl (any_of HT_.out (by kernel_rfl)) ?_
    refine pu_ 8 (some 33) #[false, true, true, true, true, true, true, true, true, false, false, false, false] rfl rfl (any_of HT_.out (by kernel_rfl)) ?_
    refine pu_ 9 (some 34) #[false, true, true, true, true, true, true, true, true, true, false, false, false] rfl rfl (any_of HT_.out (by kernel_rfl)) ?_
    refine tk4_ 0 (some 25) #[true, true, true, true, true, true, true, true, true, true, false, false, false] rfl rfl (take_ofW HT_.out HW_.out (by kernel_rfl)) hHeld ?_
    refine pu_ 10 (some 35) #[true, true, true, true, true, true, true, true, true, true, true, false, false] rfl rfl (any_of HT_.out (by kernel_rfl)) ?_
    refine one_ (i := 11) (N := none) #[true, true, true, true, true, true, true, true, true, true, true, true, false] rfl rfl (one_of HT_.out (by kernel_rfl)) (by decide) (fun K hK => ?_)
    have hs20 : w19.cell? ⟨gb297, 0, none⟩ = some (.int .u64 0) := bc_ BK297.out 0
    have hfs20 := blk_frozen BK297.out 0
    have hns20_0 := NB296_297.out
    have hms20_0 := NB297_296.out
    have hs21 : w19.cell? ⟨gb297, 1, none⟩ = some (.int .u64 0) := bc_ BK297.out 1
    have hfs21 := blk_frozen BK297.out 1
    have hns21_0 := NB296_297.out
    have hms21_0 := NB297_296.out
    have hs22 : w19.cell? ⟨gb297, 2, none⟩ = some (.int .i64 0) := bc_ BK297.out 2
    have hfs22 := blk_frozen BK297.out 2
    have hns22_0 := NB296_297.out
    have hms22_0 := NB297_296.out
    have hs23 : w19.cell? ⟨gb297, 3, none⟩ = some (.bool false) := bc_ BK297.out 3
    have hfs23 := blk_frozen BK297.out 3
    have hns23_0 := NB296_297.out
    have hms23_0 := NB297_296.out
    have hs24 : w19.cell? ⟨gb297, 4, none⟩ = some (.int .i64 0) := bc_ BK297.out 4
    have hfs24 := blk_frozen BK297.out 4
    have hns24_0 := NB296_297.out
    have hms24_0 := NB297_296.out
    have hs25 : w19.cell? ⟨gb297, 5, none⟩ = some (.int .i64 0) := bc_ BK297.out 5
    have hfs25 := blk_frozen BK297.out 5
    have hns25_0 := NB296_297.out
    have hms25_0 := NB297_296.out
    have hs26 : w19.cell? ⟨gb297, 6, none⟩ = some (.int .i64 0) := bc_ BK297.out 6
    have hfs26 := blk_frozen BK297.out 6
    have hns26_0 := NB296_297.out
    have hms26_0 := NB297_296.out
    have hs27 : w19.cell? ⟨gb297, 7, none⟩ = some (.int .i64 0) := bc_ BK297.out 7
    have hfs27 := blk_frozen BK297.out 7
    have hns27_0 := NB296_297.out
    have hms27_0 := NB297_296.out
    have hs28 : w19.cell? ⟨gb297, 8, none⟩ = some (.bool false) := bc_ BK297.out 8
    have hfs28 := blk_frozen BK297.out 8
    have hns28_0 := NB296_297.out
    have hms28_0 := NB297_296.out
    refine skip_ (w1 := ?_) (by rfl) rfl ?_ ?_
    rotate_left
    ·go_simp
     rfl
    refine hK.out _ _ ⟨((cell_far (p := ⟨gb297, _, none⟩) NB296_297.out _).trans (((cell_far (p := ⟨gb297, _, none⟩) NB296_297.out _).trans (((cell_far (p := ⟨gb297, _, none⟩) NB296_297.out _).trans (((cell_far (p := ⟨gb297, _, none⟩) NB296_297.out _).trans (((cell_far (p := ⟨gb297, _, none⟩) NB296_297.out _).trans (((cell_far (p := ⟨gb297, _, none⟩) NB296_297.out _).trans (((cell_far (p := ⟨gb297, _, none⟩) NB296_297.out _).trans (((cell_far (p := ⟨gb297, _, none⟩) NB296_297.out _).trans (((cell_far (p := ⟨gb297, _, none⟩) NB296_297.out _).trans (hHeld.1)))))))))))))))))), ((cell_far (p := ⟨gb297, _, none⟩) NB296_297.out _).trans (((cell_far (p := ⟨gb297, _, none⟩) NB296_297.out _).trans (((cell_far (p := ⟨gb297, _, none⟩) NB296_297.out _).trans (((cell_far (p := ⟨gb297, _, none⟩) NB296_297.out _).trans (((cell_far (p := ⟨gb297, _, none⟩) NB296_297.out _).trans (((cell_far (p := ⟨gb297, _, none⟩) NB296_297.out _).trans (((cell_far (p := ⟨gb297, _, none⟩) NB296_297.out _).trans (((cell_far (p := ⟨gb297, _, none⟩) NB296_297.out _).trans (((cell_far (p := ⟨gb297, _, none⟩) NB296_297.out _).trans (hHeld.2.1)))))))))))))))))), ((cell_far (p := ⟨gb297, _, none⟩) NB296_297.out _).trans (((cell_far (p := ⟨gb297, _, none⟩) NB296_297.out _).trans (((cell_far (p := ⟨gb297, _, none⟩) NB296_297.out _).trans (((cell_far (p := ⟨gb297, _, none⟩) NB296_297.out _).trans (((cell_far (p := ⟨gb297, _, none⟩) NB296_297.out _).trans (((cell_far (p := ⟨gb297, _, none⟩) NB296_297.out _).trans (((cell_far (p := ⟨gb297, _, none⟩) NB296_297.out _).trans (((cell_far (p := ⟨gb297, _, none⟩) NB296_297.out _).trans (((cell_far (p := ⟨gb297, _, none⟩) NB296_297.out _).trans (hHeld.2.2.1)))))))))))))))))), ((cell_far (p := ⟨gb297, _, none⟩) NB296_297.out _).trans (((cell_far (p := ⟨gb297, _, none⟩) NB296_297.out _).trans (((cell_far (p := ⟨gb297, _, none⟩) NB296_297.out _).trans (((cell_far (p := ⟨gb297, _, none⟩) NB296_297.out _).trans (((cell_far (p := ⟨gb297, _, none⟩) NB296_297.out _).trans (((cell_far (p := ⟨gb297, _, none⟩) NB296_297.out _).trans (((cell_far (p := ⟨gb297, _, none⟩) NB296_297.out _).trans (((cell_far (p := ⟨gb297, _, none⟩) NB296_297.out _).trans (((cell_far (p := ⟨gb297, _, none⟩) NB296_297.out _).trans (hHeld.2.2.2))))))))))))))))))⟩ (fun hHeld => ?_)
    clear hK K
    refine pu_ 12 (some 7) #[true, true, true, true, true, true, true, true, true, true, true, true, true] rfl rfl (any_of HT_.out (by kernel_rfl)) ?_
    refine done_ (done_of HT_.out (by kernel_rfl)) ?_
    try go_wp2
    refine bodyPost_ret (results_ct rfl _ _ gb297 193 #[.int .u64 a2_0, .int .u64 a2_1, .int .i64 a2_2, .bool a2_3, .int .i64 a0, .int .i64 t299, .int .i64 (wrap64 ((wrap64 (2 - (ji13))) - t299)), .int .i64 (wrap64 ((wrap64 ((wrap64 ((wrap64 (2 - (ji13))) - t299)) + (ji15))) - 3)), .bool a1] (0, 0) _ rfl (by (with_reducible repeat (first | refine blk_drewN ?_ _ | refine blk_drew ?_ | refine blk_alloc ?_ _)); refine blk_put (cs := #[.int .u64 a2_0, .int .u64 a2_1, .int .i64 a2_2, .bool a2_3, .int .i64 a0, .int .i64 t299, .int .i64 (wrap64 ((wrap64 (2 - (ji13))) - t299)), .int .i64 (wrap64 ((wrap64 ((wrap64 ((wrap64 (2 - (ji13))) - t299)) + (ji15))) - 3)), .bool false]) ?_ 8 _ rfl; (with_reducible repeat (first | refine blk_drewN ?_ _ | refine blk_drew ?_ | refine blk_alloc ?_ _)); refine blk_put (cs := #[.int .u64 a2_0, .int .u64 a2_1, .int .i64 a2_2, .bool a2_3, .int .i64 a0, .int .i64 t299, .int .i64 (wrap64 ((wrap64 (2 - (ji13))) - t299)), .int .i64 0, .bool false]) ?_ 7 _ rfl; (with_reducible repeat (first | refine blk_drewN ?_ _ | refine blk_drew ?_ | refine blk_alloc ?_ _)); refine blk_put (cs := #[.int .u64 a2_0, .int .u64 a2_1, .int .i64 a2_2, .bool a2_3, .int .i64 a0, .int .i64 t299, .int .i64 0, .int .i64 0, .bool false]) ?_ 6 _ rfl; (with_reducible repeat (first | refine blk_drewN ?_ _ | refine blk_drew ?_ | refine blk_alloc ?_ _)); refine blk_put (cs := #[.int .u64 a2_0, .int .u64 a2_1, .int .i64 a2_2, .bool a2_3, .int .i64 a0, .int .i64 0, .int .i64 0, .int .i64 0, .bool false]) ?_ 5 _ rfl; (with_reducible repeat (first | refine blk_drewN ?_ _ | refine blk_drew ?_ | refine blk_alloc ?_ _)); refine blk_put (cs := #[.int .u64 a2_0, .int .u64 a2_1, .int .i64 a2_2, .bool a2_3, .int .i64 0, .int .i64 0, .int .i64 0, .int .i64 0, .bool false]) ?_ 4 _ rfl; (with_reducible repeat (first | refine blk_drewN ?_ _ | refine blk_drew ?_ | refine blk_alloc ?_ _)); refine blk_put (cs := #[.int .u64 a2_0, .int .u64 a2_1, .int .i64 a2_2, .bool false, .int .i64 0, .int .i64 0, .int .i64 0, .int .i64 0, .bool false]) ?_ 3 _ rfl; (with_reducible repeat (first | refine blk_drewN ?_ _ | refine blk_drew ?_ | refine blk_alloc ?_ _)); refine blk_put (cs := #[.int .u64 a2_0, .int .u64 a2_1, .int .i64 0, .bool false, .int .i64 0, .int .i64 0, .int .i64 0, .int .i64 0, .bool false]) ?_ 2 _ rfl; (with_reducible repeat (first | refine blk_drewN ?_ _ | refine blk_drew ?_ | refine blk_alloc ?_ _)); refine blk_put (cs := #[.int .u64 a2_0, .int .u64 0, .int .i64 0, .bool false, .int .i64 0, .int .i64 0, .int .i64 0, .int .i64 0, .bool false]) ?_ 1 _ rfl; (with_reducible repeat (first | refine blk_drewN ?_ _ | refine blk_drew ?_ | refine blk_alloc ?_ _)); refine blk_put (cs := #[.int .u64 0, .int .u64 0, .int .i64 0, .bool false, .int .i64 0, .int .i64 0, .int .i64 0, .int .i64 0, .bool false]) ?_ 0 _ rfl; (with_reducible repeat (first | refine blk_drewN ?_ _ | refine blk_drew ?_ | refine blk_alloc ?_ _)); exact BK297.out) Tryz.underlying193 rfl (by kernel_rfl)) rfl ?_
    exact ⟨by first | rfl | (simp [errW_none, errW_some] <;> rfl) | (simp only [← hji11, ← hji13, ← hji15]; first | rfl | (simp [errW_none, errW_some] <;> rfl)) | (simp [*, errW_none, errW_some] <;> rfl), hb2_ HB.out GE296.out GE297.out⟩
   ·rw [if_neg c14] at H
    exact absurd H (by simp)
  ·rw [if_neg c12] at H
   exact absurd H (by simp)
end Go.Proofs.YtnmlmgmljoncoaaGreatDoor.PA
/- What round.Pack does in its main way, told by what its callees answer; for every input in their bounds. -/
namespace Go.Proofs.YtnmlmgmljoncoaaGreatDoor.PA
open Go.RowKit Go.Proofs.YtnmlmgmljoncoaaGreatDoorW.PrintWords Go.Proofs.YtnmlmgmljoncoaaGreatDoorW.PrintLast Go.Proofs.YtnmlmgmljoncoaaGreatDoorW.PrintMore
attribute [local go_sem] max2_int min2_int max_two min_two max_three min_three max_four min_four   -- for this text's walks alone
set_option linter.unusedVariables false
set_option linter.unusedSimpArgs false
attribute [local go_sem high] eqA166
def rp_N (h l e n : Int) (m : Bool) (s0 s1 e2 : Int) : Prop :=
  (n ≤ 0 ∧ m = false ∧ s0 = h ∧ s1 = l ∧ e2 = e) ∨ (0 < n ∧ e2 = e + n ∧ ∃ (k0 k1 q0 q1 : Int) (lost x up : Bool), wide_Right.f h l (n - 1) = some (k0, k1, lost) ∧ wide_Right.f k0 k1 1 = some (q0, q1, x) ∧
    ((Go.bits .and .u64 k1 1 == 1) && ((lost || m) || (Go.bits .and .u64 q1 1 == 1))) = up ∧ (up = true → wide_Add.f q0 q1 0 1 = some (s0, s1)) ∧ (up = false → s0 = q0 ∧ s1 = q1))
theorem rp_near (b : Nat) (h l e n s0 s1 e2 : Int) (m : Bool) (w : World) (P : rp_PK b h l e m w w)
    (f : ∀ i, w.frozen? ⟨b, i, none⟩ = false) (h1 : n < 1099511627776) (e0 : -1099511627776 < e) (e1 : e < 1099511627776) (X : rp_N h l e n m s0 s1 e2) :
    Calls Tryz.prog 243 #[.pointer (some ⟨b, 0, none⟩), .int .i64 n] w fun en w' => en = .returned (.tuple #[]) ∧ rp_PK b s0 s1 e2 false w w' := by
  rcases X with ⟨h0, rfl, rfl, rfl, rfl⟩ | ⟨h0, rfl, k0, k1, q0, q1, lost, x, up, R1, R2, U, A1, A0⟩
  · refine (rp_near0 b s0 s1 e2 n w P.c0 P.c1 P.c2 P.c3 (f 3) h0).mono ?_
    rintro en w' ⟨rfl, rfl⟩
    exact ⟨rfl, P.put3 false⟩
  · exact rp_near1 b h l e n k0 k1 q0 q1 s0 s1 m lost x up w P.c0 P.c1 P.c2 P.c3 (f 0) (f 1) (f 2) (f 3) h0 h1 e0 e1 R1 R2 U A1 A0
set_option maxHeartbeats 8000000 in
set_option maxRecDepth 100000 in
theorem rp_pack (W f t2 t1 lo hi : Int) (hW : (W = 32 ∧ f = 23 ∧ t2 = 16777216 ∧ t1 = 8388608) ∨ (W = 64 ∧ f = 52 ∧ t2 = 9007199254740992 ∧ t1 = 4503599627370496)) (hlo : -10000 < lo ∧ lo < 10000) (h l e h1 l1 e1 n1 n s0 s1 e2 n2 u r0 r1 e3 r : Int) (m m1 ng : Bool) (w : World)
    (AIM : round_aim.f W ng h l e m = some (h, l, e, m, W, f, lo, hi, ng, true))
    (Z : (h == 0 && l == 0) = false ∨ m = true) (E1 : e ≤ 1048576) (E2 : -1048576 ≤ e)
    (T : (m = true ∧ (∃ n0, wide_Len.f h l = some n0 ∧ n0 < 127) ∧ (∃ x0 x1, wide_Left.f h l 1 = some (x0, x1) ∧ wide_Add.f x0 x1 0 1 = some (h1, l1)) ∧ e - 1 = e1 ∧ m1 = false) ∨ ((m = false ∨ ∃ n0, wide_Len.f h l = some n0 ∧ 127 ≤ n0) ∧ h1 = h ∧ l1 = l ∧ e1 = e ∧ m1 = m))
    (L1 : wide_Len.f h1 l1 = some n1) (b1 : 0 ≤ n1 ∧ n1 ≤ 128) (NB : mx (n1 - f - 1) (lo - e1) = n) (NX : rp_N h1 l1 e1 n m1 s0 s1 e2)
    (L2 : wide_Len.f s0 s1 = some n2) (b2 : 0 ≤ n2 ∧ n2 ≤ 128) (U : mn (f + 1 - n2) (e2 - lo) = u) (RX : (0 < u ∧ wide_Left.f s0 s1 u = some (r0, r1) ∧ e2 - u = e3) ∨ (u ≤ 0 ∧ r0 = s0 ∧ r1 = s1 ∧ e2 = e3))
    (FX : (hi < e3 ∧ shape_Inf.f W ng = some r) ∨ (e3 ≤ hi ∧ r0 = 0 ∧ ∃ l4 e4, ((r1 = t2 ∧ t1 = l4 ∧ e3 + 1 = e4) ∨ (r1 ≠ t2 ∧ r1 = l4 ∧ e3 = e4)) ∧
      ((l4 = 0 ∧ shape_Zero.f W ng = some r) ∨ (l4 ≠ 0 ∧ hi < e4 ∧ shape_Inf.f W ng = some r) ∨ (l4 ≠ 0 ∧ e4 ≤ hi ∧ ∃ k z, shape_Close.f k W ng 1 e4 l4 = some (r, z))))) :
    Calls Tryz.prog 214 #[.int .i64 W, .bool ng, .agg #[.int .u64 h, .int .u64 l], .int .i64 e, .bool m] w fun en w' => en = .returned (.int .u64 r) ∧ Below w.heap.size w w' := by
  have hu41 := Tryz.underlying166
  have hu95 := Tryz.underlying191
  have hu97 := Tryz.underlying193
  have A_ := Aside0.mk AIM
  have D1 : decide (1048576 < e) = false := decide_eq_false (by omega)
  have D2 : decide (e < -1048576) = false := decide_eq_false (by omega)
  clear AIM
  go_enter Tryz.func214, Tryz.ntmps214
  go_upto_region 4 with (first | (go_at_call 239; (with_reducible refine (round_aim.calls W ng h l e m h l e m W f lo hi ng true _ A_.out).mono ?_); rintro en w1 ⟨rfl, hb⟩))
  have HW := Aside0.mk (below_alloc (below_step (below_alloc (Below.refl _ w) _) hb) (.cells #[.int .u64 h, .int .u64 l, .int .i64 e, .bool m, .int .i64 W, .int .i64 f, .int .i64 lo, .int .i64 hi, .bool ng] 193 (0, 0)))
  have hag : w.heap.size < w1.heap.size := by have := hb.size; simp at this; omega
  have sa := ((Nr.bcell hb).1 w.heap.size 0 (by simp)).trans (show _ = some (Value.int .u64 h) by simp [go_sem])
  have sb := ((Nr.bcell hb).1 w.heap.size 1 (by simp)).trans (show _ = some (Value.int .u64 l) by simp [go_sem])
  have P : rp_PK w1.heap.size h l e m (w1.alloc (.cells #[.int .u64 h, .int .u64 l, .int .i64 e, .bool m, .int .i64 W, .int .i64 f, .int .i64 lo, .int .i64 hi, .bool ng] 193 (0, 0))) _ := rp_PK.start (by simp [go_sem]) (by simp [go_sem]) (by simp [go_sem]) (by simp [go_sem])
  have C : (w1.alloc (.cells #[.int .u64 h, .int .u64 l, .int .i64 e, .bool m, .int .i64 W, .int .i64 f, .int .i64 lo, .int .i64 hi, .bool ng] 193 (0, 0))).cell? ⟨w1.heap.size, 4, none⟩ = some (.int .i64 W) ∧ (w1.alloc (.cells #[.int .u64 h, .int .u64 l, .int .i64 e, .bool m, .int .i64 W, .int .i64 f, .int .i64 lo, .int .i64 hi, .bool ng] 193 (0, 0))).cell? ⟨w1.heap.size, 5, none⟩ = some (.int .i64 f) ∧
      (w1.alloc (.cells #[.int .u64 h, .int .u64 l, .int .i64 e, .bool m, .int .i64 W, .int .i64 f, .int .i64 lo, .int .i64 hi, .bool ng] 193 (0, 0))).cell? ⟨w1.heap.size, 6, none⟩ = some (.int .i64 lo) ∧ (w1.alloc (.cells #[.int .u64 h, .int .u64 l, .int .i64 e, .bool m, .int .i64 W, .int .i64 f, .int .i64 lo, .int .i64 hi, .bool ng] 193 (0, 0))).cell? ⟨w1.heap.size, 7, none⟩ = some (.int .i64 hi) ∧ (w1.alloc (.cells #[.int .u64 h, .int .u64 l, .int .i64 e, .bool m, .int .i64 W, .int .i64 f, .int .i64 lo, .int .i64 hi, .bool ng] 193 (0, 0))).cell? ⟨w1.heap.size, 8, none⟩ = some (.bool ng) ∧
      ∀ i, (w1.alloc (.cells #[.int .u64 h, .int .u64 l, .int .i64 e, .bool m, .int .i64 W, .int .i64 f, .int .i64 lo, .int .i64 hi, .bool ng] 193 (0, 0))).frozen? ⟨w1.heap.size, i, none⟩ = false := ⟨by simp [go_sem], by simp [go_sem], by simp [go_sem], by simp [go_sem], by simp [go_sem], fun i => by simp [go_sem]⟩
  have S : (w1.alloc (.cells #[.int .u64 h, .int .u64 l, .int .i64 e, .bool m, .int .i64 W, .int .i64 f, .int .i64 lo, .int .i64 hi, .bool ng] 193 (0, 0))).cell? ⟨w.heap.size, 0, none⟩ = some (.int .u64 h) ∧ (w1.alloc (.cells #[.int .u64 h, .int .u64 l, .int .i64 e, .bool m, .int .i64 W, .int .i64 f, .int .i64 lo, .int .i64 hi, .bool ng] 193 (0, 0))).cell? ⟨w.heap.size, 1, none⟩ = some (.int .u64 l) := ⟨(Nr.al hag 0 _).trans sa, (Nr.al hag 1 _).trans sb⟩
  generalize w1.alloc (.cells #[.int .u64 h, .int .u64 l, .int .i64 e, .bool m, .int .i64 W, .int .i64 f, .int .i64 lo, .int .i64 hi, .bool ng] 193 (0, 0)) = w2 at *
  clear hb sa sb
  obtain ⟨g, hg⟩ : ∃ g, w1.heap.size = g := ⟨_, rfl⟩
  rw [hg] at P C hag ⊢
  have C' := Aside0.mk C
  have S' := Aside0.mk S
  have P' := Aside0.mk P
  have N1 := Aside0.mk L1
  have N2 := Aside0.mk L2
  have NN := Aside0.mk NX
  have RR := Aside0.mk RX
  have FF := Aside0.mk FX
  have q0 : -1048578 < e1 ∧ e1 < 1048578 := by
    rcases T with ⟨_, _, _, hh, _⟩ | ⟨_, _, _, hh, _⟩ <;> omega
  have q1 : -1099511627776 < n ∧ n < 1099511627776 := by unfold mx at NB; rcases hW with ⟨_, hf, _⟩ | ⟨_, hf, _⟩ <;> split at NB <;> omega
  have q2 : -1099511627776 < e2 ∧ e2 < 1099511627776 := by
    unfold mx at NB
    rcases NX with ⟨_, _, _, _, hh⟩ | ⟨_, hh, _⟩
    · omega
    · rcases hW with ⟨_, hf, _⟩ | ⟨_, hf, _⟩ <;> split at NB <;> omega
  have q3 : -1099511627776 < e3 ∧ e3 < 1099511627776 := by
    rcases RX with ⟨_, _, hh⟩ | ⟨_, _, _, hh⟩
    · unfold mn at U; rcases hW with ⟨_, hf, _⟩ | ⟨_, hf, _⟩ <;> split at U <;> omega
    · omega
  have hf : f = 23 ∨ f = 52 := by rcases hW with ⟨_, hf, _⟩ | ⟨_, hf, _⟩ <;> omega
  have UU := Aside0.mk (show mn (f + 1 - n2) (e2 - lo) = u from U)
  have V1 := Aside0.mk (show IntKind.i64.wrap (n1 - f) = n1 - f by rw [i64_w]; unfold wrap64; omega)
  have V2 := Aside0.mk (show IntKind.i64.wrap (n1 - f - 1) = n1 - f - 1 by rw [i64_w]; unfold wrap64; omega)
  have V3 := Aside0.mk (show IntKind.i64.wrap (lo - e1) = lo - e1 by rw [i64_w]; unfold wrap64; omega)
  have V4 := Aside0.mk (show (if n1 - f - 1 < lo - e1 then lo - e1 else n1 - f - 1) = n from NB)
  have V5 := Aside0.mk (show IntKind.i64.wrap (e - 1) = e - 1 by rw [i64_w]; unfold wrap64; omega)
  have HH := Aside0.mk (show -10000 < lo ∧ lo < 10000 ∧ 0 ≤ n2 ∧ n2 ≤ 128 ∧ (0 ≤ f ∧ f < 1000) from ⟨hlo.1, hlo.2, b2.1, b2.2, by omega, by omega⟩)
  have QQ := Aside0.mk (And.intro q0 (And.intro q1 (And.intro q2 q3)))
  have WW := Aside0.mk hW
  have sa := S.1; have sb := S.2
  have c0 := P.c0; have c1 := P.c1; have c2 := P.c2; have c3 := P.c3; have f0 := C.2.2.2.2.2 0; have f1 := C.2.2.2.2.2 1; have f2 := C.2.2.2.2.2 2; have f3 := C.2.2.2.2.2 3
  clear S P C L1 L2 NX RX FX q0 q1 q2 q3 U NB hW hlo b1 b2 hf E1 E2 A_ hg
  go_cut [26] (fun s26 wx => s26 = .bool false ∧ wx = w2)
  case first =>
    clear T c0 c1 c2 c3 f0 f1 f2 f3 D1 D2
    obtain ⟨bh, hh⟩ : ∃ y, (h == 0) = y := ⟨_, rfl⟩
    obtain ⟨bl_, hl⟩ : ∃ y, (l == 0) = y := ⟨_, rfl⟩
    rw [hh, hl] at Z
    cases bh <;> cases bl_ <;> cases m <;> first
      | (exfalso; simp at Z; done)
      | (clear Z; go_wp2_with fail; go_meet; exact ⟨rfl, rfl⟩)
  case rest =>
    obtain ⟨rfl, hwx⟩ := hcut
    subst wc
    clear Z
    have hlt := Nat.lt_trans hag P'.out.lt
    obtain ⟨tb, T'⟩ : ∃ tb, Aside0 ((tb = true ∧ m = true ∧ (∃ n0, wide_Len.f h l = some n0 ∧ n0 < 127) ∧ (∃ x0 x1, wide_Left.f h l 1 = some (x0, x1) ∧ wide_Add.f x0 x1 0 1 = some (h1, l1)) ∧ e - 1 = e1 ∧ m1 = false) ∨ (tb = false ∧ (m = false ∨ m = true ∧ ∃ n0, wide_Len.f h l = some n0 ∧ 127 ≤ n0) ∧ h1 = h ∧ l1 = l ∧ e1 = e ∧ m1 = m)) := by
      rcases T with h | ⟨h1, h2⟩
      · exact ⟨true, ⟨.inl ⟨rfl, h⟩⟩⟩
      · refine ⟨false, ⟨.inr ⟨rfl, ?_, h2⟩⟩⟩
        rcases h1 with h1 | h1
        · exact .inl h1
        · cases m
          · exact .inl rfl
          · exact .inr ⟨rfl, h1⟩
    clear T
    go_step
    go_upto_region 10 with fail
    clear c0 c1 c2 c3
    go_cut [54] (fun s54 wy => s54 = .bool tb ∧ rp_PK g h l e m w2 wy)
    case first =>
      rcases T'.out with ⟨rfl, rfl, ⟨n0, T1, T2⟩, _⟩ | ⟨rfl, rfl | ⟨rfl, n0, T1, T2⟩, _⟩
      · have B1 := Aside0.mk T1
        have d3 : decide (n0 < 127) = true := decide_eq_true T2
        clear T1 T2
        go_wp2_with (go_at_call 240; (with_reducible refine (wide_Len.calls h l n0 _ B1.out).mono ?_); rintro en w3 ⟨rfl, hb⟩; replace P' := Aside0.mk (P'.out.below hb); clear hb)
        go_meet
        exact ⟨rfl, P'.out⟩
      · go_wp2_with fail
        go_meet
        exact ⟨rfl, P'.out⟩
      · have B1 := Aside0.mk T1
        have d3 : decide (n0 < 127) = false := decide_eq_false (by omega)
        clear T1 T2
        go_wp2_with (go_at_call 240; (with_reducible refine (wide_Len.calls h l n0 _ B1.out).mono ?_); rintro en w3 ⟨rfl, hb⟩; replace P' := Aside0.mk (P'.out.below hb); clear hb)
        go_meet
        exact ⟨rfl, P'.out⟩
    case rest =>
    obtain ⟨rfl, PA_⟩ := hcut
    have PA2 := Aside0.mk PA_
    have sa := (PA_.bl.cell (p := ⟨w.heap.size, 0, none⟩) hag).trans S'.out.1
    have sb := (PA_.bl.cell (p := ⟨w.heap.size, 1, none⟩) hag).trans S'.out.2
    clear PA_ P' D1 D2 f0 f1 f2 f3
    go_upto_if 54 with fail
    go_cut [] (fun wy => rp_PK g h1 l1 e1 m1 w2 wy)
    case first =>
      rcases T'.out with ⟨rfl, rfl, _, ⟨x0, x1, T3, T4⟩, rfl, rfl⟩ | ⟨rfl, _, rfl, rfl, rfl, rfl⟩
      · have B3 := Aside0.mk T3
        have B4 := Aside0.mk T4
        have V6 := V5.out
        clear T3 T4
        go_wp2_with (first
          | (go_at_call 242; (with_reducible refine (wide_Left.calls h l 1 x0 x1 _ B3.out).mono ?_); rintro en w4 ⟨rfl, hb⟩; replace PA2 := Aside0.mk (PA2.out.below hb); clear hb)
          | (go_at_call 215; (with_reducible refine (wide_Of.calls 1 0 1 _ rfl).mono ?_); rintro en w5 ⟨rfl, hb⟩; replace PA2 := Aside0.mk (PA2.out.below hb); clear hb)
          | (go_at_call 241; (with_reducible refine (wide_Add.calls x0 x1 0 1 h1 l1 _ B4.out).mono ?_); rintro en w6 ⟨rfl, hb⟩; replace PA2 := Aside0.mk (PA2.out.below hb); clear hb; have c0 := PA2.out.c0; have c1 := PA2.out.c1; have c2 := PA2.out.c2; have c3 := PA2.out.c3; have f0 := (PA2.out.fs 0).trans (C'.out.2.2.2.2.2 0); have f1 := (PA2.out.fs 1).trans (C'.out.2.2.2.2.2 1); have f2 := (PA2.out.fs 2).trans (C'.out.2.2.2.2.2 2); have f3 := (PA2.out.fs 3).trans (C'.out.2.2.2.2.2 3)))
        go_meet
        exact (((PA2.out.put0 h1).put1 l1).put2 (e - 1)).put3 false
      · go_wp2_with fail
        go_meet
        exact PA2.out
    case rest =>
    have P3 := hcut
    clear hcut T' V5 PA2 sa sb
    have PX := Aside0.mk P3
    have c0 := P3.c0; have c1 := P3.c1; have c2 := P3.c2; have c5 := (P3.cs 5 (by decide)).trans C'.out.2.1; have c6 := (P3.cs 6 (by decide)).trans C'.out.2.2.1
    have v1 := V1.out; have v2 := V2.out; have v3 := V3.out; have v4 := V4.out
    clear P3
    go_upto_region 12 with fail
    go_cut [] (fun wy => rp_PK g s0 s1 e2 false w2 wy)
    case first =>
      refine Reg.start (fun w' => w'.cell? ⟨g, 0, none⟩ = some (.int .u64 h1) ∧ w'.cell? ⟨g, 1, none⟩ = some (.int .u64 l1) ∧ w'.cell? ⟨g, 2, none⟩ = some (.int .i64 e1) ∧ w'.cell? ⟨g, 5, none⟩ = some (.int .i64 f) ∧ w'.cell? ⟨g, 6, none⟩ = some (.int .i64 lo) ∧ rp_PK g h1 l1 e1 m1 w2 w') 16 (by kernel_rfl) (by decide) ⟨c0, c1, c2, c5, c6, PX.out.drew⟩ ?_
      refine Reg.take (i := 0) rfl (by kernel_rfl) (fun _ _ _ h => h) (Or.inl ⟨by rfl, by intro w' hS; obtain ⟨k0, k1, k2, k5, k6, k7⟩ := hS; first | (go_simp; done) | (go_simp; with_reducible rfl)⟩) ?_
      simp only [Act.put, List.setIfInBounds_toArray, List.set_cons_zero, List.set_cons_succ]
      refine Reg.take (i := 1) rfl (by kernel_rfl) (fun _ _ _ h => h) (Or.inl ⟨by rfl, by intro w' hS; obtain ⟨k0, k1, k2, k5, k6, k7⟩ := hS; first | (go_simp; done) | (go_simp; with_reducible rfl)⟩) ?_
      simp only [Act.put, List.setIfInBounds_toArray, List.set_cons_zero, List.set_cons_succ]
      refine Reg.take (i := 2) rfl (by kernel_rfl) (fun _ _ _ h => h) (Or.inl ⟨by rfl, by intro w' hS; obtain ⟨k0, k1, k2, k5, k6, k7⟩ := hS; first | (go_simp; done) | (go_simp; with_reducible rfl)⟩) ?_
      simp only [Act.put, List.setIfInBounds_toArray, List.set_cons_zero, List.set_cons_succ]
      refine Reg.take (i := 3) rfl (by kernel_rfl) (fun _ _ _ h => h) (Or.inl ⟨by rfl, by intro w' hS; obtain ⟨k0, k1, k2, k5, k6, k7⟩ := hS; first | (go_simp; done) | (go_simp; with_reducible rfl)⟩) ?_
      simp only [Act.put, List.setIfInBounds_toArray, List.set_cons_zero, List.set_cons_succ]
      refine Reg.take (i := 5) rfl (by kernel_rfl) (fun _ _ _ h => h) (Or.inl ⟨by rfl, by intro w' hS; obtain ⟨k0, k1, k2, k5, k6, k7⟩ := hS; first | (go_simp; done) | (go_simp; with_reducible rfl)⟩) ?_
      simp only [Act.put, List.setIfInBounds_toArray, List.set_cons_zero, List.set_cons_succ]
      refine Reg.take (i := 6) rfl (by kernel_rfl) (fun _ _ _ h => h) (Or.inl ⟨by rfl, by intro w' hS; obtain ⟨k0, k1, k2, k5, k6, k7⟩ := hS; first | (go_simp; done) | (go_simp; with_reducible rfl)⟩) ?_
      simp only [Act.put, List.setIfInBounds_toArray, List.set_cons_zero, List.set_cons_succ]
      refine Reg.take (i := 9) rfl (by kernel_rfl) (fun _ _ _ h => h) (Or.inl ⟨by rfl, by intro w' hS; obtain ⟨k0, k1, k2, k5, k6, k7⟩ := hS; first | (go_simp; done) | (go_simp; with_reducible rfl)⟩) ?_
      simp only [Act.put, List.setIfInBounds_toArray, List.set_cons_zero, List.set_cons_succ]
      refine Reg.take (i := 10) rfl (by kernel_rfl) (fun _ _ _ h => h) (Or.inl ⟨by rfl, by intro w' hS; obtain ⟨k0, k1, k2, k5, k6, k7⟩ := hS; first | (go_simp; done) | (go_simp; with_reducible rfl)⟩) ?_
      simp only [Act.put, List.setIfInBounds_toArray, List.set_cons_zero, List.set_cons_succ]
      refine Reg.take (i := 11) rfl (by kernel_rfl) (fun _ _ _ h => h) (Or.inl ⟨by rfl, by intro w' hS; obtain ⟨k0, k1, k2, k5, k6, k7⟩ := hS; first | (go_simp; done) | (go_simp; with_reducible rfl)⟩) ?_
      simp only [Act.put, List.setIfInBounds_toArray, List.set_cons_zero, List.set_cons_succ]
      refine Reg.take (i := 12) rfl (by kernel_rfl) (fun _ _ _ h => h) (Or.inl ⟨by rfl, by intro w' hS; obtain ⟨k0, k1, k2, k5, k6, k7⟩ := hS; first | (go_simp; done) | (go_simp; with_reducible rfl)⟩) ?_
      simp only [Act.put, List.setIfInBounds_toArray, List.set_cons_zero, List.set_cons_succ]
      refine Reg.take (i := 13) rfl (by kernel_rfl) (fun _ _ _ h => h) (Or.inl ⟨by rfl, by intro w' hS; obtain ⟨k0, k1, k2, k5, k6, k7⟩ := hS; first | (go_simp; done) | (go_simp; with_reducible rfl)⟩) ?_
      simp only [Act.put, List.setIfInBounds_toArray, List.set_cons_zero, List.set_cons_succ]
      refine Reg.take (i := 14) rfl (by kernel_rfl) (fun _ _ _ h => h) (Or.inl ⟨by rfl, by intro w' hS; have v := v3; first | (go_simp; done) | (go_simp; with_reducible rfl)⟩) ?_
      simp only [Act.put, List.setIfInBounds_toArray, List.set_cons_zero, List.set_cons_succ]
      refine Reg.one (i := 4) rfl (by kernel_rfl) (fun K hK => ?_)
      go_simp
      refine (wide_Len.calls h1 l1 n1 _ N1.out).mono ?_
      rintro en w7 ⟨rfl, hb⟩
      have PW := PX.out.drew.below hb
      refine hK _ _ ⟨PW.c0, PW.c1, PW.c2, (PW.cs 5 (by decide)).trans C'.out.2.1, (PW.cs 6 (by decide)).trans C'.out.2.2.1, PW⟩ ?_
      clear hK K hb PX
      have PX := Aside0.mk PW
      clear PW
      try simp only [Act.put, List.setIfInBounds_toArray, List.set_cons_zero, List.set_cons_succ]
      refine Reg.take (i := 7) rfl (by kernel_rfl) (fun _ _ _ h => h) (Or.inl ⟨by rfl, by intro w' hS; have v := v1; first | (go_simp; done) | (go_simp; with_reducible rfl)⟩) ?_
      simp only [Act.put, List.setIfInBounds_toArray, List.set_cons_zero, List.set_cons_succ]
      refine Reg.take (i := 8) rfl (by kernel_rfl) (fun _ _ _ h => h) (Or.inl ⟨by rfl, by intro w' hS; first | (go_simp; done) | (go_simp; with_reducible rfl)⟩) ?_
      simp only [Act.put, List.setIfInBounds_toArray, List.set_cons_zero, List.set_cons_succ]
      refine Reg.take (i := 15) rfl (by kernel_rfl) (fun _ _ _ h => h) (Or.inl ⟨by rfl, by intro w' hS; first | (go_simp; done) | (go_simp; with_reducible rfl)⟩) ?_
      simp only [Act.put, List.setIfInBounds_toArray, List.set_cons_zero, List.set_cons_succ]
      refine Reg.last rfl (by kernel_rfl) (fun K hK => ?_)
      go_simp
      refine (rp_near g h1 l1 e1 n s0 s1 e2 m1 _ (rp_PK.start PX.out.c0 PX.out.c1 PX.out.c2 PX.out.c3) (fun i => (PX.out.fs i).trans (C'.out.2.2.2.2.2 i)) QQ.out.2.1.2 (by have := QQ.out.1; omega) (by have := QQ.out.1; omega) NN.out).mono ?_
      rintro en w8 ⟨rfl, PY⟩
      refine hK _ _ ?_
      have PZ := PX.out.trans PY
      clear hK K PY PX
      go_wp2_with fail
      go_meet
      exact PZ
    case rest =>
    have P3 := hcut
    clear hcut PX c0 c1 c2 c5 c6 v1 v2 v3 v4 V1 V2 V3 V4 N1 NN
    have PP := Aside0.mk P3
    have RC := Aside0.mk (rp_raise g s0 s1 e2 e3 u f lo hi r0 r1 false wc P3.c0 P3.c1 P3.c2 P3.c3 ((P3.cs 5 (by decide)).trans C'.out.2.1) ((P3.cs 6 (by decide)).trans C'.out.2.2.1) ((P3.cs 7 (by decide)).trans C'.out.2.2.2.1)
      ((P3.fs 0).trans (C'.out.2.2.2.2.2 0)) ((P3.fs 1).trans (C'.out.2.2.2.2.2 1)) ((P3.fs 2).trans (C'.out.2.2.2.2.2 2)) QQ.out.2.2.1.1 QQ.out.2.2.1.2 HH.out.2.2.2.2.1 HH.out.2.2.2.2.2 HH.out.1 HH.out.2.1 n2 HH.out.2.2.1 HH.out.2.2.2.1 N2.out UU.out RR.out)
    clear P3
    rcases FF.out with ⟨x1, x2⟩ | ⟨x1, x2, l4, e4, x3, x4⟩
    · have d4 : decide (e3 ≤ hi) = false := decide_eq_false (by omega)
      have B := Aside0.mk x2
      clear x1 x2 FF
      go_step
      go_wp2_with (first
        | (go_at_call 244; refine RC.out.mono ?_; rintro en w9 ⟨rfl, PR⟩; have PS := Aside0.mk (PP.out.trans PR); clear PR)
        | (go_at_call 147; (with_reducible refine (shape_Inf.calls W ng r _ B.out).mono ?_); rintro en wa ⟨rfl, hb⟩; replace PS := Aside0.mk (PS.out.below hb); clear hb))
      go_ret
      exact ⟨rfl, HW.out.trans (PS.out.bl.mono (Nat.le_of_lt hag))⟩
    · have d4 : decide (e3 ≤ hi) = true := decide_eq_true x1
      subst x2
      have X3 := Aside0.mk x3
      have X4 := Aside0.mk x4
      clear x1 x3 x4 FF
      go_step
      go_wp2_with (first
        | (go_at_call 244; refine RC.out.mono ?_; rintro en w9 ⟨rfl, PR⟩; have PS := Aside0.mk (PP.out.trans PR); clear PR)
        | (go_at_call 245; refine (rp_close g W f t2 t1 hi r1 l4 e3 e4 r false ng _ WW.out PS.out.c0 PS.out.c1 PS.out.c2 PS.out.c3 ((PS.out.cs 4 (by decide)).trans C'.out.1) ((PS.out.cs 5 (by decide)).trans C'.out.2.1) ((PS.out.cs 7 (by decide)).trans C'.out.2.2.2.1) ((PS.out.cs 8 (by decide)).trans C'.out.2.2.2.2.1) ((PS.out.fs 1).trans (C'.out.2.2.2.2.2 1)) ((PS.out.fs 2).trans (C'.out.2.2.2.2.2 2)) QQ.out.2.2.2.1 QQ.out.2.2.2.2 X3.out X4.out).mono ?_; rintro en wa ⟨rfl, hb⟩))
      go_ret
      exact ⟨rfl, HW.out.trans ((PS.out.bl.trans hb).mono (Nat.le_of_lt hag))⟩
end Go.Proofs.YtnmlmgmljoncoaaGreatDoor.PA
namespace Flo

def tw (k : Int) : Rat := (2 : Rat) ^ k
theorem tw_pos (k : Int) : 0 < tw k := Rat.zpow_pos (by decide)
theorem tw_add (a b : Int) : tw (a + b) = tw a * tw b := Rat.zpow_add (by decide) a b
theorem tw_one : tw 1 = 2 := Rat.zpow_one ..
theorem tw_succ (a : Int) : tw (a + 1) = 2 * tw a := by rw [tw_add, tw_one, Rat.mul_comm]
theorem tw_pred (a : Int) : tw a = 2 * tw (a - 1) := by
  have := tw_succ (a - 1); rwa [Int.sub_add_cancel] at this
theorem tw_nat (n : Nat) : tw n = ((2 ^ n : Nat) : Rat) := by
  unfold tw; rw [Rat.zpow_natCast]; simp
theorem tw_sub_nat (a b : Int) (h : b ≤ a) : tw a = ((2 ^ (a - b).toNat : Nat) : Rat) * tw b := by
  rw [← tw_nat, ← tw_add]; congr 1; omega
theorem tw_lt {a b : Int} (h : a < b) : tw a < tw b := by
  rw [tw_sub_nat b a (by omega)]
  have h2 : 2 ≤ 2 ^ (b - a).toNat := by
    have : 2 ^ 1 ≤ 2 ^ (b - a).toNat := Nat.pow_le_pow_right (by decide) (by omega)
    simpa using this
  have h3 : (2 : Rat) ≤ ((2 ^ (b - a).toNat : Nat) : Rat) := by exact_mod_cast h2
  have := Rat.mul_le_mul_of_nonneg_right h3 (Rat.le_of_lt (tw_pos a))
  have := tw_pos a
  grind
theorem tw_le {a b : Int} (h : a ≤ b) : tw a ≤ tw b := by
  rcases Int.lt_or_eq_of_le h with h | h
  · exact Rat.le_of_lt (tw_lt h)
  · subst h; exact Rat.le_refl
theorem mul_lt {a b t : Rat} (h : a < b) (ht : 0 < t) : a * t < b * t := Rat.mul_lt_mul_of_pos_right h ht
theorem mul_le {a b t : Rat} (h : a ≤ b) (ht : 0 < t) : a * t ≤ b * t := Rat.mul_le_mul_of_nonneg_right h (Rat.le_of_lt ht)
theorem lt_of_mul {a b t : Rat} (h : a * t < b * t) (ht : 0 < t) : a < b := Rat.lt_of_mul_lt_mul_right h (Rat.le_of_lt ht)
theorem le_of_mul {a b t : Rat} (h : a * t ≤ b * t) (ht : 0 < t) : a ≤ b := Rat.le_of_mul_le_mul_right h ht
theorem nat_lt {a b : Nat} : ((a : Nat) : Rat) < (b : Rat) ↔ a < b := Rat.natCast_lt_natCast
theorem nat_le {a b : Nat} : ((a : Nat) : Rat) ≤ (b : Rat) ↔ a ≤ b := Rat.natCast_le_natCast

structure Fmt where
  f : Nat
  low : Int
  top : Nat
  hf : 1 ≤ f
  ht : 2 ≤ top
namespace Fmt
variable (F : Fmt)
def inf : Nat := F.top * 2 ^ F.f
def sg (m : Nat) : Nat := if m < 2 ^ F.f then m else 2 ^ F.f + m % 2 ^ F.f
def ex (m : Nat) : Int := if m < 2 ^ F.f then F.low else (m / 2 ^ F.f : Nat) - 1 + F.low
def val (m : Nat) : Rat := (F.sg m : Rat) * tw (F.ex m)
def mid (m : Nat) : Rat := ((2 * F.sg m + 1 : Nat) : Rat) * tw (F.ex m - 1)
theorem pow_pos : 0 < 2 ^ F.f := Nat.pow_pos (by decide)
theorem sg_mk (q n : Nat) (h : n < 2 ^ (F.f + 1)) (hq : 0 < q → 2 ^ F.f ≤ n) : F.sg (q * 2 ^ F.f + n) = n ∧ F.ex (q * 2 ^ F.f + n) = q + F.low := by
  have hp := F.pow_pos
  rw [Nat.pow_succ] at h
  unfold sg ex
  by_cases h1 : n < 2 ^ F.f
  · have : q = 0 := by
      rcases Nat.eq_zero_or_pos q with h | h
      · exact h
      · have := hq h; omega
    subst this
    simp [h1]
  · have e : q * 2 ^ F.f + n = (n - 2 ^ F.f) + 2 ^ F.f * (q + 1) := by
      rw [Nat.mul_add, Nat.mul_comm q]; omega
    have h2 : ¬ (q * 2 ^ F.f + n < 2 ^ F.f) := by
      have := Nat.zero_le (q * 2 ^ F.f); omega
    rw [if_neg h2, if_neg h2, e, Nat.add_mul_mod_self_left, Nat.add_mul_div_left _ _ hp, Nat.mod_eq_of_lt (by omega), Nat.div_eq_of_lt (by omega)]
    constructor
    · omega
    · omega
theorem sg_ex (m : Nat) : ∃ q n, m = q * 2 ^ F.f + n ∧ n < 2 ^ (F.f + 1) ∧ (0 < q → 2 ^ F.f ≤ n) ∧ F.sg m = n ∧ F.ex m = q + F.low := by
  have hp := F.pow_pos
  by_cases h : m < 2 ^ F.f
  · refine ⟨0, m, by simp, by rw [Nat.pow_succ]; omega, by simp, ?_, ?_⟩ <;> simp [sg, ex, h]
  · have h3 := Nat.div_add_mod m (2 ^ F.f)
    have h4 : 1 ≤ m / 2 ^ F.f := (Nat.le_div_iff_mul_le hp).2 (by omega)
    have h5 := Nat.mod_lt m hp
    have h6 : m = (m / 2 ^ F.f - 1) * 2 ^ F.f + (2 ^ F.f + m % 2 ^ F.f) := by
      rw [Nat.sub_mul, Nat.one_mul, Nat.mul_comm (m / 2 ^ F.f)]
      have : 2 ^ F.f ≤ 2 ^ F.f * (m / 2 ^ F.f) := Nat.le_mul_of_pos_right _ h4
      omega
    have h7 : 2 ^ F.f + m % 2 ^ F.f < 2 ^ (F.f + 1) := by rw [Nat.pow_succ]; omega
    have := F.sg_mk (m / 2 ^ F.f - 1) (2 ^ F.f + m % 2 ^ F.f) h7 (by omega)
    rw [← h6] at this
    exact ⟨_, _, h6, h7, by omega, this.1, this.2⟩
theorem sg_lt (m : Nat) : F.sg m < 2 ^ (F.f + 1) := by
  obtain ⟨q, n, _, h, _, h1, _⟩ := F.sg_ex m
  rw [h1]; exact h
theorem val_succ (m : Nat) : F.val (m + 1) = F.val m + tw (F.ex m) := by
  obtain ⟨q, n, e, hn, hq, h1, h2⟩ := F.sg_ex m
  have hp := F.pow_pos
  by_cases h : n + 1 < 2 ^ (F.f + 1)
  · obtain ⟨h3, h4⟩ := F.sg_mk q (n + 1) h (fun h => by have := hq h; omega)
    unfold val
    rw [h1, h2, e, Nat.add_assoc, h3, h4]
    push_cast
    grind
  · have hn1 : n + 1 = 2 ^ F.f + 2 ^ F.f := by rw [Nat.pow_succ] at h hn; omega
    have e2 : m + 1 = (q + 1) * 2 ^ F.f + 2 ^ F.f := by rw [e, Nat.add_mul]; omega
    obtain ⟨h3, h4⟩ := F.sg_mk (q + 1) (2 ^ F.f) (by rw [Nat.pow_succ]; omega) (fun _ => Nat.le_refl _)
    unfold val
    rw [h1, h2, e2, h3, h4]
    have : (((q + 1 : Nat) : Int) + F.low) = (q + F.low) + 1 := by omega
    rw [this, tw_succ]
    have h5 : ((n : Nat) : Rat) + 1 = ((2 ^ F.f : Nat) : Rat) + ((2 ^ F.f : Nat) : Rat) := by exact_mod_cast hn1
    grind
theorem mid_eq (m : Nat) : F.mid m = F.val m + tw (F.ex m - 1) := by
  unfold mid val
  rw [tw_pred (F.ex m)]
  push_cast
  grind
theorem mid_lt_succ (m : Nat) : F.mid m < F.val (m + 1) := by
  rw [mid_eq, val_succ, tw_pred (F.ex m)]
  have := tw_pos (F.ex m - 1)
  grind
theorem lt_mid (m : Nat) : F.val m < F.mid m := by
  rw [mid_eq]
  have := tw_pos (F.ex m - 1)
  grind
theorem val_lt_succ (m : Nat) : F.val m < F.val (m + 1) := by
  rw [val_succ]
  have := tw_pos (F.ex m)
  grind
theorem val_mono {a b : Nat} (h : a ≤ b) : F.val a ≤ F.val b := by
  induction b with
  | zero => obtain rfl : a = 0 := by omega
            exact Rat.le_refl
  | succ b ih =>
    rcases Nat.lt_or_ge b a with h1 | h1
    · obtain rfl : a = b + 1 := by omega
      exact Rat.le_refl
    · have := ih h1
      have := F.val_lt_succ b
      grind
theorem val_lt {a b : Nat} (h : a < b) : F.val a < F.val b := by
  have := F.val_mono (show a + 1 ≤ b by omega)
  have := F.val_lt_succ a
  grind
theorem val_lt_iff {a b : Nat} : F.val a < F.val b ↔ a < b := by
  constructor
  · intro h
    rcases Nat.lt_or_ge a b with h1 | h1
    · exact h1
    · have := F.val_mono h1; grind
  · exact F.val_lt
theorem mid_lt {a b : Nat} (h : a < b) : F.mid a < F.mid b := by
  have h1 := F.mid_lt_succ a
  have h2 := F.val_mono (show a + 1 ≤ b by omega)
  have h3 := F.lt_mid b
  grind
theorem val_zero : F.val 0 = 0 := by
  have hp := F.pow_pos
  simp [val, sg, hp]
def Up (x : Rat) (m : Nat) : Prop := F.mid m < x ∨ F.mid m = x ∧ m % 2 = 1
def Rnd (U : Nat → Prop) (r : Nat) : Prop := r ≤ F.inf ∧ (∀ m, m < r → U m) ∧ (r < F.inf → ¬ U r)
theorem Rnd.mono' {U V : Nat → Prop} {r s : Nat} (h : F.Rnd U r) (k : F.Rnd V s) (i : ∀ m, U m → V m) : r ≤ s := by
  rcases Nat.lt_or_ge s r with h1 | h1
  · exact absurd (i s (h.2.1 s h1)) (k.2.2 (Nat.lt_of_lt_of_le h1 h.1))
  · exact h1
theorem Rnd.unique {U V : Nat → Prop} {r s : Nat} (h : F.Rnd U r) (k : F.Rnd V s) (i : ∀ m, U m ↔ V m) : r = s :=
  Nat.le_antisymm (Rnd.mono' F h k fun m => (i m).1) (Rnd.mono' F k h fun m => (i m).2)
theorem Up.mono' {x y : Rat} (h : x ≤ y) (m : Nat) (u : F.Up x m) : F.Up y m := by
  rcases u with u | ⟨u, v⟩
  · exact .inl (by grind)
  · rcases (Rat.le_iff_lt_or_eq).1 h with h | h
    · exact .inl (by grind)
    · exact .inr ⟨by grind, v⟩
theorem Rnd.le {x y : Rat} {r s : Nat} (h : F.Rnd (F.Up x) r) (k : F.Rnd (F.Up y) s) (i : x ≤ y) : r ≤ s := Rnd.mono' F h k (Up.mono' F i)
theorem Rnd.eq {x : Rat} {r s : Nat} (h : F.Rnd (F.Up x) r) (k : F.Rnd (F.Up x) s) : r = s := Rnd.unique F h k fun _ => Iff.rfl
theorem Rnd.exact {m : Nat} (h : m ≤ F.inf) : F.Rnd (F.Up (F.val m)) m := by
  refine ⟨h, fun k hk => .inl ?_, fun _ u => ?_⟩
  · have h1 := F.mid_lt_succ k
    have h2 := F.val_mono (show k + 1 ≤ m by omega)
    grind
  · have h1 := F.lt_mid m
    rcases u with u | ⟨u, _⟩ <;> grind
theorem Rnd.exists (U : Nat → Prop) : ∃ r, F.Rnd U r := by
  have key : ∀ n, n ≤ F.inf → (∃ r, F.Rnd U r) ∨ ∀ m, m < n → U m := by
    intro n
    induction n with
    | zero => intro _; exact .inr (fun m h => by omega)
    | succ n ih =>
      intro h
      rcases ih (by omega) with h1 | h1
      · exact .inl h1
      · by_cases hu : U n
        · refine .inr fun m hm => ?_
          rcases Nat.lt_or_ge m n with h2 | h2
          · exact h1 m h2
          · obtain rfl : m = n := by omega
            exact hu
        · exact .inl ⟨n, by omega, h1, fun _ => hu⟩
  rcases key F.inf (Nat.le_refl _) with h | h
  · exact h
  · exact ⟨F.inf, Nat.le_refl _, h, fun h => by omega⟩
theorem Rnd.make {x : Rat} {q n : Nat} (hx : x < tw (q + F.low + F.f + 1)) (hq : 0 < q → tw (q + F.low + F.f) ≤ x)
    (hd : 0 < n → ((2 * n - 1 : Nat) : Rat) * tw (q + F.low - 1) < x ∨ ((2 * n - 1 : Nat) : Rat) * tw (q + F.low - 1) = x ∧ n % 2 = 0)
    (hu : x < ((2 * n + 1 : Nat) : Rat) * tw (q + F.low - 1) ∨ x = ((2 * n + 1 : Nat) : Rat) * tw (q + F.low - 1) ∧ n % 2 = 0) :
    F.Rnd (F.Up x) (min F.inf (q * 2 ^ F.f + n)) := by
  have hp := F.pow_pos
  have T := tw_pos (q + F.low - 1)
  -- n is at most 2^(f+1), and at least 2^f where q is not 0
  have e1 : tw (q + F.low + F.f + 1) = ((2 ^ (F.f + 2) : Nat) : Rat) * tw (q + F.low - 1) := by
    rw [← tw_nat, ← tw_add]; congr 1; omega
  have e2 : tw (q + F.low + F.f) = ((2 ^ (F.f + 1) : Nat) : Rat) * tw (q + F.low - 1) := by
    rw [← tw_nat, ← tw_add]; congr 1; omega
  have hn : n ≤ 2 ^ (F.f + 1) := by
    rcases Nat.eq_zero_or_pos n with h | h
    · omega
    · have h1 : ((2 * n - 1 : Nat) : Rat) * tw (q + F.low - 1) < ((2 ^ (F.f + 2) : Nat) : Rat) * tw (q + F.low - 1) := by
        rw [← e1]
        rcases hd h with h | ⟨h, _⟩ <;> grind
      have h2 := nat_lt.1 (lt_of_mul h1 T)
      rw [Nat.pow_succ] at h2
      omega
  have hl : 0 < q → 2 ^ F.f ≤ n := by
    intro h
    have h1 := hq h
    have h2 : ((2 ^ (F.f + 1) : Nat) : Rat) * tw (q + F.low - 1) ≤ ((2 * n + 1 : Nat) : Rat) * tw (q + F.low - 1) := by
      rw [← e2]
      rcases hu with h | ⟨h, _⟩ <;> grind
    have h3 := nat_le.1 (le_of_mul h2 T)
    rw [Nat.pow_succ] at h3
    omega
  have par : (q * 2 ^ F.f + n) % 2 = n % 2 := by
    obtain ⟨g, hg⟩ : ∃ g, F.f = g + 1 := ⟨F.f - 1, by have := F.hf; omega⟩
    rw [hg, Nat.pow_succ, ← Nat.mul_assoc]; omega
  -- what is below the answer is above its middle
  have hbelow : ∀ m, m < q * 2 ^ F.f + n → F.Up x m := by
    intro m hm
    have hlast : F.Up x (q * 2 ^ F.f + n - 1) := by
      by_cases h : n ≤ 2 ^ F.f ∧ 0 < q
      · obtain ⟨h, h0⟩ := h
        have h1 : n = 2 ^ F.f := Nat.le_antisymm h (hl h0)
        have e3 : q * 2 ^ F.f + n - 1 = (q - 1) * 2 ^ F.f + (2 ^ (F.f + 1) - 1) := by
          rw [h1, Nat.pow_succ]
          have : q * 2 ^ F.f = (q - 1) * 2 ^ F.f + 2 ^ F.f := by rw [← Nat.succ_mul]; congr 1; omega
          omega
        obtain ⟨h3, h4⟩ := F.sg_mk (q - 1) (2 ^ (F.f + 1) - 1) (by have := Nat.pow_pos (n := F.f + 1) (show 0 < 2 by decide); omega) (by intro _; rw [Nat.pow_succ]; omega)
        refine .inl ?_
        unfold mid
        rw [e3, h3, h4]
        have h5 := hq h0
        have e4 : tw (q + F.low + F.f) = ((2 ^ (F.f + 2) : Nat) : Rat) * tw ((q - 1 : Nat) + F.low - 1) := by
          rw [← tw_nat, ← tw_add]; congr 1; omega
        have h6 : 2 * (2 ^ (F.f + 1) - 1) + 1 < 2 ^ (F.f + 2) := by
          have h7 : 2 ^ (F.f + 2) = 2 ^ (F.f + 1) * 2 := Nat.pow_succ ..
          have h8 := Nat.pow_pos (n := F.f + 1) (show 0 < 2 by decide)
          omega
        have h7 := mul_lt (nat_lt.2 h6) (tw_pos ((q - 1 : Nat) + F.low - 1))
        grind
      · have hn0 : 0 < n := by
          rcases Nat.eq_zero_or_pos n with h0 | h0
          · subst h0
            rcases Nat.eq_zero_or_pos q with h1 | h1
            · subst h1; omega
            · exact absurd ⟨by omega, h1⟩ h
          · exact h0
        have h1 : 0 < q → 2 ^ F.f ≤ n - 1 := by
          intro h0
          have := hl h0
          have : ¬ n ≤ 2 ^ F.f := fun h' => h ⟨h', h0⟩
          omega
        obtain ⟨h3, h4⟩ := F.sg_mk q (n - 1) (by omega) h1
        have e3 : q * 2 ^ F.f + n - 1 = q * 2 ^ F.f + (n - 1) := by omega
        have e4 : 2 * (n - 1) + 1 = 2 * n - 1 := by omega
        unfold Up mid
        rw [e3, h3, h4, e4]
        rcases hd hn0 with h5 | ⟨h5, h6⟩
        · exact .inl h5
        · refine .inr ⟨h5, ?_⟩
          rw [← e3]; omega
    rcases Nat.lt_or_ge m (q * 2 ^ F.f + n - 1) with h1 | h1
    · have h2 := F.mid_lt h1
      rcases hlast with h3 | ⟨h3, _⟩ <;> exact .inl (by grind)
    · obtain rfl : m = q * 2 ^ F.f + n - 1 := by omega
      exact hlast
  refine ⟨Nat.min_le_left _ _, fun m hm => hbelow m (by omega), fun h => ?_⟩
  have hm : min F.inf (q * 2 ^ F.f + n) = q * 2 ^ F.f + n := by omega
  rw [hm]
  by_cases h1 : n < 2 ^ (F.f + 1)
  · obtain ⟨h3, h4⟩ := F.sg_mk q n h1 hl
    unfold Up mid
    rw [h3, h4, par]
    rintro (h5 | ⟨h5, h6⟩) <;> rcases hu with h7 | ⟨h7, h8⟩
    · grind
    · grind
    · grind
    · omega
  · have h1 : n = 2 ^ (F.f + 1) := by omega
    have e3 : q * 2 ^ F.f + n = (q + 1) * 2 ^ F.f + 2 ^ F.f := by rw [h1, Nat.pow_succ, Nat.add_mul]; omega
    obtain ⟨h3, h4⟩ := F.sg_mk (q + 1) (2 ^ F.f) (by rw [Nat.pow_succ]; omega) (fun _ => Nat.le_refl _)
    have h9 := F.lt_mid (q * 2 ^ F.f + n)
    have h10 : F.val (q * 2 ^ F.f + n) = tw (q + F.low + F.f + 1) := by
      unfold val
      rw [e3, h3, h4, ← tw_nat, ← tw_add]; congr 1; omega
    rintro (h5 | ⟨h5, h6⟩) <;> grind
end Fmt
end Flo
