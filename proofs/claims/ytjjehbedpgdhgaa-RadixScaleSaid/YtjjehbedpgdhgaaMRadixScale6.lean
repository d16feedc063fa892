/- What the Go functions that the statement RadixScale reaches compute, and the mathematics on it, in the order in which one leans on the other; for every input. -/
import Derived.Test.YtjjehbedpgdhgaaVRadixScale0
import Derived.Test.YtjjehbedpgdhgaaMRadixScale0
import Derived.Test.YtjjehbedpgdhgaaMRadixScale5
import Derived.Test.YtjjehbedpgdhgaaMRadixScale1
import Derived.Test.YtjjehbedpgdhgaaMRadixScale4
import Derived.Test.YtjjehbedpgdhgaaMRadixScale2
import Derived.Test.YtjjehbedpgdhgaaMRadixScale3
import Derived.Deep.RegionHeld3
namespace Go.Proofs.Ytjjehbedpgdhgaa.PA
open Go.RowKit Go.Proofs.YtjjehbedpgdhgaaW.PrintWords Go.Proofs.YtjjehbedpgdhgaaW.PrintLast Go.Proofs.YtjjehbedpgdhgaaW.PrintMore
attribute [local go_sem] max2_int min2_int max_two min_two max_three min_three max_four min_four   -- for this text's walks alone
set_option linter.unusedVariables false
set_option linter.unusedSimpArgs false
set_option maxHeartbeats 8000000
set_option maxRecDepth 100000
mutual
def radix_Sqrt.j0 : Nat → Int → Int → Bool → Option (Int)
 | 0, _, _, _ => none
 | k + 1, x0, x1, x11 => if x11 = true then (some 0) else ((shape_Open.f k x0 x1).bind fun bt223 => (if bt223.2.1 = 0 then ((shape_Zero.f x0 bt223.1).bind fun t228 => (some t228)) else (if bt223.2.1 = 3 then (radix_Sqrt.j1 k x0 true bt223.1 bt223.2.1 bt223.2.2.1 bt223.2.2.2) else (radix_Sqrt.j1 k x0 bt223.1 bt223.1 bt223.2.1 bt223.2.2.1 bt223.2.2.2))))
def radix_Sqrt.j1 : Nat → Int → Bool → Bool → Int → Int → Int → Option (Int)
 | 0, _, _, _, _, _, _ => none
 | k + 1, x0, x23, x228000, x228001, x228002, x228003 => if x23 = true then ((shape_Nan.f x0).bind fun t229 => (some t229)) else (if x228001 = 2 then ((shape_Inf.f x0 false).bind fun t230 => (some t230)) else ((radix_finite.f k x0 x228000 x228001 x228002 x228003).bind fun t231 => (some t231)))
end
def radix_Sqrt.f (k : Nat) (a0 : Int) (a1 : Int) : Option (Int) := if a0 = 32 then (radix_Sqrt.j0 k a0 a1 false) else (radix_Sqrt.j0 k a0 a1 (a0 != 64))
theorem radix_Sqrt.mono_l : ∀ k, (∀ y0 y1 y2, LeO (radix_Sqrt.j0 k y0 y1 y2) (radix_Sqrt.j0 (k + 1) y0 y1 y2)) ∧ (∀ y0 y1 y2 y3 y4 y5, LeO (radix_Sqrt.j1 k y0 y1 y2 y3 y4 y5) (radix_Sqrt.j1 (k + 1) y0 y1 y2 y3 y4 y5))
 | 0 => ⟨fun _ _ _ r h => by simp [radix_Sqrt.j0] at h, fun _ _ _ _ _ _ r h => by simp [radix_Sqrt.j1] at h⟩
 | k + 1 => by
  obtain ⟨ih0, ih1⟩ := radix_Sqrt.mono_l k
  refine ⟨?_, ?_⟩
  ·intro y0 y1 y2
   unfold radix_Sqrt.j0
   repeat' first
   | (with_reducible exact ih0 _ _ _)
   | (with_reducible exact ih1 _ _ _ _ _ _)
   | (with_reducible exact radix_finite.mono _ _ _ _ _ _)
   | (with_reducible exact shape_Open.mono _ _ _)
   | (with_reducible exact LeO.refl _)
   | (with_reducible exact LeO.none _)
   | (with_reducible refine LeO.ite ?_ ?_)
   | (with_reducible refine LeO.bind ?_ (fun _ => ?_))
   | exact ih0 _ _ _
   | exact ih1 _ _ _ _ _ _
   | exact radix_finite.mono _ _ _ _ _ _
   | exact shape_Open.mono _ _ _
   | exact LeO.none _
   | refine LeO.ite ?_ ?_
   | refine LeO.bind ?_ (fun _ => ?_)
  ·intro y0 y1 y2 y3 y4 y5
   unfold radix_Sqrt.j1
   repeat' first
   | (with_reducible exact ih0 _ _ _)
   | (with_reducible exact ih1 _ _ _ _ _ _)
   | (with_reducible exact radix_finite.mono _ _ _ _ _ _)
   | (with_reducible exact shape_Open.mono _ _ _)
   | (with_reducible exact LeO.refl _)
   | (with_reducible exact LeO.none _)
   | (with_reducible refine LeO.ite ?_ ?_)
   | (with_reducible refine LeO.bind ?_ (fun _ => ?_))
   | exact ih0 _ _ _
   | exact ih1 _ _ _ _ _ _
   | exact radix_finite.mono _ _ _ _ _ _
   | exact shape_Open.mono _ _ _
   | exact LeO.none _
   | refine LeO.ite ?_ ?_
   | refine LeO.bind ?_ (fun _ => ?_)
theorem radix_Sqrt.mono : ∀ a0 a1 k, LeO (radix_Sqrt.f k a0 a1) (radix_Sqrt.f (k + 1) a0 a1) := by
 intro a0 a1 k
 obtain ⟨ih0, ih1⟩ := radix_Sqrt.mono_l k
 unfold radix_Sqrt.f
 repeat' first
   | (with_reducible exact ih0 _ _ _)
   | (with_reducible exact ih1 _ _ _ _ _ _)
   | (with_reducible exact radix_finite.mono _ _ _ _ _ _)
   | (with_reducible exact shape_Open.mono _ _ _)
   | (with_reducible exact LeO.refl _)
   | (with_reducible exact LeO.none _)
   | (with_reducible refine LeO.ite ?_ ?_)
   | (with_reducible refine LeO.bind ?_ (fun _ => ?_))
   | exact ih0 _ _ _
   | exact ih1 _ _ _ _ _ _
   | exact radix_finite.mono _ _ _ _ _ _
   | exact shape_Open.mono _ _ _
   | exact LeO.none _
   | refine LeO.ite ?_ ?_
   | refine LeO.bind ?_ (fun _ => ?_)
theorem radix_Sqrt.calls (k : Nat) (a0 : Int) (a1 : Int) (r : Int) (w : World) (h : radix_Sqrt.f k a0 a1 = some r) :
  Calls Try.prog 9 #[.int .i64 a0, .int .u64 a1] w fun e w' => e = .returned (.int .u64 r) ∧ Below w.heap.size w w' := by
 have hu30 := Try.underlying30
 have HB := A_ (Below.refl w.heap.size w)
 have H : (if a0 = 32 then (radix_Sqrt.j0 k a0 a1 false) else (radix_Sqrt.j0 k a0 a1 (a0 != 64))) = some r := h
 clear h;have HC3 := A_ H;clear H
 go_enter Try.func9, Try.ntmps9
 go_upto_region 1 with (fail)
 go_cut [11] (fun v11 wc => ∃ (kq : Nat) (x11_2 : Bool), v11 = .bool x11_2 ∧ Aside0 (radix_Sqrt.j0 kq a0 a1 x11_2 = some r) ∧ Aside0 (kq ≤ k) ∧ Aside0 (Below w.heap.size w wc))
 case first =>
  have H := HC3.out
  clear HC3
  by_cases c4 : a0 = 32
  ·rw [if_pos c4] at H
   have c4b0 : (a0 == 32) = true := beq_iff_eq.mpr c4
   have c4b1 : (a0 != 32) = false := bne_eq_false_iff_eq.mpr c4
   clear c4
   (first | rw [c4b0] | (simp only [i64_w, i32_w]; rw [c4b0]) | skip)
   have H' := A_ H
   clear H
   go_wp2
   go_meet
   case rel => exact ⟨_, (false), sm_, H', ⟨by first | omega | exact Nat.le_refl _⟩, ⟨hb_ HB.out⟩⟩
  ·rw [if_neg c4] at H
   have c4b0 : (a0 == 32) = false := beq_eq_false_iff_ne.mpr c4
   have c4b1 : (a0 != 32) = true := bne_iff_ne.mpr c4
   (first | rw [c4b0] | (simp only [i64_w, i32_w]; rw [c4b0]) | skip)
   have H' := A_ H
   clear H
   go_wp2
   go_meet
   case rel => exact ⟨_, ((a0 != 64)), sm_, H', ⟨by first | omega | exact Nat.le_refl _⟩, ⟨hb_ HB.out⟩⟩
 case rest =>
  clear HC3
  try clear p2
  try clear c4
  try clear c4b0
  try clear c4b1
  obtain ⟨kq, x11_2, rfl, HA, HJ2, HB⟩ := hcut
  cases kq with
  | zero => exact absurd HA.out (by simp [radix_Sqrt.j0])
  | succ kj2 =>
   have H := HA.out
   clear HA
   simp only [radix_Sqrt.j0] at H
   by_cases c5 : x11_2 = true
   ·subst c5
    have H1 : (some 0) = some r := by rw [if_pos rfl] at H; exact H
    clear H;have H := H1;clear H1
    obtain rfl := Option.some.inj H
    go_wp2
    go_ret
    exact ⟨er_, hb_ HB.out⟩
   ·replace c5 := Bool.eq_false_iff.mpr c5
    subst c5
    have H1 : ((shape_Open.f kj2 a0 a1).bind fun bt223 => (if bt223.2.1 = 0 then ((shape_Zero.f a0 bt223.1).bind fun t228 => (some t228)) else (if bt223.2.1 = 3 then (radix_Sqrt.j1 kj2 a0 true bt223.1 bt223.2.1 bt223.2.2.1 bt223.2.2.2) else (radix_Sqrt.j1 kj2 a0 bt223.1 bt223.1 bt223.2.1 bt223.2.2.1 bt223.2.2.2)))) = some r := by rw [if_neg (show ¬ (false = true) by decide)] at H; exact H
    clear H;have H := H1;clear H1
    replace H := ob_ H
    obtain ⟨⟨t223, t224, t225, t226⟩, A60, H⟩ := H
    replace H : (if t224 = 0 then ((shape_Zero.f a0 t223).bind fun t228 => (some t228)) else (if t224 = 3 then (radix_Sqrt.j1 kj2 a0 true t223 t224 t225 t226) else (radix_Sqrt.j1 kj2 a0 t223 t223 t224 t225 t226))) = some r := H
    have A6 := A_ A60;clear A60
    by_cases c7 : t224 = 0
    ·rw [if_pos c7] at H
     have c7b0 : (t224 == 0) = true := beq_iff_eq.mpr c7
     have c7b1 : (t224 != 0) = false := bne_eq_false_iff_eq.mpr c7
     clear c7
     replace H := ob_ H
     obtain ⟨t228, A80, H⟩ := H
     replace H : (some t228) = some r := H
     have A8 := A_ A80;clear A80
     obtain rfl := Option.some.inj H
     go_wp2_with (first | ((with_reducible refine gate_callee (f := 15) rfl ?_); refine gl_ (some 14) Try.func15 #[.int .i64 a0, .int .u64 a1] ?_; (with_reducible refine (shape_Open.calls kj2 a0 a1 t223 t224 t225 t226 _ A6.out).mono ?_); rintro e w9 ⟨rfl, hb⟩; refine ⟨_, rfl, ?_⟩; replace HB := A_ (below_step (hb_ HB.out) hb); (try clear hb); (try clear hb2); (try clear hk); (try clear hi)) | ((with_reducible refine gate_dst (N := 5) rfl ?_); refine be_ 5 #[.bool false, .int .i64 0, .int .i64 0, .int .u64 0] 30 ?_; intro gb227 hg w10 hbox hb; have BK227 := A_ (hbox); have GW227 := A_ (sz_ hg (hb_ HB.out)); have GE227 := A_ (sz_ hg (hb_ HB.out)); replace HB := A_ (below_step (hb_ HB.out) hb); clear hb hbox hg; have hcz11_0 := bv_ BK227.out 0; have hcz11_1 := bv_ BK227.out 1; have hcz11_2 := bv_ BK227.out 2; have hcz11_3 := bv_ BK227.out 3; have hfz11_0 := blk_frozen BK227.out 0; have hfz11_1 := blk_frozen BK227.out 1; have hfz11_2 := blk_frozen BK227.out 2; have hfz11_3 := blk_frozen BK227.out 3) | ((with_reducible refine gate_callee (f := 43) rfl ?_); refine gl_ (some 22) Try.func43 #[.int .i64 a0, .bool t223] ?_; (with_reducible refine (shape_Zero.calls a0 t223 t228 _ A8.out).mono ?_); rintro e w12 ⟨rfl, hb⟩; refine ⟨_, rfl, ?_⟩; replace BK227 := A_ (blk_below (g := gb227) (o := .cells #[.bool t223, .int .i64 t224, .int .i64 t225, .int .u64 t226] 30 (0, 0)) (by (with_reducible repeat (first | refine blk_drewN ?_ _ | refine blk_drew ?_ | refine blk_alloc ?_ _)); refine blk_put (cs := #[.bool t223, .int .i64 t224, .int .i64 t225, .int .u64 0]) ?_ 3 _ rfl; (with_reducible repeat (first | refine blk_drewN ?_ _ | refine blk_drew ?_ | refine blk_alloc ?_ _)); refine blk_put (cs := #[.bool t223, .int .i64 t224, .int .i64 0, .int .u64 0]) ?_ 2 _ rfl; (with_reducible repeat (first | refine blk_drewN ?_ _ | refine blk_drew ?_ | refine blk_alloc ?_ _)); refine blk_put (cs := #[.bool t223, .int .i64 0, .int .i64 0, .int .u64 0]) ?_ 1 _ rfl; (with_reducible repeat (first | refine blk_drewN ?_ _ | refine blk_drew ?_ | refine blk_alloc ?_ _)); refine blk_put (cs := #[.bool false, .int .i64 0, .int .i64 0, .int .u64 0]) ?_ 0 _ rfl; (with_reducible repeat (first | refine blk_drewN ?_ _ | refine blk_drew ?_ | refine blk_alloc ?_ _)); exact BK227.out) hb); replace HB := A_ (below_step (hb1_ HB.out GE227.out) hb); (try clear hb); (try clear hb2); (try clear hk); (try clear hi)))
     go_ret
     exact ⟨er_, hb1_ HB.out GE227.out⟩
    ·rw [if_neg c7] at H
     have c7b0 : (t224 == 0) = false := beq_eq_false_iff_ne.mpr c7
     have c7b1 : (t224 != 0) = true := bne_iff_ne.mpr c7
     have HC13 := A_ H;clear H
     go_upto_region 6 with (first | ((with_reducible refine gate_callee (f := 15) rfl ?_); refine gl_ (some 14) Try.func15 #[.int .i64 a0, .int .u64 a1] ?_; (with_reducible refine (shape_Open.calls kj2 a0 a1 t223 t224 t225 t226 _ A6.out).mono ?_); rintro e w14 ⟨rfl, hb⟩; refine ⟨_, rfl, ?_⟩; replace HB := A_ (below_step (hb_ HB.out) hb); (try clear hb); (try clear hb2); (try clear hk); (try clear hi)) | ((with_reducible refine gate_dst (N := 5) rfl ?_); refine be_ 5 #[.bool false, .int .i64 0, .int .i64 0, .int .u64 0] 30 ?_; intro gb227 hg w15 hbox hb; have BK227 := A_ (hbox); have GW227 := A_ (sz_ hg (hb_ HB.out)); have GE227 := A_ (sz_ hg (hb_ HB.out)); replace HB := A_ (below_step (hb_ HB.out) hb); clear hb hbox hg; have hcz16_0 := bv_ BK227.out 0; have hcz16_1 := bv_ BK227.out 1; have hcz16_2 := bv_ BK227.out 2; have hcz16_3 := bv_ BK227.out 3; have hfz16_0 := blk_frozen BK227.out 0; have hfz16_1 := blk_frozen BK227.out 1; have hfz16_2 := blk_frozen BK227.out 2; have hfz16_3 := blk_frozen BK227.out 3))
     (try simp only [Act.put, lI_, l0_, lS_])
     go_cut [23] (fun v23 wc => ∃ (kq : Nat) (x23_12 : Bool), v23 = .bool x23_12 ∧ Aside0 (radix_Sqrt.j1 kq a0 x23_12 t223 t224 t225 t226 = some r) ∧ Aside0 (kq ≤ kj2) ∧ Aside0 (wc.heap[gb227]? = some (.cells #[.bool t223, .int .i64 t224, .int .i64 t225, .int .u64 t226] 30 (0, 0))) ∧ Aside0 (Below w.heap.size w wc))
     case first =>
      have H := HC13.out
      clear HC13
      by_cases c17 : t224 = 3
      ·rw [if_pos c17] at H
       have c17b0 : (t224 == 3) = true := beq_iff_eq.mpr c17
       have c17b1 : (t224 != 3) = false := bne_eq_false_iff_eq.mpr c17
       clear c17
       (first | rw [c17b0] | (simp only [i64_w, i32_w]; rw [c17b0]) | skip)
       have H' := A_ H
       clear H
       have hcz18_0 := bv_ BK227.out 0
       have hcz18_1 := bv_ BK227.out 1
       have hcz18_2 := bv_ BK227.out 2
       have hcz18_3 := bv_ BK227.out 3
       have hfz18_0 := blk_frozen BK227.out 0
       have hfz18_1 := blk_frozen BK227.out 1
       have hfz18_2 := blk_frozen BK227.out 2
       have hfz18_3 := blk_frozen BK227.out 3
       go_wp2
       go_meet
       case rel => exact ⟨_, (true), sm_, H', ⟨by have := HJ2.out; first | omega | exact Nat.le_refl _⟩, ⟨by (with_reducible repeat (first | refine blk_drewN ?_ _ | refine blk_drew ?_ | refine blk_alloc ?_ _)); refine blk_put (cs := #[.bool t223, .int .i64 t224, .int .i64 t225, .int .u64 0]) ?_ 3 _ rfl; (with_reducible repeat (first | refine blk_drewN ?_ _ | refine blk_drew ?_ | refine blk_alloc ?_ _)); refine blk_put (cs := #[.bool t223, .int .i64 t224, .int .i64 0, .int .u64 0]) ?_ 2 _ rfl; (with_reducible repeat (first | refine blk_drewN ?_ _ | refine blk_drew ?_ | refine blk_alloc ?_ _)); refine blk_put (cs := #[.bool t223, .int .i64 0, .int .i64 0, .int .u64 0]) ?_ 1 _ rfl; (with_reducible repeat (first | refine blk_drewN ?_ _ | refine blk_drew ?_ | refine blk_alloc ?_ _)); refine blk_put (cs := #[.bool false, .int .i64 0, .int .i64 0, .int .u64 0]) ?_ 0 _ rfl; (with_reducible repeat (first | refine blk_drewN ?_ _ | refine blk_drew ?_ | refine blk_alloc ?_ _)); exact BK227.out⟩, ⟨hb1_ HB.out GE227.out⟩⟩
      ·rw [if_neg c17] at H
       have c17b0 : (t224 == 3) = false := beq_eq_false_iff_ne.mpr c17
       have c17b1 : (t224 != 3) = true := bne_iff_ne.mpr c17
       (first | rw [c17b0] | (simp only [i64_w, i32_w]; rw [c17b0]) | skip)
       have H' := A_ H
       clear H
       have hcz19_0 := bv_ BK227.out 0
       have hcz19_1 := bv_ BK227.out 1
       have hcz19_2 := bv_ BK227.out 2
       have hcz19_3 := bv_ BK227.out 3
       have hfz19_0 := blk_frozen BK227.out 0
       have hfz19_1 := blk_frozen BK227.out 1
       have hfz19_2 := blk_frozen BK227.out 2
       have hfz19_3 := blk_frozen BK227.out 3
       go_wp2
       go_meet
       case rel => exact ⟨_, (t223), sm_, H', ⟨by have := HJ2.out; first | omega | exact Nat.le_refl _⟩, ⟨by (with_reducible repeat (first | refine blk_drewN ?_ _ | refine blk_drew ?_ | refine blk_alloc ?_ _)); refine blk_put (cs := #[.bool t223, .int .i64 t224, .int .i64 t225, .int .u64 0]) ?_ 3 _ rfl; (with_reducible repeat (first | refine blk_drewN ?_ _ | refine blk_drew ?_ | refine blk_alloc ?_ _)); refine blk_put (cs := #[.bool t223, .int .i64 t224, .int .i64 0, .int .u64 0]) ?_ 2 _ rfl; (with_reducible repeat (first | refine blk_drewN ?_ _ | refine blk_drew ?_ | refine blk_alloc ?_ _)); refine blk_put (cs := #[.bool t223, .int .i64 0, .int .i64 0, .int .u64 0]) ?_ 1 _ rfl; (with_reducible repeat (first | refine blk_drewN ?_ _ | refine blk_drew ?_ | refine blk_alloc ?_ _)); refine blk_put (cs := #[.bool false, .int .i64 0, .int .i64 0, .int .u64 0]) ?_ 0 _ rfl; (with_reducible repeat (first | refine blk_drewN ?_ _ | refine blk_drew ?_ | refine blk_alloc ?_ _)); exact BK227.out⟩, ⟨hb1_ HB.out GE227.out⟩⟩
     case rest =>
      clear HC13
      try clear c1
      try clear p2
      try clear c4
      try clear c4b0
      try clear c4b1
      try clear c5
      try clear c7
      try clear c7b0
      try clear c7b1
      try clear c9
      try clear c15
      try clear c17
      try clear c17b0
      try clear c17b1
      try clear hcz11_0
      try clear hcz11_1
      try clear hcz11_2
      try clear hcz11_3
      try clear hcz16_0
      try clear hcz16_1
      try clear hcz16_2
      try clear hcz16_3
      try clear hcz18_0
      try clear hcz18_1
      try clear hcz18_2
      try clear hcz18_3
      try clear hcz19_0
      try clear hcz19_1
      try clear hcz19_2
      try clear hcz19_3
      try clear hfz11_0
      try clear hfz11_1
      try clear hfz11_2
      try clear hfz11_3
      try clear hfz16_0
      try clear hfz16_1
      try clear hfz16_2
      try clear hfz16_3
      try clear hfz18_0
      try clear hfz18_1
      try clear hfz18_2
      try clear hfz18_3
      try clear hfz19_0
      try clear hfz19_1
      try clear hfz19_2
      try clear hfz19_3
      try clear p2
      obtain ⟨kq, x23_12, rfl, HA, HJ12, BK227, HB⟩ := hcut
      cases kq with
      | zero => exact absurd HA.out (by simp [radix_Sqrt.j1])
      | succ kj12 =>
       have H := HA.out
       clear HA
       simp only [radix_Sqrt.j1] at H
       by_cases c20 : x23_12 = true
       ·subst c20
        have H1 : ((shape_Nan.f a0).bind fun t229 => (some t229)) = some r := by rw [if_pos rfl] at H; exact H
        clear H;have H := H1;clear H1
        replace H := ob_ H
        obtain ⟨t229, A210, H⟩ := H
        replace H : (some t229) = some r := H
        have A21 := A_ A210;clear A210
        obtain rfl := Option.some.inj H
        go_wp2_with (first | ((with_reducible refine gate_callee (f := 14) rfl ?_); refine gl_ (some 32) Try.func14 #[.int .i64 a0] ?_; (with_reducible refine (shape_Nan.calls a0 t229 _ A21.out).mono ?_); rintro e w22 ⟨rfl, hb⟩; refine ⟨_, rfl, ?_⟩; replace BK227 := A_ (bb_ BK227.out hb); replace HB := A_ (below_step (hb1_ HB.out GE227.out) hb); (try clear hb); (try clear hb2); (try clear hk); (try clear hi)))
        go_ret
        exact ⟨er_, hb1_ HB.out GE227.out⟩
       ·replace c20 := Bool.eq_false_iff.mpr c20
        subst c20
        have H1 : (if t224 = 2 then ((shape_Inf.f a0 false).bind fun t230 => (some t230)) else ((radix_finite.f kj12 a0 t223 t224 t225 t226).bind fun t231 => (some t231))) = some r := by rw [if_neg (show ¬ (false = true) by decide)] at H; exact H
        clear H;have H := H1;clear H1
        by_cases c23 : t224 = 2
        ·rw [if_pos c23] at H
         have c23b0 : (t224 == 2) = true := beq_iff_eq.mpr c23
         have c23b1 : (t224 != 2) = false := bne_eq_false_iff_eq.mpr c23
         clear c23
         replace H := ob_ H
         obtain ⟨t230, A240, H⟩ := H
         replace H : (some t230) = some r := H
         have A24 := A_ A240;clear A240
         obtain rfl := Option.some.inj H
         have hcz25_0 := bv_ BK227.out 0
         have hcz25_1 := bv_ BK227.out 1
         have hcz25_2 := bv_ BK227.out 2
         have hcz25_3 := bv_ BK227.out 3
         have hfz25_0 := blk_frozen BK227.out 0
         have hfz25_1 := blk_frozen BK227.out 1
         have hfz25_2 := blk_frozen BK227.out 2
         have hfz25_3 := blk_frozen BK227.out 3
         go_wp2_with (first | ((with_reducible refine gate_callee (f := 44) rfl ?_); refine gl_ (some 38) Try.func44 #[.int .i64 a0, .bool false] ?_; (with_reducible refine (shape_Inf.calls a0 false t230 _ A24.out).mono ?_); rintro e w26 ⟨rfl, hb⟩; refine ⟨_, rfl, ?_⟩; replace BK227 := A_ (bb_ BK227.out hb); replace HB := A_ (below_step (hb1_ HB.out GE227.out) hb); (try clear hb); (try clear hb2); (try clear hk); (try clear hi)))
         go_ret
         exact ⟨er_, hb1_ HB.out GE227.out⟩
        ·rw [if_neg c23] at H
         have c23b0 : (t224 == 2) = false := beq_eq_false_iff_ne.mpr c23
         have c23b1 : (t224 != 2) = true := bne_iff_ne.mpr c23
         replace H := ob_ H
         obtain ⟨t231, A270, H⟩ := H
         replace H : (some t231) = some r := H
         have A27 := A_ A270;clear A270
         obtain rfl := Option.some.inj H
         have hcz28_0 := bv_ BK227.out 0
         have hcz28_1 := bv_ BK227.out 1
         have hcz28_2 := bv_ BK227.out 2
         have hcz28_3 := bv_ BK227.out 3
         have hfz28_0 := blk_frozen BK227.out 0
         have hfz28_1 := blk_frozen BK227.out 1
         have hfz28_2 := blk_frozen BK227.out 2
         have hfz28_3 := blk_frozen BK227.out 3
         go_wp2_with (first | ((with_reducible refine gate_callee (f := 45) rfl ?_); refine gl_ (some 41) Try.func45 #[.int .i64 a0, .agg #[.bool t223, .int .i64 t224, .int .i64 t225, .int .u64 t226]] ?_; (with_reducible refine (radix_finite.calls kj12 a0 t223 t224 t225 t226 t231 _ A27.out).mono ?_); rintro e w29 ⟨rfl, hb⟩; refine ⟨_, rfl, ?_⟩; replace BK227 := A_ (bb_ BK227.out hb); replace HB := A_ (below_step (hb1_ HB.out GE227.out) hb); (try clear hb); (try clear hb2); (try clear hk); (try clear hi)))
         go_ret
         exact ⟨er_, hb1_ HB.out GE227.out⟩
def L07_awake.f (k : Nat)  : Option (Bool) := (radix_Sqrt.f k 64 4611686018427387904).bind fun t232 => (if t232 = 4609047870845172685 then ((radix_Sqrt.f k 64 9223372036854775808).bind fun t233 => (if t233 = 9223372036854775808 then ((radix_Sqrt.f k 32 1082130432).bind fun t234 => (some (t234 == 1073741824))) else (some false))) else (some false))
theorem L07_awake.mono : ∀ k, LeO (L07_awake.f k ) (L07_awake.f (k + 1) ) := by
 intro  k
 unfold L07_awake.f
 repeat' first
   | (with_reducible exact radix_Sqrt.mono _ _ _)
   | (with_reducible exact LeO.refl _)
   | (with_reducible exact LeO.none _)
   | (with_reducible refine LeO.ite ?_ ?_)
   | (with_reducible refine LeO.bind ?_ (fun _ => ?_))
   | exact radix_Sqrt.mono _ _ _
   | exact LeO.none _
   | refine LeO.ite ?_ ?_
   | refine LeO.bind ?_ (fun _ => ?_)
theorem L07_awake.calls (k : Nat)  (r : Bool) (w : World) (h : L07_awake.f k  = some r) :
  Calls Try.prog 8 #[] w fun e w' => e = .returned (.bool r) ∧ Below w.heap.size w w' := by
 have HB := A_ (Below.refl w.heap.size w)
 have H : ((radix_Sqrt.f k 64 4611686018427387904).bind fun t232 => (if t232 = 4609047870845172685 then ((radix_Sqrt.f k 64 9223372036854775808).bind fun t233 => (if t233 = 9223372036854775808 then ((radix_Sqrt.f k 32 1082130432).bind fun t234 => (some (t234 == 1073741824))) else (some false))) else (some false))) = some r := h
 clear h
 replace H := ob_ H
 obtain ⟨t232, A10, H⟩ := H
 replace H : (if t232 = 4609047870845172685 then ((radix_Sqrt.f k 64 9223372036854775808).bind fun t233 => (if t233 = 9223372036854775808 then ((radix_Sqrt.f k 32 1082130432).bind fun t234 => (some (t234 == 1073741824))) else (some false))) else (some false)) = some r := H
 have A1 := A_ A10;clear A10
 by_cases c2 : t232 = 4609047870845172685
 ·rw [if_pos c2] at H
  have c2b0 : (t232 == 4609047870845172685) = true := beq_iff_eq.mpr c2
  have c2b1 : (t232 != 4609047870845172685) = false := bne_eq_false_iff_eq.mpr c2
  clear c2
  replace H := ob_ H
  obtain ⟨t233, A30, H⟩ := H
  replace H : (if t233 = 9223372036854775808 then ((radix_Sqrt.f k 32 1082130432).bind fun t234 => (some (t234 == 1073741824))) else (some false)) = some r := H
  have A3 := A_ A30;clear A30
  by_cases c4 : t233 = 9223372036854775808
  ·rw [if_pos c4] at H
   have c4b0 : (t233 == 9223372036854775808) = true := beq_iff_eq.mpr c4
   have c4b1 : (t233 != 9223372036854775808) = false := bne_eq_false_iff_eq.mpr c4
   clear c4
   replace H := ob_ H
   obtain ⟨t234, A50, H⟩ := H
   replace H : (some (t234 == 1073741824)) = some r := H
   have A5 := A_ A50;clear A50
   obtain rfl := Option.some.inj H
   go_enter Try.func8, Try.ntmps8
   go_wp2_with (first | ((with_reducible refine gate_callee (f := 9) rfl ?_); refine gl_ (some 1) Try.func9 #[.int .i64 64, .int .u64 4611686018427387904] ?_; (with_reducible refine (radix_Sqrt.calls k 64 4611686018427387904 t232 _ A1.out).mono ?_); rintro e w6 ⟨rfl, hb⟩; refine ⟨_, rfl, ?_⟩; replace HB := A_ (below_step (hb_ HB.out) hb); (try clear hb); (try clear hb2); (try clear hk); (try clear hi)) | (go_at_call 9; (with_reducible refine (radix_Sqrt.calls k 64 9223372036854775808 t233 _ A3.out).mono ?_); rintro e w7 ⟨rfl, hb⟩; replace HB := A_ (below_step (hb_ HB.out) hb); (try clear hb); (try clear hb2); (try clear hk); (try clear hi)) | (go_at_call 9; (with_reducible refine (radix_Sqrt.calls k 32 1082130432 t234 _ A5.out).mono ?_); rintro e w8 ⟨rfl, hb⟩; replace HB := A_ (below_step (hb_ HB.out) hb); (try clear hb); (try clear hb2); (try clear hk); (try clear hi)))
   go_ret
   exact ⟨er_, hb_ HB.out⟩
  ·rw [if_neg c4] at H
   have c4b0 : (t233 == 9223372036854775808) = false := beq_eq_false_iff_ne.mpr c4
   have c4b1 : (t233 != 9223372036854775808) = true := bne_iff_ne.mpr c4
   obtain rfl := Option.some.inj H
   go_enter Try.func8, Try.ntmps8
   go_wp2_with (first | ((with_reducible refine gate_callee (f := 9) rfl ?_); refine gl_ (some 1) Try.func9 #[.int .i64 64, .int .u64 4611686018427387904] ?_; (with_reducible refine (radix_Sqrt.calls k 64 4611686018427387904 t232 _ A1.out).mono ?_); rintro e w9 ⟨rfl, hb⟩; refine ⟨_, rfl, ?_⟩; replace HB := A_ (below_step (hb_ HB.out) hb); (try clear hb); (try clear hb2); (try clear hk); (try clear hi)) | (go_at_call 9; (with_reducible refine (radix_Sqrt.calls k 64 9223372036854775808 t233 _ A3.out).mono ?_); rintro e w10 ⟨rfl, hb⟩; replace HB := A_ (below_step (hb_ HB.out) hb); (try clear hb); (try clear hb2); (try clear hk); (try clear hi)))
   go_ret
   exact ⟨er_, hb_ HB.out⟩
 ·rw [if_neg c2] at H
  have c2b0 : (t232 == 4609047870845172685) = false := beq_eq_false_iff_ne.mpr c2
  have c2b1 : (t232 != 4609047870845172685) = true := bne_iff_ne.mpr c2
  obtain rfl := Option.some.inj H
  go_enter Try.func8, Try.ntmps8
  go_wp2_with (first | ((with_reducible refine gate_callee (f := 9) rfl ?_); refine gl_ (some 1) Try.func9 #[.int .i64 64, .int .u64 4611686018427387904] ?_; (with_reducible refine (radix_Sqrt.calls k 64 4611686018427387904 t232 _ A1.out).mono ?_); rintro e w11 ⟨rfl, hb⟩; refine ⟨_, rfl, ?_⟩; replace HB := A_ (below_step (hb_ HB.out) hb); (try clear hb); (try clear hb2); (try clear hk); (try clear hi)))
  go_ret
  exact ⟨er_, hb_ HB.out⟩
def r2_E.f (a0 : Int) : Option (Int) := if a0 = 32 then (some 8) else (some 11)
theorem r2_E.calls (a0 : Int) (r : Int) (w : World) (h : r2_E.f a0 = some r) :
  Calls Try.prog 60 #[.int .i64 a0] w fun e w' => e = .returned (.int .i64 r) ∧ Drawn0 w w' := by
 have H : (if a0 = 32 then (some 8) else (some 11)) = some r := h
 clear h
 by_cases c2 : a0 = 32
 ·rw [if_pos c2] at H
  have c2b0 : (a0 == 32) = true := beq_iff_eq.mpr c2
  have c2b1 : (a0 != 32) = false := bne_eq_false_iff_eq.mpr c2
  clear c2
  obtain rfl := Option.some.inj H
  go_enter Try.func60, Try.ntmps60
  go_wp2
  go_ret
  exact ⟨sm_, by repeat (first | exact Drawn0.refl _ | apply Drawn0.step)⟩
 ·rw [if_neg c2] at H
  have c2b0 : (a0 == 32) = false := beq_eq_false_iff_ne.mpr c2
  have c2b1 : (a0 != 32) = true := bne_iff_ne.mpr c2
  obtain rfl := Option.some.inj H
  go_enter Try.func60, Try.ntmps60
  go_wp2
  go_ret
  exact ⟨sm_, by repeat (first | exact Drawn0.refl _ | apply Drawn0.step)⟩
def r2_F.f (a0 : Int) : Option (Int) := (r2_E.f a0).bind fun t235 => (some (wrap64 ((wrap64 (a0 - 1)) - t235)))
theorem r2_F.calls (a0 : Int) (r : Int) (w : World) (h : r2_F.f a0 = some r) :
  Calls Try.prog 59 #[.int .i64 a0] w fun e w' => e = .returned (.int .i64 r) ∧ Drawn0 w w' := by
 have H : ((r2_E.f a0).bind fun t235 => (some (wrap64 ((wrap64 (a0 - 1)) - t235)))) = some r := h
 clear h
 replace H := ob_ H
 obtain ⟨t235, A20, H⟩ := H
 replace H : (some (wrap64 ((wrap64 (a0 - 1)) - t235))) = some r := H
 have A2 := A_ A20;clear A20
 obtain rfl := Option.some.inj H
 go_enter Try.func59, Try.ntmps59
 go_wp2_with (first | ((with_reducible refine gate_callee (f := 60) rfl ?_); refine gl_ (some 6) Try.func60 #[.int .i64 a0] ?_; (with_reducible refine (r2_E.calls a0 t235 _ A2.out).mono ?_); rintro e w' ⟨rfl, ⟨nd, rfl⟩⟩; refine ⟨_, rfl, ?_⟩))
 go_ret
 exact ⟨sm_, by repeat (first | exact Drawn0.refl _ | apply Drawn0.step)⟩
def r2_Exp.f (k : Nat) (a0 : Int) (a1 : Int) : Option (Int) := (r2_Cut.f a0 a1).bind fun t236 => ((r2_F.f a0).bind fun t237 => ((r2_Two.f k t237).bind fun t238 => (if t238 = 0 then (none) else ((r2_E.f a0).bind fun t239 => ((r2_Two.f k t239).bind fun t240 => (if t240 = 0 then (none) else (some (wrap64 (Int.tmod (IntKind.u64.wrap (Int.tdiv t236 t238)) t240)))))))))
theorem r2_Exp.mono : ∀ a0 a1 k, LeO (r2_Exp.f k a0 a1) (r2_Exp.f (k + 1) a0 a1) := by
 intro a0 a1 k
 unfold r2_Exp.f
 repeat' first
   | (with_reducible exact r2_Two.mono _ _)
   | (with_reducible exact LeO.refl _)
   | (with_reducible exact LeO.none _)
   | (with_reducible refine LeO.ite ?_ ?_)
   | (with_reducible refine LeO.bind ?_ (fun _ => ?_))
   | exact r2_Two.mono _ _
   | exact LeO.none _
   | refine LeO.ite ?_ ?_
   | refine LeO.bind ?_ (fun _ => ?_)
theorem r2_Exp.calls (k : Nat) (a0 : Int) (a1 : Int) (r : Int) (w : World) (h : r2_Exp.f k a0 a1 = some r) :
  Calls Try.prog 17 #[.int .i64 a0, .int .u64 a1] w fun e w' => e = .returned (.int .i64 r) ∧ Drawn0 w w' := by
 have H : ((r2_Cut.f a0 a1).bind fun t236 => ((r2_F.f a0).bind fun t237 => ((r2_Two.f k t237).bind fun t238 => (if t238 = 0 then (none) else ((r2_E.f a0).bind fun t239 => ((r2_Two.f k t239).bind fun t240 => (if t240 = 0 then (none) else (some (wrap64 (Int.tmod (IntKind.u64.wrap (Int.tdiv t236 t238)) t240)))))))))) = some r := h
 clear h
 replace H := ob_ H
 obtain ⟨t236, A30, H⟩ := H
 replace H : ((r2_F.f a0).bind fun t237 => ((r2_Two.f k t237).bind fun t238 => (if t238 = 0 then (none) else ((r2_E.f a0).bind fun t239 => ((r2_Two.f k t239).bind fun t240 => (if t240 = 0 then (none) else (some (wrap64 (Int.tmod (IntKind.u64.wrap (Int.tdiv t236 t238)) t240))))))))) = some r := H
 have A3 := A_ A30;clear A30
 replace H := ob_ H
 obtain ⟨t237, A40, H⟩ := H
 replace H : ((r2_Two.f k t237).bind fun t238 => (if t238 = 0 then (none) else ((r2_E.f a0).bind fun t239 => ((r2_Two.f k t239).bind fun t240 => (if t240 = 0 then (none) else (some (wrap64 (Int.tmod (IntKind.u64.wrap (Int.tdiv t236 t238)) t240)))))))) = some r := H
 have A4 := A_ A40;clear A40
 replace H := ob_ H
 obtain ⟨t238, A50, H⟩ := H
 replace H : (if t238 = 0 then (none) else ((r2_E.f a0).bind fun t239 => ((r2_Two.f k t239).bind fun t240 => (if t240 = 0 then (none) else (some (wrap64 (Int.tmod (IntKind.u64.wrap (Int.tdiv t236 t238)) t240))))))) = some r := H
 have A5 := A_ A50;clear A50
 by_cases c6 : t238 = 0
 ·rw [if_pos c6] at H
  exact absurd H (by simp)
 ·rw [if_neg c6] at H
  have c6b0 : (t238 == 0) = false := beq_eq_false_iff_ne.mpr c6
  have c6b1 : (t238 != 0) = true := bne_iff_ne.mpr c6
  replace H := ob_ H
  obtain ⟨t239, A70, H⟩ := H
  replace H : ((r2_Two.f k t239).bind fun t240 => (if t240 = 0 then (none) else (some (wrap64 (Int.tmod (IntKind.u64.wrap (Int.tdiv t236 t238)) t240))))) = some r := H
  have A7 := A_ A70;clear A70
  replace H := ob_ H
  obtain ⟨t240, A80, H⟩ := H
  replace H : (if t240 = 0 then (none) else (some (wrap64 (Int.tmod (IntKind.u64.wrap (Int.tdiv t236 t238)) t240)))) = some r := H
  have A8 := A_ A80;clear A80
  by_cases c9 : t240 = 0
  ·rw [if_pos c9] at H
   exact absurd H (by simp)
  ·rw [if_neg c9] at H
   have c9b0 : (t240 == 0) = false := beq_eq_false_iff_ne.mpr c9
   have c9b1 : (t240 != 0) = true := bne_iff_ne.mpr c9
   obtain rfl := Option.some.inj H
   go_enter Try.func17, Try.ntmps17
   go_wp2_with (first | (go_at_call 57; (with_reducible refine (r2_Cut.calls a0 a1 t236 _ A3.out).mono ?_); rintro e w' ⟨rfl, ⟨nd, rfl⟩⟩; (try first | exact ⟨rfl, _, World.drewN_drewN _ _ _⟩ | exact ⟨rfl, _, Eq.trans (World.drewN_drewN _ _ _) (congrArg (World.drewN _) (Nat.add_assoc _ _ _))⟩)) | (go_at_call 59; (with_reducible refine (r2_F.calls a0 t237 _ A4.out).mono ?_); rintro e w' ⟨rfl, ⟨nd, rfl⟩⟩; (try first | exact ⟨rfl, _, World.drewN_drewN _ _ _⟩ | exact ⟨rfl, _, Eq.trans (World.drewN_drewN _ _ _) (congrArg (World.drewN _) (Nat.add_assoc _ _ _))⟩)) | (go_at_call 58; (with_reducible refine (r2_Two.calls k t237 t238 _ A5.out).mono ?_); rintro e w' ⟨rfl, ⟨nd, rfl⟩⟩; (try first | exact ⟨rfl, _, World.drewN_drewN _ _ _⟩ | exact ⟨rfl, _, Eq.trans (World.drewN_drewN _ _ _) (congrArg (World.drewN _) (Nat.add_assoc _ _ _))⟩)) | (go_at_call 60; (with_reducible refine (r2_E.calls a0 t239 _ A7.out).mono ?_); rintro e w' ⟨rfl, ⟨nd, rfl⟩⟩; (try first | exact ⟨rfl, _, World.drewN_drewN _ _ _⟩ | exact ⟨rfl, _, Eq.trans (World.drewN_drewN _ _ _) (congrArg (World.drewN _) (Nat.add_assoc _ _ _))⟩)) | (go_at_call 58; (with_reducible refine (r2_Two.calls k t239 t240 _ A8.out).mono ?_); rintro e w' ⟨rfl, ⟨nd, rfl⟩⟩; (try first | exact ⟨rfl, _, World.drewN_drewN _ _ _⟩ | exact ⟨rfl, _, Eq.trans (World.drewN_drewN _ _ _) (congrArg (World.drewN _) (Nat.add_assoc _ _ _))⟩)))
   repeat (go_quiet (first | (go_at_call 57; (with_reducible refine (r2_Cut.calls a0 a1 t236 _ A3.out).mono ?_); rintro e w' ⟨rfl, ⟨nd, rfl⟩⟩; (try first | exact ⟨rfl, _, World.drewN_drewN _ _ _⟩ | exact ⟨rfl, _, Eq.trans (World.drewN_drewN _ _ _) (congrArg (World.drewN _) (Nat.add_assoc _ _ _))⟩)) | (go_at_call 59; (with_reducible refine (r2_F.calls a0 t237 _ A4.out).mono ?_); rintro e w' ⟨rfl, ⟨nd, rfl⟩⟩; (try first | exact ⟨rfl, _, World.drewN_drewN _ _ _⟩ | exact ⟨rfl, _, Eq.trans (World.drewN_drewN _ _ _) (congrArg (World.drewN _) (Nat.add_assoc _ _ _))⟩)) | (go_at_call 58; (with_reducible refine (r2_Two.calls k t237 t238 _ A5.out).mono ?_); rintro e w' ⟨rfl, ⟨nd, rfl⟩⟩; (try first | exact ⟨rfl, _, World.drewN_drewN _ _ _⟩ | exact ⟨rfl, _, Eq.trans (World.drewN_drewN _ _ _) (congrArg (World.drewN _) (Nat.add_assoc _ _ _))⟩)) | (go_at_call 60; (with_reducible refine (r2_E.calls a0 t239 _ A7.out).mono ?_); rintro e w' ⟨rfl, ⟨nd, rfl⟩⟩; (try first | exact ⟨rfl, _, World.drewN_drewN _ _ _⟩ | exact ⟨rfl, _, Eq.trans (World.drewN_drewN _ _ _) (congrArg (World.drewN _) (Nat.add_assoc _ _ _))⟩)) | (go_at_call 58; (with_reducible refine (r2_Two.calls k t239 t240 _ A8.out).mono ?_); rintro e w' ⟨rfl, ⟨nd, rfl⟩⟩; (try first | exact ⟨rfl, _, World.drewN_drewN _ _ _⟩ | exact ⟨rfl, _, Eq.trans (World.drewN_drewN _ _ _) (congrArg (World.drewN _) (Nat.add_assoc _ _ _))⟩))); try go_wp2_with (first | (go_at_call 57; (with_reducible refine (r2_Cut.calls a0 a1 t236 _ A3.out).mono ?_); rintro e w' ⟨rfl, ⟨nd, rfl⟩⟩; (try first | exact ⟨rfl, _, World.drewN_drewN _ _ _⟩ | exact ⟨rfl, _, Eq.trans (World.drewN_drewN _ _ _) (congrArg (World.drewN _) (Nat.add_assoc _ _ _))⟩)) | (go_at_call 59; (with_reducible refine (r2_F.calls a0 t237 _ A4.out).mono ?_); rintro e w' ⟨rfl, ⟨nd, rfl⟩⟩; (try first | exact ⟨rfl, _, World.drewN_drewN _ _ _⟩ | exact ⟨rfl, _, Eq.trans (World.drewN_drewN _ _ _) (congrArg (World.drewN _) (Nat.add_assoc _ _ _))⟩)) | (go_at_call 58; (with_reducible refine (r2_Two.calls k t237 t238 _ A5.out).mono ?_); rintro e w' ⟨rfl, ⟨nd, rfl⟩⟩; (try first | exact ⟨rfl, _, World.drewN_drewN _ _ _⟩ | exact ⟨rfl, _, Eq.trans (World.drewN_drewN _ _ _) (congrArg (World.drewN _) (Nat.add_assoc _ _ _))⟩)) | (go_at_call 60; (with_reducible refine (r2_E.calls a0 t239 _ A7.out).mono ?_); rintro e w' ⟨rfl, ⟨nd, rfl⟩⟩; (try first | exact ⟨rfl, _, World.drewN_drewN _ _ _⟩ | exact ⟨rfl, _, Eq.trans (World.drewN_drewN _ _ _) (congrArg (World.drewN _) (Nat.add_assoc _ _ _))⟩)) | (go_at_call 58; (with_reducible refine (r2_Two.calls k t239 t240 _ A8.out).mono ?_); rintro e w' ⟨rfl, ⟨nd, rfl⟩⟩; (try first | exact ⟨rfl, _, World.drewN_drewN _ _ _⟩ | exact ⟨rfl, _, Eq.trans (World.drewN_drewN _ _ _) (congrArg (World.drewN _) (Nat.add_assoc _ _ _))⟩))))
   go_ret
   exact ⟨sm_, by repeat (first | exact Drawn0.refl _ | apply Drawn0.step)⟩
def r2_Top.f (k : Nat) (a0 : Int) : Option (Int) := (r2_E.f a0).bind fun t243 => ((r2_Two.f k t243).bind fun t244 => (some (wrap64 ((wrap64 (t244)) - 1))))
theorem r2_Top.mono : ∀ a0 k, LeO (r2_Top.f k a0) (r2_Top.f (k + 1) a0) := by
 intro a0 k
 unfold r2_Top.f
 repeat' first
   | (with_reducible exact r2_Two.mono _ _)
   | (with_reducible exact LeO.refl _)
   | (with_reducible exact LeO.none _)
   | (with_reducible refine LeO.ite ?_ ?_)
   | (with_reducible refine LeO.bind ?_ (fun _ => ?_))
   | exact r2_Two.mono _ _
   | exact LeO.none _
   | refine LeO.ite ?_ ?_
   | refine LeO.bind ?_ (fun _ => ?_)
theorem r2_Top.calls (k : Nat) (a0 : Int) (r : Int) (w : World) (h : r2_Top.f k a0 = some r) :
  Calls Try.prog 19 #[.int .i64 a0] w fun e w' => e = .returned (.int .i64 r) ∧ Drawn0 w w' := by
 have H : ((r2_E.f a0).bind fun t243 => ((r2_Two.f k t243).bind fun t244 => (some (wrap64 ((wrap64 (t244)) - 1))))) = some r := h
 clear h
 replace H := ob_ H
 obtain ⟨t243, A20, H⟩ := H
 replace H : ((r2_Two.f k t243).bind fun t244 => (some (wrap64 ((wrap64 (t244)) - 1)))) = some r := H
 have A2 := A_ A20;clear A20
 replace H := ob_ H
 obtain ⟨t244, A30, H⟩ := H
 replace H : (some (wrap64 ((wrap64 (t244)) - 1))) = some r := H
 have A3 := A_ A30;clear A30
 obtain rfl := Option.some.inj H
 go_enter Try.func19, Try.ntmps19
 go_wp2_with (first | ((with_reducible refine gate_callee (f := 60) rfl ?_); refine gl_ (some 4) Try.func60 #[.int .i64 a0] ?_; (with_reducible refine (r2_E.calls a0 t243 _ A2.out).mono ?_); rintro e w' ⟨rfl, ⟨nd, rfl⟩⟩; refine ⟨_, rfl, ?_⟩) | ((with_reducible refine gate_callee (f := 58) rfl ?_); refine gl_ (some 5) Try.func58 #[.int .i64 t243] ?_; (with_reducible refine (r2_Two.calls k t243 t244 _ A3.out).mono ?_); rintro e w' ⟨rfl, ⟨nd, rfl⟩⟩; refine ⟨_, rfl, ?_⟩))
 go_ret
 exact ⟨sm_, by repeat (first | exact Drawn0.refl _ | apply Drawn0.step)⟩
mutual
def L07_RadixScale.j0 : Nat → Int → Int → Int → Bool → Option (Bool)
 | 0, _, _, _, _ => none
 | k + 1, x0, x1, x2, x20 => if x20 = true then (some true) else ((r2_Exp.f k x0 x1).bind fun t405 => ((r2_Neg.f k x0 x1).bind fun t406 => (if t406 = true then (L07_RadixScale.j1 k x0 x1 x2 true) else (if t405 = 0 then (L07_RadixScale.j1 k x0 x1 x2 true) else ((r2_Top.f k x0).bind fun t407 => (if t405 = t407 then (L07_RadixScale.j1 k x0 x1 x2 true) else (if (wrap64 (t405 + (wrap64 (2 * x2)))) < 1 then (L07_RadixScale.j1 k x0 x1 x2 true) else ((r2_Top.f k x0).bind fun t408 => (L07_RadixScale.j1 k x0 x1 x2 (decide ((wrap64 (t405 + (wrap64 (2 * x2)))) ≥ t408)))))))))))
def L07_RadixScale.j1 : Nat → Int → Int → Int → Bool → Option (Bool)
 | 0, _, _, _, _ => none
 | k + 1, x0, x1, x2, x52 => if x52 = true then (some true) else ((product_Scale.f k x0 x1 (wrap64 (2 * x2))).bind fun t409 => ((radix_Sqrt.f k x0 t409).bind fun t410 => ((radix_Sqrt.f k x0 x1).bind fun t411 => ((product_Scale.f k x0 t411 x2).bind fun t412 => (some (t410 == t412))))))
end
def L07_RadixScale.f (k : Nat) (a0 : Int) (a1 : Int) (a2 : Int) : Option (Bool) := (L07_awake.f k).bind fun t403 => (if t403 = true then ((r2_Known.f a0).bind fun t404 => (if t404 = true then (if a2 < (-1000) then (L07_RadixScale.j0 k a0 a1 a2 true) else (L07_RadixScale.j0 k a0 a1 a2 (decide (a2 > 1000)))) else (L07_RadixScale.j0 k a0 a1 a2 true))) else (some false))
theorem L07_RadixScale.mono_l : ∀ k, (∀ y0 y1 y2 y3, LeO (L07_RadixScale.j0 k y0 y1 y2 y3) (L07_RadixScale.j0 (k + 1) y0 y1 y2 y3)) ∧ (∀ y0 y1 y2 y3, LeO (L07_RadixScale.j1 k y0 y1 y2 y3) (L07_RadixScale.j1 (k + 1) y0 y1 y2 y3))
 | 0 => ⟨fun _ _ _ _ r h => by simp [L07_RadixScale.j0] at h, fun _ _ _ _ r h => by simp [L07_RadixScale.j1] at h⟩
 | k + 1 => by
  obtain ⟨ih0, ih1⟩ := L07_RadixScale.mono_l k
  refine ⟨?_, ?_⟩
  ·intro y0 y1 y2 y3
   unfold L07_RadixScale.j0
   repeat' first
   | (with_reducible exact ih0 _ _ _ _)
   | (with_reducible exact ih1 _ _ _ _)
   | (with_reducible exact product_Scale.mono _ _ _ _)
   | (with_reducible exact radix_Sqrt.mono _ _ _)
   | (with_reducible exact L07_awake.mono _)
   | (with_reducible exact r2_Exp.mono _ _ _)
   | (with_reducible exact r2_Neg.mono _ _ _)
   | (with_reducible exact r2_Top.mono _ _)
   | (with_reducible exact LeO.refl _)
   | (with_reducible exact LeO.none _)
   | (with_reducible refine LeO.ite ?_ ?_)
   | (with_reducible refine LeO.bind ?_ (fun _ => ?_))
   | exact ih0 _ _ _ _
   | exact ih1 _ _ _ _
   | exact product_Scale.mono _ _ _ _
   | exact radix_Sqrt.mono _ _ _
   | exact L07_awake.mono _
   | exact r2_Exp.mono _ _ _
   | exact r2_Neg.mono _ _ _
   | exact r2_Top.mono _ _
   | exact LeO.none _
   | refine LeO.ite ?_ ?_
   | refine LeO.bind ?_ (fun _ => ?_)
  ·intro y0 y1 y2 y3
   unfold L07_RadixScale.j1
   repeat' first
   | (with_reducible exact ih0 _ _ _ _)
   | (with_reducible exact ih1 _ _ _ _)
   | (with_reducible exact product_Scale.mono _ _ _ _)
   | (with_reducible exact radix_Sqrt.mono _ _ _)
   | (with_reducible exact L07_awake.mono _)
   | (with_reducible exact r2_Exp.mono _ _ _)
   | (with_reducible exact r2_Neg.mono _ _ _)
   | (with_reducible exact r2_Top.mono _ _)
   | (with_reducible exact LeO.refl _)
   | (with_reducible exact LeO.none _)
   | (with_reducible refine LeO.ite ?_ ?_)
   | (with_reducible refine LeO.bind ?_ (fun _ => ?_))
   | exact ih0 _ _ _ _
   | exact ih1 _ _ _ _
   | exact product_Scale.mono _ _ _ _
   | exact radix_Sqrt.mono _ _ _
   | exact L07_awake.mono _
   | exact r2_Exp.mono _ _ _
   | exact r2_Neg.mono _ _ _
   | exact r2_Top.mono _ _
   | exact LeO.none _
   | refine LeO.ite ?_ ?_
   | refine LeO.bind ?_ (fun _ => ?_)
theorem L07_RadixScale.mono : ∀ a0 a1 a2 k, LeO (L07_RadixScale.f k a0 a1 a2) (L07_RadixScale.f (k + 1) a0 a1 a2) := by
 intro a0 a1 a2 k
 obtain ⟨ih0, ih1⟩ := L07_RadixScale.mono_l k
 unfold L07_RadixScale.f
 repeat' first
   | (with_reducible exact ih0 _ _ _ _)
   | (with_reducible exact ih1 _ _ _ _)
   | (with_reducible exact product_Scale.mono _ _ _ _)
   | (with_reducible exact radix_Sqrt.mono _ _ _)
   | (with_reducible exact L07_awake.mono _)
   | (with_reducible exact r2_Exp.mono _ _ _)
   | (with_reducible exact r2_Neg.mono _ _ _)
   | (with_reducible exact r2_Top.mono _ _)
   | (with_reducible exact LeO.refl _)
   | (with_reducible exact LeO.none _)
   | (with_reducible refine LeO.ite ?_ ?_)
   | (with_reducible refine LeO.bind ?_ (fun _ => ?_))
   | exact ih0 _ _ _ _
   | exact ih1 _ _ _ _
   | exact product_Scale.mono _ _ _ _
   | exact radix_Sqrt.mono _ _ _
   | exact L07_awake.mono _
   | exact r2_Exp.mono _ _ _
   | exact r2_Neg.mono _ _ _
   | exact r2_Top.mono _ _
   | exact LeO.none _
   | refine LeO.ite ?_ ?_
   | refine LeO.bind ?_ (fun _ => ?_)
theorem L07_RadixScale.calls (k : Nat) (a0 : Int) (a1 : Int) (a2 : Int) (r : Bool) (w : World) (h : L07_RadixScale.f k a0 a1 a2 = some r) (hr_ : Aside0 (r = true)) :
  Calls Try.prog 5 #[.int .i64 a0, .int .u64 a1, .int .i64 a2] w fun e w' => e = .returned (.bool r) ∧ Below w.heap.size w w' := by
 have HB := A_ (Below.refl w.heap.size w)
 have H : ((L07_awake.f k).bind fun t403 => (if t403 = true then ((r2_Known.f a0).bind fun t404 => (if t404 = true then (if a2 < (-1000) then (L07_RadixScale.j0 k a0 a1 a2 true) else (L07_RadixScale.j0 k a0 a1 a2 (decide (a2 > 1000)))) else (L07_RadixScale.j0 k a0 a1 a2 true))) else (some false))) = some r := h
 clear h
 replace H := ob_ H
 obtain ⟨t403, A40, H⟩ := H
 replace H : (if t403 = true then ((r2_Known.f a0).bind fun t404 => (if t404 = true then (if a2 < (-1000) then (L07_RadixScale.j0 k a0 a1 a2 true) else (L07_RadixScale.j0 k a0 a1 a2 (decide (a2 > 1000)))) else (L07_RadixScale.j0 k a0 a1 a2 true))) else (some false)) = some r := H
 have A4 := A_ A40;clear A40
 by_cases c5 : t403 = true
 ·subst c5
  have H1 : ((r2_Known.f a0).bind fun t404 => (if t404 = true then (if a2 < (-1000) then (L07_RadixScale.j0 k a0 a1 a2 true) else (L07_RadixScale.j0 k a0 a1 a2 (decide (a2 > 1000)))) else (L07_RadixScale.j0 k a0 a1 a2 true))) = some r := by rw [if_pos rfl] at H; exact H
  clear H;have H := H1;clear H1;have HC6 := A_ H;clear H
  go_enter Try.func5, Try.ntmps5
  go_upto_region 3 with (first | ((with_reducible refine gate_callee (f := 8) rfl ?_); refine gl_ (some 8) Try.func8 #[] ?_; (with_reducible refine (L07_awake.calls k  true _ A4.out).mono ?_); rintro e w7 ⟨rfl, hb⟩; refine ⟨_, rfl, ?_⟩; replace HB := A_ (below_step (hb_ HB.out) hb); (try clear hb); (try clear hb2); (try clear hk); (try clear hi)))
  (try simp only [Act.put, lI_, l0_, lS_])
  go_cut [20] (fun v20 wc => ∃ (kq : Nat) (x20_5 : Bool), v20 = .bool x20_5 ∧ Aside0 (L07_RadixScale.j0 kq a0 a1 a2 x20_5 = some r) ∧ Aside0 (kq ≤ k) ∧ Aside0 (Below w.heap.size w wc))
  case first =>
   have H := HC6.out
   clear HC6
   replace H := ob_ H
   obtain ⟨t404, A80, H⟩ := H
   replace H : (if t404 = true then (if a2 < (-1000) then (L07_RadixScale.j0 k a0 a1 a2 true) else (L07_RadixScale.j0 k a0 a1 a2 (decide (a2 > 1000)))) else (L07_RadixScale.j0 k a0 a1 a2 true)) = some r := H
   have A8 := A_ A80;clear A80
   by_cases c9 : t404 = true
   ·subst c9
    have H1 : (if a2 < (-1000) then (L07_RadixScale.j0 k a0 a1 a2 true) else (L07_RadixScale.j0 k a0 a1 a2 (decide (a2 > 1000)))) = some r := by rw [if_pos rfl] at H; exact H
    clear H;have H := H1;clear H1
    by_cases c10 : a2 < (-1000)
    ·rw [if_pos c10] at H
     have c10b0 : decide (a2 < (-1000)) = true := decide_eq_true c10
     clear c10
     (first | rw [c10b0] | (simp only [i64_w, i32_w]; rw [c10b0]) | skip)
     have H' := A_ H
     clear H
     go_wp2_with (first | ((with_reducible refine gate_callee (f := 10) rfl ?_); refine gl_ (some 11) Try.func10 #[.int .i64 a0] ?_; (with_reducible refine (r2_Known.calls a0 true _ A8.out).mono ?_); rintro e w' ⟨rfl, ⟨nd, rfl⟩⟩; refine ⟨_, rfl, ?_⟩))
     go_meet
     case rel => exact ⟨_, (true), sm_, H', ⟨by first | omega | exact Nat.le_refl _⟩, ⟨hb_ HB.out⟩⟩
    ·rw [if_neg c10] at H
     have c10b0 : decide (a2 < (-1000)) = false := decide_eq_false c10
     clear c10
     (first | rw [c10b0] | (simp only [i64_w, i32_w]; rw [c10b0]) | skip)
     have H' := A_ H
     clear H
     go_wp2_with (first | ((with_reducible refine gate_callee (f := 10) rfl ?_); refine gl_ (some 11) Try.func10 #[.int .i64 a0] ?_; (with_reducible refine (r2_Known.calls a0 true _ A8.out).mono ?_); rintro e w' ⟨rfl, ⟨nd, rfl⟩⟩; refine ⟨_, rfl, ?_⟩))
     go_meet
     case rel => exact ⟨_, (decide (a2 > 1000)), sm_, H', ⟨by first | omega | exact Nat.le_refl _⟩, ⟨hb_ HB.out⟩⟩
   ·replace c9 := Bool.eq_false_iff.mpr c9
    subst c9
    have H1 : (L07_RadixScale.j0 k a0 a1 a2 true) = some r := by rw [if_neg (show ¬ (false = true) by decide)] at H; exact H
    clear H;have H := H1;clear H1
    have H' := A_ H
    clear H
    go_wp2_with (first | ((with_reducible refine gate_callee (f := 10) rfl ?_); refine gl_ (some 11) Try.func10 #[.int .i64 a0] ?_; (with_reducible refine (r2_Known.calls a0 false _ A8.out).mono ?_); rintro e w' ⟨rfl, ⟨nd, rfl⟩⟩; refine ⟨_, rfl, ?_⟩))
    go_meet
    case rel => exact ⟨_, (true), sm_, H', ⟨by first | omega | exact Nat.le_refl _⟩, ⟨hb_ HB.out⟩⟩
  case rest =>
   clear HC6
   try clear c1
   try clear p2
   try clear c5
   try clear c8
   try clear c9
   try clear c10
   try clear c10b0
   obtain ⟨kq, x20_5, rfl, HA, HJ5, HB⟩ := hcut
   cases kq with
   | zero => exact absurd HA.out (by simp [L07_RadixScale.j0])
   | succ kj5 =>
    have H := HA.out
    clear HA
    simp only [L07_RadixScale.j0] at H
    by_cases c11 : x20_5 = true
    ·subst c11
     have H1 : (some true) = some r := by rw [if_pos rfl] at H; exact H
     clear H;have H := H1;clear H1
     obtain rfl := Option.some.inj H
     go_wp2
     go_ret
     exact ⟨er_, hb_ HB.out⟩
    ·replace c11 := Bool.eq_false_iff.mpr c11
     subst c11
     have H1 : ((r2_Exp.f kj5 a0 a1).bind fun t405 => ((r2_Neg.f kj5 a0 a1).bind fun t406 => (if t406 = true then (L07_RadixScale.j1 kj5 a0 a1 a2 true) else (if t405 = 0 then (L07_RadixScale.j1 kj5 a0 a1 a2 true) else ((r2_Top.f kj5 a0).bind fun t407 => (if t405 = t407 then (L07_RadixScale.j1 kj5 a0 a1 a2 true) else (if (wrap64 (t405 + (wrap64 (2 * a2)))) < 1 then (L07_RadixScale.j1 kj5 a0 a1 a2 true) else ((r2_Top.f kj5 a0).bind fun t408 => (L07_RadixScale.j1 kj5 a0 a1 a2 (decide ((wrap64 (t405 + (wrap64 (2 * a2)))) ≥ t408))))))))))) = some r := by rw [if_neg (show ¬ (false = true) by decide)] at H; exact H
     clear H;have H := H1;clear H1
     replace H := ob_ H
     obtain ⟨t405, A120, H⟩ := H
     replace H : ((r2_Neg.f kj5 a0 a1).bind fun t406 => (if t406 = true then (L07_RadixScale.j1 kj5 a0 a1 a2 true) else (if t405 = 0 then (L07_RadixScale.j1 kj5 a0 a1 a2 true) else ((r2_Top.f kj5 a0).bind fun t407 => (if t405 = t407 then (L07_RadixScale.j1 kj5 a0 a1 a2 true) else (if (wrap64 (t405 + (wrap64 (2 * a2)))) < 1 then (L07_RadixScale.j1 kj5 a0 a1 a2 true) else ((r2_Top.f kj5 a0).bind fun t408 => (L07_RadixScale.j1 kj5 a0 a1 a2 (decide ((wrap64 (t405 + (wrap64 (2 * a2)))) ≥ t408)))))))))) = some r := H
     have A12 := A_ A120;clear A120;have HC13 := A_ H;clear H
     go_upto_region 6 with (first | ((with_reducible refine gate_callee (f := 17) rfl ?_); refine gl_ (some 23) Try.func17 #[.int .i64 a0, .int .u64 a1] ?_; (with_reducible refine (r2_Exp.calls kj5 a0 a1 t405 _ A12.out).mono ?_); rintro e w' ⟨rfl, ⟨nd, rfl⟩⟩; refine ⟨_, rfl, ?_⟩))
     (try simp only [Act.put, lI_, l0_, lS_])
     go_cut [52] (fun v52 wc => ∃ (kq : Nat) (x52_12 : Bool), v52 = .bool x52_12 ∧ Aside0 (L07_RadixScale.j1 kq a0 a1 a2 x52_12 = some r) ∧ Aside0 (kq ≤ kj5) ∧ Aside0 (Below w.heap.size w wc))
     case first =>
      have H := HC13.out
      clear HC13
      replace H := ob_ H
      obtain ⟨t406, A140, H⟩ := H
      replace H : (if t406 = true then (L07_RadixScale.j1 kj5 a0 a1 a2 true) else (if t405 = 0 then (L07_RadixScale.j1 kj5 a0 a1 a2 true) else ((r2_Top.f kj5 a0).bind fun t407 => (if t405 = t407 then (L07_RadixScale.j1 kj5 a0 a1 a2 true) else (if (wrap64 (t405 + (wrap64 (2 * a2)))) < 1 then (L07_RadixScale.j1 kj5 a0 a1 a2 true) else ((r2_Top.f kj5 a0).bind fun t408 => (L07_RadixScale.j1 kj5 a0 a1 a2 (decide ((wrap64 (t405 + (wrap64 (2 * a2)))) ≥ t408))))))))) = some r := H
      have A14 := A_ A140;clear A140
      by_cases c15 : t406 = true
      ·subst c15
       have H1 : (L07_RadixScale.j1 kj5 a0 a1 a2 true) = some r := by rw [if_pos rfl] at H; exact H
       clear H;have H := H1;clear H1
       have H' := A_ H
       clear H
       go_wp2_with (first | ((with_reducible refine gate_callee (f := 18) rfl ?_); refine gl_ (some 26) Try.func18 #[.int .i64 a0, .int .u64 a1] ?_; (with_reducible refine (r2_Neg.calls kj5 a0 a1 true _ A14.out).mono ?_); rintro e w' ⟨rfl, ⟨nd, rfl⟩⟩; refine ⟨_, rfl, ?_⟩))
       go_meet
       case rel => exact ⟨_, (true), sm_, H', ⟨by have := HJ5.out; first | omega | exact Nat.le_refl _⟩, ⟨hb_ HB.out⟩⟩
      ·replace c15 := Bool.eq_false_iff.mpr c15
       subst c15
       have H1 : (if t405 = 0 then (L07_RadixScale.j1 kj5 a0 a1 a2 true) else ((r2_Top.f kj5 a0).bind fun t407 => (if t405 = t407 then (L07_RadixScale.j1 kj5 a0 a1 a2 true) else (if (wrap64 (t405 + (wrap64 (2 * a2)))) < 1 then (L07_RadixScale.j1 kj5 a0 a1 a2 true) else ((r2_Top.f kj5 a0).bind fun t408 => (L07_RadixScale.j1 kj5 a0 a1 a2 (decide ((wrap64 (t405 + (wrap64 (2 * a2)))) ≥ t408)))))))) = some r := by rw [if_neg (show ¬ (false = true) by decide)] at H; exact H
       clear H;have H := H1;clear H1
       by_cases c16 : t405 = 0
       ·rw [if_pos c16] at H
        have c16b0 : (t405 == 0) = true := beq_iff_eq.mpr c16
        have c16b1 : (t405 != 0) = false := bne_eq_false_iff_eq.mpr c16
        clear c16
        (first | rw [c16b0] | (simp only [i64_w, i32_w]; rw [c16b0]) | skip)
        have H' := A_ H
        clear H
        go_wp2_with (first | ((with_reducible refine gate_callee (f := 18) rfl ?_); refine gl_ (some 26) Try.func18 #[.int .i64 a0, .int .u64 a1] ?_; (with_reducible refine (r2_Neg.calls kj5 a0 a1 false _ A14.out).mono ?_); rintro e w' ⟨rfl, ⟨nd, rfl⟩⟩; refine ⟨_, rfl, ?_⟩))
        go_meet
        case rel => exact ⟨_, (true), sm_, H', ⟨by have := HJ5.out; first | omega | exact Nat.le_refl _⟩, ⟨hb_ HB.out⟩⟩
       ·rw [if_neg c16] at H
        have c16b0 : (t405 == 0) = false := beq_eq_false_iff_ne.mpr c16
        have c16b1 : (t405 != 0) = true := bne_iff_ne.mpr c16
        (first | rw [c16b0] | (simp only [i64_w, i32_w]; rw [c16b0]) | skip)
        replace H := ob_ H
        obtain ⟨t407, A170, H⟩ := H
        replace H : (if t405 = t407 then (L07_RadixScale.j1 kj5 a0 a1 a2 true) else (if (wrap64 (t405 + (wrap64 (2 * a2)))) < 1 then (L07_RadixScale.j1 kj5 a0 a1 a2 true) else ((r2_Top.f kj5 a0).bind fun t408 => (L07_RadixScale.j1 kj5 a0 a1 a2 (decide ((wrap64 (t405 + (wrap64 (2 * a2)))) ≥ t408)))))) = some r := H
        have A17 := A_ A170;clear A170
        by_cases c18 : t405 = t407
        ·rw [if_pos c18] at H
         have c18b0 : (t405 == t407) = true := beq_iff_eq.mpr c18
         have c18b1 : (t405 != t407) = false := bne_eq_false_iff_eq.mpr c18
         clear c18
         have H' := A_ H
         clear H
         go_wp2_with (first | ((with_reducible refine gate_callee (f := 18) rfl ?_); refine gl_ (some 26) Try.func18 #[.int .i64 a0, .int .u64 a1] ?_; (with_reducible refine (r2_Neg.calls kj5 a0 a1 false _ A14.out).mono ?_); rintro e w' ⟨rfl, ⟨nd, rfl⟩⟩; refine ⟨_, rfl, ?_⟩) | (go_at_call 19; (with_reducible refine (r2_Top.calls kj5 a0 t407 _ A17.out).mono ?_); rintro e w' ⟨rfl, ⟨nd, rfl⟩⟩))
         go_meet
         case rel => exact ⟨_, (true), sm_, H', ⟨by have := HJ5.out; first | omega | exact Nat.le_refl _⟩, ⟨hb_ HB.out⟩⟩
        ·rw [if_neg c18] at H
         have c18b0 : (t405 == t407) = false := beq_eq_false_iff_ne.mpr c18
         have c18b1 : (t405 != t407) = true := bne_iff_ne.mpr c18
         by_cases c19 : (wrap64 (t405 + (wrap64 (2 * a2)))) < 1
         ·rw [if_pos c19] at H
          have c19b0 : decide ((wrap64 (t405 + (wrap64 (2 * a2)))) < 1) = true := decide_eq_true c19
          clear c19
          have H' := A_ H
          clear H
          go_wp2_with (first | ((with_reducible refine gate_callee (f := 18) rfl ?_); refine gl_ (some 26) Try.func18 #[.int .i64 a0, .int .u64 a1] ?_; (with_reducible refine (r2_Neg.calls kj5 a0 a1 false _ A14.out).mono ?_); rintro e w' ⟨rfl, ⟨nd, rfl⟩⟩; refine ⟨_, rfl, ?_⟩) | (go_at_call 19; (with_reducible refine (r2_Top.calls kj5 a0 t407 _ A17.out).mono ?_); rintro e w' ⟨rfl, ⟨nd, rfl⟩⟩))
          go_meet
          case rel => exact ⟨_, (true), sm_, H', ⟨by have := HJ5.out; first | omega | exact Nat.le_refl _⟩, ⟨hb_ HB.out⟩⟩
         ·rw [if_neg c19] at H
          have c19b0 : decide ((wrap64 (t405 + (wrap64 (2 * a2)))) < 1) = false := decide_eq_false c19
          clear c19
          replace H := ob_ H
          obtain ⟨t408, A200, H⟩ := H
          replace H : (L07_RadixScale.j1 kj5 a0 a1 a2 (decide ((wrap64 (t405 + (wrap64 (2 * a2)))) ≥ t408))) = some r := H
          have A20 := A_ A200;clear A200
          obtain rfl : t408 = t407 := Option.some.inj (A20.out.symm.trans A17.out)
          have H' := A_ H
          clear H
          go_wp2_with (first | ((with_reducible refine gate_callee (f := 18) rfl ?_); refine gl_ (some 26) Try.func18 #[.int .i64 a0, .int .u64 a1] ?_; (with_reducible refine (r2_Neg.calls kj5 a0 a1 false _ A14.out).mono ?_); rintro e w' ⟨rfl, ⟨nd, rfl⟩⟩; refine ⟨_, rfl, ?_⟩) | (go_at_call 19; (with_reducible refine (r2_Top.calls kj5 a0 t407 _ A17.out).mono ?_); rintro e w' ⟨rfl, ⟨nd, rfl⟩⟩) | (go_at_call 19; (with_reducible refine (r2_Top.calls kj5 a0 t408 _ A20.out).mono ?_); rintro e w' ⟨rfl, ⟨nd, rfl⟩⟩))
          go_meet
          case rel => exact ⟨_, (decide ((wrap64 (t405 + (wrap64 (2 * a2)))) ≥ t408)), sm_, H', ⟨by have := HJ5.out; first | omega | exact Nat.le_refl _⟩, ⟨hb_ HB.out⟩⟩
     case rest =>
      clear HC13
      try clear c1
      try clear p2
      try clear c5
      try clear p6
      try clear c8
      try clear c9
      try clear c10
      try clear c10b0
      try clear c11
      try clear c15
      try clear c16
      try clear c16b0
      try clear c16b1
      try clear c17
      try clear c18
      try clear c18b0
      try clear c18b1
      try clear c19
      try clear c19b0
      try clear p2
      obtain ⟨kq, x52_12, rfl, HA, HJ12, HB⟩ := hcut
      cases kq with
      | zero => exact absurd HA.out (by simp [L07_RadixScale.j1])
      | succ kj12 =>
       have H := HA.out
       clear HA
       simp only [L07_RadixScale.j1] at H
       by_cases c21 : x52_12 = true
       ·subst c21
        have H1 : (some true) = some r := by rw [if_pos rfl] at H; exact H
        clear H;have H := H1;clear H1
        obtain rfl := Option.some.inj H
        go_wp2
        go_ret
        exact ⟨er_, hb_ HB.out⟩
       ·replace c21 := Bool.eq_false_iff.mpr c21
        subst c21
        have H1 : ((product_Scale.f kj12 a0 a1 (wrap64 (2 * a2))).bind fun t409 => ((radix_Sqrt.f kj12 a0 t409).bind fun t410 => ((radix_Sqrt.f kj12 a0 a1).bind fun t411 => ((product_Scale.f kj12 a0 t411 a2).bind fun t412 => (some (t410 == t412)))))) = some r := by rw [if_neg (show ¬ (false = true) by decide)] at H; exact H
        clear H;have H := H1;clear H1
        replace H := ob_ H
        obtain ⟨t409, A220, H⟩ := H
        replace H : ((radix_Sqrt.f kj12 a0 t409).bind fun t410 => ((radix_Sqrt.f kj12 a0 a1).bind fun t411 => ((product_Scale.f kj12 a0 t411 a2).bind fun t412 => (some (t410 == t412))))) = some r := H
        have A22 := A_ A220;clear A220
        replace H := ob_ H
        obtain ⟨t410, A230, H⟩ := H
        replace H : ((radix_Sqrt.f kj12 a0 a1).bind fun t411 => ((product_Scale.f kj12 a0 t411 a2).bind fun t412 => (some (t410 == t412)))) = some r := H
        have A23 := A_ A230;clear A230
        replace H := ob_ H
        obtain ⟨t411, A240, H⟩ := H
        replace H : ((product_Scale.f kj12 a0 t411 a2).bind fun t412 => (some (t410 == t412))) = some r := H
        have A24 := A_ A240;clear A240
        replace H := ob_ H
        obtain ⟨t412, A250, H⟩ := H
        replace H : (some (t410 == t412)) = some r := H
        have A25 := A_ A250;clear A250
        obtain rfl := Option.some.inj H
        go_wp2_with (first | ((with_reducible refine gate_callee (f := 20) rfl ?_); refine gl_ (some 58) Try.func20 #[.int .i64 a0, .int .u64 a1, .int .i64 (wrap64 (2 * a2))] ?_; (with_reducible refine (product_Scale.calls kj12 a0 a1 (wrap64 (2 * a2)) t409 _ A22.out).mono ?_); rintro e w26 ⟨rfl, hb⟩; refine ⟨_, rfl, ?_⟩; replace HB := A_ (below_step (hb_ HB.out) hb); (try clear hb); (try clear hb2); (try clear hk); (try clear hi)) | ((with_reducible refine gate_callee (f := 9) rfl ?_); refine gl_ (some 59) Try.func9 #[.int .i64 a0, .int .u64 t409] ?_; (with_reducible refine (radix_Sqrt.calls kj12 a0 t409 t410 _ A23.out).mono ?_); rintro e w27 ⟨rfl, hb⟩; refine ⟨_, rfl, ?_⟩; replace HB := A_ (below_step (hb_ HB.out) hb); (try clear hb); (try clear hb2); (try clear hk); (try clear hi)) | ((with_reducible refine gate_callee (f := 9) rfl ?_); refine gl_ (some 63) Try.func9 #[.int .i64 a0, .int .u64 a1] ?_; (with_reducible refine (radix_Sqrt.calls kj12 a0 a1 t411 _ A24.out).mono ?_); rintro e w28 ⟨rfl, hb⟩; refine ⟨_, rfl, ?_⟩; replace HB := A_ (below_step (hb_ HB.out) hb); (try clear hb); (try clear hb2); (try clear hk); (try clear hi)) | ((with_reducible refine gate_callee (f := 20) rfl ?_); refine gl_ (some 65) Try.func20 #[.int .i64 a0, .int .u64 t411, .int .i64 a2] ?_; (with_reducible refine (product_Scale.calls kj12 a0 t411 a2 t412 _ A25.out).mono ?_); rintro e w29 ⟨rfl, hb⟩; refine ⟨_, rfl, ?_⟩; replace HB := A_ (below_step (hb_ HB.out) hb); (try clear hb); (try clear hb2); (try clear hk); (try clear hi)))
        go_ret
        exact ⟨er_, hb_ HB.out⟩
 ·replace c5 := Bool.eq_false_iff.mpr c5
  subst c5
  have H1 : (some false) = some r := by rw [if_neg (show ¬ (false = true) by decide)] at H; exact H
  clear H;have H := H1;clear H1
  exact absurd ((Option.some.inj H).trans hr_.out) (by decide)
def L07_RadixScale.Pure : Prop := ∀ (a0 : Int) (a1 : Int) (a2 : Int), (Lit.int .i64 a0).wf = true → (Lit.int .u64 a1).wf = true → (Lit.int .i64 a2).wf = true → ∃ k, L07_RadixScale.f k a0 a1 a2 = some true
theorem L07_RadixScale.walk (P : L07_RadixScale.Pure) (a0 : Int) (a1 : Int) (a2 : Int) (w : World) (w0 : (Lit.int .i64 a0).wf = true) (w1 : (Lit.int .u64 a1).wf = true) (w2 : (Lit.int .i64 a2).wf = true) :
  Calls Try.prog 5 #[.int .i64 a0, .int .u64 a1, .int .i64 a2] w fun e w' => e = .returned (.bool true) ∧ Below w.heap.size w w' := by
 obtain ⟨k, h⟩ := P a0 a1 a2 w0 w1 w2
 refine (L07_RadixScale.calls k a0 a1 a2 true w h ⟨rfl⟩).mono ?_
 rintro e w' ⟨rfl, hd⟩
 exact ⟨rfl, hd⟩
end Go.Proofs.Ytjjehbedpgdhgaa.PA
section
set_option linter.unusedVariables false
set_option linter.unusedSimpArgs false
namespace Go.Proofs.Ytjjehbedpgdhgaa.Th
open Go.RowKit Go.Proofs.YtjjehbedpgdhgaaW.PrintWords Go.Proofs.YtjjehbedpgdhgaaW.PrintLast Go.Proofs.YtjjehbedpgdhgaaW.PrintMore Go.Proofs.Ytjjehbedpgdhgaa.PA Bit Flo
theorem two_i {n : Int} (m : Nat) (h : n = m) (hm : m < 64) : Ev (fun k => r2_Two.f k n) ((2 ^ m : Nat) : Int) := by subst h; exact two_f m hm

theorem r2E32 : r2_E.f 32 = some 8 := by decide +kernel
theorem r2F32 : r2_F.f 32 = some 23 := by decide +kernel
theorem r2Tf32 : Ev (fun k => r2_Two.f k 23) ((8388608 : Nat) : Int) := by have h := two_i (n := 23) 23 rfl (by decide); rw [show (2 : Nat) ^ 23 = 8388608 by decide] at h; exact h
theorem r2Te32 : Ev (fun k => r2_Two.f k 8) ((256 : Nat) : Int) := by have h := two_i (n := 8) 8 rfl (by decide); rw [show (2 : Nat) ^ 8 = 256 by decide] at h; exact h
theorem r2Exp32 (a : Nat) (ha : a < 18446744073709551616) : Ev (fun k => r2_Exp.f k 32 a) ((a / 8388608 % 256 : Nat) : Int) := by
  unfold r2_Exp.f
  refine Ev.bs (r2Cut 32 a (by decide)) (Ev.bs r2F32 (Ev.bind r2Tf32 (Ev.neg (by decide) (Ev.bs r2E32 (Ev.bind r2Te32 (Ev.neg (by decide) (Ev.out ?_)))))))
  have hc : cutN 32 a = a % 4294967296 := by unfold cutN; rw [if_pos rfl]
  rw [hc, Int.tdiv_eq_ediv_of_nonneg (by omega), u64_id (by omega) (by omega), Int.tmod_eq_emod_of_nonneg (by omega), w64_id (by omega) (by omega)]
  omega
theorem r2Top32 : Ev (fun k => r2_Top.f k 32) ((255 : Nat) : Int) := by
  unfold r2_Top.f
  exact Ev.bs r2E32 (Ev.bind r2Te32 (Ev.out (by decide +kernel)))
theorem r2E64 : r2_E.f 64 = some 11 := by decide +kernel
theorem r2F64 : r2_F.f 64 = some 52 := by decide +kernel
theorem r2Tf64 : Ev (fun k => r2_Two.f k 52) ((4503599627370496 : Nat) : Int) := by have h := two_i (n := 52) 52 rfl (by decide); rw [show (2 : Nat) ^ 52 = 4503599627370496 by decide] at h; exact h
theorem r2Te64 : Ev (fun k => r2_Two.f k 11) ((2048 : Nat) : Int) := by have h := two_i (n := 11) 11 rfl (by decide); rw [show (2 : Nat) ^ 11 = 2048 by decide] at h; exact h
theorem r2Exp64 (a : Nat) (ha : a < 18446744073709551616) : Ev (fun k => r2_Exp.f k 64 a) ((a / 4503599627370496 % 2048 : Nat) : Int) := by
  unfold r2_Exp.f
  refine Ev.bs (r2Cut 64 a (by decide)) (Ev.bs r2F64 (Ev.bind r2Tf64 (Ev.neg (by decide) (Ev.bs r2E64 (Ev.bind r2Te64 (Ev.neg (by decide) (Ev.out ?_)))))))
  have hc : cutN 64 a = a % 18446744073709551616 := by unfold cutN; rw [if_neg (by decide), if_pos rfl]; omega
  rw [hc, Int.tdiv_eq_ediv_of_nonneg (by omega), u64_id (by omega) (by omega), Int.tmod_eq_emod_of_nonneg (by omega), w64_id (by omega) (by omega)]
  omega
theorem r2Top64 : Ev (fun k => r2_Top.f k 64) ((2047 : Nat) : Int) := by
  unfold r2_Top.f
  exact Ev.bs r2E64 (Ev.bind r2Te64 (Ev.out (by decide +kernel)))
theorem opn_mk (w : Int) (hw : w = 32 ∨ w = 64) (m : Nat) (s : Bool) (h : m < sb w) : opn w (mkN w m s) = if m = 0 then (s, 0, 0, 0) else if m < (fmt w).inf then (s, 1, (fmt w).ex m, ((fmt w).sg m : Int)) else if m = (fmt w).inf then (s, 2, 0, 0) else (false, 3, 0, 0) := by
  unfold opn; simp only [sg_mk w hw m s h, mag_mk w hw m s h]
end Go.Proofs.Ytjjehbedpgdhgaa.Th
end
section
set_option linter.unusedVariables false
set_option linter.unusedSimpArgs false
namespace Go.Proofs.Ytjjehbedpgdhgaa.Th
open Go.RowKit Go.Proofs.YtjjehbedpgdhgaaW.PrintWords Go.Proofs.YtjjehbedpgdhgaaW.PrintLast Go.Proofs.YtjjehbedpgdhgaaW.PrintMore Go.Proofs.Ytjjehbedpgdhgaa.PA Bit Flo Dig
theorem inf_pos (w : Int) (hw : w = 32 ∨ w = 64) : 0 < (fmt w).inf := by rcases hw with rfl | rfl <;> decide
theorem kinds (w : Int) (hw : w = 32 ∨ w = 64) (a : Nat) : (magN w a = 0 ∧ opn w a = (sgB w a, 0, 0, 0)) ∨ (0 < magN w a ∧ magN w a < (fmt w).inf ∧ opn w a = (sgB w a, 1, (fmt w).ex (magN w a), ((fmt w).sg (magN w a) : Int))) ∨ (magN w a = (fmt w).inf ∧ opn w a = (sgB w a, 2, 0, 0)) ∨ ((fmt w).inf < magN w a ∧ opn w a = (false, 3, 0, 0)) := by
  have h0 := inf_pos w hw
  unfold opn; simp only
  by_cases h1 : magN w a = 0
  · left; rw [if_pos h1]; exact ⟨h1, rfl⟩
  · right; rw [if_neg h1]
    by_cases h2 : magN w a < (fmt w).inf
    · left; rw [if_pos h2]; exact ⟨by omega, h2, rfl⟩
    · right; rw [if_neg h2]
      by_cases h3 : magN w a = (fmt w).inf
      · left; rw [if_pos h3]; exact ⟨h3, rfl⟩
      · right; rw [if_neg h3]; exact ⟨by omega, rfl⟩
theorem ex_bd (w : Int) (hw : w = 32 ∨ w = 64) (m : Nat) (h : m < (fmt w).inf) : -1074 ≤ (fmt w).ex m ∧ (fmt w).ex m ≤ 971 := by
  rcases hw with rfl | rfl
  · rw [fmt32, inf32] at h; rw [fmt32, ex32]; split <;> omega
  · rw [fmt64, inf64] at h; rw [fmt64, ex64]; split <;> omega
theorem sg_64 (w : Int) (hw : w = 32 ∨ w = 64) (m : Nat) : (fmt w).sg m < 9007199254740992 := by
  have h := (fmt w).sg_lt m
  rcases hw with rfl | rfl
  · rw [fmt32] at h ⊢; rw [show (2 : Nat) ^ (f32.f + 1) = 16777216 by decide] at h; omega
  · rw [fmt64] at h ⊢; rw [show (2 : Nat) ^ (f64.f + 1) = 9007199254740992 by decide] at h; omega
end Go.Proofs.Ytjjehbedpgdhgaa.Th
end
section
set_option linter.unusedVariables false
set_option linter.unusedSimpArgs false
namespace Go.Proofs.Ytjjehbedpgdhgaa.Th
open Flo
theorem fmt_bd (w : Int) : (fmt w).f < 100 ∧ (-5000 < (fmt w).low ∧ (fmt w).low < 0) ∧ (fmt w).top < 5000 := by
  unfold fmt; split <;> decide
theorem fmt_f (w : Int) : (fmt w).f ≤ 52 := by unfold fmt; split <;> decide
theorem pk_ex (w : Int) (S : Nat) (e : Int) (hS : S < 340282366920938463463374607431768211456) : pkm (fmt w) S e false = (fmt w).rnd ((S : Rat) * tw e) := by
  have h := fmt_bd w
  rw [← pkx_f, pkm_rnd _ h.1 h.2.1 h.2.2 S e false hS]
abbrev Pt := Bool × Int × Int × Int
noncomputable def pv (p : Pt) : Rat := if p.2.1 = 1 then (if p.1 then -((p.2.2.2.toNat : Rat) * tw p.2.2.1) else (p.2.2.2.toNat : Rat) * tw p.2.2.1) else 0
end Go.Proofs.Ytjjehbedpgdhgaa.Th
end
section
set_option linter.unusedVariables false
set_option linter.unusedSimpArgs false
namespace Go.Proofs.Ytjjehbedpgdhgaa.Th
open Go.RowKit Go.Proofs.YtjjehbedpgdhgaaW.PrintWords Go.Proofs.YtjjehbedpgdhgaaW.PrintLast Go.Proofs.YtjjehbedpgdhgaaW.PrintMore Go.Proofs.Ytjjehbedpgdhgaa.PA Bit Flo
theorem packE (w : Int) (hw : w = 32 ∨ w = 64) (s : Bool) (h l : Nat) (hh : h < 18446744073709551616) (hl : l < 18446744073709551616) (e : Int) (m : Bool) : round_Pack.f w s h l e m = some ((mkN w (pkm (fmt w) (wn h l) e m) s : Nat) : Int) := by
  unfold round_Pack.f
  rw [if_pos (by omega), if_pos hw, Int.toNat_natCast, Int.toNat_natCast]
theorem pack1 (w : Int) (hw : w = 32 ∨ w = 64) (s : Bool) (n : Nat) (hn : n < 18446744073709551616) (e : Int) : round_Pack.f w s 0 n e false = some ((mkN w ((fmt w).rnd ((n : Rat) * tw e)) s : Nat) : Int) := by
  have := packE w hw s 0 n (by decide) hn e false
  rw [show wn 0 n = n by unfold wn; omega, pk_ex w n e (by omega)] at this
  exact this
theorem shN (w : Int) (hw : w = 32 ∨ w = 64) : shape_Nan.f w = some ((nanN w : Nat) : Int) := by rcases hw with rfl | rfl; exact shNan32; exact shNan64
theorem pv1 (s : Bool) (e : Int) (g : Nat) : pv (s, 1, e, (g : Int)) = if s then -((g : Rat) * tw e) else (g : Rat) * tw e := by
  unfold pv; rw [if_pos rfl]; simp
def PtOk (p : Pt) : Prop := (p.2.1 = 0 ∨ p.2.1 = 1 ∨ p.2.1 = 2 ∨ p.2.1 = 3) ∧ (p.2.1 = 1 → 0 < p.2.2.2) ∧ (p.2.1 ≠ 1 → p.2.2.2 = 0 ∧ p.2.2.1 = 0) ∧ 0 ≤ p.2.2.2 ∧ p.2.2.2 < 9007199254740992 ∧ -1100 ≤ p.2.2.1 ∧ p.2.2.1 ≤ 1000
theorem opn_ok (w : Int) (hw : w = 32 ∨ w = 64) (a : Nat) : PtOk (opn w a) := by
  rcases kinds w hw a with ⟨_, h⟩ | ⟨h1, h2, h⟩ | ⟨_, h⟩ | ⟨_, h⟩ <;> rw [h]
  · exact ⟨.inl rfl, fun h => absurd h (by simp), fun _ => ⟨rfl, rfl⟩, by simp, by simp, by simp, by simp⟩
  · have h3 := ex_bd w hw _ h2
    have h4 := sg_64 w hw (magN w a)
    refine ⟨.inr (.inl rfl), fun _ => ?_, fun h => absurd rfl h, by simp, by simp; omega, by simp; omega, by simp; omega⟩
    have : 0 < (fmt w).val (magN w a) := (fmt w).val_pos.2 h1
    unfold Fmt.val at this
    rcases Nat.eq_zero_or_pos ((fmt w).sg (magN w a)) with h5 | h5
    · rw [h5] at this; simp at this
    · simp; omega
  · exact ⟨.inr (.inr (.inl rfl)), fun h => absurd h (by simp), fun _ => ⟨rfl, rfl⟩, by simp, by simp, by simp, by simp⟩
  · exact ⟨.inr (.inr (.inr rfl)), fun h => absurd h (by simp), fun _ => ⟨rfl, rfl⟩, by simp, by simp, by simp, by simp⟩
end Go.Proofs.Ytjjehbedpgdhgaa.Th
end
section
set_option linter.unusedVariables false
set_option linter.unusedSimpArgs false
namespace Go.Proofs.Ytjjehbedpgdhgaa.Th
open Go.RowKit Go.Proofs.YtjjehbedpgdhgaaW.PrintWords Go.Proofs.YtjjehbedpgdhgaaW.PrintLast Go.Proofs.YtjjehbedpgdhgaaW.PrintMore Go.Proofs.Ytjjehbedpgdhgaa.PA Bit Dig Flo
noncomputable def narG (w : Int) (s : Bool) (kd e : Int) (g : Nat) : Nat := if kd = 0 then mkN w 0 s else if kd = 1 then mkN w ((fmt w).rnd ((g : Rat) * tw e)) s else if kd = 2 then mkN w (fmt w).inf s else if kd = 3 then nanN w else 0
theorem narrowG (w : Int) (hw : w = 32 ∨ w = 64) (s : Bool) (kd e : Int) (g : Nat) (hg : g < 18446744073709551616) : round_Narrow.f w s kd e g = some ((narG w s kd e g : Nat) : Int) := by
  unfold round_Narrow.f narG
  by_cases h0 : kd = 0
  · rw [if_pos h0, if_pos h0, shZ w hw, Option.bind_some]
  · rw [if_neg h0, if_neg h0]
    by_cases h1 : kd = 1
    · rw [if_pos h1, if_pos h1, ofW g, Option.bind_some]
      show (round_Pack.f w s 0 (g : Int) e false).bind _ = _
      rw [pack1 w hw s g hg e, Option.bind_some]
    · rw [if_neg h1, if_neg h1]
      by_cases h2 : kd = 2
      · rw [if_pos h2, if_pos h2, shI w hw, Option.bind_some]
      · rw [if_neg h2, if_neg h2]
        by_cases h3 : kd = 3
        · rw [if_pos h3, if_pos h3, shN w hw, Option.bind_some]
        · rw [if_neg h3, if_neg h3]; rfl
end Go.Proofs.Ytjjehbedpgdhgaa.Th
end
set_option linter.unusedVariables false
set_option linter.unusedSimpArgs false
namespace Flo
theorem sq_lt {a b : Rat} (ha : 0 ≤ a) (h : a < b) : a * a < b * b := by
  have h1 : a * a ≤ a * b := Rat.mul_le_mul_of_nonneg_left (Rat.le_of_lt h) ha
  have h2 : a * b < b * b := mul_lt h (by grind)
  grind
theorem sq_le {a b : Rat} (ha : 0 ≤ a) (h : a ≤ b) : a * a ≤ b * b := by
  have h1 : a * a ≤ a * b := Rat.mul_le_mul_of_nonneg_left h ha
  have h2 : a * b ≤ b * b := Rat.mul_le_mul_of_nonneg_right h (by grind)
  grind
theorem lt_of_sq {a b : Rat} (hb : 0 ≤ b) (h : a * a < b * b) : a < b := by
  have : ¬ b ≤ a := fun h1 => by have := sq_le hb h1; grind
  grind
theorem eq_of_sq {a b : Rat} (ha : 0 ≤ a) (hb : 0 ≤ b) (h : a * a = b * b) : a = b := by
  have h1 : ¬ a < b := fun h1 => by have := sq_lt ha h1; grind
  have h2 : ¬ b < a := fun h1 => by have := sq_lt hb h1; grind
  grind
namespace Fmt
variable (F : Fmt)
theorem mid_pos (m : Nat) : 0 < F.mid m := by
  have h1 := F.lt_mid m
  have h2 := F.val_nonneg m
  grind
def USq (x : Rat) (m : Nat) : Prop := F.mid m * F.mid m < x ∨ F.mid m * F.mid m = x ∧ m % 2 = 1
theorem USq.down {x : Rat} {m n : Nat} (h : n ≤ m) (u : F.USq x m) : F.USq x n := by
  rcases Nat.lt_or_eq_of_le h with h1 | rfl
  · left
    have h2 := sq_lt (Rat.le_of_lt (F.mid_pos n)) (F.mid_lt h1)
    rcases u with u | ⟨u, _⟩ <;> grind
  · exact u
theorem USq.mono' {x y : Rat} (h : x ≤ y) (m : Nat) (u : F.USq x m) : F.USq y m := by
  rcases u with u | ⟨u, v⟩
  · exact .inl (by grind)
  · rcases (Rat.le_iff_lt_or_eq).1 h with h | h
    · exact .inl (by grind)
    · exact .inr ⟨by grind, v⟩
noncomputable def rsq (x : Rat) : Nat := Classical.choose (Rnd.exists F (F.USq x))
theorem rsq_spec (x : Rat) : F.Rnd (F.USq x) (F.rsq x) := Classical.choose_spec (Rnd.exists F (F.USq x))
theorem rsq_of {x : Rat} {r : Nat} (h : F.Rnd (F.USq x) r) : F.rsq x = r := Rnd.unique F (F.rsq_spec x) h fun _ => Iff.rfl
theorem usq_up {x : Rat} (hx : 0 ≤ x) (m : Nat) : F.USq (x * x) m ↔ F.Up x m := by
  have hm := F.mid_pos m
  constructor
  · rintro (h | ⟨h, k⟩)
    · exact .inl (lt_of_sq hx h)
    · exact .inr ⟨eq_of_sq (Rat.le_of_lt hm) hx h, k⟩
  · rintro (h | ⟨h, k⟩)
    · exact .inl (sq_lt (Rat.le_of_lt hm) h)
    · exact .inr ⟨by rw [h], k⟩
theorem rsq_sq {x : Rat} (hx : 0 ≤ x) : F.rsq (x * x) = F.rnd x := F.rsq_of (Rnd.congr F (F.rnd_spec x) fun m => (F.usq_up hx m).symm)
theorem Rnd.root {n S r : Nat} {h : Int} (k : F.Rnd (F.Up (((2 * S + 1 : Nat) : Rat) * tw (h - 1))) r) (h1 : S * S < n) (h2 : n < (S + 1) * (S + 1)) (hS : 2 ^ (F.f + 1) ≤ S) : F.Rnd (F.USq ((n : Rat) * tw (2 * h))) r := by
  have T := tw_pos h
  have e : tw (2 * h) = tw h * tw h := by rw [← tw_add]; congr 1; omega
  have T2 : 0 < tw h * tw h := by rw [← e]; exact tw_pos _
  refine Rnd.sticky F k (fun m hm => ?_) (fun m hm u => ?_) (.inl hS)
  · left
    have h3 := sq_le (Rat.le_of_lt (F.mid_pos m)) hm
    have h4 : ((S * S : Nat) : Rat) < (n : Rat) := nat_lt.2 h1
    have h5 := mul_lt h4 T2
    rw [e]
    push_cast at h5
    generalize tw h = t at *
    grind
  · have h3 := sq_le (by
      have : (0 : Rat) ≤ ((S + 1 : Nat) : Rat) := by exact_mod_cast Nat.zero_le _
      exact Rat.mul_nonneg this (Rat.le_of_lt T)) hm
    have h4 : (n : Rat) < (((S + 1) * (S + 1) : Nat) : Rat) := nat_lt.2 h2
    have h5 := mul_lt h4 T2
    rw [USq, e] at u
    push_cast at h5 h3
    generalize tw h = t at *
    rcases u with u | ⟨u, _⟩ <;> grind
theorem Rnd.root_exact {S r : Nat} {h : Int} (k : F.Rnd (F.Up ((S : Rat) * tw h)) r) : F.Rnd (F.USq (((S * S : Nat) : Rat) * tw (2 * h))) r := by
  have e : ((S * S : Nat) : Rat) * tw (2 * h) = ((S : Rat) * tw h) * ((S : Rat) * tw h) := by
    rw [show tw (2 * h) = tw h * tw h by rw [← tw_add]; congr 1; omega]
    push_cast; grind
  rw [e]
  refine Rnd.congr F k fun m => (F.usq_up ?_ m).symm
  have : (0 : Rat) ≤ (S : Rat) := by exact_mod_cast Nat.zero_le _
  exact Rat.mul_nonneg this (Rat.le_of_lt (tw_pos h))
end Fmt
end Flo
section
set_option linter.unusedVariables false
set_option linter.unusedSimpArgs false
namespace Go.Proofs.Ytjjehbedpgdhgaa.Th
open Go.RowKit Go.Proofs.YtjjehbedpgdhgaaW.PrintWords Go.Proofs.YtjjehbedpgdhgaaW.PrintLast Go.Proofs.YtjjehbedpgdhgaaW.PrintMore Go.Proofs.Ytjjehbedpgdhgaa.PA Bit Dig Flo
theorem inf_sb (w : Int) (hw : w = 32 ∨ w = 64) : (fmt w).inf < sb w ∧ nanN w < sb w ∧ (fmt w).inf < nanN w ∧ nanN w = mkN w (nanN w) false := by
  rcases hw with rfl | rfl
  · rw [fmt32, inf32]; exact ⟨by decide, by decide, by decide, by decide⟩
  · rw [fmt64, inf64]; exact ⟨by decide, by decide, by decide, by decide⟩
def oneN (w : Int) : Nat := if w = 32 then 1065353216 else 4607182418800017408
theorem val_one (w : Int) (hw : w = 32 ∨ w = 64) : (fmt w).val (oneN w) = 1 ∧ oneN w < (fmt w).inf ∧ 0 < oneN w := by
  rcases hw with rfl | rfl
  · refine ⟨?_, by rw [fmt32, inf32]; decide, by decide⟩
    unfold Fmt.val
    rw [fmt32, show oneN 32 = 127 * 2 ^ f32.f + 0 by decide]
    have := Fmt.sg_mk f32 126 (2 ^ f32.f) (by decide) (fun _ => Nat.le_refl _)
    rw [show 127 * 2 ^ f32.f + 0 = 126 * 2 ^ f32.f + 2 ^ f32.f by decide, this.1, this.2]
    rw [show ((2 ^ f32.f : Nat) : Rat) = tw 23 from (tw_nat 23).symm, ← tw_add]
    exact tw_zero
  · refine ⟨?_, by rw [fmt64, inf64]; decide, by decide⟩
    unfold Fmt.val
    rw [fmt64, show oneN 64 = 1022 * 2 ^ f64.f + 2 ^ f64.f by decide]
    have := Fmt.sg_mk f64 1022 (2 ^ f64.f) (by decide) (fun _ => Nat.le_refl _)
    rw [this.1, this.2]
    rw [show ((2 ^ f64.f : Nat) : Rat) = tw 52 from (tw_nat 52).symm, ← tw_add]
    exact tw_zero
noncomputable def sqP (w : Int) (p : Pt) : Nat := if p.2.1 = 0 then mkN w 0 p.1 else if p.2.1 = 3 ∨ p.1 = true then nanN w else if p.2.1 = 2 then mkN w (fmt w).inf false else mkN w ((fmt w).rsq (pv p)) false
theorem sqPack (w : Int) {S r : Nat} {e h : Int} (he : e = 2 * h) (h1 : r * r ≤ S) (h2 : S < (r + 1) * (r + 1)) (hr : 9007199254740992 ≤ r) (hlt : r < 18446744073709551616) : pkm (fmt w) r h (decide (r * r ≠ S)) = (fmt w).rsq ((S : Rat) * tw e) := by
  have bd := fmt_bd w
  have hp : 2 ^ ((fmt w).f + 1) ≤ r := by
    have : 2 ^ ((fmt w).f + 1) ≤ 2 ^ 53 := Nat.pow_le_pow_right (by decide) (by have := fmt_f w; omega)
    rw [show (2 : Nat) ^ 53 = 9007199254740992 by decide] at this
    omega
  by_cases c : r * r = S
  · rw [decide_eq_false (fun x => x c), pk_ex w r h (by omega)]
    rw [he, ← c]
    exact ((fmt w).rsq_of (Fmt.Rnd.root_exact _ ((fmt w).rnd_spec _))).symm
  · rw [decide_eq_true c, ← pkm_rnd (fmt w) bd.1 bd.2.1 bd.2.2 r h true (by omega), he]
    refine ((fmt w).rsq_of (Fmt.Rnd.root (fmt w) ?_ (by omega) h2 hp)).symm
    have := (fmt w).rnd_spec (pkx r h true)
    unfold pkx at this ⊢
    simp only [if_true] at this ⊢
    exact this
theorem rsq_lt (w : Int) (hw : w = 32 ∨ w = 64) {m : Nat} (hm : m < (fmt w).inf) : (fmt w).rsq ((fmt w).val m) < (fmt w).inf := by
  rcases Nat.lt_or_ge ((fmt w).rsq ((fmt w).val m)) (fmt w).inf with h | h
  · exact h
  · exfalso
    have hi := (fmt w).inf_pos
    have u := ((fmt w).rsq_spec ((fmt w).val m)).2.1 ((fmt w).inf - 1) (by omega)
    have o := val_one w hw
    have v1 : (1 : Rat) ≤ (fmt w).val ((fmt w).inf - 1) := by rw [← o.1]; exact (fmt w).val_mono (by omega)
    have v2 : (fmt w).val m ≤ (fmt w).val ((fmt w).inf - 1) := (fmt w).val_mono (by omega)
    have v3 := (fmt w).lt_mid ((fmt w).inf - 1)
    have v4 : (fmt w).val ((fmt w).inf - 1) ≤ (fmt w).val ((fmt w).inf - 1) * (fmt w).val ((fmt w).inf - 1) := by
      have := Rat.mul_le_mul_of_nonneg_right v1 (show 0 ≤ (fmt w).val ((fmt w).inf - 1) by grind)
      rwa [Rat.one_mul] at this
    have v5 := sq_lt (show 0 ≤ (fmt w).val ((fmt w).inf - 1) by grind) v3
    unfold Fmt.USq at u
    rcases u with u | ⟨u, _⟩ <;> grind
theorem usq_iff (w : Int) {x : Rat} {R m : Nat} (hR : (fmt w).rsq x = R) (hlt : R < (fmt w).inf) : (fmt w).USq x m ↔ m < R := by
  have s := (fmt w).rsq_spec x
  rw [hR] at s
  constructor
  · intro u
    rcases Nat.lt_or_ge m R with h | h
    · exact h
    · exact absurd (Fmt.USq.down (fmt w) h u) (s.2.2 hlt)
  · exact s.2.1 m
theorem twx {g : Nat} {e lo : Int} {u : Nat} (h : (u : Int) = e - lo) : (g : Rat) * tw e = ((g * 2 ^ u : Nat) : Rat) * tw lo := by
  rw [show e = (u : Int) + lo by omega, tw_add, tw_nat]
  push_cast
  grind
theorem tmod2 (x : Int) : Int.tmod x 2 = 0 ↔ x % 2 = 0 :=
  ⟨fun h => by have := Int.dvd_of_tmod_eq_zero h; omega, fun h => Int.tmod_eq_zero_of_dvd (Int.dvd_of_emod_eq_zero h)⟩
theorem spreadE (s : Bool) (kd : Int) {e : Int} {g : Nat} (h : 0 < g) (hg : g < 9007199254740992) (he : -1100 ≤ e ∧ e ≤ 1000) :
    ∃ u : Nat, 125 ≤ bl g + u ∧ bl g + u ≤ 126 ∧ (e - u) % 2 = 0 ∧ Ev (fun k => radix_spread.f k s kd e g) (wH (g * 2 ^ u), wL (g * 2 ^ u), e - u) := by
  have hb := bl64 (show g < 18446744073709551616 by omega)
  have h0 := bl_pos.2 h
  have b53 : bl g ≤ 53 := bl_le.2 hg
  have hlen : wide_Len.f 0 (g : Int) = some ((bl g : Nat) : Int) := by
    have := wLen (V := g) (by omega)
    rwa [(wSmall (show g < 18446744073709551616 by omega)).1, (wSmall (show g < 18446744073709551616 by omega)).2] at this
  have hleft : ∀ u : Nat, bl g + u ≤ 126 → wide_Left.f 0 (g : Int) (u : Int) = some (wH (g * 2 ^ u), wL (g * 2 ^ u)) := by
    intro u hu
    have hV : g * 2 ^ u < 340282366920938463463374607431768211456 := by
      have := Nat.mul_lt_mul_of_pos_right (lt_two_bl g) (Nat.pow_pos (n := u) (show 0 < 2 by decide))
      rw [← Nat.pow_add] at this
      have h2 : 2 ^ (bl g + u) ≤ 2 ^ 128 := Nat.pow_le_pow_right (by decide) (by omega)
      rw [show (2 : Nat) ^ 128 = 340282366920938463463374607431768211456 by decide] at h2
      omega
    have := wLeft (V := g) (by omega) u (by omega) hV
    rwa [(wSmall (show g < 18446744073709551616 by omega)).1, (wSmall (show g < 18446744073709551616 by omega)).2] at this
  obtain ⟨u0, hu0⟩ := Int.eq_ofNat_of_zero_le (show 0 ≤ 126 - ((bl g : Nat) : Int) by omega)
  have go : ∀ u : Nat, bl g + u ≤ 126 → Ev (fun k => radix_spread.l0 k e u0) (u : Int) → Ev (fun k => radix_spread.f k s kd e g) (wH (g * 2 ^ u), wL (g * 2 ^ u), e - u) := by
    intro u hu hl
    unfold radix_spread.f
    refine Ev.bs (ofW g) (Ev.bs hlen ?_)
    rw [w64_id (n := 126 - ((bl g : Nat) : Int)) (by omega) (by omega), hu0]
    refine Ev.bind hl (Ev.bs (hleft u hu) (Ev.out ?_))
    rw [w64_id (n := e - (u : Int)) (by omega) (by omega)]
  by_cases c : (e - (u0 : Int)) % 2 = 0
  · refine ⟨u0, by omega, by omega, c, go u0 (by omega) ?_⟩
    refine Ev.step (fun _ => radix_spread.l0.eq_2 ..) ?_
    rw [w64_id (n := e - (u0 : Int)) (by omega) (by omega)]
    exact Ev.pos ((tmod2 _).2 c) (Ev.out rfl)
  · refine ⟨u0 - 1, by omega, by omega, by omega, go (u0 - 1) (by omega) ?_⟩
    refine Ev.step (fun _ => radix_spread.l0.eq_2 ..) ?_
    rw [w64_id (n := e - (u0 : Int)) (by omega) (by omega), w64_id (n := (u0 : Int) - 1) (by omega) (by omega), show (u0 : Int) - 1 = ((u0 - 1 : Nat) : Int) by omega]
    refine Ev.neg (fun x => c ((tmod2 _).1 x)) (Ev.step (fun _ => radix_spread.l0.eq_2 ..) ?_)
    rw [w64_id (n := e - ((u0 - 1 : Nat) : Int)) (by omega) (by omega)]
    exact Ev.pos ((tmod2 _).2 (by omega)) (Ev.out rfl)
theorem big_root {S x : Nat} (hS : 21267647932558653966460912964485513216 ≤ S) (h : S < (x + 1) * (x + 1)) : 9007199254740992 ≤ x := by
  rcases Nat.lt_or_ge x 9007199254740992 with c | c
  · have := Nat.mul_le_mul (show x + 1 ≤ 9007199254740992 by omega) (show x + 1 ≤ 9007199254740992 by omega)
    omega
  · exact c
theorem finiteE (w : Int) (hw : w = 32 ∨ w = 64) (s : Bool) (kd : Int) {e : Int} {g : Nat} (h : 0 < g) (hg : g < 9007199254740992) (he : -1100 ≤ e ∧ e ≤ 1000) :
    Ev (fun k => radix_finite.f k w s kd e g) ((mkN w ((fmt w).rsq ((g : Rat) * tw e)) false : Nat) : Int) := by
  obtain ⟨u, u1, u2, u3, hs⟩ := spreadE s kd h hg he
  have hS1 : g * 2 ^ u < 85070591730234615865843651857942052864 := by
    have := Nat.mul_lt_mul_of_pos_right (lt_two_bl g) (Nat.pow_pos (n := u) (show 0 < 2 by decide))
    rw [← Nat.pow_add] at this
    have h2 : 2 ^ (bl g + u) ≤ 2 ^ 126 := Nat.pow_le_pow_right (by decide) (by omega)
    rw [show (2 : Nat) ^ 126 = 85070591730234615865843651857942052864 by decide] at h2
    omega
  have hS2 : 21267647932558653966460912964485513216 ≤ g * 2 ^ u := by
    have h0 := bl_pos.2 h
    have h1 := Nat.mul_le_mul_right (2 ^ u) (two_bl_le h)
    rw [← Nat.pow_add] at h1
    have h2 : 2 ^ 124 ≤ 2 ^ (bl g - 1 + u) := Nat.pow_le_pow_right (by decide) (by omega)
    rw [show (2 : Nat) ^ 124 = 21267647932558653966460912964485513216 by decide] at h2
    omega
  rw [twx (g := g) (e := e) (lo := e - u) (u := u) (by omega)]
  generalize g * 2 ^ u = S at *
  obtain ⟨h', hh'⟩ : ∃ h' : Int, e - u = 2 * h' := ⟨(e - u) / 2, by omega⟩
  obtain ⟨x, x1, x2, x3, hx⟩ := rootW (S / 18446744073709551616) (S % 18446744073709551616) (hi64 (by omega)) (lo64 S)
  rw [wn_div] at x1 x2 hx
  have hb := big_root hS2 x2
  unfold radix_finite.f
  refine Ev.bind hs (Ev.bind hx (Ev.bs (ofW x) ?_))
  simp only
  have hd : Int.tdiv (e - (u : Int)) 2 = h' := by rw [hh', Int.mul_tdiv_cancel_left h' (by decide)]
  rw [hd, w64_id (n := h') (by omega) (by omega)]
  have p := packE w hw false 0 x (by decide) x3 h' (decide (x * x ≠ S))
  rw [show wn 0 x = x by unfold wn; omega, sqPack w hh' x1 x2 hb x3] at p
  exact Ev.bs p (Ev.out rfl)
theorem sqrtE (w : Int) (hw : w = 32 ∨ w = 64) (a : Nat) (ha : a < 18446744073709551616) : Ev (fun k => radix_Sqrt.f k w a) ((sqP w (opn w a) : Nat) : Int) := by
  have main : Ev (fun k => radix_Sqrt.j0 k w a false) ((sqP w (opn w a) : Nat) : Int) := by
    refine Ev.step (fun _ => radix_Sqrt.j0.eq_2 ..) (Ev.neg (by decide) (Ev.bind (openS w hw a ha) ?_))
    have ok := opn_ok w hw a
    generalize opn w a = p at *
    obtain ⟨s, kd, e, g⟩ := p
    obtain ⟨h1, h2, h0, h3, h4, h5, h6⟩ := ok
    simp only at h1 h2 h0 h3 h4 h5 h6
    obtain ⟨g, rfl⟩ := Int.eq_ofNat_of_zero_le h3
    unfold sqP
    simp only
    by_cases k0 : kd = 0
    · rw [if_pos k0]; exact Ev.pos k0 (Ev.bs (shZ w hw s) (Ev.out rfl))
    · rw [if_neg k0]
      refine Ev.neg k0 ?_
      by_cases k3 : kd = 3
      · rw [if_pos (.inl k3)]
        exact Ev.pos k3 (Ev.step (fun _ => radix_Sqrt.j1.eq_2 ..) (Ev.pos rfl (Ev.bs (shN w hw) (Ev.out rfl))))
      · refine Ev.neg k3 (Ev.step (fun _ => radix_Sqrt.j1.eq_2 ..) ?_)
        by_cases ks : s = true
        · rw [if_pos (.inr ks)]
          exact Ev.pos ks (Ev.bs (shN w hw) (Ev.out rfl))
        · rw [if_neg (by simp [k3, ks])]
          refine Ev.neg ks ?_
          by_cases k2 : kd = 2
          · rw [if_pos k2]; exact Ev.pos k2 (Ev.bs (shI w hw false) (Ev.out rfl))
          · rw [if_neg k2]
            have k1 : kd = 1 := by omega
            subst k1
            have hs : s = false := by cases s; rfl; exact absurd rfl ks
            subst hs
            refine Ev.neg k2 (Ev.bind (finiteE w hw false 1 (by have := h2 rfl; omega) (by omega) ⟨h5, h6⟩) (Ev.out ?_))
            rw [pv1]; simp
  unfold radix_Sqrt.f
  rcases hw with rfl | rfl
  · exact Ev.pos rfl main
  · exact Ev.neg (by decide) main
theorem awake07 : Ev (fun k => L07_awake.f k) true := Ev.of (fun k => L07_awake.mono k) (k := 80) (by decide +kernel)
noncomputable def sqm (w : Int) (m : Nat) : Nat := if m < (fmt w).inf then (fmt w).rsq ((fmt w).val m) else (fmt w).inf
theorem rsq_zero (w : Int) : (fmt w).rsq 0 = 0 := by
  have := Fmt.rsq_sq (fmt w) (x := 0) (by exact Rat.le_refl)
  rw [Rat.zero_mul] at this
  rw [this, Fmt.rnd_zero]
theorem sqP_mag (w : Int) (hw : w = 32 ∨ w = 64) (a : Nat) (h3 : (opn w a).2.1 ≠ 3) (hs : (opn w a).1 = false) : sqP w (opn w a) = sqm w (magN w a) ∧ magN w a ≤ (fmt w).inf := by
  have ip := (fmt w).inf_pos
  have z : ∀ n, mkN w n false = n := fun n => by simp [mkN]
  unfold sqP sqm
  rcases kinds w hw a with ⟨h0, hk⟩ | ⟨h1, h2, hk⟩ | ⟨h0, hk⟩ | ⟨_, hk⟩
  · rw [hk] at hs ⊢
    simp only at hs ⊢
    rw [if_pos trivial, h0, if_pos ip, (fmt w).val_zero, rsq_zero, hs, z]
    exact ⟨rfl, by omega⟩
  · rw [hk] at hs ⊢
    simp only at hs ⊢
    rw [if_neg (by decide), if_neg (by simp [hs]), if_neg (by decide), if_pos h2, pv1, hs]
    simp only [Bool.false_eq_true, if_false]
    rw [z]
    exact ⟨rfl, by omega⟩
  · rw [hk] at hs ⊢
    simp only at hs ⊢
    rw [if_neg (by decide), if_neg (by simp [hs]), if_pos trivial, h0, if_neg (Nat.lt_irrefl _), z]
    exact ⟨rfl, Nat.le_refl _⟩
  · rw [hk] at h3; exact absurd rfl h3
end Go.Proofs.Ytjjehbedpgdhgaa.Th
end
