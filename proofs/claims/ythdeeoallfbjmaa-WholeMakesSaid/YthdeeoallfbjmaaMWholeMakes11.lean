/- What the Go functions that the statement WholeMakes reaches compute, and the mathematics on it, in the order in which one leans on the other; for every input. -/
import Derived.Test.YthdeeoallfbjmaaVWholeMakes1
import Derived.Test.YthdeeoallfbjmaaMWholeMakes0
import Derived.Test.YthdeeoallfbjmaaMWholeMakes1
import Derived.Test.YthdeeoallfbjmaaMWholeMakes6
import Derived.Test.YthdeeoallfbjmaaMWholeMakes3
import Derived.Test.YthdeeoallfbjmaaMWholeMakes7
import Derived.Test.YthdeeoallfbjmaaMWholeMakes8
import Derived.Test.YthdeeoallfbjmaaMWholeMakes10
import Derived.Test.YthdeeoallfbjmaaMWholeMakes2
import Derived.Test.YthdeeoallfbjmaaMWholeMakes9
import Derived.Test.YthdeeoallfbjmaaMWholeMakes5
import Derived.Test.YthdeeoallfbjmaaMWholeMakes4
namespace Go.Proofs.Ythdeeoallfbjmaa.PA
open Go.RowKit Go.Proofs.YthdeeoallfbjmaaW.PrintWords Go.Proofs.YthdeeoallfbjmaaW.PrintLast Go.Proofs.YthdeeoallfbjmaaW.PrintMore
attribute [local go_sem] max2_int min2_int max_two min_two max_three min_three max_four min_four   -- for this text's walks alone
set_option linter.unusedVariables false
set_option linter.unusedSimpArgs false
set_option maxHeartbeats 8000000
set_option maxRecDepth 100000
def whole_IsWhole.j0 : Nat → Int → Int → Bool → Option (Bool)
 | 0, _, _, _ => none
 | k + 1, x0, x1, x11 => if x11 = true then (some false) else ((shape_Open.f k x0 x1).bind fun bt485 => (if bt485.2.1 = 0 then (some true) else (if bt485.2.1 = 1 then (if bt485.2.2.1 ≥ 0 then (some true) else ((whole_of.f bt485.1 bt485.2.1 bt485.2.2.1 bt485.2.2.2).bind fun bt490 => ((whole_cut_exact.f bt490.1 bt490.2.1 bt490.2.2.1 bt490.2.2.2).bind fun t494 => (some t494)))) else (some false))))
def whole_IsWhole.f (k : Nat) (a0 : Int) (a1 : Int) : Option (Bool) := if a0 = 32 then (whole_IsWhole.j0 k a0 a1 false) else (whole_IsWhole.j0 k a0 a1 (a0 != 64))
theorem whole_IsWhole.mono_l : ∀ k, (∀ y0 y1 y2, LeO (whole_IsWhole.j0 k y0 y1 y2) (whole_IsWhole.j0 (k + 1) y0 y1 y2))
 | 0 => fun _ _ _ r h => by simp [whole_IsWhole.j0] at h
 | k + 1 => by
  have ih0 := whole_IsWhole.mono_l k
  ·intro y0 y1 y2
   unfold whole_IsWhole.j0
   repeat' first
   | (with_reducible exact ih0 _ _ _)
   | (with_reducible exact shape_Open.mono _ _ _)
   | (with_reducible exact LeO.refl _)
   | (with_reducible exact LeO.none _)
   | (with_reducible refine LeO.ite ?_ ?_)
   | (with_reducible refine LeO.bind ?_ (fun _ => ?_))
   | exact ih0 _ _ _
   | exact shape_Open.mono _ _ _
   | exact LeO.none _
   | refine LeO.ite ?_ ?_
   | refine LeO.bind ?_ (fun _ => ?_)
theorem whole_IsWhole.mono : ∀ a0 a1 k, LeO (whole_IsWhole.f k a0 a1) (whole_IsWhole.f (k + 1) a0 a1) := by
 intro a0 a1 k
 have ih0 := whole_IsWhole.mono_l k
 unfold whole_IsWhole.f
 repeat' first
   | (with_reducible exact ih0 _ _ _)
   | (with_reducible exact shape_Open.mono _ _ _)
   | (with_reducible exact LeO.refl _)
   | (with_reducible exact LeO.none _)
   | (with_reducible refine LeO.ite ?_ ?_)
   | (with_reducible refine LeO.bind ?_ (fun _ => ?_))
   | exact ih0 _ _ _
   | exact shape_Open.mono _ _ _
   | exact LeO.none _
   | refine LeO.ite ?_ ?_
   | refine LeO.bind ?_ (fun _ => ?_)
theorem whole_IsWhole.calls (k : Nat) (a0 : Int) (a1 : Int) (r : Bool) (w : World) (h : whole_IsWhole.f k a0 a1 = some r) :
  Calls Try.prog 13 #[.int .i64 a0, .int .u64 a1] w fun e w' => e = .returned (.bool r) ∧ Below w.heap.size w w' := by
 have hu36 := Try.underlying36
 have HB := A_ (Below.refl w.heap.size w)
 have H : (if a0 = 32 then (whole_IsWhole.j0 k a0 a1 false) else (whole_IsWhole.j0 k a0 a1 (a0 != 64))) = some r := h
 clear h;have HC3 := A_ H;clear H
 go_enter Try.func13, Try.ntmps13
 go_upto_region 1 with (fail)
 go_cut [11] (fun v11 wc => ∃ (kq : Nat) (x11_2 : Bool), v11 = .bool x11_2 ∧ Aside0 (whole_IsWhole.j0 kq a0 a1 x11_2 = some r) ∧ Aside0 (kq ≤ k) ∧ Aside0 (Below w.heap.size w wc))
 case first =>
  have H := HC3.out
  clear HC3
  by_cases c4 : a0 = 32
  ·rw [if_pos c4] at H
   have c4b0 : (a0 == 32) = true := beq_iff_eq.mpr c4
   have c4b1 : (a0 != 32) = false := bne_eq_false_iff_eq.mpr c4
   clear c4
   (first | rw [c4b0] | (simp only [i64_w, i32_w]; rw [c4b0]) | skip)
   have H' := A_ H
   clear H
   go_wp2
   go_meet
   case rel => exact ⟨_, (false), sm_, H', ⟨by first | omega | exact Nat.le_refl _⟩, ⟨hb_ HB.out⟩⟩
  ·rw [if_neg c4] at H
   have c4b0 : (a0 == 32) = false := beq_eq_false_iff_ne.mpr c4
   have c4b1 : (a0 != 32) = true := bne_iff_ne.mpr c4
   (first | rw [c4b0] | (simp only [i64_w, i32_w]; rw [c4b0]) | skip)
   have H' := A_ H
   clear H
   go_wp2
   go_meet
   case rel => exact ⟨_, ((a0 != 64)), sm_, H', ⟨by first | omega | exact Nat.le_refl _⟩, ⟨hb_ HB.out⟩⟩
 case rest =>
  clear HC3
  try clear c1
  try clear p2
  try clear c4
  try clear c4b0
  try clear c4b1
  obtain ⟨kq, x11_2, rfl, HA, HJ2, HB⟩ := hcut
  cases kq with
  | zero => exact absurd HA.out (by simp [whole_IsWhole.j0])
  | succ kj2 =>
   have H := HA.out
   clear HA
   simp only [whole_IsWhole.j0] at H
   by_cases c5 : x11_2 = true
   ·subst c5
    have H1 : (some false) = some r := by rw [if_pos rfl] at H; exact H
    clear H;have H := H1;clear H1
    obtain rfl := Option.some.inj H
    go_wp2
    go_ret
    exact ⟨er_, hb_ HB.out⟩
   ·replace c5 := Bool.eq_false_iff.mpr c5
    subst c5
    have H1 : ((shape_Open.f kj2 a0 a1).bind fun bt485 => (if bt485.2.1 = 0 then (some true) else (if bt485.2.1 = 1 then (if bt485.2.2.1 ≥ 0 then (some true) else ((whole_of.f bt485.1 bt485.2.1 bt485.2.2.1 bt485.2.2.2).bind fun bt490 => ((whole_cut_exact.f bt490.1 bt490.2.1 bt490.2.2.1 bt490.2.2.2).bind fun t494 => (some t494)))) else (some false)))) = some r := by rw [if_neg (show ¬ (false = true) by decide)] at H; exact H
    clear H;have H := H1;clear H1
    replace H := ob_ H
    obtain ⟨⟨t485, t486, t487, t488⟩, A60, H⟩ := H
    replace H : (if t486 = 0 then (some true) else (if t486 = 1 then (if t487 ≥ 0 then (some true) else ((whole_of.f t485 t486 t487 t488).bind fun bt490 => ((whole_cut_exact.f bt490.1 bt490.2.1 bt490.2.2.1 bt490.2.2.2).bind fun t494 => (some t494)))) else (some false))) = some r := H
    have A6 := A_ A60;clear A60
    by_cases c7 : t486 = 0
    ·rw [if_pos c7] at H
     have c7b0 : (t486 == 0) = true := beq_iff_eq.mpr c7
     have c7b1 : (t486 != 0) = false := bne_eq_false_iff_eq.mpr c7
     clear c7
     obtain rfl := Option.some.inj H
     go_wp2_with (first | ((with_reducible refine gate_callee (f := 16) rfl ?_); refine gl_ (some 14) Try.func16 #[.int .i64 a0, .int .u64 a1] ?_; (with_reducible refine (shape_Open.calls kj2 a0 a1 t485 t486 t487 t488 _ A6.out).mono ?_); rintro e w8 ⟨rfl, hb⟩; refine ⟨_, rfl, ?_⟩; replace HB := A_ (below_step (hb_ HB.out) hb); (try clear hb); (try clear hb2); (try clear hk); (try clear hi)) | ((with_reducible refine gate_dst (N := 5) rfl ?_); refine be_ 5 #[.bool false, .int .i64 0, .int .i64 0, .int .u64 0] 36 ?_; intro gb489 hg w9 hbox hb; have BK489 := A_ (hbox); have GW489 := A_ (sz_ hg (hb_ HB.out)); have GE489 := A_ (sz_ hg (hb_ HB.out)); replace HB := A_ (below_step (hb_ HB.out) hb); clear hb hbox hg; have hcz10_0 := bv_ BK489.out 0; have hcz10_1 := bv_ BK489.out 1; have hcz10_2 := bv_ BK489.out 2; have hcz10_3 := bv_ BK489.out 3; have hfz10_0 := blk_frozen BK489.out 0; have hfz10_1 := blk_frozen BK489.out 1; have hfz10_2 := blk_frozen BK489.out 2; have hfz10_3 := blk_frozen BK489.out 3))
     go_ret
     exact ⟨er_, hb1_ HB.out GE489.out⟩
    ·rw [if_neg c7] at H
     have c7b0 : (t486 == 0) = false := beq_eq_false_iff_ne.mpr c7
     have c7b1 : (t486 != 0) = true := bne_iff_ne.mpr c7
     by_cases c11 : t486 = 1
     ·rw [if_pos c11] at H
      have c11b0 : (t486 == 1) = true := beq_iff_eq.mpr c11
      have c11b1 : (t486 != 1) = false := bne_eq_false_iff_eq.mpr c11
      clear c11
      by_cases c12 : t487 ≥ 0
      ·rw [if_pos c12] at H
       have c12b0 : decide (0 ≤ t487) = true := decide_eq_true c12
       clear c12
       obtain rfl := Option.some.inj H
       go_wp2_with (first | ((with_reducible refine gate_callee (f := 16) rfl ?_); refine gl_ (some 14) Try.func16 #[.int .i64 a0, .int .u64 a1] ?_; (with_reducible refine (shape_Open.calls kj2 a0 a1 t485 t486 t487 t488 _ A6.out).mono ?_); rintro e w13 ⟨rfl, hb⟩; refine ⟨_, rfl, ?_⟩; replace HB := A_ (below_step (hb_ HB.out) hb); (try clear hb); (try clear hb2); (try clear hk); (try clear hi)) | ((with_reducible refine gate_dst (N := 5) rfl ?_); refine be_ 5 #[.bool false, .int .i64 0, .int .i64 0, .int .u64 0] 36 ?_; intro gb489 hg w14 hbox hb; have BK489 := A_ (hbox); have GW489 := A_ (sz_ hg (hb_ HB.out)); have GE489 := A_ (sz_ hg (hb_ HB.out)); replace HB := A_ (below_step (hb_ HB.out) hb); clear hb hbox hg; have hcz15_0 := bv_ BK489.out 0; have hcz15_1 := bv_ BK489.out 1; have hcz15_2 := bv_ BK489.out 2; have hcz15_3 := bv_ BK489.out 3; have hfz15_0 := blk_frozen BK489.out 0; have hfz15_1 := blk_frozen BK489.out 1; have hfz15_2 := blk_frozen BK489.out 2; have hfz15_3 := blk_frozen BK489.out 3))
       go_ret
       exact ⟨er_, hb1_ HB.out GE489.out⟩
      ·rw [if_neg c12] at H
       have c12b0 : decide (0 ≤ t487) = false := decide_eq_false c12
       clear c12
       replace H := ob_ H
       obtain ⟨⟨t490, t491, t492, t493⟩, A160, H⟩ := H
       replace H : ((whole_cut_exact.f t490 t491 t492 t493).bind fun t494 => (some t494)) = some r := H
       have A16 := A_ A160;clear A160
       replace H := ob_ H
       obtain ⟨t494, A170, H⟩ := H
       replace H : (some t494) = some r := H
       have A17 := A_ A170;clear A170
       obtain rfl := Option.some.inj H
       go_wp2_with (first | ((with_reducible refine gate_callee (f := 16) rfl ?_); refine gl_ (some 14) Try.func16 #[.int .i64 a0, .int .u64 a1] ?_; (with_reducible refine (shape_Open.calls kj2 a0 a1 t485 t486 t487 t488 _ A6.out).mono ?_); rintro e w18 ⟨rfl, hb⟩; refine ⟨_, rfl, ?_⟩; replace HB := A_ (below_step (hb_ HB.out) hb); (try clear hb); (try clear hb2); (try clear hk); (try clear hi)) | ((with_reducible refine gate_dst (N := 5) rfl ?_); refine be_ 5 #[.bool false, .int .i64 0, .int .i64 0, .int .u64 0] 36 ?_; intro gb489 hg w19 hbox hb; have BK489 := A_ (hbox); have GW489 := A_ (sz_ hg (hb_ HB.out)); have GE489 := A_ (sz_ hg (hb_ HB.out)); replace HB := A_ (below_step (hb_ HB.out) hb); clear hb hbox hg; have hcz20_0 := bv_ BK489.out 0; have hcz20_1 := bv_ BK489.out 1; have hcz20_2 := bv_ BK489.out 2; have hcz20_3 := bv_ BK489.out 3; have hfz20_0 := blk_frozen BK489.out 0; have hfz20_1 := blk_frozen BK489.out 1; have hfz20_2 := blk_frozen BK489.out 2; have hfz20_3 := blk_frozen BK489.out 3) | (go_at_call 36; (with_reducible refine (whole_of.calls t485 t486 t487 t488 t490 t491 t492 t493 _ A16.out).mono ?_); rintro e w21 ⟨rfl, hb⟩; replace BK489 := A_ (blk_below (g := gb489) (o := .cells #[.bool t485, .int .i64 t486, .int .i64 t487, .int .u64 t488] 36 (0, 0)) (by (with_reducible repeat (first | refine blk_drewN ?_ _ | refine blk_drew ?_ | refine blk_alloc ?_ _)); refine blk_put (cs := #[.bool t485, .int .i64 t486, .int .i64 t487, .int .u64 0]) ?_ 3 _ rfl; (with_reducible repeat (first | refine blk_drewN ?_ _ | refine blk_drew ?_ | refine blk_alloc ?_ _)); refine blk_put (cs := #[.bool t485, .int .i64 t486, .int .i64 0, .int .u64 0]) ?_ 2 _ rfl; (with_reducible repeat (first | refine blk_drewN ?_ _ | refine blk_drew ?_ | refine blk_alloc ?_ _)); refine blk_put (cs := #[.bool t485, .int .i64 0, .int .i64 0, .int .u64 0]) ?_ 1 _ rfl; (with_reducible repeat (first | refine blk_drewN ?_ _ | refine blk_drew ?_ | refine blk_alloc ?_ _)); refine blk_put (cs := #[.bool false, .int .i64 0, .int .i64 0, .int .u64 0]) ?_ 0 _ rfl; (with_reducible repeat (first | refine blk_drewN ?_ _ | refine blk_drew ?_ | refine blk_alloc ?_ _)); exact BK489.out) hb); replace HB := A_ (below_step (hb1_ HB.out GE489.out) hb); (try clear hb); (try clear hb2); (try clear hk); (try clear hi)) | (go_at_call 37; (with_reducible refine (whole_cut_exact.calls t490 t491 t492 t493 t494 _ A17.out).mono ?_); rintro e w22 ⟨rfl, hb⟩; replace BK489 := A_ (bb_ BK489.out hb); replace HB := A_ (below_step (hb1_ HB.out GE489.out) hb); (try clear hb); (try clear hb2); (try clear hk); (try clear hi)))
       go_ret
       exact ⟨er_, hb1_ HB.out GE489.out⟩
     ·rw [if_neg c11] at H
      have c11b0 : (t486 == 1) = false := beq_eq_false_iff_ne.mpr c11
      have c11b1 : (t486 != 1) = true := bne_iff_ne.mpr c11
      obtain rfl := Option.some.inj H
      go_wp2_with (first | ((with_reducible refine gate_callee (f := 16) rfl ?_); refine gl_ (some 14) Try.func16 #[.int .i64 a0, .int .u64 a1] ?_; (with_reducible refine (shape_Open.calls kj2 a0 a1 t485 t486 t487 t488 _ A6.out).mono ?_); rintro e w23 ⟨rfl, hb⟩; refine ⟨_, rfl, ?_⟩; replace HB := A_ (below_step (hb_ HB.out) hb); (try clear hb); (try clear hb2); (try clear hk); (try clear hi)) | ((with_reducible refine gate_dst (N := 5) rfl ?_); refine be_ 5 #[.bool false, .int .i64 0, .int .i64 0, .int .u64 0] 36 ?_; intro gb489 hg w24 hbox hb; have BK489 := A_ (hbox); have GW489 := A_ (sz_ hg (hb_ HB.out)); have GE489 := A_ (sz_ hg (hb_ HB.out)); replace HB := A_ (below_step (hb_ HB.out) hb); clear hb hbox hg; have hcz25_0 := bv_ BK489.out 0; have hcz25_1 := bv_ BK489.out 1; have hcz25_2 := bv_ BK489.out 2; have hcz25_3 := bv_ BK489.out 3; have hfz25_0 := blk_frozen BK489.out 0; have hfz25_1 := blk_frozen BK489.out 1; have hfz25_2 := blk_frozen BK489.out 2; have hfz25_3 := blk_frozen BK489.out 3))
      go_ret
      exact ⟨er_, hb1_ HB.out GE489.out⟩
-- IMPORT Derived.Test.YthdeeoallfbjmaaHMade
def whole_Trunc.aw : Bool → Int → Bool → Bool → Bool := fun _ _ _ _ => false
def whole_Trunc.f (k : Nat) (a0 : Int) (a1 : Int) : Option (Int) := whole_madeF k whole_Trunc.aw a0 a1
theorem whole_Trunc.mono : ∀ a0 a1 k, LeO (whole_Trunc.f k a0 a1) (whole_Trunc.f (k + 1) a0 a1) := fun a0 a1 k => whole_madeMono _ a0 a1 k
theorem whole_Trunc.away (s : Bool) (n : Int) (h l : Bool) (w : World) : Calls Try.prog 28 #[.agg #[.bool s, .int .u64 n, .bool h, .bool l]] w fun e w' => e = .returned (.bool (whole_Trunc.aw s n h l)) ∧ Below w.heap.size w w' := by
 have hu2 := Try.underlying47
 go_enter Try.func28, Try.ntmps28
 go_wp2
 all_goals (go_ret; first | exact ⟨rfl, Below.refl _ _⟩ | exact ⟨rfl, below_alloc (Below.refl _ _) _⟩ | (refine ⟨by simp [whole_Trunc.aw, *], ?_⟩; first | exact Below.refl _ _ | exact below_alloc (Below.refl _ _) _))
theorem whole_Trunc.calls (k : Nat) (a0 : Int) (a1 : Int) (r : Int) (w : World) (h : whole_Trunc.f k a0 a1 = some r) :
  Calls Try.prog 9 #[.int .i64 a0, .int .u64 a1] w fun e w' => e = .returned (.int .u64 r) ∧ Below w.heap.size w w' := by
 have H := whole_madeCalls k 28 whole_Trunc.aw (fun args w => enters_of Try.func28 (by kernel_rfl) rfl args w) whole_Trunc.away a0 a1 r w h
 go_enter Try.func9, Try.ntmps9
 go_wp2_with (go_at_call 25; refine H.mono ?_; rintro e w1 ⟨rfl, hb⟩)
 go_ret
 exact ⟨rfl, hb⟩
def L09_WholeMakes.l0 : Nat → Int → Int → Bool → List Int → Int → Int → Option (Bool)
 | 0, _, _, _, _, _, _ => none
 | k + 1, x0, x1, x6, x28, x29, x30 => if x30 < x29 then (if 0 ≤ x30 then (if x30 < (x28.length : Int) then (if x6 = true then ((r9_Make.f k x0 x1 (wrap64 (x30 + 1))).bind fun t505 => (if (rd x28 x30) = t505 then (L09_WholeMakes.l0 k x0 x1 x6 x28 x29 (wrap64 (x30 + 1))) else (some false))) else (if (rd x28 x30) = 0 then (L09_WholeMakes.l0 k x0 x1 x6 x28 x29 (wrap64 (x30 + 1))) else (some false))) else (none)) else (none)) else (if x6 = true then ((r2_Open.f k x0 x1).bind fun bt507 => (if bt507.2.1 = 1 then ((r9_Down.f k bt507.1 bt507.2.1 bt507.2.2.1 bt507.2.2.2).bind fun bt512 => ((whole_IsWhole.f k x0 x1).bind fun t517 => (if bt507.2.1 < 2 then (some (t517 == (!bt512.2.2))) else (some (t517 == false))))) else ((whole_IsWhole.f k x0 x1).bind fun t518 => (if bt507.2.1 < 2 then (some (t518 == (!false))) else (some (t518 == false)))))) else ((whole_IsWhole.f k x0 x1).bind fun t506 => (some (!t506))))
def L09_WholeMakes.f (k : Nat) (a0 : Int) (a1 : Int) : Option (Bool) := (L09_awake.f k).bind fun t495 => (if t495 = true then ((whole_Ceil.f k a0 a1).bind fun t496 => ((whole_Floor.f k a0 a1).bind fun t497 => ((whole_Trunc.f k a0 a1).bind fun t498 => ((whole_Nearest.f k a0 a1).bind fun t499 => ((some (([t496, t497, t498, t499] : List Int) : List Int)).bind fun y500 => ((r2_Known.f a0).bind fun t503 => (L09_WholeMakes.l0 k a0 a1 t503 y500 (y500.length : Int) 0))))))) else (some false))
theorem L09_WholeMakes.mono_l : ∀ k, (∀ y0 y1 y2 y3 y4 y5, LeO (L09_WholeMakes.l0 k y0 y1 y2 y3 y4 y5) (L09_WholeMakes.l0 (k + 1) y0 y1 y2 y3 y4 y5))
 | 0 => fun _ _ _ _ _ _ r h => by simp [L09_WholeMakes.l0] at h
 | k + 1 => by
  have ih0 := L09_WholeMakes.mono_l k
  ·intro y0 y1 y2 y3 y4 y5
   unfold L09_WholeMakes.l0
   repeat' first
   | (with_reducible exact ih0 _ _ _ _ _ _)
   | (with_reducible exact L09_awake.mono _)
   | (with_reducible exact r2_Open.mono _ _ _)
   | (with_reducible exact r9_Down.mono _ _ _ _ _)
   | (with_reducible exact r9_Make.mono _ _ _ _)
   | (with_reducible exact whole_Ceil.mono _ _ _)
   | (with_reducible exact whole_Floor.mono _ _ _)
   | (with_reducible exact whole_IsWhole.mono _ _ _)
   | (with_reducible exact whole_Nearest.mono _ _ _)
   | (with_reducible exact whole_Trunc.mono _ _ _)
   | (with_reducible exact LeO.refl _)
   | (with_reducible exact LeO.none _)
   | (with_reducible refine LeO.ite ?_ ?_)
   | (with_reducible refine LeO.bind ?_ (fun _ => ?_))
   | exact ih0 _ _ _ _ _ _
   | exact L09_awake.mono _
   | exact r2_Open.mono _ _ _
   | exact r9_Down.mono _ _ _ _ _
   | exact r9_Make.mono _ _ _ _
   | exact whole_Ceil.mono _ _ _
   | exact whole_Floor.mono _ _ _
   | exact whole_IsWhole.mono _ _ _
   | exact whole_Nearest.mono _ _ _
   | exact whole_Trunc.mono _ _ _
   | exact LeO.none _
   | refine LeO.ite ?_ ?_
   | refine LeO.bind ?_ (fun _ => ?_)
theorem L09_WholeMakes.mono : ∀ a0 a1 k, LeO (L09_WholeMakes.f k a0 a1) (L09_WholeMakes.f (k + 1) a0 a1) := by
 intro a0 a1 k
 have ih0 := L09_WholeMakes.mono_l k
 unfold L09_WholeMakes.f
 repeat' first
   | (with_reducible exact ih0 _ _ _ _ _ _)
   | (with_reducible exact L09_awake.mono _)
   | (with_reducible exact r2_Open.mono _ _ _)
   | (with_reducible exact r9_Down.mono _ _ _ _ _)
   | (with_reducible exact r9_Make.mono _ _ _ _)
   | (with_reducible exact whole_Ceil.mono _ _ _)
   | (with_reducible exact whole_Floor.mono _ _ _)
   | (with_reducible exact whole_IsWhole.mono _ _ _)
   | (with_reducible exact whole_Nearest.mono _ _ _)
   | (with_reducible exact whole_Trunc.mono _ _ _)
   | (with_reducible exact LeO.refl _)
   | (with_reducible exact LeO.none _)
   | (with_reducible refine LeO.ite ?_ ?_)
   | (with_reducible refine LeO.bind ?_ (fun _ => ?_))
   | exact ih0 _ _ _ _ _ _
   | exact L09_awake.mono _
   | exact r2_Open.mono _ _ _
   | exact r9_Down.mono _ _ _ _ _
   | exact r9_Make.mono _ _ _ _
   | exact whole_Ceil.mono _ _ _
   | exact whole_Floor.mono _ _ _
   | exact whole_IsWhole.mono _ _ _
   | exact whole_Nearest.mono _ _ _
   | exact whole_Trunc.mono _ _ _
   | exact LeO.none _
   | refine LeO.ite ?_ ?_
   | refine LeO.bind ?_ (fun _ => ?_)
def L09_WholeMakes.T17 : Bool × List (List Nat × List Nat) := (true, [([], []), ([], []), ([0, 1], [0, 1]), ([], []), ([3], [3]), ([4], [4]), ([5, 2], [5]), ([6], [6]), ([7, 6], [6, 7]), ([6, 8], [6, 8]), ([2, 9], [2, 9]), ([10, 6, 0, 1, 2, 3, 4, 5, 6, 7, 8, 9, 10], [10])])
def L09_WholeMakes.B17 : List Nat := [0, 0, 3, 0, 8, 24, 63, 127, 255, 511, 1023, 2047]
theorem L09_WholeMakes.tab17 : rtab .any (opsOf Try.f3 17) = L09_WholeMakes.T17 := by kernel_rfl
theorem L09_WholeMakes.bits17 : waitsOk L09_WholeMakes.T17.2 L09_WholeMakes.B17 = true := by kernel_rfl
theorem L09_WholeMakes.calls (k : Nat) (a0 : Int) (a1 : Int) (r : Bool) (w : World) (h : L09_WholeMakes.f k a0 a1 = some r) (hr_ : Aside0 (r = true)) :
  Calls Try.prog 3 #[.int .i64 a0, .int .u64 a1] w fun e w' => e = .returned (.bool r) ∧ Below w.heap.size w w' := by
 have hu30 := Try.underlying30
 have HB := A_ (Below.refl w.heap.size w)
 have H : ((L09_awake.f k).bind fun t495 => (if t495 = true then ((whole_Ceil.f k a0 a1).bind fun t496 => ((whole_Floor.f k a0 a1).bind fun t497 => ((whole_Trunc.f k a0 a1).bind fun t498 => ((whole_Nearest.f k a0 a1).bind fun t499 => ((some (([t496, t497, t498, t499] : List Int) : List Int)).bind fun y500 => ((r2_Known.f a0).bind fun t503 => (L09_WholeMakes.l0 k a0 a1 t503 y500 (y500.length : Int) 0))))))) else (some false))) = some r := h
 clear h
 replace H := ob_ H
 obtain ⟨t495, A30, H⟩ := H
 replace H : (if t495 = true then ((whole_Ceil.f k a0 a1).bind fun t496 => ((whole_Floor.f k a0 a1).bind fun t497 => ((whole_Trunc.f k a0 a1).bind fun t498 => ((whole_Nearest.f k a0 a1).bind fun t499 => ((some (([t496, t497, t498, t499] : List Int) : List Int)).bind fun y500 => ((r2_Known.f a0).bind fun t503 => (L09_WholeMakes.l0 k a0 a1 t503 y500 (y500.length : Int) 0))))))) else (some false)) = some r := H
 have A3 := A_ A30;clear A30
 by_cases c4 : t495 = true
 ·subst c4
  have H1 : ((whole_Ceil.f k a0 a1).bind fun t496 => ((whole_Floor.f k a0 a1).bind fun t497 => ((whole_Trunc.f k a0 a1).bind fun t498 => ((whole_Nearest.f k a0 a1).bind fun t499 => ((some (([t496, t497, t498, t499] : List Int) : List Int)).bind fun y500 => ((r2_Known.f a0).bind fun t503 => (L09_WholeMakes.l0 k a0 a1 t503 y500 (y500.length : Int) 0))))))) = some r := by rw [if_pos rfl] at H; exact H
  clear H;have H := H1;clear H1
  replace H := ob_ H
  obtain ⟨t496, A50, H⟩ := H
  replace H : ((whole_Floor.f k a0 a1).bind fun t497 => ((whole_Trunc.f k a0 a1).bind fun t498 => ((whole_Nearest.f k a0 a1).bind fun t499 => ((some (([t496, t497, t498, t499] : List Int) : List Int)).bind fun y500 => ((r2_Known.f a0).bind fun t503 => (L09_WholeMakes.l0 k a0 a1 t503 y500 (y500.length : Int) 0)))))) = some r := H
  have A5 := A_ A50;clear A50
  replace H := ob_ H
  obtain ⟨t497, A60, H⟩ := H
  replace H : ((whole_Trunc.f k a0 a1).bind fun t498 => ((whole_Nearest.f k a0 a1).bind fun t499 => ((some (([t496, t497, t498, t499] : List Int) : List Int)).bind fun y500 => ((r2_Known.f a0).bind fun t503 => (L09_WholeMakes.l0 k a0 a1 t503 y500 (y500.length : Int) 0))))) = some r := H
  have A6 := A_ A60;clear A60
  replace H := ob_ H
  obtain ⟨t498, A70, H⟩ := H
  replace H : ((whole_Nearest.f k a0 a1).bind fun t499 => ((some (([t496, t497, t498, t499] : List Int) : List Int)).bind fun y500 => ((r2_Known.f a0).bind fun t503 => (L09_WholeMakes.l0 k a0 a1 t503 y500 (y500.length : Int) 0)))) = some r := H
  have A7 := A_ A70;clear A70
  replace H := ob_ H
  obtain ⟨t499, A80, H⟩ := H
  replace H : ((some (([t496, t497, t498, t499] : List Int) : List Int)).bind fun y500 => ((r2_Known.f a0).bind fun t503 => (L09_WholeMakes.l0 k a0 a1 t503 y500 (y500.length : Int) 0))) = some r := H
  have A8 := A_ A80;clear A80
  obtain ⟨y500, hy500⟩ : ∃ y_ : List Int, y_ = (([t496, t497, t498, t499] : List Int)) := ⟨_, rfl⟩
  replace H : ((r2_Known.f a0).bind fun t503 => (L09_WholeMakes.l0 k a0 a1 t503 y500 (y500.length : Int) 0)) = some r := by first | (rw [hy500]; with_reducible exact H) | (have H2_ := (Option.bind_some _ _).symm.trans H; rw [hy500]; with_reducible exact H2_) | (have H2_ := (Option.bind_some _ _).symm.trans H; with_reducible exact H2_) | with_reducible exact H | (rw [hy500]; exact H) | exact H
  have Ny500 := A_ hy500;clear hy500
  replace H := ob_ H
  obtain ⟨t503, A90, H⟩ := H
  replace H : (L09_WholeMakes.l0 k a0 a1 t503 y500 (y500.length : Int) 0) = some r := H
  have A9 := A_ A90;clear A90
  have H' := A_ H
  clear H
  go_enter Try.func3, Try.ntmps3
  go_wp2_with (first | ((with_reducible refine gate_callee (f := 6) rfl ?_); refine gl_ (some 11) Try.func6 #[] ?_; (with_reducible refine (L09_awake.calls k  true _ A3.out).mono ?_); rintro e w10 ⟨rfl, hb⟩; refine ⟨_, rfl, ?_⟩; replace HB := A_ (below_step (hb_ HB.out) hb); (try clear hb); (try clear hb2); (try clear hk); (try clear hi)) | ((with_reducible refine gate_callee (f := 7) rfl ?_); refine gl_ (some 15) Try.func7 #[.int .i64 a0, .int .u64 a1] ?_; (with_reducible refine (whole_Ceil.calls k a0 a1 t496 _ A5.out).mono ?_); rintro e w11 ⟨rfl, hb⟩; refine ⟨_, rfl, ?_⟩; replace HB := A_ (below_step (hb_ HB.out) hb); (try clear hb); (try clear hb2); (try clear hk); (try clear hi)) | ((with_reducible refine gate_callee (f := 8) rfl ?_); refine gl_ (some 18) Try.func8 #[.int .i64 a0, .int .u64 a1] ?_; (with_reducible refine (whole_Floor.calls k a0 a1 t497 _ A6.out).mono ?_); rintro e w12 ⟨rfl, hb⟩; refine ⟨_, rfl, ?_⟩; replace HB := A_ (below_step (hb_ HB.out) hb); (try clear hb); (try clear hb2); (try clear hk); (try clear hi)) | ((with_reducible refine gate_callee (f := 9) rfl ?_); refine gl_ (some 21) Try.func9 #[.int .i64 a0, .int .u64 a1] ?_; (with_reducible refine (whole_Trunc.calls k a0 a1 t498 _ A7.out).mono ?_); rintro e w13 ⟨rfl, hb⟩; refine ⟨_, rfl, ?_⟩; replace HB := A_ (below_step (hb_ HB.out) hb); (try clear hb); (try clear hb2); (try clear hk); (try clear hi)) | ((with_reducible refine gate_callee (f := 10) rfl ?_); refine gl_ (some 24) Try.func10 #[.int .i64 a0, .int .u64 a1] ?_; (with_reducible refine (whole_Nearest.calls k a0 a1 t499 _ A8.out).mono ?_); rintro e w14 ⟨rfl, hb⟩; refine ⟨_, rfl, ?_⟩; replace HB := A_ (below_step (hb_ HB.out) hb); (try clear hb); (try clear hb2); (try clear hk); (try clear hi)) | ((with_reducible refine gate_dst (N := 25) rfl ?_); refine Kd.R_lit (Kd.int .u64) _ 22 ?hg (N := 25) ?hd (xs := ([t496, t497, t498, t499] : List Int)) (inner := [.int .u64 t496, .int .u64 t497, .int .u64 t498, .int .u64 t499]) (ok := fun _ => True) (okp := fun _ => True) ?hr ?hp (fun _ hk => hk) trivial (Below.refl _ _) (Nat.le_refl _) (by simp) ?_; (case hd => rfl); (case hg => rfl); (case hr => first | (go_simp; done) | (go_simp; rfl)); (case hp => exact (Reps.one (show Kd.M (Kd.int .u64) _ _ _ t496 [.int .u64 t496] from rfl) (Reps.one (show Kd.M (Kd.int .u64) _ _ _ t497 [.int .u64 t497] from rfl) (Reps.one (show Kd.M (Kd.int .u64) _ _ _ t498 [.int .u64 t498] from rfl) (Reps.one (show Kd.M (Kd.int .u64) _ _ _ t499 [.int .u64 t499] from rfl) (Reps.none _ _)))))); intro v501 w15 ho16 hb hg_ hnew_; clear hg_ hnew_; (first | rw [← Ny500.out] at ho16 | (simp only [Int.reduceToNat] at ho16; rw [← Ny500.out] at ho16)); have HO502 := A_ (Kd.R_lower ho16 (below_size (hb_ HB.out))); replace HB := A_ (below_step (hb_ HB.out) hb); clear hb ho16) | ((with_reducible refine gate_callee (f := 11) rfl ?_); refine gl_ (some 27) Try.func11 #[.int .i64 a0] ?_; (with_reducible refine (r2_Known.calls a0 t503 _ A9.out).mono ?_); rintro e w' ⟨rfl, ⟨nd, rfl⟩⟩; refine ⟨_, rfl, ?_⟩; obtain ⟨Ao17, co17, eo17⟩ := Kd.R_slice HO502.out; subst eo17))
  go_loopg [30] k (fun kq v30 w' => ∃ (x30_1 : Int), v30 = .int .i64 x30_1 ∧ Aside0 (L09_WholeMakes.l0 kq a0 a1 t503 y500 (y500.length : Int) x30_1 = some r) ∧ Aside0 (kq ≤ k) ∧ Aside0 (Kd.R (Kd.int .u64) 22 w' w.heap.size (fun _ => True) (.slice Ao17 y500.length co17) y500) ∧ Aside0 (Below w.heap.size w w'))
  case atStart => exact ⟨(0), sm_, H', ⟨Nat.le_refl _⟩, ⟨by (with_reducible repeat (first | apply Kd.R_alloc | apply Kd.R_drewN | apply Kd.R_drew)); exact HO502.out⟩, ⟨hb_ HB.out⟩⟩
  case round =>
   clear H'
   try clear c1
   try clear p2
   try clear c3
   try clear c4
   try clear c6
   try clear c7
   try clear c8
   try clear c9
   try clear c10
   try clear c11
   obtain ⟨x30_1, rfl, HA, HK1, HO_28, HB⟩ := hrel
   cases gk with
   | zero => exact absurd HA.out (by simp [L09_WholeMakes.l0])
   | succ k1 =>
    have H := HA.out
    clear HA
    simp only [L09_WholeMakes.l0] at H
    by_cases c18 : x30_1 < (y500.length : Int)
    ·rw [if_pos c18] at H
     have c18b0 : decide (x30_1 < (y500.length : Int)) = true := decide_eq_true c18
     clear c18
     by_cases c19 : 0 ≤ x30_1
     ·rw [if_pos c19] at H
      have c19b0 : decide (0 ≤ x30_1) = true := decide_eq_true c19
      clear c19
      by_cases c20 : x30_1 < (y500.length : Int)
      ·rw [if_pos c20] at H
       have c20b0 : decide (x30_1 < (y500.length : Int)) = true := decide_eq_true c20
       clear c20
       by_cases c21 : t503 = true
       ·subst c21
        have H1 : ((r9_Make.f k1 a0 a1 (wrap64 (x30_1 + 1))).bind fun t505 => (if (rd y500 x30_1) = t505 then (L09_WholeMakes.l0 k1 a0 a1 true y500 (y500.length : Int) (wrap64 (x30_1 + 1))) else (some false))) = some r := by rw [if_pos rfl] at H; exact H
        clear H;have H := H1;clear H1
        replace H := ob_ H
        obtain ⟨t505, A220, H⟩ := H
        replace H : (if (rd y500 x30_1) = t505 then (L09_WholeMakes.l0 k1 a0 a1 true y500 (y500.length : Int) (wrap64 (x30_1 + 1))) else (some false)) = some r := H
        have A22 := A_ A220;clear A220
        by_cases c23 : (rd y500 x30_1) = t505
        ·rw [if_pos c23] at H
         have c23b0 : ((rd y500 x30_1) == t505) = true := beq_iff_eq.mpr c23
         have c23b1 : ((rd y500 x30_1) != t505) = false := bne_eq_false_iff_eq.mpr c23
         clear c23
         have H' := A_ H
         clear H
         have p504 : 0 ≤ (x30_1 : Int) := of_decide_eq_true (by first | (with_reducible assumption) | assumption)
         have q504 : x30_1 < (y500.length : Int) := of_decide_eq_true (by first | (with_reducible assumption) | assumption)
         obtain ⟨ad504, e504, hx504_0⟩ := Kd.at_int (Kd.R_reads' HO_28.out).2.2 x30_1 p504 q504
         cases e504
         replace p504 := eq_true p504
         replace q504 := eq_true q504
         go_wp2_with (first | (go_at_call 12; (with_reducible refine (r9_Make.calls k1 a0 a1 (wrap64 (x30_1 + 1)) t505 _ A22.out).mono ?_); rintro e w24 ⟨rfl, hb⟩; replace HO_28 := A_ (Kd.R_below (kr_ HO_28.out) hb); replace HB := A_ (below_step (hb_ HB.out) hb); (try clear hb); (try clear hb2); (try clear hk); (try clear hi)))
         go_roundg k1
         case measure => have := HK1.out; omega
         case rel => exact ⟨(wrap64 (x30_1 + 1)), sm_, H', ⟨by have := HK1.out; omega⟩, ⟨by (with_reducible repeat (first | apply Kd.R_alloc | apply Kd.R_drewN | apply Kd.R_drew)); exact HO_28.out⟩, ⟨hb_ HB.out⟩⟩
        ·rw [if_neg c23] at H
         have c23b0 : ((rd y500 x30_1) == t505) = false := beq_eq_false_iff_ne.mpr c23
         have c23b1 : ((rd y500 x30_1) != t505) = true := bne_iff_ne.mpr c23
         exact absurd ((Option.some.inj H).trans hr_.out) (by decide)
       ·replace c21 := Bool.eq_false_iff.mpr c21
        subst c21
        have H1 : (if (rd y500 x30_1) = 0 then (L09_WholeMakes.l0 k1 a0 a1 false y500 (y500.length : Int) (wrap64 (x30_1 + 1))) else (some false)) = some r := by rw [if_neg (show ¬ (false = true) by decide)] at H; exact H
        clear H;have H := H1;clear H1
        by_cases c25 : (rd y500 x30_1) = 0
        ·rw [if_pos c25] at H
         have c25b0 : ((rd y500 x30_1) == 0) = true := beq_iff_eq.mpr c25
         have c25b1 : ((rd y500 x30_1) != 0) = false := bne_eq_false_iff_eq.mpr c25
         clear c25
         have H' := A_ H
         clear H
         have p504 : 0 ≤ (x30_1 : Int) := of_decide_eq_true (by first | (with_reducible assumption) | assumption)
         have q504 : x30_1 < (y500.length : Int) := of_decide_eq_true (by first | (with_reducible assumption) | assumption)
         obtain ⟨ad504, e504, hx504_0⟩ := Kd.at_int (Kd.R_reads' HO_28.out).2.2 x30_1 p504 q504
         cases e504
         replace p504 := eq_true p504
         replace q504 := eq_true q504
         go_wp2
         go_roundg k1
         case measure => have := HK1.out; omega
         case rel => exact ⟨(wrap64 (x30_1 + 1)), sm_, H', ⟨by have := HK1.out; omega⟩, ⟨by (with_reducible repeat (first | apply Kd.R_alloc | apply Kd.R_drewN | apply Kd.R_drew)); exact HO_28.out⟩, ⟨hb_ HB.out⟩⟩
        ·rw [if_neg c25] at H
         have c25b0 : ((rd y500 x30_1) == 0) = false := beq_eq_false_iff_ne.mpr c25
         have c25b1 : ((rd y500 x30_1) != 0) = true := bne_iff_ne.mpr c25
         exact absurd ((Option.some.inj H).trans hr_.out) (by decide)
      ·rw [if_neg c20] at H
       exact absurd H (by simp)
     ·rw [if_neg c19] at H
      exact absurd H (by simp)
    ·rw [if_neg c18] at H
     have c18b0 : decide (x30_1 < (y500.length : Int)) = false := decide_eq_false c18
     clear c18
     by_cases c26 : t503 = true
     ·subst c26
      have H1 : ((r2_Open.f k1 a0 a1).bind fun bt507 => (if bt507.2.1 = 1 then ((r9_Down.f k1 bt507.1 bt507.2.1 bt507.2.2.1 bt507.2.2.2).bind fun bt512 => ((whole_IsWhole.f k1 a0 a1).bind fun t517 => (if bt507.2.1 < 2 then (some (t517 == (!bt512.2.2))) else (some (t517 == false))))) else ((whole_IsWhole.f k1 a0 a1).bind fun t518 => (if bt507.2.1 < 2 then (some (t518 == (!false))) else (some (t518 == false)))))) = some r := by rw [if_pos rfl] at H; exact H
      clear H;have H := H1;clear H1
      replace H := ob_ H
      obtain ⟨⟨t507, t508, t509, t510⟩, A270, H⟩ := H
      replace H : (if t508 = 1 then ((r9_Down.f k1 t507 t508 t509 t510).bind fun bt512 => ((whole_IsWhole.f k1 a0 a1).bind fun t517 => (if t508 < 2 then (some (t517 == (!bt512.2.2))) else (some (t517 == false))))) else ((whole_IsWhole.f k1 a0 a1).bind fun t518 => (if t508 < 2 then (some (t518 == (!false))) else (some (t518 == false))))) = some r := H
      have A27 := A_ A270;clear A270
      by_cases c28 : t508 = 1
      ·rw [if_pos c28] at H
       have c28b0 : (t508 == 1) = true := beq_iff_eq.mpr c28
       have c28b1 : (t508 != 1) = false := bne_eq_false_iff_eq.mpr c28
       clear c28
       replace H := ob_ H
       obtain ⟨⟨t512, t515, t516⟩, A290, H⟩ := H
       replace H : ((whole_IsWhole.f k1 a0 a1).bind fun t517 => (if t508 < 2 then (some (t517 == (!t516))) else (some (t517 == false)))) = some r := H
       have A29 := A_ A290;clear A290
       replace H := ob_ H
       obtain ⟨t517, A300, H⟩ := H
       replace H : (if t508 < 2 then (some (t517 == (!t516))) else (some (t517 == false))) = some r := H
       have A30 := A_ A300;clear A300
       by_cases c31 : t508 < 2
       ·rw [if_pos c31] at H
        have c31b0 : decide (t508 < 2) = true := decide_eq_true c31
        clear c31
        obtain rfl := Option.some.inj H
        try go_wp2_with (first | ((with_reducible refine gate_callee (f := 14) rfl ?_); refine gl_ (some 62) Try.func14 #[.int .i64 a0, .int .u64 a1] ?_; (with_reducible refine (r2_Open.calls k1 a0 a1 t507 t508 t509 t510 _ A27.out).mono ?_); rintro e w32 ⟨rfl, hb⟩; refine ⟨_, rfl, ?_⟩; replace HO_28 := A_ (Kd.R_below (kr_ HO_28.out) hb); replace HB := A_ (below_step (hb_ HB.out) hb); (try clear hb); (try clear hb2); (try clear hk); (try clear hi)) | ((with_reducible refine gate_dst (N := 9) rfl ?_); refine be_ 9 #[.bool false, .int .i64 0, .int .i64 0, .int .u64 0] 30 ?_; intro gb511 hg w33 hbox hb; have BK511 := A_ (hbox); have GW511 := A_ (sz_ hg (hb_ HB.out)); have GE511 := A_ (sz_ hg (hb_ HB.out)); replace HO_28 := A_ (Kd.R_below (kr_ HO_28.out) hb); replace HB := A_ (below_step (hb_ HB.out) hb); clear hb hbox hg; have hcz34_0 := bv_ BK511.out 0; have hcz34_1 := bv_ BK511.out 1; have hcz34_2 := bv_ BK511.out 2; have hcz34_3 := bv_ BK511.out 3; have hfz34_0 := blk_frozen BK511.out 0; have hfz34_1 := blk_frozen BK511.out 1; have hfz34_2 := blk_frozen BK511.out 2; have hfz34_3 := blk_frozen BK511.out 3) | ((with_reducible refine gate_callee (f := 15) rfl ?_); refine gl_ (some 68) Try.func15 #[.agg #[.bool t507, .int .i64 t508, .int .i64 t509, .int .u64 t510]] ?_; (with_reducible refine (r9_Down.calls k1 t507 t508 t509 t510 t512 t515 t516 _ A29.out).mono ?_); rintro e w35 ⟨v513, rfl, ho0, hb⟩; refine ⟨_, rfl, ?_⟩; have HO514 := A_ (Kd.R_lower (Kd.R_new' ho0 (Kd.R_lt (by (with_reducible repeat (first | apply Kd.R_alloc | apply Kd.R_drewN | apply Kd.R_drew)); exact (Kd.R_mono (Kd.R_far (p := ⟨gb511, 3, none⟩) (Kd.R_far (p := ⟨gb511, 2, none⟩) (Kd.R_far (p := ⟨gb511, 1, none⟩) (Kd.R_far (p := ⟨gb511, 0, none⟩) (Kd.R_types HO_28.out BK511.out (by decide)) (fun _ hk => hk.2) (.bool t507)) (fun _ hk => hk.2) (.int .i64 t508)) (fun _ hk => hk.2) (.int .i64 t509)) (fun _ hk => hk.2) (.int .u64 t510)) (fun _ h_ => h_.1))))) (below_size (hb1_ HB.out GE511.out))); replace HO_28 := A_ (Kd.R_elder' (by (with_reducible repeat (first | apply Kd.R_alloc | apply Kd.R_drewN | apply Kd.R_drew)); exact (Kd.R_mono (Kd.R_far (p := ⟨gb511, 3, none⟩) (Kd.R_far (p := ⟨gb511, 2, none⟩) (Kd.R_far (p := ⟨gb511, 1, none⟩) (Kd.R_far (p := ⟨gb511, 0, none⟩) (Kd.R_types HO_28.out BK511.out (by decide)) (fun _ hk => hk.2) (.bool t507)) (fun _ hk => hk.2) (.int .i64 t508)) (fun _ hk => hk.2) (.int .i64 t509)) (fun _ hk => hk.2) (.int .u64 t510)) (fun _ h_ => h_.1))) (Kd.R_base ho0) hb); replace BK511 := A_ (blk_below (g := gb511) (o := .cells #[.bool t507, .int .i64 t508, .int .i64 t509, .int .u64 t510] 30 (0, 0)) (by (with_reducible repeat (first | refine blk_drewN ?_ _ | refine blk_drew ?_ | refine blk_alloc ?_ _)); refine blk_put (cs := #[.bool t507, .int .i64 t508, .int .i64 t509, .int .u64 0]) ?_ 3 _ rfl; (with_reducible repeat (first | refine blk_drewN ?_ _ | refine blk_drew ?_ | refine blk_alloc ?_ _)); refine blk_put (cs := #[.bool t507, .int .i64 t508, .int .i64 0, .int .u64 0]) ?_ 2 _ rfl; (with_reducible repeat (first | refine blk_drewN ?_ _ | refine blk_drew ?_ | refine blk_alloc ?_ _)); refine blk_put (cs := #[.bool t507, .int .i64 0, .int .i64 0, .int .u64 0]) ?_ 1 _ rfl; (with_reducible repeat (first | refine blk_drewN ?_ _ | refine blk_drew ?_ | refine blk_alloc ?_ _)); refine blk_put (cs := #[.bool false, .int .i64 0, .int .i64 0, .int .u64 0]) ?_ 0 _ rfl; (with_reducible repeat (first | refine blk_drewN ?_ _ | refine blk_drew ?_ | refine blk_alloc ?_ _)); exact BK511.out) hb); replace HB := A_ (below_step (hb1_ HB.out GE511.out) hb); (try clear hb); (try clear hb2); (try clear hk); (try clear hi); (try clear ho0)))
        replace HO_28 := A_ (Kd.R_drew HO_28.out)
        replace HO514 := A_ (Kd.R_drew HO514.out)
        replace BK511 := A_ (blk_drew BK511.out)
        replace HB := A_ (below_drew1 HB.out)
        refine start_ (n := 12) (S := fun w' => w'.cell? ⟨gb511, 0, none⟩ = some (.bool t507) ∧ w'.cell? ⟨gb511, 1, none⟩ = some (.int .i64 t508) ∧ w'.cell? ⟨gb511, 2, none⟩ = some (.int .i64 t509) ∧ w'.cell? ⟨gb511, 3, none⟩ = some (.int .u64 t510)) (ds := []) #[false, false, false, false, false, false, false, false, false, false, false, false] (by kernel_rfl) rfl rfl ⟨bc_ BK511.out 0, bc_ BK511.out 1, bc_ BK511.out 2, bc_ BK511.out 3⟩ (fun hHeld => ?_); refine with_tabW L09_WholeMakes.tab17 L09_WholeMakes.bits17 (fun HT_ HW_ => ?_)
        generalize w35.drew = w36 at HO_28 HO514 BK511 HB hHeld ⊢
        refine pu_ 0 (some 72) #[true, false, false, false, false, false, false, false, false, false, false, false] rfl rfl (any_of HT_.out (by kernel_rfl)) ?_
        refine pu_ 1 (some 73) #[true, true, false, false, false, false, false, false, false, false, false, false] rfl rfl (any_of HT_.out (by kernel_rfl)) ?_
        refine pu_ 3 (some 75) #[true, true, false, true, false, false, false, false, false, false, false, false] rfl rfl (any_of HT_.out (by kernel_rfl)) ?_
        refine tk4_ 4 (some 76) #[true, true, false, true, true, false, false, false, false, false, false, false] rfl rfl (take_ofW HT_.out HW_.out (by kernel_rfl)) hHeld ?_
        refine pu_ 5 (some 77) #[true, true, false, true, true, true, false, false, false, false, false, false] rfl rfl (any_of HT_.out (by kernel_rfl)) ?_
        refine one_ (i := 2) (N := some 74) #[true, true, true, true, true, true, false, false, false, false, false, false] rfl rfl (one_of HT_.out (by kernel_rfl)) (by decide) (fun K hK => ?_)
        refine goes_ Try.func13 (by kernel_rfl) rfl #[.int .i64 a0, .int .u64 a1] (by rfl) rfl rfl mp_ ?_
        with_reducible refine (whole_IsWhole.calls k1 a0 a1 t517 _ A30.out).mono ?_
        rintro e w37 ⟨rfl, hb⟩
        refine ⟨_, rfl, ?_⟩
        replace HO_28 := A_ (Kd.R_below (kr_ HO_28.out) hb)
        replace HO514 := A_ (Kd.R_below (kr_ HO514.out) hb)
        replace BK511 := A_ (bb_ BK511.out hb)
        replace HB := A_ (below_step (hb1_ HB.out GE511.out) hb);(try clear hb);(try clear hb2);(try clear hk);(try clear hi)
        refine hK.out _ _ ⟨bc_ BK511.out 0, bc_ BK511.out 1, bc_ BK511.out 2, bc_ BK511.out 3⟩ (fun hHeld => ?_)
        clear hK K
        refine norm_ (a' := ?_) ?_ ?_
        rotate_left
        ·show Act.put _ (some 74) _ = _
         simp only [Act.put, lI_, l0_, lS_, i64_w, i32_w]
         rfl
        refine pu_ 6 (some 78) #[true, true, true, true, true, true, true, false, false, false, false, false] rfl rfl (any_of HT_.out (by kernel_rfl)) ?_
        refine pu_ 7 (some 79) #[true, true, true, true, true, true, true, true, false, false, false, false] rfl rfl (any_of HT_.out (by kernel_rfl)) ?_
        refine pu_ 8 (some 80) #[true, true, true, true, true, true, true, true, true, false, false, false] rfl rfl (any_of HT_.out (by kernel_rfl)) ?_
        refine pu_ 9 (some 81) #[true, true, true, true, true, true, true, true, true, true, false, false] rfl rfl (any_of HT_.out (by kernel_rfl)) ?_
        refine pu_ 10 (some 82) #[true, true, true, true, true, true, true, true, true, true, true, false] rfl rfl (any_of HT_.out (by kernel_rfl)) ?_
        refine pu_ 11 (some 4) #[true, true, true, true, true, true, true, true, true, true, true, true] rfl rfl (any_of HT_.out (by kernel_rfl)) ?_
        refine done_ (done_of HT_.out (by kernel_rfl)) ?_
        try go_wp2
        go_ret
        exact ⟨er_, hb1_ HB.out GE511.out⟩
       ·rw [if_neg c31] at H
        have c31b0 : decide (t508 < 2) = false := decide_eq_false c31
        clear c31
        obtain rfl := Option.some.inj H
        try go_wp2_with (first | ((with_reducible refine gate_callee (f := 14) rfl ?_); refine gl_ (some 62) Try.func14 #[.int .i64 a0, .int .u64 a1] ?_; (with_reducible refine (r2_Open.calls k1 a0 a1 t507 t508 t509 t510 _ A27.out).mono ?_); rintro e w38 ⟨rfl, hb⟩; refine ⟨_, rfl, ?_⟩; replace HO_28 := A_ (Kd.R_below (kr_ HO_28.out) hb); replace HB := A_ (below_step (hb_ HB.out) hb); (try clear hb); (try clear hb2); (try clear hk); (try clear hi)) | ((with_reducible refine gate_dst (N := 9) rfl ?_); refine be_ 9 #[.bool false, .int .i64 0, .int .i64 0, .int .u64 0] 30 ?_; intro gb511 hg w39 hbox hb; have BK511 := A_ (hbox); have GW511 := A_ (sz_ hg (hb_ HB.out)); have GE511 := A_ (sz_ hg (hb_ HB.out)); replace HO_28 := A_ (Kd.R_below (kr_ HO_28.out) hb); replace HB := A_ (below_step (hb_ HB.out) hb); clear hb hbox hg; have hcz40_0 := bv_ BK511.out 0; have hcz40_1 := bv_ BK511.out 1; have hcz40_2 := bv_ BK511.out 2; have hcz40_3 := bv_ BK511.out 3; have hfz40_0 := blk_frozen BK511.out 0; have hfz40_1 := blk_frozen BK511.out 1; have hfz40_2 := blk_frozen BK511.out 2; have hfz40_3 := blk_frozen BK511.out 3) | ((with_reducible refine gate_callee (f := 15) rfl ?_); refine gl_ (some 68) Try.func15 #[.agg #[.bool t507, .int .i64 t508, .int .i64 t509, .int .u64 t510]] ?_; (with_reducible refine (r9_Down.calls k1 t507 t508 t509 t510 t512 t515 t516 _ A29.out).mono ?_); rintro e w41 ⟨v513, rfl, ho0, hb⟩; refine ⟨_, rfl, ?_⟩; have HO514 := A_ (Kd.R_lower (Kd.R_new' ho0 (Kd.R_lt (by (with_reducible repeat (first | apply Kd.R_alloc | apply Kd.R_drewN | apply Kd.R_drew)); exact (Kd.R_mono (Kd.R_far (p := ⟨gb511, 3, none⟩) (Kd.R_far (p := ⟨gb511, 2, none⟩) (Kd.R_far (p := ⟨gb511, 1, none⟩) (Kd.R_far (p := ⟨gb511, 0, none⟩) (Kd.R_types HO_28.out BK511.out (by decide)) (fun _ hk => hk.2) (.bool t507)) (fun _ hk => hk.2) (.int .i64 t508)) (fun _ hk => hk.2) (.int .i64 t509)) (fun _ hk => hk.2) (.int .u64 t510)) (fun _ h_ => h_.1))))) (below_size (hb1_ HB.out GE511.out))); replace HO_28 := A_ (Kd.R_elder' (by (with_reducible repeat (first | apply Kd.R_alloc | apply Kd.R_drewN | apply Kd.R_drew)); exact (Kd.R_mono (Kd.R_far (p := ⟨gb511, 3, none⟩) (Kd.R_far (p := ⟨gb511, 2, none⟩) (Kd.R_far (p := ⟨gb511, 1, none⟩) (Kd.R_far (p := ⟨gb511, 0, none⟩) (Kd.R_types HO_28.out BK511.out (by decide)) (fun _ hk => hk.2) (.bool t507)) (fun _ hk => hk.2) (.int .i64 t508)) (fun _ hk => hk.2) (.int .i64 t509)) (fun _ hk => hk.2) (.int .u64 t510)) (fun _ h_ => h_.1))) (Kd.R_base ho0) hb); replace BK511 := A_ (blk_below (g := gb511) (o := .cells #[.bool t507, .int .i64 t508, .int .i64 t509, .int .u64 t510] 30 (0, 0)) (by (with_reducible repeat (first | refine blk_drewN ?_ _ | refine blk_drew ?_ | refine blk_alloc ?_ _)); refine blk_put (cs := #[.bool t507, .int .i64 t508, .int .i64 t509, .int .u64 0]) ?_ 3 _ rfl; (with_reducible repeat (first | refine blk_drewN ?_ _ | refine blk_drew ?_ | refine blk_alloc ?_ _)); refine blk_put (cs := #[.bool t507, .int .i64 t508, .int .i64 0, .int .u64 0]) ?_ 2 _ rfl; (with_reducible repeat (first | refine blk_drewN ?_ _ | refine blk_drew ?_ | refine blk_alloc ?_ _)); refine blk_put (cs := #[.bool t507, .int .i64 0, .int .i64 0, .int .u64 0]) ?_ 1 _ rfl; (with_reducible repeat (first | refine blk_drewN ?_ _ | refine blk_drew ?_ | refine blk_alloc ?_ _)); refine blk_put (cs := #[.bool false, .int .i64 0, .int .i64 0, .int .u64 0]) ?_ 0 _ rfl; (with_reducible repeat (first | refine blk_drewN ?_ _ | refine blk_drew ?_ | refine blk_alloc ?_ _)); exact BK511.out) hb); replace HB := A_ (below_step (hb1_ HB.out GE511.out) hb); (try clear hb); (try clear hb2); (try clear hk); (try clear hi); (try clear ho0)))
        replace HO_28 := A_ (Kd.R_drew HO_28.out)
        replace HO514 := A_ (Kd.R_drew HO514.out)
        replace BK511 := A_ (blk_drew BK511.out)
        replace HB := A_ (below_drew1 HB.out)
        refine start_ (n := 12) (S := fun w' => w'.cell? ⟨gb511, 0, none⟩ = some (.bool t507) ∧ w'.cell? ⟨gb511, 1, none⟩ = some (.int .i64 t508) ∧ w'.cell? ⟨gb511, 2, none⟩ = some (.int .i64 t509) ∧ w'.cell? ⟨gb511, 3, none⟩ = some (.int .u64 t510)) (ds := []) #[false, false, false, false, false, false, false, false, false, false, false, false] (by kernel_rfl) rfl rfl ⟨bc_ BK511.out 0, bc_ BK511.out 1, bc_ BK511.out 2, bc_ BK511.out 3⟩ (fun hHeld => ?_); refine with_tabW L09_WholeMakes.tab17 L09_WholeMakes.bits17 (fun HT_ HW_ => ?_)
        generalize w41.drew = w42 at HO_28 HO514 BK511 HB hHeld ⊢
        refine pu_ 0 (some 72) #[true, false, false, false, false, false, false, false, false, false, false, false] rfl rfl (any_of HT_.out (by kernel_rfl)) ?_
        refine pu_ 1 (some 73) #[true, true, false, false, false, false, false, false, false, false, false, false] rfl rfl (any_of HT_.out (by kernel_rfl)) ?_
        refine pu_ 3 (some 75) #[true, true, false, true, false, false, false, false, false, false, false, false] rfl rfl (any_of HT_.out (by kernel_rfl)) ?_
        refine tk4_ 4 (some 76) #[true, true, false, true, true, false, false, false, false, false, false, false] rfl rfl (take_ofW HT_.out HW_.out (by kernel_rfl)) hHeld ?_
        refine pu_ 5 (some 77) #[true, true, false, true, true, true, false, false, false, false, false, false] rfl rfl (any_of HT_.out (by kernel_rfl)) ?_
        refine one_ (i := 2) (N := some 74) #[true, true, true, true, true, true, false, false, false, false, false, false] rfl rfl (one_of HT_.out (by kernel_rfl)) (by decide) (fun K hK => ?_)
        refine goes_ Try.func13 (by kernel_rfl) rfl #[.int .i64 a0, .int .u64 a1] (by rfl) rfl rfl mp_ ?_
        with_reducible refine (whole_IsWhole.calls k1 a0 a1 t517 _ A30.out).mono ?_
        rintro e w43 ⟨rfl, hb⟩
        refine ⟨_, rfl, ?_⟩
        replace HO_28 := A_ (Kd.R_below (kr_ HO_28.out) hb)
        replace HO514 := A_ (Kd.R_below (kr_ HO514.out) hb)
        replace BK511 := A_ (bb_ BK511.out hb)
        replace HB := A_ (below_step (hb1_ HB.out GE511.out) hb);(try clear hb);(try clear hb2);(try clear hk);(try clear hi)
        refine hK.out _ _ ⟨bc_ BK511.out 0, bc_ BK511.out 1, bc_ BK511.out 2, bc_ BK511.out 3⟩ (fun hHeld => ?_)
        clear hK K
        refine norm_ (a' := ?_) ?_ ?_
        rotate_left
        ·show Act.put _ (some 74) _ = _
         simp only [Act.put, lI_, l0_, lS_, i64_w, i32_w]
         rfl
        refine pu_ 6 (some 78) #[true, true, true, true, true, true, true, false, false, false, false, false] rfl rfl (any_of HT_.out (by kernel_rfl)) ?_
        refine pure_ (i := 7) (N := some 79) (v := undef) (a' := ?_) #[true, true, true, true, true, true, true, true, false, false, false, false] rfl rfl (any_of HT_.out (by kernel_rfl)) (fun _ _ _ h => h) (Or.inr ⟨by rfl, rfl⟩) ?_ ?_
        rotate_left
        ·simp only [Act.put, lI_, l0_, lS_, i64_w, i32_w]
         rfl
        refine pure_ (i := 8) (N := some 80) (v := undef) (a' := ?_) #[true, true, true, true, true, true, true, true, true, false, false, false] rfl rfl (any_of HT_.out (by kernel_rfl)) (fun _ _ _ h => h) (Or.inr ⟨by rfl, rfl⟩) ?_ ?_
        rotate_left
        ·simp only [Act.put, lI_, l0_, lS_, i64_w, i32_w]
         rfl
        refine pu_ 9 (some 81) #[true, true, true, true, true, true, true, true, true, true, false, false] rfl rfl (any_of HT_.out (by kernel_rfl)) ?_
        refine pu_ 10 (some 82) #[true, true, true, true, true, true, true, true, true, true, true, false] rfl rfl (any_of HT_.out (by kernel_rfl)) ?_
        refine pu_ 11 (some 4) #[true, true, true, true, true, true, true, true, true, true, true, true] rfl rfl (any_of HT_.out (by kernel_rfl)) ?_
        refine done_ (done_of HT_.out (by kernel_rfl)) ?_
        try go_wp2
        go_ret
        exact ⟨er_, hb1_ HB.out GE511.out⟩
      ·rw [if_neg c28] at H
       have c28b0 : (t508 == 1) = false := beq_eq_false_iff_ne.mpr c28
       have c28b1 : (t508 != 1) = true := bne_iff_ne.mpr c28
       replace H := ob_ H
       obtain ⟨t518, A440, H⟩ := H
       replace H : (if t508 < 2 then (some (t518 == (!false))) else (some (t518 == false))) = some r := H
       have A44 := A_ A440;clear A440
       by_cases c45 : t508 < 2
       ·rw [if_pos c45] at H
        have c45b0 : decide (t508 < 2) = true := decide_eq_true c45
        clear c45
        obtain rfl := Option.some.inj H
        try go_wp2_with (first | ((with_reducible refine gate_callee (f := 14) rfl ?_); refine gl_ (some 62) Try.func14 #[.int .i64 a0, .int .u64 a1] ?_; (with_reducible refine (r2_Open.calls k1 a0 a1 t507 t508 t509 t510 _ A27.out).mono ?_); rintro e w46 ⟨rfl, hb⟩; refine ⟨_, rfl, ?_⟩; replace HO_28 := A_ (Kd.R_below (kr_ HO_28.out) hb); replace HB := A_ (below_step (hb_ HB.out) hb); (try clear hb); (try clear hb2); (try clear hk); (try clear hi)) | ((with_reducible refine gate_dst (N := 9) rfl ?_); refine be_ 9 #[.bool false, .int .i64 0, .int .i64 0, .int .u64 0] 30 ?_; intro gb511 hg w47 hbox hb; have BK511 := A_ (hbox); have GW511 := A_ (sz_ hg (hb_ HB.out)); have GE511 := A_ (sz_ hg (hb_ HB.out)); replace HO_28 := A_ (Kd.R_below (kr_ HO_28.out) hb); replace HB := A_ (below_step (hb_ HB.out) hb); clear hb hbox hg; have hcz48_0 := bv_ BK511.out 0; have hcz48_1 := bv_ BK511.out 1; have hcz48_2 := bv_ BK511.out 2; have hcz48_3 := bv_ BK511.out 3; have hfz48_0 := blk_frozen BK511.out 0; have hfz48_1 := blk_frozen BK511.out 1; have hfz48_2 := blk_frozen BK511.out 2; have hfz48_3 := blk_frozen BK511.out 3))
        have n0_ : Aside0 (Kd.R (Kd.int .u64) 22 ((((w47.setCell ⟨gb511, 0, none⟩ (.bool t507)).setCell ⟨gb511, 1, none⟩ (.int .i64 t508)).setCell ⟨gb511, 2, none⟩ (.int .i64 t509)).setCell ⟨gb511, 3, none⟩ (.int .u64 t510)) w.heap.size (fun _ => True) (.slice Ao17 y500.length co17) y500) := ⟨by (with_reducible repeat (first | apply Kd.R_alloc | apply Kd.R_drewN | apply Kd.R_drew)); exact Kd.R_mono (Kd.R_far (p := ⟨gb511, 3, none⟩) (Kd.R_far (p := ⟨gb511, 2, none⟩) (Kd.R_far (p := ⟨gb511, 1, none⟩) (Kd.R_far (p := ⟨gb511, 0, none⟩) (Kd.R_types HO_28.out BK511.out (by decide)) (fun _ hk => hk.2) (.bool t507)) (fun _ hk => hk.2) (.int .i64 t508)) (fun _ hk => hk.2) (.int .i64 t509)) (fun _ hk => hk.2) (.int .u64 t510)) (fun _ hk => trivial)⟩
        have n1_ : Aside0 (((((w47.setCell ⟨gb511, 0, none⟩ (.bool t507)).setCell ⟨gb511, 1, none⟩ (.int .i64 t508)).setCell ⟨gb511, 2, none⟩ (.int .i64 t509)).setCell ⟨gb511, 3, none⟩ (.int .u64 t510)).heap[gb511]? = some (.cells #[.bool t507, .int .i64 t508, .int .i64 t509, .int .u64 t510] 30 (0, 0))) := ⟨by (with_reducible repeat (first | refine blk_drewN ?_ _ | refine blk_drew ?_ | refine blk_alloc ?_ _)); refine blk_put (cs := #[.bool t507, .int .i64 t508, .int .i64 t509, .int .u64 0]) ?_ 3 _ rfl; (with_reducible repeat (first | refine blk_drewN ?_ _ | refine blk_drew ?_ | refine blk_alloc ?_ _)); refine blk_put (cs := #[.bool t507, .int .i64 t508, .int .i64 0, .int .u64 0]) ?_ 2 _ rfl; (with_reducible repeat (first | refine blk_drewN ?_ _ | refine blk_drew ?_ | refine blk_alloc ?_ _)); refine blk_put (cs := #[.bool t507, .int .i64 0, .int .i64 0, .int .u64 0]) ?_ 1 _ rfl; (with_reducible repeat (first | refine blk_drewN ?_ _ | refine blk_drew ?_ | refine blk_alloc ?_ _)); refine blk_put (cs := #[.bool false, .int .i64 0, .int .i64 0, .int .u64 0]) ?_ 0 _ rfl; (with_reducible repeat (first | refine blk_drewN ?_ _ | refine blk_drew ?_ | refine blk_alloc ?_ _)); exact BK511.out⟩
        have n2_ : Aside0 (Below w.heap.size w ((((w47.setCell ⟨gb511, 0, none⟩ (.bool t507)).setCell ⟨gb511, 1, none⟩ (.int .i64 t508)).setCell ⟨gb511, 2, none⟩ (.int .i64 t509)).setCell ⟨gb511, 3, none⟩ (.int .u64 t510))) := ⟨hb1_ HB.out GE511.out⟩
        (try clear HO_28);(try clear BK511);(try clear HB)
        generalize ((((w47.setCell ⟨gb511, 0, none⟩ (.bool t507)).setCell ⟨gb511, 1, none⟩ (.int .i64 t508)).setCell ⟨gb511, 2, none⟩ (.int .i64 t509)).setCell ⟨gb511, 3, none⟩ (.int .u64 t510)) = w49 at n0_ n1_ n2_ ⊢
        have HO_28 := n0_;have BK511 := n1_;have HB := n2_;clear n0_ n1_ n2_
        replace HO_28 := A_ (Kd.R_drew HO_28.out)
        replace BK511 := A_ (blk_drew BK511.out)
        replace HB := A_ (below_drew1 HB.out)
        refine start_ (n := 12) (S := fun w' => w'.cell? ⟨gb511, 0, none⟩ = some (.bool t507) ∧ w'.cell? ⟨gb511, 1, none⟩ = some (.int .i64 t508) ∧ w'.cell? ⟨gb511, 2, none⟩ = some (.int .i64 t509) ∧ w'.cell? ⟨gb511, 3, none⟩ = some (.int .u64 t510)) (ds := []) #[false, false, false, false, false, false, false, false, false, false, false, false] (by kernel_rfl) rfl rfl ⟨bc_ BK511.out 0, bc_ BK511.out 1, bc_ BK511.out 2, bc_ BK511.out 3⟩ (fun hHeld => ?_); refine with_tabW L09_WholeMakes.tab17 L09_WholeMakes.bits17 (fun HT_ HW_ => ?_)
        generalize w49.drew = w50 at HO_28 BK511 HB hHeld ⊢
        refine pu_ 0 (some 72) #[true, false, false, false, false, false, false, false, false, false, false, false] rfl rfl (any_of HT_.out (by kernel_rfl)) ?_
        refine pu_ 1 (some 73) #[true, true, false, false, false, false, false, false, false, false, false, false] rfl rfl (any_of HT_.out (by kernel_rfl)) ?_
        refine pu_ 3 (some 75) #[true, true, false, true, false, false, false, false, false, false, false, false] rfl rfl (any_of HT_.out (by kernel_rfl)) ?_
        refine tk4_ 4 (some 76) #[true, true, false, true, true, false, false, false, false, false, false, false] rfl rfl (take_ofW HT_.out HW_.out (by kernel_rfl)) hHeld ?_
        refine pu_ 5 (some 77) #[true, true, false, true, true, true, false, false, false, false, false, false] rfl rfl (any_of HT_.out (by kernel_rfl)) ?_
        refine one_ (i := 2) (N := some 74) #[true, true, true, true, true, true, false, false, false, false, false, false] rfl rfl (one_of HT_.out (by kernel_rfl)) (by decide) (fun K hK => ?_)
        refine goes_ Try.func13 (by kernel_rfl) rfl #[.int .i64 a0, .int .u64 a1] (by rfl) rfl rfl mp_ ?_
        with_reducible refine (whole_IsWhole.calls k1 a0 a1 t518 _ A44.out).mono ?_
        rintro e w51 ⟨rfl, hb⟩
        refine ⟨_, rfl, ?_⟩
        replace HO_28 := A_ (Kd.R_below (kr_ HO_28.out) hb)
        replace BK511 := A_ (bb_ BK511.out hb)
        replace HB := A_ (below_step (hb1_ HB.out GE511.out) hb);(try clear hb);(try clear hb2);(try clear hk);(try clear hi)
        refine hK.out _ _ ⟨bc_ BK511.out 0, bc_ BK511.out 1, bc_ BK511.out 2, bc_ BK511.out 3⟩ (fun hHeld => ?_)
        clear hK K
        refine norm_ (a' := ?_) ?_ ?_
        rotate_left
        ·show Act.put _ (some 74) _ = _
         simp only [Act.put, lI_, l0_, lS_, i64_w, i32_w]
         rfl
        refine pu_ 6 (some 78) #[true, true, true, true, true, true, true, false, false, false, false, false] rfl rfl (any_of HT_.out (by kernel_rfl)) ?_
        refine pu_ 7 (some 79) #[true, true, true, true, true, true, true, true, false, false, false, false] rfl rfl (any_of HT_.out (by kernel_rfl)) ?_
        refine pu_ 8 (some 80) #[true, true, true, true, true, true, true, true, true, false, false, false] rfl rfl (any_of HT_.out (by kernel_rfl)) ?_
        refine pu_ 9 (some 81) #[true, true, true, true, true, true, true, true, true, true, false, false] rfl rfl (any_of HT_.out (by kernel_rfl)) ?_
        refine pu_ 10 (some 82) #[true, true, true, true, true, true, true, true, true, true, true, false] rfl rfl (any_of HT_.out (by kernel_rfl)) ?_
        refine pu_ 11 (some 4) #[true, true, true, true, true, true, true, true, true, true, true, true] rfl rfl (any_of HT_.out (by kernel_rfl)) ?_
        refine done_ (done_of HT_.out (by kernel_rfl)) ?_
        try go_wp2
        go_ret
        exact ⟨er_, hb1_ HB.out GE511.out⟩
       ·rw [if_neg c45] at H
        have c45b0 : decide (t508 < 2) = false := decide_eq_false c45
        clear c45
        obtain rfl := Option.some.inj H
        try go_wp2_with (first | ((with_reducible refine gate_callee (f := 14) rfl ?_); refine gl_ (some 62) Try.func14 #[.int .i64 a0, .int .u64 a1] ?_; (with_reducible refine (r2_Open.calls k1 a0 a1 t507 t508 t509 t510 _ A27.out).mono ?_); rintro e w52 ⟨rfl, hb⟩; refine ⟨_, rfl, ?_⟩; replace HO_28 := A_ (Kd.R_below (kr_ HO_28.out) hb); replace HB := A_ (below_step (hb_ HB.out) hb); (try clear hb); (try clear hb2); (try clear hk); (try clear hi)) | ((with_reducible refine gate_dst (N := 9) rfl ?_); refine be_ 9 #[.bool false, .int .i64 0, .int .i64 0, .int .u64 0] 30 ?_; intro gb511 hg w53 hbox hb; have BK511 := A_ (hbox); have GW511 := A_ (sz_ hg (hb_ HB.out)); have GE511 := A_ (sz_ hg (hb_ HB.out)); replace HO_28 := A_ (Kd.R_below (kr_ HO_28.out) hb); replace HB := A_ (below_step (hb_ HB.out) hb); clear hb hbox hg; have hcz54_0 := bv_ BK511.out 0; have hcz54_1 := bv_ BK511.out 1; have hcz54_2 := bv_ BK511.out 2; have hcz54_3 := bv_ BK511.out 3; have hfz54_0 := blk_frozen BK511.out 0; have hfz54_1 := blk_frozen BK511.out 1; have hfz54_2 := blk_frozen BK511.out 2; have hfz54_3 := blk_frozen BK511.out 3))
        have n0_ : Aside0 (Kd.R (Kd.int .u64) 22 ((((w53.setCell ⟨gb511, 0, none⟩ (.bool t507)).setCell ⟨gb511, 1, none⟩ (.int .i64 t508)).setCell ⟨gb511, 2, none⟩ (.int .i64 t509)).setCell ⟨gb511, 3, none⟩ (.int .u64 t510)) w.heap.size (fun _ => True) (.slice Ao17 y500.length co17) y500) := ⟨by (with_reducible repeat (first | apply Kd.R_alloc | apply Kd.R_drewN | apply Kd.R_drew)); exact Kd.R_mono (Kd.R_far (p := ⟨gb511, 3, none⟩) (Kd.R_far (p := ⟨gb511, 2, none⟩) (Kd.R_far (p := ⟨gb511, 1, none⟩) (Kd.R_far (p := ⟨gb511, 0, none⟩) (Kd.R_types HO_28.out BK511.out (by decide)) (fun _ hk => hk.2) (.bool t507)) (fun _ hk => hk.2) (.int .i64 t508)) (fun _ hk => hk.2) (.int .i64 t509)) (fun _ hk => hk.2) (.int .u64 t510)) (fun _ hk => trivial)⟩
        have n1_ : Aside0 (((((w53.setCell ⟨gb511, 0, none⟩ (.bool t507)).setCell ⟨gb511, 1, none⟩ (.int .i64 t508)).setCell ⟨gb511, 2, none⟩ (.int .i64 t509)).setCell ⟨gb511, 3, none⟩ (.int .u64 t510)).heap[gb511]? = some (.cells #[.bool t507, .int .i64 t508, .int .i64 t509, .int .u64 t510] 30 (0, 0))) := ⟨by (with_reducible repeat (first | refine blk_drewN ?_ _ | refine blk_drew ?_ | refine blk_alloc ?_ _)); refine blk_put (cs := #[.bool t507, .int .i64 t508, .int .i64 t509, .int .u64 0]) ?_ 3 _ rfl; (with_reducible repeat (first | refine blk_drewN ?_ _ | refine blk_drew ?_ | refine blk_alloc ?_ _)); refine blk_put (cs := #[.bool t507, .int .i64 t508, .int .i64 0, .int .u64 0]) ?_ 2 _ rfl; (with_reducible repeat (first | refine blk_drewN ?_ _ | refine blk_drew ?_ | refine blk_alloc ?_ _)); refine blk_put (cs := #[.bool t507, .int .i64 0, .int .i64 0, .int .u64 0]) ?_ 1 _ rfl; (with_reducible repeat (first | refine blk_drewN ?_ _ | refine blk_drew ?_ | refine blk_alloc ?_ _)); refine blk_put (cs := #[.bool false, .int .i64 0, .int .i64 0, .int .u64 0]) ?_ 0 _ rfl; (with_reducible repeat (first | refine blk_drewN ?_ _ | refine blk_drew ?_ | refine blk_alloc ?_ _)); exact BK511.out⟩
        have n2_ : Aside0 (Below w.heap.size w ((((w53.setCell ⟨gb511, 0, none⟩ (.bool t507)).setCell ⟨gb511, 1, none⟩ (.int .i64 t508)).setCell ⟨gb511, 2, none⟩ (.int .i64 t509)).setCell ⟨gb511, 3, none⟩ (.int .u64 t510))) := ⟨hb1_ HB.out GE511.out⟩
        (try clear HO_28);(try clear BK511);(try clear HB)
        generalize ((((w53.setCell ⟨gb511, 0, none⟩ (.bool t507)).setCell ⟨gb511, 1, none⟩ (.int .i64 t508)).setCell ⟨gb511, 2, none⟩ (.int .i64 t509)).setCell ⟨gb511, 3, none⟩ (.int .u64 t510)) = w55 at n0_ n1_ n2_ ⊢
        have HO_28 := n0_;have BK511 := n1_;have HB := n2_;clear n0_ n1_ n2_
        replace HO_28 := A_ (Kd.R_drew HO_28.out)
        replace BK511 := A_ (blk_drew BK511.out)
        replace HB := A_ (below_drew1 HB.out)
        refine start_ (n := 12) (S := fun w' => w'.cell? ⟨gb511, 0, none⟩ = some (.bool t507) ∧ w'.cell? ⟨gb511, 1, none⟩ = some (.int .i64 t508) ∧ w'.cell? ⟨gb511, 2, none⟩ = some (.int .i64 t509) ∧ w'.cell? ⟨gb511, 3, none⟩ = some (.int .u64 t510)) (ds := []) #[false, false, false, false, false, false, false, false, false, false, false, false] (by kernel_rfl) rfl rfl ⟨bc_ BK511.out 0, bc_ BK511.out 1, bc_ BK511.out 2, bc_ BK511.out 3⟩ (fun hHeld => ?_); refine with_tabW L09_WholeMakes.tab17 L09_WholeMakes.bits17 (fun HT_ HW_ => ?_)
        generalize w55.drew = w56 at HO_28 BK511 HB hHeld ⊢
        refine pu_ 0 (some 72) #[true, false, false, false, false, false, false, false, false, false, false, false] rfl rfl (any_of HT_.out (by kernel_rfl)) ?_
        refine pu_ 1 (some 73) #[true, true, false, false, false, false, false, false, false, false, false, false] rfl rfl (any_of HT_.out (by kernel_rfl)) ?_
        refine pu_ 3 (some 75) #[true, true, false, true, false, false, false, false, false, false, false, false] rfl rfl (any_of HT_.out (by kernel_rfl)) ?_
        refine tk4_ 4 (some 76) #[true, true, false, true, true, false, false, false, false, false, false, false] rfl rfl (take_ofW HT_.out HW_.out (by kernel_rfl)) hHeld ?_
        refine pu_ 5 (some 77) #[true, true, false, true, true, true, false, false, false, false, false, false] rfl rfl (any_of HT_.out (by kernel_rfl)) ?_
        refine one_ (i := 2) (N := some 74) #[true, true, true, true, true, true, false, false, false, false, false, false] rfl rfl (one_of HT_.out (by kernel_rfl)) (by decide) (fun K hK => ?_)
        refine goes_ Try.func13 (by kernel_rfl) rfl #[.int .i64 a0, .int .u64 a1] (by rfl) rfl rfl mp_ ?_
        with_reducible refine (whole_IsWhole.calls k1 a0 a1 t518 _ A44.out).mono ?_
        rintro e w57 ⟨rfl, hb⟩
        refine ⟨_, rfl, ?_⟩
        replace HO_28 := A_ (Kd.R_below (kr_ HO_28.out) hb)
        replace BK511 := A_ (bb_ BK511.out hb)
        replace HB := A_ (below_step (hb1_ HB.out GE511.out) hb);(try clear hb);(try clear hb2);(try clear hk);(try clear hi)
        refine hK.out _ _ ⟨bc_ BK511.out 0, bc_ BK511.out 1, bc_ BK511.out 2, bc_ BK511.out 3⟩ (fun hHeld => ?_)
        clear hK K
        refine norm_ (a' := ?_) ?_ ?_
        rotate_left
        ·show Act.put _ (some 74) _ = _
         simp only [Act.put, lI_, l0_, lS_, i64_w, i32_w]
         rfl
        refine pu_ 6 (some 78) #[true, true, true, true, true, true, true, false, false, false, false, false] rfl rfl (any_of HT_.out (by kernel_rfl)) ?_
        refine pure_ (i := 7) (N := some 79) (v := undef) (a' := ?_) #[true, true, true, true, true, true, true, true, false, false, false, false] rfl rfl (any_of HT_.out (by kernel_rfl)) (fun _ _ _ h => h) (Or.inr ⟨by rfl, rfl⟩) ?_ ?_
        rotate_left
        ·simp only [Act.put, lI_, l0_, lS_, i64_w, i32_w]
         rfl
        refine pure_ (i := 8) (N := some 80) (v := undef) (a' := ?_) #[true, true, true, true, true, true, true, true, true, false, false, false] rfl rfl (any_of HT_.out (by kernel_rfl)) (fun _ _ _ h => h) (Or.inr ⟨by rfl, rfl⟩) ?_ ?_
        rotate_left
        ·simp only [Act.put, lI_, l0_, lS_, i64_w, i32_w]
         rfl
        refine pu_ 9 (some 81) #[true, true, true, true, true, true, true, true, true, true, false, false] rfl rfl (any_of HT_.out (by kernel_rfl)) ?_
        refine pu_ 10 (some 82) #[true, true, true, true, true, true, true, true, true, true, true, false] rfl rfl (any_of HT_.out (by kernel_rfl)) ?_
        refine pu_ 11 (some 4) #[true, true, true, true, true, true, true, true, true, true, true, true] rfl rfl (any_of HT_.out (by kernel_rfl)) ?_
        refine done_ (done_of HT_.out (by kernel_rfl)) ?_
        try go_wp2
        go_ret
        exact ⟨er_, hb1_ HB.out GE511.out⟩
     ·replace c26 := Bool.eq_false_iff.mpr c26
      subst c26
      have H1 : ((whole_IsWhole.f k1 a0 a1).bind fun t506 => (some (!t506))) = some r := by rw [if_neg (show ¬ (false = true) by decide)] at H; exact H
      clear H;have H := H1;clear H1
      replace H := ob_ H
      obtain ⟨t506, A580, H⟩ := H
      replace H : (some (!t506)) = some r := H
      have A58 := A_ A580;clear A580
      obtain rfl := Option.some.inj H
      go_wp2_with (first | ((with_reducible refine gate_callee (f := 13) rfl ?_); refine gl_ (some 58) Try.func13 #[.int .i64 a0, .int .u64 a1] ?_; (with_reducible refine (whole_IsWhole.calls k1 a0 a1 t506 _ A58.out).mono ?_); rintro e w59 ⟨rfl, hb⟩; refine ⟨_, rfl, ?_⟩; replace HO_28 := A_ (Kd.R_below (kr_ HO_28.out) hb); replace HB := A_ (below_step (hb_ HB.out) hb); (try clear hb); (try clear hb2); (try clear hk); (try clear hi)))
      go_ret
      exact ⟨er_, hb_ HB.out⟩
 ·replace c4 := Bool.eq_false_iff.mpr c4
  subst c4
  have H1 : (some false) = some r := by rw [if_neg (show ¬ (false = true) by decide)] at H; exact H
  clear H;have H := H1;clear H1
  exact absurd ((Option.some.inj H).trans hr_.out) (by decide)
def L09_WholeMakes.Pure : Prop := ∀ (a0 : Int) (a1 : Int), (Lit.int .i64 a0).wf = true → (Lit.int .u64 a1).wf = true → ∃ k, L09_WholeMakes.f k a0 a1 = some true
theorem L09_WholeMakes.walk (P : L09_WholeMakes.Pure) (a0 : Int) (a1 : Int) (w : World) (w0 : (Lit.int .i64 a0).wf = true) (w1 : (Lit.int .u64 a1).wf = true) :
  Calls Try.prog 3 #[.int .i64 a0, .int .u64 a1] w fun e w' => e = .returned (.bool true) ∧ Below w.heap.size w w' := by
 obtain ⟨k, h⟩ := P a0 a1 w0 w1
 refine (L09_WholeMakes.calls k a0 a1 true w h ⟨rfl⟩).mono ?_
 rintro e w' ⟨rfl, hd⟩
 exact ⟨rfl, hd⟩
end Go.Proofs.Ythdeeoallfbjmaa.PA
section
set_option linter.unusedVariables false
set_option linter.unusedSimpArgs false
namespace Go.Proofs.Ythdeeoallfbjmaa.Th
open Go.RowKit Go.Proofs.YthdeeoallfbjmaaW.PrintWords Go.Proofs.YthdeeoallfbjmaaW.PrintLast Go.Proofs.YthdeeoallfbjmaaW.PrintMore Go.Proofs.Ythdeeoallfbjmaa.PA Bit Flo
theorem two_i {n : Int} (m : Nat) (h : n = m) (hm : m < 64) : Ev (fun k => r2_Two.f k n) ((2 ^ m : Nat) : Int) := by subst h; exact two_f m hm

theorem r2E32 : r2_E.f 32 = some 8 := by decide +kernel
theorem r2F32 : r2_F.f 32 = some 23 := by decide +kernel
theorem r2B32 : r2_B.f 32 = some 127 := by decide +kernel
theorem r2Tf32 : Ev (fun k => r2_Two.f k 23) ((8388608 : Nat) : Int) := by have h := two_i (n := 23) 23 rfl (by decide); rw [show (2 : Nat) ^ 23 = 8388608 by decide] at h; exact h
theorem r2Te32 : Ev (fun k => r2_Two.f k 8) ((256 : Nat) : Int) := by have h := two_i (n := 8) 8 rfl (by decide); rw [show (2 : Nat) ^ 8 = 256 by decide] at h; exact h
theorem r2Ts32 : Ev (fun k => r2_Two.f k (wrap64 (32 - 1))) ((2147483648 : Nat) : Int) := by have h := two_i (n := wrap64 (32 - 1)) 31 (by decide +kernel) (by decide); rw [show (2 : Nat) ^ 31 = 2147483648 by decide] at h; exact h
theorem r2Th32 : Ev (fun k => r2_Two.f k (wrap64 (23 - 1))) ((4194304 : Nat) : Int) := by have h := two_i (n := wrap64 (23 - 1)) 22 (by decide +kernel) (by decide); rw [show (2 : Nat) ^ 22 = 4194304 by decide] at h; exact h
theorem r2Exp32 (a : Nat) (ha : a < 18446744073709551616) : Ev (fun k => r2_Exp.f k 32 a) ((a / 8388608 % 256 : Nat) : Int) := by
  unfold r2_Exp.f
  refine Ev.bs (r2Cut 32 a (by decide)) (Ev.bs r2F32 (Ev.bind r2Tf32 (Ev.neg (by decide) (Ev.bs r2E32 (Ev.bind r2Te32 (Ev.neg (by decide) (Ev.out ?_)))))))
  have hc : cutN 32 a = a % 4294967296 := by unfold cutN; rw [if_pos rfl]
  rw [hc, Int.tdiv_eq_ediv_of_nonneg (by omega), u64_id (by omega) (by omega), Int.tmod_eq_emod_of_nonneg (by omega), w64_id (by omega) (by omega)]
  omega
theorem r2Frac32 (a : Nat) (ha : a < 18446744073709551616) : Ev (fun k => r2_Frac.f k 32 a) ((a % 8388608 : Nat) : Int) := by
  unfold r2_Frac.f
  refine Ev.bs r2F32 (Ev.bind r2Tf32 (Ev.neg (by decide) (Ev.out ?_)))
  rw [Int.tmod_eq_emod_of_nonneg (by omega)]; omega
theorem r2Top32 : Ev (fun k => r2_Top.f k 32) ((255 : Nat) : Int) := by
  unfold r2_Top.f
  exact Ev.bs r2E32 (Ev.bind r2Te32 (Ev.out (by decide +kernel)))
theorem r2Make32 (s : Bool) (e fr : Nat) (he : e ≤ 255) (hf : fr < 8388608) : Ev (fun k => r2_Make.f k 32 s e fr) ((mkN 32 (e * 8388608 + fr) s : Nat) : Int) := by
  unfold r2_Make.f
  refine Ev.bs r2F32 (Ev.bind r2Tf32 ?_)
  rw [u64_id (n := (e : Int)) (by omega) (by omega), u64_id (n := (e : Int) * ((8388608 : Nat) : Int)) (by omega) (by omega), u64_id (n := (e : Int) * ((8388608 : Nat) : Int) + fr) (by omega) (by omega)]
  unfold mkN
  rw [show sb 32 = 2147483648 by decide]
  cases s
  · exact Ev.neg (by decide) (Ev.out (by simp))
  · refine Ev.pos rfl (Ev.bind r2Ts32 (Ev.out ?_))
    rw [u64_id (by omega) (by omega)]; simp only [if_true]; omega
theorem r2Nan32 : Ev (fun k => r2_Nan.f k 32) ((nanN 32 : Nat) : Int) := by
  unfold r2_Nan.f
  refine Ev.bind r2Top32 (Ev.bs r2F32 (Ev.bind r2Th32 (Ev.bind (r2Make32 false 255 4194304 (by decide) (by decide)) (Ev.out (by decide)))))
theorem r2Inf32 (s : Bool) : Ev (fun k => r2_Inf.f k 32 s) ((mkN 32 f32.inf s : Nat) : Int) := by
  unfold r2_Inf.f
  have h := r2Make32 s 255 0 (by decide) (by decide)
  exact Ev.bind r2Top32 (Ev.bind h (Ev.out (by rw [inf32])))
theorem r2Open32 (a : Nat) (ha : a < 18446744073709551616) : Ev (fun k => r2_Open.f k 32 a) (opn 32 a) := by
  rw [opn32]
  unfold r2_Open.f
  refine Ev.bind (r2Exp32 a ha) (Ev.bind (r2Frac32 a ha) (Ev.bind (r2Neg 32 (by decide) a ha) (Ev.bind r2Top32 ?_)))
  unfold sgB
  rw [show sb 32 = 2147483648 by decide]
  have hP : a % 2147483648 % 8388608 = a % 8388608 := by omega
  have hQ : a % 2147483648 / 8388608 = a / 8388608 % 256 := by omega
  have hT : a / 8388608 % 256 < 256 := Nat.mod_lt _ (by decide)
  have hE : a % 2147483648 = a / 8388608 % 256 * 8388608 + a % 8388608 := by omega
  rw [hP, hQ, hE]
  generalize a / 8388608 % 256 = e at *
  have hF : a % 8388608 < 8388608 := Nat.mod_lt _ (by decide)
  generalize a % 8388608 = fr at *
  generalize decide (a / 2147483648 % 2 = 1) = s
  by_cases h1 : e = 255
  · subst h1
    refine Ev.pos rfl ?_
    by_cases h2 : fr = 0
    · subst h2
      refine Ev.pos rfl (Ev.out ?_)
      rw [if_neg (by omega), if_neg (by omega), if_pos (by omega)]
    · refine Ev.neg (by omega) (Ev.out ?_)
      rw [if_neg (by omega), if_neg (by omega), if_neg (by omega)]
  · refine Ev.neg (by omega) ?_
    by_cases h2 : e = 0
    · subst h2
      refine Ev.pos rfl ?_
      by_cases h3 : fr = 0
      · subst h3
        refine Ev.pos rfl (Ev.out ?_)
        rw [Nat.zero_mul, Nat.zero_add, if_pos rfl]
      · refine Ev.neg (by omega) (Ev.bs r2B32 (Ev.bs r2F32 (Ev.out ?_)))
        rw [if_neg (by omega), if_pos (by omega), if_pos (by omega), if_pos (by omega), show wrap64 (wrap64 (1 - 127) - 23) = (-149 : Int) by decide +kernel]
        simp
    · refine Ev.neg (by omega) (Ev.bs r2B32 (Ev.bs r2F32 (Ev.bs r2F32 (Ev.bind r2Tf32 (Ev.out ?_)))))
      rw [if_neg (by omega), if_pos (by omega), if_neg (by omega), if_neg (by omega)]
      rw [w64_id (n := ((e : Nat) : Int) - 127) (by omega) (by omega), w64_id (by omega) (by omega), u64_id (by omega) (by omega)]
      congr 2
      congr 1
      omega

theorem r2E64 : r2_E.f 64 = some 11 := by decide +kernel
theorem r2F64 : r2_F.f 64 = some 52 := by decide +kernel
theorem r2B64 : r2_B.f 64 = some 1023 := by decide +kernel
theorem r2Tf64 : Ev (fun k => r2_Two.f k 52) ((4503599627370496 : Nat) : Int) := by have h := two_i (n := 52) 52 rfl (by decide); rw [show (2 : Nat) ^ 52 = 4503599627370496 by decide] at h; exact h
theorem r2Te64 : Ev (fun k => r2_Two.f k 11) ((2048 : Nat) : Int) := by have h := two_i (n := 11) 11 rfl (by decide); rw [show (2 : Nat) ^ 11 = 2048 by decide] at h; exact h
theorem r2Ts64 : Ev (fun k => r2_Two.f k (wrap64 (64 - 1))) ((9223372036854775808 : Nat) : Int) := by have h := two_i (n := wrap64 (64 - 1)) 63 (by decide +kernel) (by decide); rw [show (2 : Nat) ^ 63 = 9223372036854775808 by decide] at h; exact h
theorem r2Th64 : Ev (fun k => r2_Two.f k (wrap64 (52 - 1))) ((2251799813685248 : Nat) : Int) := by have h := two_i (n := wrap64 (52 - 1)) 51 (by decide +kernel) (by decide); rw [show (2 : Nat) ^ 51 = 2251799813685248 by decide] at h; exact h
theorem r2Exp64 (a : Nat) (ha : a < 18446744073709551616) : Ev (fun k => r2_Exp.f k 64 a) ((a / 4503599627370496 % 2048 : Nat) : Int) := by
  unfold r2_Exp.f
  refine Ev.bs (r2Cut 64 a (by decide)) (Ev.bs r2F64 (Ev.bind r2Tf64 (Ev.neg (by decide) (Ev.bs r2E64 (Ev.bind r2Te64 (Ev.neg (by decide) (Ev.out ?_)))))))
  have hc : cutN 64 a = a % 18446744073709551616 := by unfold cutN; rw [if_neg (by decide), if_pos rfl]; omega
  rw [hc, Int.tdiv_eq_ediv_of_nonneg (by omega), u64_id (by omega) (by omega), Int.tmod_eq_emod_of_nonneg (by omega), w64_id (by omega) (by omega)]
  omega
theorem r2Frac64 (a : Nat) (ha : a < 18446744073709551616) : Ev (fun k => r2_Frac.f k 64 a) ((a % 4503599627370496 : Nat) : Int) := by
  unfold r2_Frac.f
  refine Ev.bs r2F64 (Ev.bind r2Tf64 (Ev.neg (by decide) (Ev.out ?_)))
  rw [Int.tmod_eq_emod_of_nonneg (by omega)]; omega
theorem r2Top64 : Ev (fun k => r2_Top.f k 64) ((2047 : Nat) : Int) := by
  unfold r2_Top.f
  exact Ev.bs r2E64 (Ev.bind r2Te64 (Ev.out (by decide +kernel)))
theorem r2Make64 (s : Bool) (e fr : Nat) (he : e ≤ 2047) (hf : fr < 4503599627370496) : Ev (fun k => r2_Make.f k 64 s e fr) ((mkN 64 (e * 4503599627370496 + fr) s : Nat) : Int) := by
  unfold r2_Make.f
  refine Ev.bs r2F64 (Ev.bind r2Tf64 ?_)
  rw [u64_id (n := (e : Int)) (by omega) (by omega), u64_id (n := (e : Int) * ((4503599627370496 : Nat) : Int)) (by omega) (by omega), u64_id (n := (e : Int) * ((4503599627370496 : Nat) : Int) + fr) (by omega) (by omega)]
  unfold mkN
  rw [show sb 64 = 9223372036854775808 by decide]
  cases s
  · exact Ev.neg (by decide) (Ev.out (by simp))
  · refine Ev.pos rfl (Ev.bind r2Ts64 (Ev.out ?_))
    rw [u64_id (by omega) (by omega)]; simp only [if_true]; omega
theorem r2Nan64 : Ev (fun k => r2_Nan.f k 64) ((nanN 64 : Nat) : Int) := by
  unfold r2_Nan.f
  refine Ev.bind r2Top64 (Ev.bs r2F64 (Ev.bind r2Th64 (Ev.bind (r2Make64 false 2047 2251799813685248 (by decide) (by decide)) (Ev.out (by decide)))))
theorem r2Inf64 (s : Bool) : Ev (fun k => r2_Inf.f k 64 s) ((mkN 64 f64.inf s : Nat) : Int) := by
  unfold r2_Inf.f
  have h := r2Make64 s 2047 0 (by decide) (by decide)
  exact Ev.bind r2Top64 (Ev.bind h (Ev.out (by rw [inf64])))
theorem r2Open64 (a : Nat) (ha : a < 18446744073709551616) : Ev (fun k => r2_Open.f k 64 a) (opn 64 a) := by
  rw [opn64]
  unfold r2_Open.f
  refine Ev.bind (r2Exp64 a ha) (Ev.bind (r2Frac64 a ha) (Ev.bind (r2Neg 64 (by decide) a ha) (Ev.bind r2Top64 ?_)))
  unfold sgB
  rw [show sb 64 = 9223372036854775808 by decide]
  have hP : a % 9223372036854775808 % 4503599627370496 = a % 4503599627370496 := by omega
  have hQ : a % 9223372036854775808 / 4503599627370496 = a / 4503599627370496 % 2048 := by omega
  have hT : a / 4503599627370496 % 2048 < 2048 := Nat.mod_lt _ (by decide)
  have hE : a % 9223372036854775808 = a / 4503599627370496 % 2048 * 4503599627370496 + a % 4503599627370496 := by omega
  rw [hP, hQ, hE]
  generalize a / 4503599627370496 % 2048 = e at *
  have hF : a % 4503599627370496 < 4503599627370496 := Nat.mod_lt _ (by decide)
  generalize a % 4503599627370496 = fr at *
  generalize decide (a / 9223372036854775808 % 2 = 1) = s
  by_cases h1 : e = 2047
  · subst h1
    refine Ev.pos rfl ?_
    by_cases h2 : fr = 0
    · subst h2
      refine Ev.pos rfl (Ev.out ?_)
      rw [if_neg (by omega), if_neg (by omega), if_pos (by omega)]
    · refine Ev.neg (by omega) (Ev.out ?_)
      rw [if_neg (by omega), if_neg (by omega), if_neg (by omega)]
  · refine Ev.neg (by omega) ?_
    by_cases h2 : e = 0
    · subst h2
      refine Ev.pos rfl ?_
      by_cases h3 : fr = 0
      · subst h3
        refine Ev.pos rfl (Ev.out ?_)
        rw [Nat.zero_mul, Nat.zero_add, if_pos rfl]
      · refine Ev.neg (by omega) (Ev.bs r2B64 (Ev.bs r2F64 (Ev.out ?_)))
        rw [if_neg (by omega), if_pos (by omega), if_pos (by omega), if_pos (by omega), show wrap64 (wrap64 (1 - 1023) - 52) = (-1074 : Int) by decide +kernel]
        simp
    · refine Ev.neg (by omega) (Ev.bs r2B64 (Ev.bs r2F64 (Ev.bs r2F64 (Ev.bind r2Tf64 (Ev.out ?_)))))
      rw [if_neg (by omega), if_pos (by omega), if_neg (by omega), if_neg (by omega)]
      rw [w64_id (n := ((e : Nat) : Int) - 1023) (by omega) (by omega), w64_id (by omega) (by omega), u64_id (by omega) (by omega)]
      congr 2
      congr 1
      omega
theorem r2Open (w : Int) (hw : w = 32 ∨ w = 64) (a : Nat) (ha : a < 18446744073709551616) : Ev (fun k => r2_Open.f k w a) (opn w a) := by
  rcases hw with rfl | rfl
  · exact r2Open32 a ha
  · exact r2Open64 a ha
theorem cut_as_mk (w : Int) (hw : w = 32 ∨ w = 64) (a : Nat) (ha : a < 18446744073709551616) : cutN w a = mkN w (magN w a) (sgB w a) := by
  rw [cutN_eq w hw a ha]; rfl
end Go.Proofs.Ythdeeoallfbjmaa.Th
end
section
set_option linter.unusedVariables false
set_option linter.unusedSimpArgs false
namespace Go.Proofs.Ythdeeoallfbjmaa.Th
open Go.RowKit Go.Proofs.YthdeeoallfbjmaaW.PrintWords Go.Proofs.YthdeeoallfbjmaaW.PrintLast Go.Proofs.YthdeeoallfbjmaaW.PrintMore Go.Proofs.Ythdeeoallfbjmaa.PA Bit Flo Dig
theorem inf_pos (w : Int) (hw : w = 32 ∨ w = 64) : 0 < (fmt w).inf := by rcases hw with rfl | rfl <;> decide
theorem kinds (w : Int) (hw : w = 32 ∨ w = 64) (a : Nat) : (magN w a = 0 ∧ opn w a = (sgB w a, 0, 0, 0)) ∨ (0 < magN w a ∧ magN w a < (fmt w).inf ∧ opn w a = (sgB w a, 1, (fmt w).ex (magN w a), ((fmt w).sg (magN w a) : Int))) ∨ (magN w a = (fmt w).inf ∧ opn w a = (sgB w a, 2, 0, 0)) ∨ ((fmt w).inf < magN w a ∧ opn w a = (false, 3, 0, 0)) := by
  have h0 := inf_pos w hw
  unfold opn; simp only
  by_cases h1 : magN w a = 0
  · left; rw [if_pos h1]; exact ⟨h1, rfl⟩
  · right; rw [if_neg h1]
    by_cases h2 : magN w a < (fmt w).inf
    · left; rw [if_pos h2]; exact ⟨by omega, h2, rfl⟩
    · right; rw [if_neg h2]
      by_cases h3 : magN w a = (fmt w).inf
      · left; rw [if_pos h3]; exact ⟨h3, rfl⟩
      · right; rw [if_neg h3]; exact ⟨by omega, rfl⟩
theorem ex_bd (w : Int) (hw : w = 32 ∨ w = 64) (m : Nat) (h : m < (fmt w).inf) : -1074 ≤ (fmt w).ex m ∧ (fmt w).ex m ≤ 971 := by
  rcases hw with rfl | rfl
  · rw [fmt32, inf32] at h; rw [fmt32, ex32]; split <;> omega
  · rw [fmt64, inf64] at h; rw [fmt64, ex64]; split <;> omega
theorem sg_64 (w : Int) (hw : w = 32 ∨ w = 64) (m : Nat) : (fmt w).sg m < 9007199254740992 := by
  have h := (fmt w).sg_lt m
  rcases hw with rfl | rfl
  · rw [fmt32] at h ⊢; rw [show (2 : Nat) ^ (f32.f + 1) = 16777216 by decide] at h; omega
  · rw [fmt64] at h ⊢; rw [show (2 : Nat) ^ (f64.f + 1) = 9007199254740992 by decide] at h; omega
end Go.Proofs.Ythdeeoallfbjmaa.Th
end
section
set_option linter.unusedVariables false
set_option linter.unusedSimpArgs false
namespace Go.Proofs.Ythdeeoallfbjmaa.Th
open Flo
theorem fmt_bd (w : Int) : (fmt w).f < 100 ∧ (-5000 < (fmt w).low ∧ (fmt w).low < 0) ∧ (fmt w).top < 5000 := by
  unfold fmt; split <;> decide
theorem fmt_f (w : Int) : (fmt w).f ≤ 52 := by unfold fmt; split <;> decide
theorem pk_ex (w : Int) (S : Nat) (e : Int) (hS : S < 340282366920938463463374607431768211456) : pkm (fmt w) S e false = (fmt w).rnd ((S : Rat) * tw e) := by
  have h := fmt_bd w
  rw [← pkx_f, pkm_rnd _ h.1 h.2.1 h.2.2 S e false hS]
end Go.Proofs.Ythdeeoallfbjmaa.Th
end
section
set_option linter.unusedVariables false
set_option linter.unusedSimpArgs false
namespace Go.Proofs.Ythdeeoallfbjmaa.Th
open Go.RowKit Go.Proofs.YthdeeoallfbjmaaW.PrintWords Go.Proofs.YthdeeoallfbjmaaW.PrintLast Go.Proofs.YthdeeoallfbjmaaW.PrintMore Go.Proofs.Ythdeeoallfbjmaa.PA Dig

theorem one_dg : Ev (fun k => r1_Of.f k 1) (dg 1) := of_dg 1 (by decide)
theorem cmp_nonneg (m n : Nat) : cmpN m n ≥ 0 ↔ n ≤ m := by unfold cmpN; split <;> (try split) <;> omega
theorem div_loop (A n : Nat) (hn0 : 0 < n) (hA : bl A < 100000000) (hn : bl n < 100000000) (s : Nat) : ∀ (q m : Nat), s < 100000000 → q * n + m = A → m < n * 2 ^ s →
    Ev (fun k => r1_Div.l0 k ((s : Int) - 1) (dg n) (dg q) (dg m)) (dg (A / n), dg (A % n)) := by
  induction s with
  | zero =>
    intro q m _ he hm
    refine Ev.step (fun _ => r1_Div.l0.eq_2 ..) ?_
    refine Ev.neg (by omega) (Ev.out ?_)
    rw [Nat.pow_zero, Nat.mul_one] at hm
    have h1 : A / n = q := by rw [← he, Nat.mul_comm, Nat.mul_add_div hn0, Nat.div_eq_of_lt hm, Nat.add_zero]
    have h2 : A % n = m := by rw [← he, Nat.mul_comm, Nat.mul_add_mod, Nat.mod_eq_of_lt hm]
    rw [h1, h2]
  | succ s ih =>
    intro q m hs he hm
    have e1 : (((s + 1 : Nat) : Int) - 1) = ((s : Nat) : Int) := by omega
    rw [e1]
    have hm2 : m ≤ A := by omega
    have hq2 : q ≤ A := Nat.le_trans (Nat.le_mul_of_pos_right q hn0) (by omega)
    have b1 := bl_mono hm2
    have b2 := bl_mono hq2
    have b3 := bl_shl n s
    have hw : wrap64 ((s : Int) - 1) = (s : Int) - 1 := w64_id (by omega) (by omega)
    refine Ev.step (fun _ => r1_Div.l0.eq_2 ..) ?_
    rw [hw]
    refine Ev.pos (by omega) (Ev.bind (shl_bl n s (by omega) (by omega)) (Ev.bind (cmp_bl m (n * 2 ^ s) (by omega) (by omega)) ?_))
    by_cases h : n * 2 ^ s ≤ m
    · refine Ev.pos ((cmp_nonneg _ _).2 h) (Ev.bind (sub_bl m (n * 2 ^ s) h (by omega)) (Ev.bind one_dg (Ev.bind (shl_bl 1 s (by omega) (by decide)) ?_)))
      have h3 : 2 ^ s ≤ A := Nat.le_trans (Nat.le_mul_of_pos_left _ hn0) (Nat.le_trans h hm2)
      have b4 := bl_mono h3
      rw [Nat.one_mul]
      refine Ev.bind (add_bl q (2 ^ s) (by omega) (by omega)) (ih (q + 2 ^ s) (m - n * 2 ^ s) (by omega) ?_ ?_)
      · rw [Nat.add_mul, Nat.mul_comm (2 ^ s) n]; omega
      · rw [Nat.pow_succ, ← Nat.mul_assoc] at hm; omega
    · exact Ev.neg (fun h' => h ((cmp_nonneg _ _).1 h')) (ih q m (by omega) he (by omega))
theorem div_dg (a b : Nat) (hb : 0 < b) (ha1 : bl a < 100000000) (hb1 : bl b < 100000000) : Ev (fun k => r1_Div.f k (dg a) (dg b)) (dg (a / b), dg (a % b)) := by
  unfold r1_Div.f
  refine Ev.bind (len_dg a (by omega)) (Ev.bind (len_dg b (by omega)) ?_)
  rw [w64_id (by omega) (by omega)]
  by_cases h : bl b ≤ bl a
  · rw [show ((bl a : Nat) : Int) - ((bl b : Nat) : Int) = (((bl a - bl b + 1 : Nat) : Int) - 1) by omega, ← dg_zero]
    have h4 := bl_pos.2 hb
    refine div_loop a b hb ha1 hb1 (bl a - bl b + 1) 0 a (by omega) (by simp) ?_
    have h1 := lt_two_bl a
    have h2 := two_bl_le hb
    have h3 : 2 ^ (bl b - 1) * 2 ^ (bl a - bl b + 1) ≤ b * 2 ^ (bl a - bl b + 1) := Nat.mul_le_mul_right _ h2
    rw [← Nat.pow_add, show bl b - 1 + (bl a - bl b + 1) = bl a by omega] at h3
    omega
  · refine Ev.step (fun _ => r1_Div.l0.eq_2 ..) ?_
    have h1 : a < b := by
      rcases Nat.lt_or_ge a b with h1 | h1
      · exact h1
      · exact absurd (bl_mono h1) h
    refine Ev.neg (by omega) (Ev.out ?_)
    rw [Nat.div_eq_of_lt h1, Nat.mod_eq_of_lt h1, dg_zero]
theorem dg_len_pos (n : Nat) : decide (((dg n).length : Int) > 0) = decide (0 < n) := by
  have := len_pos (n := n)
  by_cases h : 0 < n
  · rw [decide_eq_true h, decide_eq_true (by omega)]
  · rw [decide_eq_false h, decide_eq_false (by omega)]
theorem half_dg (a n : Nat) (ha : bl a < 100000000) (hn : n < 90000000) : Ev (fun k => r1_Half.f k (dg a) n) (dg (a / 2 ^ n), decide (0 < a % 2 ^ n)) := by
  unfold r1_Half.f
  have h1 := bl_two n
  refine Ev.bind one_dg (Ev.bind (shl_bl 1 n (by omega) (by decide)) ?_)
  rw [Nat.one_mul]
  refine Ev.bind (div_dg a (2 ^ n) (Nat.pow_pos (by decide)) ha (by omega)) (Ev.out ?_)
  rw [dg_len_pos]
end Go.Proofs.Ythdeeoallfbjmaa.Th
end
section
set_option linter.unusedVariables false
set_option linter.unusedSimpArgs false
namespace Go.Proofs.Ythdeeoallfbjmaa.Th
open Go.RowKit Go.Proofs.YthdeeoallfbjmaaW.PrintWords Go.Proofs.YthdeeoallfbjmaaW.PrintLast Go.Proofs.YthdeeoallfbjmaaW.PrintMore Go.Proofs.Ythdeeoallfbjmaa.PA Bit Dig Flo
theorem r2Fw (w : Int) (hw : w = 32 ∨ w = 64) : r2_F.f w = some (((fmt w).f : Nat) : Int) := by rcases hw with rfl | rfl <;> decide +kernel
theorem r3Low (w : Int) (hw : w = 32 ∨ w = 64) : r3_Low.f w = some (fmt w).low := by rcases hw with rfl | rfl <;> decide +kernel
theorem r2Topw (w : Int) (hw : w = 32 ∨ w = 64) : Ev (fun k => r2_Top.f k w) (((fmt w).top : Nat) : Int) := by rcases hw with rfl | rfl; exact r2Top32; exact r2Top64
theorem r2Tfw (w : Int) (hw : w = 32 ∨ w = 64) : Ev (fun k => r2_Two.f k (((fmt w).f : Nat) : Int)) ((2 ^ (fmt w).f : Nat) : Int) := two_f _ (by have := (fmt_f w); omega)
theorem r2Infw (w : Int) (hw : w = 32 ∨ w = 64) (s : Bool) : Ev (fun k => r2_Inf.f k w s) ((mkN w (fmt w).inf s : Nat) : Int) := by rcases hw with rfl | rfl; exact r2Inf32 s; exact r2Inf64 s
theorem r2Nanw (w : Int) (hw : w = 32 ∨ w = 64) : Ev (fun k => r2_Nan.f k w) ((nanN w : Nat) : Int) := by rcases hw with rfl | rfl; exact r2Nan32; exact r2Nan64
theorem r2Makew (w : Int) (hw : w = 32 ∨ w = 64) (s : Bool) (e fr : Nat) (he : e ≤ (fmt w).top) (hf : fr < 2 ^ (fmt w).f) : Ev (fun k => r2_Make.f k w s e fr) ((mkN w (e * 2 ^ (fmt w).f + fr) s : Nat) : Int) := by
  rcases hw with rfl | rfl
  · exact r2Make32 s e fr he hf
  · exact r2Make64 s e fr he hf
theorem len_zero (n : Nat) : ((dg n).length : Int) = 0 ↔ n = 0 := by
  have := @len_pos n
  omega
theorem quotS (a b : Nat) (hb : 0 < b) (ha1 : bl a < 10000000) (hb1 : bl b < 10000000) : Ev (fun k => r3_Quotient.f k (dg a) (dg b)) (dg (rne a b)) := by
  unfold r3_Quotient.f
  have hm : bl (a % b) ≤ bl a := bl_mono (Nat.mod_le _ _)
  have hq : bl (a / b) ≤ bl a := bl_mono (Nat.div_le_self _ _)
  have hs := bl_shl (a % b) 1
  refine Ev.bind (div_dg a b hb (by omega) (by omega)) (Ev.bind (shl_bl (a % b) 1 (by decide) (by omega)) ?_)
  rw [show a % b * 2 ^ 1 = 2 * (a % b) by omega] at *
  refine Ev.bind (cmp_bl _ b (by omega) (by omega)) ?_
  have yes : Ev (fun k => r3_Quotient.j0 k true (dg (a / b))) (dg (a / b + 1)) :=
    Ev.step (fun _ => r3_Quotient.j0.eq_2 ..) (Ev.pos rfl (Ev.bind (of_dg 1 (by decide)) (Ev.bind (add_bl (a / b) 1 (by omega) (by decide)) (Ev.out rfl))))
  have no : Ev (fun k => r3_Quotient.j0 k false (dg (a / b))) (dg (a / b)) :=
    Ev.step (fun _ => r3_Quotient.j0.eq_2 ..) (Ev.neg (by decide) (Ev.out rfl))
  unfold cmpN rne
  by_cases h1 : b < 2 * (a % b)
  · rw [if_neg (show ¬ 2 * (a % b) < b by omega), if_pos h1, if_pos (.inl h1)]
    exact Ev.pos (by decide) yes
  · by_cases h2 : 2 * (a % b) = b
    · rw [if_neg (show ¬ 2 * (a % b) < b by omega), if_neg h1]
      refine Ev.neg (by decide) (Ev.pos rfl (Ev.bs (uint_dg _) ?_))
      have e : (Int.tmod ((a / b % 18446744073709551616 : Nat) : Int) 2 == 1) = decide (a / b % 2 = 1) := by
        rw [Int.tmod_eq_emod_of_nonneg (by omega), Bool.eq_iff_iff]; simp; omega
      rw [e]
      by_cases h3 : a / b % 2 = 1
      · rw [decide_eq_true h3, if_pos (.inr ⟨h2, h3⟩)]; exact yes
      · rw [decide_eq_false h3, if_neg (by omega)]; exact no
    · rw [if_pos (show 2 * (a % b) < b by omega), if_neg (by omega)]
      exact Ev.neg (by decide) (Ev.neg (by decide) no)
theorem underS (a b : Nat) (s : Int) (ha1 : bl a < 1000000) (hb1 : bl b < 1000000) (hs : -1000000 < s ∧ s < 1000000) : Ev (fun k => r3_under.f k (dg a) (dg b) s) (decide ((a : Rat) * tw s < (b : Rat))) := by
  unfold r3_under.f
  have hc : ∀ m n : Nat, decide (cmpN m n < 0) = decide (m < n) := fun m n => by
    unfold cmpN
    by_cases h : m < n
    · rw [if_pos h, decide_eq_true h]; rfl
    · rw [if_neg h, decide_eq_false h]; split <;> rfl
  by_cases h : s ≥ 0
  · obtain ⟨n, rfl⟩ := Int.eq_ofNat_of_zero_le h
    have h2 := bl_shl a n
    refine Ev.pos h (Ev.bind (shl_bl a n (by omega) (by omega)) (Ev.bind (cmp_bl _ b (by omega) (by omega)) (Ev.out ?_)))
    rw [hc]
    refine decide_eq_decide.2 ?_
    rw [tw_nat, ← nat_lt]; push_cast; rfl
  · obtain ⟨n, hn⟩ := Int.eq_ofNat_of_zero_le (show 0 ≤ -s by omega)
    have h2 := bl_shl b n
    obtain rfl : s = -(n : Int) := by omega
    refine Ev.neg h ?_
    rw [w64_id (by omega) (by omega), Int.neg_neg]
    refine Ev.bind (shl_bl b n (by omega) (by omega)) (Ev.bind (cmp_bl a _ (by omega) (by omega)) (Ev.out ?_))
    rw [hc]
    refine decide_eq_decide.2 ?_
    have T := tw_pos (n : Int)
    have e1 : tw (-(n : Int)) * tw n = 1 := by rw [← tw_add, Int.add_left_neg, tw_zero]
    have e2 : ((b * 2 ^ n : Nat) : Rat) = (b : Rat) * tw n := by rw [tw_nat]; push_cast; rfl
    rw [← nat_lt, e2]
    constructor
    · intro h3
      refine lt_of_mul (t := tw n) ?_ T
      rw [Rat.mul_assoc, e1, Rat.mul_one]; exact h3
    · intro h3
      have := mul_lt h3 T
      rwa [Rat.mul_assoc, e1, Rat.mul_one] at this
theorem grainS (a b : Nat) (s : Int) (hb : 0 < b) (ha1 : bl a < 1000000) (hb1 : bl b < 1000000) (hs : -1000000 < s ∧ s < 1000000) : ∃ A B : Nat, 0 < B ∧ (∀ x : Rat, x * (b : Rat) = (a : Rat) * tw s → x * (B : Rat) = (A : Rat)) ∧ Ev (fun k => r3_grain.f k (dg a) (dg b) s) (dg (rne A B)) := by
  unfold r3_grain.f
  by_cases h : s ≥ 0
  · obtain ⟨n, rfl⟩ := Int.eq_ofNat_of_zero_le h
    have h2 := bl_shl a n
    refine ⟨a * 2 ^ n, b, hb, fun x hx => ?_, Ev.pos h (Ev.bind (shl_bl a n (by omega) (by omega)) (Ev.bind (quotS _ b hb (by omega) (by omega)) (Ev.out rfl)))⟩
    rw [hx, tw_nat]; push_cast; rfl
  · obtain ⟨n, hn⟩ := Int.eq_ofNat_of_zero_le (show 0 ≤ -s by omega)
    have h2 := bl_shl b n
    obtain rfl : s = -(n : Int) := by omega
    refine ⟨a, b * 2 ^ n, Nat.mul_pos hb (Nat.pow_pos (by decide)), fun x hx => ?_, ?_⟩
    · have e1 : tw (-(n : Int)) * tw n = 1 := by rw [← tw_add, Int.add_left_neg, tw_zero]
      have e2 : ((b * 2 ^ n : Nat) : Rat) = (b : Rat) * tw n := by rw [tw_nat]; push_cast; rfl
      rw [e2, ← Rat.mul_assoc, hx, Rat.mul_assoc, e1, Rat.mul_one]
    · refine Ev.neg h ?_
      rw [w64_id (by omega) (by omega), Int.neg_neg]
      exact Ev.bind (shl_bl b n (by omega) (by omega)) (Ev.bind (quotS a _ (Nat.mul_pos hb (Nat.pow_pos (by decide))) (by omega) (by omega)) (Ev.out rfl))
theorem finS (w : Int) (hw : w = 32 ∨ w = 64) (s : Bool) (q n : Nat) (hn : n < 2 ^ (fmt w).f * 2) (hl : 0 < q → 2 ^ (fmt w).f ≤ n) (hq : q < 1000000) :
    Ev (fun k => r3_Near.j2 k w s (((fmt w).f : Nat) : Int) ((q : Int) + (fmt w).low) (dg n)) ((mkN w (if (fmt w).top < q + 2 then (fmt w).inf else if n < 2 ^ (fmt w).f then n else (q + 1) * 2 ^ (fmt w).f + (n - 2 ^ (fmt w).f)) s : Nat) : Int) := by
  have hb := fmt_bd w
  have hp : 2 ^ (fmt w).f ≤ 4503599627370496 := by
    rw [show (4503599627370496 : Nat) = 2 ^ 52 by decide]; exact Nat.pow_le_pow_right (by decide) (fmt_f w)
  have ht := (fmt w).ht
  refine Ev.step (fun _ => r3_Near.j2.eq_2 ..) (Ev.bs (r3Low w hw) (Ev.bind (r2Topw w hw) ?_))
  rw [w64_id (n := (fmt w).low + ((fmt w).top : Int)) (by omega) (by omega), w64_id (by omega) (by omega)]
  by_cases c1 : (fmt w).top < q + 2
  · rw [if_pos c1]
    exact Ev.pos (by omega) (Ev.bind (r2Infw w hw s) (Ev.out rfl))
  · rw [if_neg c1]
    refine Ev.neg (by omega) (Ev.bs (uint_dg n) (Ev.bind (r2Tfw w hw) ?_))
    rw [Nat.mod_eq_of_lt (by omega)]
    by_cases c2 : n < 2 ^ (fmt w).f
    · rw [if_pos c2]
      have := r2Makew w hw s 0 n (Nat.zero_le _) c2
      rw [Nat.zero_mul, Nat.zero_add] at this
      exact Ev.pos (by exact_mod_cast c2) (Ev.bind this (Ev.out rfl))
    · rw [if_neg c2]
      have := r2Makew w hw s (q + 1) (n - 2 ^ (fmt w).f) (by omega) (by omega)
      refine Ev.neg (by intro k; exact c2 (by exact_mod_cast k)) (Ev.bs (r3Low w hw) (Ev.bind (r2Tfw w hw) ?_))
      rw [show (q : Int) + (fmt w).low - (fmt w).low = q by omega, w64_id (n := (q : Int)) (by omega) (by omega), w64_id (by omega) (by omega), u64_id (by omega) (by omega), show (n : Int) - ((2 ^ (fmt w).f : Nat) : Int) = ((n - 2 ^ (fmt w).f : Nat) : Int) by omega]
      exact Ev.bind this (Ev.out rfl)
theorem nearS (w : Int) (hw : w = 32 ∨ w = 64) (s : Bool) (a b : Nat) (kk : Int) (ha : 0 < a) (hb : 0 < b) (ha1 : bl a < 100000) (hb1 : bl b < 100000) (hk : -10000 < kk ∧ kk < 10000) (x : Rat) (hx : x * (b : Rat) = (a : Rat) * tw kk) :
    Ev (fun k => r3_Near.f k w s (dg a) (dg b) kk) ((mkN w ((fmt w).rnd x) s : Nat) : Int) := by
  have bd := fmt_bd w
  have hff := fmt_f w
  have h3 : ∀ n : Nat, 0 < n → 2 ^ bl n ≤ 2 * n := fun n h => by
    have h1 := two_bl_le h
    have h0 := bl_pos.2 h
    have : 2 ^ bl n = 2 ^ (bl n - 1) * 2 := by rw [← Nat.pow_succ]; congr 1; omega
    omega
  have mx_ : ∀ a b : Int, mx a b = max a b := fun a b => by unfold mx; split <;> omega
  unfold r3_Near.f
  refine Ev.bs (r2Fw w hw) (Ev.bind (len_dg a (by omega)) (Ev.bind (len_dg b (by omega)) (Ev.bs (r3Low w hw) (Ev.bs (r3Low w hw) ?_))))
  rw [w64_id (n := ((bl a : Nat) : Int) - ((bl b : Nat) : Int)) (by omega) (by omega), w64_id (n := ((bl a : Nat) : Int) - ((bl b : Nat) : Int) + kk) (by omega) (by omega), w64_id (by omega) (by omega), mx_]
  obtain ⟨q0, hq0⟩ : ∃ q0, max ((bl a : Int) - bl b + kk - (fmt w).f) (fmt w).low = q0 := ⟨_, rfl⟩
  rw [hq0]
  have hqb : (fmt w).low ≤ q0 ∧ q0 < 200000 := by omega
  have hB' : (0 : Rat) < (b : Rat) := by exact_mod_cast hb
  -- the test
  have hunder : Ev (fun k => r3_under.f k (dg a) (dg b) (kk - q0 - (fmt w).f)) (decide (x < tw (q0 + (fmt w).f))) := by
    have := underS a b (kk - q0 - (fmt w).f) (by omega) (by omega) (by omega)
    have e : decide ((a : Rat) * tw (kk - q0 - (fmt w).f) < (b : Rat)) = decide (x < tw (q0 + (fmt w).f)) := by
      refine decide_eq_decide.2 ?_
      have T := tw_pos (q0 + (fmt w).f)
      have e1 : tw kk = tw (kk - q0 - (fmt w).f) * tw (q0 + (fmt w).f) := by rw [← tw_add]; congr 1; omega
      constructor
      · intro h
        have := mul_lt h T
        rw [Rat.mul_assoc, ← e1, ← hx] at this
        exact lt_of_mul (t := (b : Rat)) (by grind) hB'
      · intro h
        have := mul_lt h hB'
        rw [hx, e1, ← Rat.mul_assoc] at this
        exact lt_of_mul (t := tw (q0 + (fmt w).f)) (by grind) T
    rw [e] at this
    exact this
  obtain ⟨q1, hq1⟩ : ∃ q1, (if (fmt w).low < q0 ∧ x < tw (q0 + (fmt w).f) then q0 - 1 else q0) = q1 := ⟨_, rfl⟩
  obtain ⟨d1, d2, d3⟩ := Fmt.Rnd.doc (fmt w) (h3 a ha) (lt_two_bl a) hb (h3 b hb) (lt_two_bl b) hx hq0.symm hq1.symm
  obtain ⟨q, hq⟩ := Int.eq_ofNat_of_zero_le (show 0 ≤ q1 - (fmt w).low by omega)
  have hqq : q1 = (q : Int) + (fmt w).low := by omega
  have hqn : q < 100000000 := by
    have : q1 ≤ q0 := by rw [← hq1]; split <;> omega
    omega
  obtain ⟨A, B, hBp, hAB, hg⟩ := grainS a b (kk - q1) hb (by omega) (by omega) (by omega)
  have hxe : x * (B : Rat) = (A : Rat) * tw (q + (fmt w).low) := by
    have T := tw_pos (-q1)
    have e1 : tw (-q1) * tw q1 = 1 := by rw [← tw_add, Int.add_left_neg, tw_zero]
    have e2 : tw (kk - q1) = tw kk * tw (-q1) := by rw [← tw_add]; congr 1
    have := hAB (x * tw (-q1)) (by rw [e2, ← Rat.mul_assoc, ← hx]; grind)
    rw [← this, ← hqq]
    grind
  have hx2 : x < tw (q + (fmt w).low + (fmt w).f + 1) := by rw [← hqq]; exact d2
  have hl2 : 0 < q → tw (q + (fmt w).low + (fmt w).f) ≤ x := fun h => by rw [← hqq]; exact d3 (by omega)
  obtain ⟨n1, n2⟩ := (fmt w).make_bd hx2 hl2 (fun h => (fmt w).near_lo hBp hxe h) ((fmt w).near_hi hBp hxe)
  have R := Fmt.Rnd.near (fmt w) hBp hxe hx2 hl2
  rw [(fmt w).rnd_of R, ← (fmt w).fin_eq n1 n2]
  have p2 : 2 ^ ((fmt w).f + 1) = 2 ^ (fmt w).f * 2 := Nat.pow_succ ..
  have pp := (fmt w).pow_pos
  generalize hN : rne A B = n at *
  have ln : bl n ≤ (fmt w).f + 2 := bl_le.2 (by rw [Nat.pow_succ]; omega)
  have hqs : q < 1000000 := by
    have : q1 ≤ q0 := by rw [← hq1]; split <;> omega
    omega
  have tail : Ev (fun k => r3_Near.j1 k w s kk (((fmt w).f : Nat) : Int) q1 (dg a) (dg b)) ((mkN w ((fmt w).fin q n) s : Nat) : Int) := by
    refine Ev.step (fun _ => r3_Near.j1.eq_2 ..) ?_
    rw [w64_id (n := kk - q1) (by omega) (by omega), w64_id (n := (((fmt w).f : Nat) : Int) + 1) (by omega) (by omega)]
    refine Ev.bind hg (Ev.bind (len_dg n (by omega)) ?_)
    by_cases c : n = 2 ^ ((fmt w).f + 1)
    · have hbn : bl n = (fmt w).f + 2 := by rw [c, bl_two]
      have hh := half_dg n 1 (by omega) (by decide)
      have e5 : n / 2 ^ 1 = 2 ^ (fmt w).f := by rw [c, Nat.pow_succ, Nat.pow_one]; omega
      rw [e5] at hh
      refine Ev.pos (by omega) (Ev.bind hh ?_)
      rw [w64_id (by omega) (by omega)]
      have := finS w hw s (q + 1) (2 ^ (fmt w).f) (by omega) (fun _ => Nat.le_refl _) (by omega)
      rw [show (((q + 1 : Nat) : Int) + (fmt w).low) = q1 + 1 by omega] at this
      have e6 : (fmt w).fin q n = (if (fmt w).top < q + 1 + 2 then (fmt w).inf else if 2 ^ (fmt w).f < 2 ^ (fmt w).f then 2 ^ (fmt w).f else (q + 1 + 1) * 2 ^ (fmt w).f + (2 ^ (fmt w).f - 2 ^ (fmt w).f)) := by
        unfold Fmt.fin
        rw [if_pos c, if_neg (Nat.lt_irrefl _), Nat.sub_self]
        rfl
      rw [e6]; exact this
    · have hbn : bl n ≤ (fmt w).f + 1 := bl_le.2 (by omega)
      refine Ev.neg (by omega) ?_
      have := finS w hw s q n (by omega) n2 hqs
      rw [← hqq] at this
      have e6 : (fmt w).fin q n = (if (fmt w).top < q + 2 then (fmt w).inf else if n < 2 ^ (fmt w).f then n else (q + 1) * 2 ^ (fmt w).f + (n - 2 ^ (fmt w).f)) := by
        unfold Fmt.fin
        rw [if_neg c]
      rw [e6]; exact this
  by_cases c : (fmt w).low < q0
  · refine Ev.pos c ?_
    rw [w64_id (n := kk - q0) (by omega) (by omega), w64_id (n := kk - q0 - ((fmt w).f : Int)) (by omega) (by omega)]
    refine Ev.bind hunder (Ev.step (fun _ => r3_Near.j0.eq_2 ..) ?_)
    by_cases c2 : x < tw (q0 + (fmt w).f)
    · rw [decide_eq_true c2]
      rw [if_pos ⟨c, c2⟩] at hq1
      refine Ev.pos rfl ?_
      rw [w64_id (by omega) (by omega), hq1]; exact tail
    · rw [decide_eq_false c2]
      rw [if_neg (fun h => c2 h.2)] at hq1
      refine Ev.neg (by decide) ?_
      rw [hq1]; exact tail
  · rw [if_neg (fun h => c h.1)] at hq1
    refine Ev.neg c (Ev.step (fun _ => r3_Near.j0.eq_2 ..) (Ev.neg (by decide) ?_))
    rw [hq1]; exact tail
theorem zero_mul' (w : Int) (hw : w = 32 ∨ w = 64) (s : Bool) : Ev (fun k => r2_Make.f k w s 0 0) ((mkN w 0 s : Nat) : Int) := by
  have := r2Makew w hw s 0 0 (Nat.zero_le _) ((fmt w).pow_pos)
  rwa [Nat.zero_mul] at this
theorem exactS (w : Int) (hw : w = 32 ∨ w = 64) (s : Bool) (n : Nat) (e : Int) (hn : bl n < 2900) : Ev (fun k => r3_Exact.f k w s (dg n) e) ((mkN w ((fmt w).rnd ((n : Rat) * tw e)) s : Nat) : Int) := by
  have bd := fmt_bd w
  have hff := fmt_f w
  have ht := (fmt w).ht
  unfold r3_Exact.f
  have z := zero_mul' w hw s
  by_cases h0 : n = 0
  · subst h0
    rw [show ((0 : Nat) : Rat) * tw e = 0 by simp, Fmt.rnd_zero]
    exact Ev.pos ((len_zero 0).2 rfl) (Ev.step (fun _ => r3_Exact.j0.eq_2 ..) (Ev.pos rfl (Ev.bind z (Ev.out rfl))))
  · refine Ev.neg (fun k => h0 ((len_zero n).1 k)) (Ev.step (fun _ => r3_Exact.j0.eq_2 ..) ?_)
    have hlt := lt_two_bl n
    by_cases c1 : e < -4000
    · have : (fmt w).rnd ((n : Rat) * tw e) = 0 := by
        refine (fmt w).rnd_of (Fmt.Rnd.tiny _ ?_)
        have h4 := mul_lt (nat_lt.2 hlt) (tw_pos e)
        rw [← tw_nat, ← tw_add] at h4
        have h5 : tw ((bl n : Nat) + e) ≤ tw ((fmt w).low - 1) := tw_le (by
          have : -1100 ≤ (fmt w).low := by unfold fmt; split <;> decide
          omega)
        grind
      rw [this]
      exact Ev.pos (decide_eq_true c1) (Ev.bind z (Ev.out rfl))
    · refine Ev.neg (fun k => c1 (of_decide_eq_true k)) ?_
      by_cases c2 : e > 4000
      · have : (fmt w).rnd ((n : Rat) * tw e) = (fmt w).inf := by
          refine (fmt w).rnd_inf ?_
          rw [(fmt w).val_inf]
          have h2 : ((1 : Nat) : Rat) ≤ (n : Rat) := nat_le.2 (by omega)
          have h3 := mul_le h2 (tw_pos e)
          have h4 : tw ((fmt w).top - 1 + (fmt w).low + (fmt w).f) ≤ tw e := tw_le (by
            have : ((fmt w).top : Int) - 1 + (fmt w).low + (fmt w).f ≤ 1100 := by unfold fmt; split <;> decide
            omega)
          have h5 : ((1 : Nat) : Rat) * tw e = tw e := by simp
          rw [h5] at h3
          exact Rat.le_trans h4 h3
        rw [this]
        exact Ev.pos c2 (Ev.bind (r2Infw w hw s) (Ev.out rfl))
      · refine Ev.neg c2 (Ev.bind (of_dg 1 (by decide)) (Ev.bind (nearS w hw s n 1 e (by omega) (by decide) (by omega) (by decide) (by omega) _ ?_) (Ev.out rfl)))
        simp
end Go.Proofs.Ythdeeoallfbjmaa.Th
end
section
set_option linter.unusedVariables false
set_option linter.unusedSimpArgs false
namespace Go.Proofs.Ythdeeoallfbjmaa.Th
open Go.RowKit Go.Proofs.YthdeeoallfbjmaaW.PrintWords Go.Proofs.YthdeeoallfbjmaaW.PrintLast Go.Proofs.YthdeeoallfbjmaaW.PrintMore Go.Proofs.Ythdeeoallfbjmaa.PA Bit Flo
theorem packE (w : Int) (hw : w = 32 ∨ w = 64) (s : Bool) (h l : Nat) (hh : h < 18446744073709551616) (hl : l < 18446744073709551616) (e : Int) (m : Bool) : round_Pack.f w s h l e m = some ((mkN w (pkm (fmt w) (wn h l) e m) s : Nat) : Int) := by
  unfold round_Pack.f
  rw [if_pos (by omega), if_pos hw, Int.toNat_natCast, Int.toNat_natCast]
theorem pack1 (w : Int) (hw : w = 32 ∨ w = 64) (s : Bool) (n : Nat) (hn : n < 18446744073709551616) (e : Int) : round_Pack.f w s 0 n e false = some ((mkN w ((fmt w).rnd ((n : Rat) * tw e)) s : Nat) : Int) := by
  have := packE w hw s 0 n (by decide) hn e false
  rw [show wn 0 n = n by unfold wn; omega, pk_ex w n e (by omega)] at this
  exact this
theorem shN (w : Int) (hw : w = 32 ∨ w = 64) : shape_Nan.f w = some ((nanN w : Nat) : Int) := by rcases hw with rfl | rfl; exact shNan32; exact shNan64
end Go.Proofs.Ythdeeoallfbjmaa.Th
end
