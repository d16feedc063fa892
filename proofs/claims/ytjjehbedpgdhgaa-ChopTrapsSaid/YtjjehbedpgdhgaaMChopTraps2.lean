/- What the Go functions that the statement ChopTraps reaches compute, and the mathematics on it, in the order in which one leans on the other; for every input. -/
import Derived.Test.YtjjehbedpgdhgaaVChopTraps0
import Derived.Test.YtjjehbedpgdhgaaMChopTraps0
import Derived.Test.YtjjehbedpgdhgaaMChopTraps1
namespace Go.Proofs.Ytjjehbedpgdhgaa.PA
open Go.RowKit Go.Proofs.YtjjehbedpgdhgaaW.PrintWords Go.Proofs.YtjjehbedpgdhgaaW.PrintLast Go.Proofs.YtjjehbedpgdhgaaW.PrintMore
attribute [local go_sem] max2_int min2_int max_two min_two max_three min_three max_four min_four   -- for this text's walks alone
set_option linter.unusedVariables false
set_option linter.unusedSimpArgs false
set_option maxHeartbeats 8000000
set_option maxRecDepth 100000
def chop_chopped.j0 : Nat → Int → Bool → Int → Bool → Int → Int → Int → Option (Int × Int)
 | 0, _, _, _, _, _, _, _ => none
 | k + 1, x1, x3, x11, x433000, x433001, x433002, x433003 => if x433001 = 3 then (some (0, 1)) else (if x433001 = 2 then (some (0, x11)) else (if x433001 = 0 then (some (0, 0)) else ((chop_amount.f x433000 x433001 x433002 x433003).bind fun bt433 => (if bt433.2 = true then ((chop_sized.f k x433000 bt433.1 x1 x3).bind fun t435 => (if x433000 = true then ((shape_Cut.f x1 (IntKind.u64.wrap (-bt433.1))).bind fun t436 => (some (t436, t435))) else ((shape_Cut.f x1 bt433.1).bind fun t437 => (some (t437, t435))))) else (some (0, x11))))))
def chop_chopped.f (k : Nat) (a0 : Int) (a1 : Int) (a2 : Int) (a3 : Bool) : Option (Int × Int) := (shape_Open.f k a0 a2).bind fun bt428 => (if bt428.1 = true then (chop_chopped.j0 k a1 a3 2 bt428.1 bt428.2.1 bt428.2.2.1 bt428.2.2.2) else (chop_chopped.j0 k a1 a3 3 bt428.1 bt428.2.1 bt428.2.2.1 bt428.2.2.2))
theorem chop_chopped.mono_l : ∀ k, (∀ y0 y1 y2 y3 y4 y5 y6, LeO (chop_chopped.j0 k y0 y1 y2 y3 y4 y5 y6) (chop_chopped.j0 (k + 1) y0 y1 y2 y3 y4 y5 y6))
 | 0 => fun _ _ _ _ _ _ _ r h => by simp [chop_chopped.j0] at h
 | k + 1 => by
  have ih0 := chop_chopped.mono_l k
  ·intro y0 y1 y2 y3 y4 y5 y6
   unfold chop_chopped.j0
   repeat' first
   | (with_reducible exact ih0 _ _ _ _ _ _ _)
   | (with_reducible exact chop_sized.mono _ _ _ _ _)
   | (with_reducible exact shape_Open.mono _ _ _)
   | (with_reducible exact LeO.refl _)
   | (with_reducible exact LeO.none _)
   | (with_reducible refine LeO.ite ?_ ?_)
   | (with_reducible refine LeO.bind ?_ (fun _ => ?_))
   | exact ih0 _ _ _ _ _ _ _
   | exact chop_sized.mono _ _ _ _ _
   | exact shape_Open.mono _ _ _
   | exact LeO.none _
   | refine LeO.ite ?_ ?_
   | refine LeO.bind ?_ (fun _ => ?_)
theorem chop_chopped.mono : ∀ a0 a1 a2 a3 k, LeO (chop_chopped.f k a0 a1 a2 a3) (chop_chopped.f (k + 1) a0 a1 a2 a3) := by
 intro a0 a1 a2 a3 k
 have ih0 := chop_chopped.mono_l k
 unfold chop_chopped.f
 repeat' first
   | (with_reducible exact ih0 _ _ _ _ _ _ _)
   | (with_reducible exact chop_sized.mono _ _ _ _ _)
   | (with_reducible exact shape_Open.mono _ _ _)
   | (with_reducible exact LeO.refl _)
   | (with_reducible exact LeO.none _)
   | (with_reducible refine LeO.ite ?_ ?_)
   | (with_reducible refine LeO.bind ?_ (fun _ => ?_))
   | exact ih0 _ _ _ _ _ _ _
   | exact chop_sized.mono _ _ _ _ _
   | exact shape_Open.mono _ _ _
   | exact LeO.none _
   | refine LeO.ite ?_ ?_
   | refine LeO.bind ?_ (fun _ => ?_)
theorem chop_chopped.calls (k : Nat) (a0 : Int) (a1 : Int) (a2 : Int) (a3 : Bool) (r1 : Int) (r2 : Int) (w : World) (h : chop_chopped.f k a0 a1 a2 a3 = some (r1, r2)) :
  Calls Try.prog 64 #[.int .i64 a0, .int .i64 a1, .int .u64 a2, .bool a3] w fun e w' => e = .returned (.tuple #[.int .u64 r1, .int .i64 r2]) ∧ Below w.heap.size w w' := by
 have hu30 := Try.underlying30
 have HB := A_ (Below.refl w.heap.size w)
 have H : ((shape_Open.f k a0 a2).bind fun bt428 => (if bt428.1 = true then (chop_chopped.j0 k a1 a3 2 bt428.1 bt428.2.1 bt428.2.2.1 bt428.2.2.2) else (chop_chopped.j0 k a1 a3 3 bt428.1 bt428.2.1 bt428.2.2.1 bt428.2.2.2))) = some (r1, r2) := h
 clear h
 replace H := ob_ H
 obtain ⟨⟨t428, t429, t430, t431⟩, A50, H⟩ := H
 replace H : (if t428 = true then (chop_chopped.j0 k a1 a3 2 t428 t429 t430 t431) else (chop_chopped.j0 k a1 a3 3 t428 t429 t430 t431)) = some (r1, r2) := H
 have A5 := A_ A50;clear A50;have HC6 := A_ H;clear H
 go_enter Try.func64, Try.ntmps64
 go_upto_if 19 with (first | ((with_reducible refine gate_callee (f := 15) rfl ?_); refine gl_ (some 17) Try.func15 #[.int .i64 a0, .int .u64 a2] ?_; (with_reducible refine (shape_Open.calls k a0 a2 t428 t429 t430 t431 _ A5.out).mono ?_); rintro e w7 ⟨rfl, hb⟩; refine ⟨_, rfl, ?_⟩; replace HB := A_ (below_step (hb_ HB.out) hb); (try clear hb); (try clear hb2); (try clear hk); (try clear hi)) | ((with_reducible refine gate_dst (N := 10) rfl ?_); refine be_ 10 #[.bool false, .int .i64 0, .int .i64 0, .int .u64 0] 30 ?_; intro gb432 hg w8 hbox hb; have BK432 := A_ (hbox); have GW432 := A_ (sz_ hg (hb_ HB.out)); have GE432 := A_ (sz_ hg (hb_ HB.out)); replace HB := A_ (below_step (hb_ HB.out) hb); clear hb hbox hg; have hcz9_0 := bv_ BK432.out 0; have hcz9_1 := bv_ BK432.out 1; have hcz9_2 := bv_ BK432.out 2; have hcz9_3 := bv_ BK432.out 3; have hfz9_0 := blk_frozen BK432.out 0; have hfz9_1 := blk_frozen BK432.out 1; have hfz9_2 := blk_frozen BK432.out 2; have hfz9_3 := blk_frozen BK432.out 3))
 (try simp only [Act.put, lI_, l0_, lS_])
 go_cut [11] (fun v11 wc => ∃ (kq : Nat) (x11_5 : Int), v11 = .int .i64 x11_5 ∧ Aside0 (chop_chopped.j0 kq a1 a3 x11_5 t428 t429 t430 t431 = some (r1, r2)) ∧ Aside0 (kq ≤ k) ∧ Aside0 (wc.heap[gb432]? = some (.cells #[.bool t428, .int .i64 t429, .int .i64 t430, .int .u64 t431] 30 (0, 0))) ∧ Aside0 (Below w.heap.size w wc))
 case first =>
  have H := HC6.out
  clear HC6
  by_cases c10 : t428 = true
  ·subst c10
   have H1 : (chop_chopped.j0 k a1 a3 2 true t429 t430 t431) = some (r1, r2) := by rw [if_pos rfl] at H; exact H
   clear H;have H := H1;clear H1
   have H' := A_ H
   clear H
   go_wp2
   go_meet
   case rel => exact ⟨_, (2), sm_, H', ⟨by first | omega | exact Nat.le_refl _⟩, ⟨by (with_reducible repeat (first | refine blk_drewN ?_ _ | refine blk_drew ?_ | refine blk_alloc ?_ _)); refine blk_put (cs := #[.bool true, .int .i64 t429, .int .i64 t430, .int .u64 0]) ?_ 3 _ rfl; (with_reducible repeat (first | refine blk_drewN ?_ _ | refine blk_drew ?_ | refine blk_alloc ?_ _)); refine blk_put (cs := #[.bool true, .int .i64 t429, .int .i64 0, .int .u64 0]) ?_ 2 _ rfl; (with_reducible repeat (first | refine blk_drewN ?_ _ | refine blk_drew ?_ | refine blk_alloc ?_ _)); refine blk_put (cs := #[.bool true, .int .i64 0, .int .i64 0, .int .u64 0]) ?_ 1 _ rfl; (with_reducible repeat (first | refine blk_drewN ?_ _ | refine blk_drew ?_ | refine blk_alloc ?_ _)); refine blk_put (cs := #[.bool false, .int .i64 0, .int .i64 0, .int .u64 0]) ?_ 0 _ rfl; (with_reducible repeat (first | refine blk_drewN ?_ _ | refine blk_drew ?_ | refine blk_alloc ?_ _)); exact BK432.out⟩, ⟨hb1_ HB.out GE432.out⟩⟩
  ·replace c10 := Bool.eq_false_iff.mpr c10
   subst c10
   have H1 : (chop_chopped.j0 k a1 a3 3 false t429 t430 t431) = some (r1, r2) := by rw [if_neg (show ¬ (false = true) by decide)] at H; exact H
   clear H;have H := H1;clear H1
   have H' := A_ H
   clear H
   go_wp2
   go_meet
   case rel => exact ⟨_, (3), sm_, H', ⟨by first | omega | exact Nat.le_refl _⟩, ⟨by (with_reducible repeat (first | refine blk_drewN ?_ _ | refine blk_drew ?_ | refine blk_alloc ?_ _)); refine blk_put (cs := #[.bool false, .int .i64 t429, .int .i64 t430, .int .u64 0]) ?_ 3 _ rfl; (with_reducible repeat (first | refine blk_drewN ?_ _ | refine blk_drew ?_ | refine blk_alloc ?_ _)); refine blk_put (cs := #[.bool false, .int .i64 t429, .int .i64 0, .int .u64 0]) ?_ 2 _ rfl; (with_reducible repeat (first | refine blk_drewN ?_ _ | refine blk_drew ?_ | refine blk_alloc ?_ _)); refine blk_put (cs := #[.bool false, .int .i64 0, .int .i64 0, .int .u64 0]) ?_ 1 _ rfl; (with_reducible repeat (first | refine blk_drewN ?_ _ | refine blk_drew ?_ | refine blk_alloc ?_ _)); refine blk_put (cs := #[.bool false, .int .i64 0, .int .i64 0, .int .u64 0]) ?_ 0 _ rfl; (with_reducible repeat (first | refine blk_drewN ?_ _ | refine blk_drew ?_ | refine blk_alloc ?_ _)); exact BK432.out⟩, ⟨hb1_ HB.out GE432.out⟩⟩
 case rest =>
  clear HC6
  try clear c1
  try clear p2
  try clear c6
  try clear c10
  try clear hcz9_0
  try clear hcz9_1
  try clear hcz9_2
  try clear hcz9_3
  try clear hfz9_0
  try clear hfz9_1
  try clear hfz9_2
  try clear hfz9_3
  obtain ⟨kq, x11_5, rfl, HA, HJ5, BK432, HB⟩ := hcut
  cases kq with
  | zero => exact absurd HA.out (by simp [chop_chopped.j0])
  | succ kj5 =>
   have H := HA.out
   clear HA
   simp only [chop_chopped.j0] at H
   by_cases c11 : t429 = 3
   ·rw [if_pos c11] at H
    have c11b0 : (t429 == 3) = true := beq_iff_eq.mpr c11
    have c11b1 : (t429 != 3) = false := bne_eq_false_iff_eq.mpr c11
    clear c11
    simp only [Option.some.injEq, Prod.mk.injEq] at H
    obtain ⟨rfl, rfl⟩ := H
    have hcz12_0 := bv_ BK432.out 0
    have hcz12_1 := bv_ BK432.out 1
    have hcz12_2 := bv_ BK432.out 2
    have hcz12_3 := bv_ BK432.out 3
    have hfz12_0 := blk_frozen BK432.out 0
    have hfz12_1 := blk_frozen BK432.out 1
    have hfz12_2 := blk_frozen BK432.out 2
    have hfz12_3 := blk_frozen BK432.out 3
    go_wp2
    go_ret2
    exact ⟨er_, hb1_ HB.out GE432.out⟩
   ·rw [if_neg c11] at H
    have c11b0 : (t429 == 3) = false := beq_eq_false_iff_ne.mpr c11
    have c11b1 : (t429 != 3) = true := bne_iff_ne.mpr c11
    by_cases c13 : t429 = 2
    ·rw [if_pos c13] at H
     have c13b0 : (t429 == 2) = true := beq_iff_eq.mpr c13
     have c13b1 : (t429 != 2) = false := bne_eq_false_iff_eq.mpr c13
     clear c13
     simp only [Option.some.injEq, Prod.mk.injEq] at H
     obtain ⟨rfl, rfl⟩ := H
     have hcz14_0 := bv_ BK432.out 0
     have hcz14_1 := bv_ BK432.out 1
     have hcz14_2 := bv_ BK432.out 2
     have hcz14_3 := bv_ BK432.out 3
     have hfz14_0 := blk_frozen BK432.out 0
     have hfz14_1 := blk_frozen BK432.out 1
     have hfz14_2 := blk_frozen BK432.out 2
     have hfz14_3 := blk_frozen BK432.out 3
     go_wp2
     go_ret2
     exact ⟨er_, hb1_ HB.out GE432.out⟩
    ·rw [if_neg c13] at H
     have c13b0 : (t429 == 2) = false := beq_eq_false_iff_ne.mpr c13
     have c13b1 : (t429 != 2) = true := bne_iff_ne.mpr c13
     by_cases c15 : t429 = 0
     ·rw [if_pos c15] at H
      have c15b0 : (t429 == 0) = true := beq_iff_eq.mpr c15
      have c15b1 : (t429 != 0) = false := bne_eq_false_iff_eq.mpr c15
      clear c15
      simp only [Option.some.injEq, Prod.mk.injEq] at H
      obtain ⟨rfl, rfl⟩ := H
      have hcz16_0 := bv_ BK432.out 0
      have hcz16_1 := bv_ BK432.out 1
      have hcz16_2 := bv_ BK432.out 2
      have hcz16_3 := bv_ BK432.out 3
      have hfz16_0 := blk_frozen BK432.out 0
      have hfz16_1 := blk_frozen BK432.out 1
      have hfz16_2 := blk_frozen BK432.out 2
      have hfz16_3 := blk_frozen BK432.out 3
      go_wp2
      go_ret2
      exact ⟨er_, hb1_ HB.out GE432.out⟩
     ·rw [if_neg c15] at H
      have c15b0 : (t429 == 0) = false := beq_eq_false_iff_ne.mpr c15
      have c15b1 : (t429 != 0) = true := bne_iff_ne.mpr c15
      replace H := ob_ H
      obtain ⟨⟨t433, t434⟩, A170, H⟩ := H
      replace H : (if t434 = true then ((chop_sized.f kj5 t428 t433 a1 a3).bind fun t435 => (if t428 = true then ((shape_Cut.f a1 (IntKind.u64.wrap (-t433))).bind fun t436 => (some (t436, t435))) else ((shape_Cut.f a1 t433).bind fun t437 => (some (t437, t435))))) else (some (0, x11_5))) = some (r1, r2) := H
      have A17 := A_ A170;clear A170
      by_cases c18 : t434 = true
      ·subst c18
       have H1 : ((chop_sized.f kj5 t428 t433 a1 a3).bind fun t435 => (if t428 = true then ((shape_Cut.f a1 (IntKind.u64.wrap (-t433))).bind fun t436 => (some (t436, t435))) else ((shape_Cut.f a1 t433).bind fun t437 => (some (t437, t435))))) = some (r1, r2) := by rw [if_pos rfl] at H; exact H
       clear H;have H := H1;clear H1
       replace H := ob_ H
       obtain ⟨t435, A190, H⟩ := H
       replace H : (if t428 = true then ((shape_Cut.f a1 (IntKind.u64.wrap (-t433))).bind fun t436 => (some (t436, t435))) else ((shape_Cut.f a1 t433).bind fun t437 => (some (t437, t435)))) = some (r1, r2) := H
       have A19 := A_ A190;clear A190
       by_cases c20 : t428 = true
       ·subst c20
        have H1 : ((shape_Cut.f a1 (IntKind.u64.wrap (-t433))).bind fun t436 => (some (t436, t435))) = some (r1, r2) := by rw [if_pos rfl] at H; exact H
        clear H;have H := H1;clear H1
        replace H := ob_ H
        obtain ⟨t436, A210, H⟩ := H
        replace H : (some (t436, t435)) = some (r1, r2) := H
        have A21 := A_ A210;clear A210
        simp only [Option.some.injEq, Prod.mk.injEq] at H
        obtain ⟨rfl, rfl⟩ := H
        have hcz22_0 := bv_ BK432.out 0
        have hcz22_1 := bv_ BK432.out 1
        have hcz22_2 := bv_ BK432.out 2
        have hcz22_3 := bv_ BK432.out 3
        have hfz22_0 := blk_frozen BK432.out 0
        have hfz22_1 := blk_frozen BK432.out 1
        have hfz22_2 := blk_frozen BK432.out 2
        have hfz22_3 := blk_frozen BK432.out 3
        go_wp2_with (first | ((with_reducible refine gate_callee (f := 91) rfl ?_); refine gl_ (some 31) Try.func91 #[.agg #[.bool true, .int .i64 t429, .int .i64 t430, .int .u64 t431]] ?_; (with_reducible refine (chop_amount.calls true t429 t430 t431 t433 true _ A17.out).mono ?_); rintro e w23 ⟨rfl, hb⟩; refine ⟨_, rfl, ?_⟩; replace BK432 := A_ (bb_ BK432.out hb); replace HB := A_ (below_step (hb1_ HB.out GE432.out) hb); (try clear hb); (try clear hb2); (try clear hk); (try clear hi); have hcz24_0 := bv_ BK432.out 0; have hcz24_1 := bv_ BK432.out 1; have hcz24_2 := bv_ BK432.out 2; have hcz24_3 := bv_ BK432.out 3; have hfz24_0 := blk_frozen BK432.out 0; have hfz24_1 := blk_frozen BK432.out 1; have hfz24_2 := blk_frozen BK432.out 2; have hfz24_3 := blk_frozen BK432.out 3) | ((with_reducible refine gate_callee (f := 92) rfl ?_); refine gl_ (some 42) Try.func92 #[.bool true, .int .u64 t433, .int .i64 a1, .bool a3] ?_; (with_reducible refine (chop_sized.calls kj5 true t433 a1 a3 t435 _ A19.out).mono ?_); rintro e w' ⟨rfl, ⟨nd, rfl⟩⟩; refine ⟨_, rfl, ?_⟩) | ((with_reducible refine gate_callee (f := 16) rfl ?_); refine gl_ (some 49) Try.func16 #[.int .i64 a1, .int .u64 (IntKind.u64.wrap (-t433))] ?_; (with_reducible refine (shape_Cut.calls a1 (IntKind.u64.wrap (-t433)) t436 _ A21.out).mono ?_); rintro e w' ⟨rfl, ⟨nd, rfl⟩⟩; refine ⟨_, rfl, ?_⟩))
        go_ret2
        exact ⟨er_, hb1_ HB.out GE432.out⟩
       ·replace c20 := Bool.eq_false_iff.mpr c20
        subst c20
        have H1 : ((shape_Cut.f a1 t433).bind fun t437 => (some (t437, t435))) = some (r1, r2) := by rw [if_neg (show ¬ (false = true) by decide)] at H; exact H
        clear H;have H := H1;clear H1
        replace H := ob_ H
        obtain ⟨t437, A250, H⟩ := H
        replace H : (some (t437, t435)) = some (r1, r2) := H
        have A25 := A_ A250;clear A250
        simp only [Option.some.injEq, Prod.mk.injEq] at H
        obtain ⟨rfl, rfl⟩ := H
        have hcz26_0 := bv_ BK432.out 0
        have hcz26_1 := bv_ BK432.out 1
        have hcz26_2 := bv_ BK432.out 2
        have hcz26_3 := bv_ BK432.out 3
        have hfz26_0 := blk_frozen BK432.out 0
        have hfz26_1 := blk_frozen BK432.out 1
        have hfz26_2 := blk_frozen BK432.out 2
        have hfz26_3 := blk_frozen BK432.out 3
        go_wp2_with (first | ((with_reducible refine gate_callee (f := 91) rfl ?_); refine gl_ (some 31) Try.func91 #[.agg #[.bool false, .int .i64 t429, .int .i64 t430, .int .u64 t431]] ?_; (with_reducible refine (chop_amount.calls false t429 t430 t431 t433 true _ A17.out).mono ?_); rintro e w27 ⟨rfl, hb⟩; refine ⟨_, rfl, ?_⟩; replace BK432 := A_ (bb_ BK432.out hb); replace HB := A_ (below_step (hb1_ HB.out GE432.out) hb); (try clear hb); (try clear hb2); (try clear hk); (try clear hi); have hcz28_0 := bv_ BK432.out 0; have hcz28_1 := bv_ BK432.out 1; have hcz28_2 := bv_ BK432.out 2; have hcz28_3 := bv_ BK432.out 3; have hfz28_0 := blk_frozen BK432.out 0; have hfz28_1 := blk_frozen BK432.out 1; have hfz28_2 := blk_frozen BK432.out 2; have hfz28_3 := blk_frozen BK432.out 3) | ((with_reducible refine gate_callee (f := 92) rfl ?_); refine gl_ (some 42) Try.func92 #[.bool false, .int .u64 t433, .int .i64 a1, .bool a3] ?_; (with_reducible refine (chop_sized.calls kj5 false t433 a1 a3 t435 _ A19.out).mono ?_); rintro e w' ⟨rfl, ⟨nd, rfl⟩⟩; refine ⟨_, rfl, ?_⟩) | ((with_reducible refine gate_callee (f := 16) rfl ?_); refine gl_ (some 49) Try.func16 #[.int .i64 a1, .int .u64 t433] ?_; (with_reducible refine (shape_Cut.calls a1 t433 t437 _ A25.out).mono ?_); rintro e w' ⟨rfl, ⟨nd, rfl⟩⟩; refine ⟨_, rfl, ?_⟩))
        go_ret2
        exact ⟨er_, hb1_ HB.out GE432.out⟩
      ·replace c18 := Bool.eq_false_iff.mpr c18
       subst c18
       have H1 : (some (0, x11_5)) = some (r1, r2) := by rw [if_neg (show ¬ (false = true) by decide)] at H; exact H
       clear H;have H := H1;clear H1
       simp only [Option.some.injEq, Prod.mk.injEq] at H
       obtain ⟨rfl, rfl⟩ := H
       have hcz29_0 := bv_ BK432.out 0
       have hcz29_1 := bv_ BK432.out 1
       have hcz29_2 := bv_ BK432.out 2
       have hcz29_3 := bv_ BK432.out 3
       have hfz29_0 := blk_frozen BK432.out 0
       have hfz29_1 := blk_frozen BK432.out 1
       have hfz29_2 := blk_frozen BK432.out 2
       have hfz29_3 := blk_frozen BK432.out 3
       go_wp2_with (first | ((with_reducible refine gate_callee (f := 91) rfl ?_); refine gl_ (some 31) Try.func91 #[.agg #[.bool t428, .int .i64 t429, .int .i64 t430, .int .u64 t431]] ?_; (with_reducible refine (chop_amount.calls t428 t429 t430 t431 t433 false _ A17.out).mono ?_); rintro e w30 ⟨rfl, hb⟩; refine ⟨_, rfl, ?_⟩; replace BK432 := A_ (bb_ BK432.out hb); replace HB := A_ (below_step (hb1_ HB.out GE432.out) hb); (try clear hb); (try clear hb2); (try clear hk); (try clear hi)))
       go_ret2
       exact ⟨er_, hb1_ HB.out GE432.out⟩
def chop_Sat.j0 : Nat → Int → Int → Int → Bool → Bool → Option (Int)
 | 0, _, _, _, _, _ => none
 | k + 1, x0, x1, x2, x3, x20 => if x20 = true then (some 0) else ((chop_Ends.f x1 x3).bind fun bt444 => ((chop_chopped.f k x0 x1 x2 x3).bind fun bt446 => (if bt446.2 = 1 then (some 0) else (if bt446.2 = 2 then (some bt444.1) else (if bt446.2 = 3 then (some bt444.2) else (some bt446.1))))))
def chop_Sat.f (k : Nat) (a0 : Int) (a1 : Int) (a2 : Int) (a3 : Bool) : Option (Int) := (chop_known.f a0).bind fun t442 => (if t442 = true then ((chop_known.f a1).bind fun t443 => (chop_Sat.j0 k a0 a1 a2 a3 (!t443))) else (chop_Sat.j0 k a0 a1 a2 a3 true))
theorem chop_Sat.mono_l : ∀ k, (∀ y0 y1 y2 y3 y4, LeO (chop_Sat.j0 k y0 y1 y2 y3 y4) (chop_Sat.j0 (k + 1) y0 y1 y2 y3 y4))
 | 0 => fun _ _ _ _ _ r h => by simp [chop_Sat.j0] at h
 | k + 1 => by
  have ih0 := chop_Sat.mono_l k
  ·intro y0 y1 y2 y3 y4
   unfold chop_Sat.j0
   repeat' first
   | (with_reducible exact ih0 _ _ _ _ _)
   | (with_reducible exact chop_chopped.mono _ _ _ _ _)
   | (with_reducible exact LeO.refl _)
   | (with_reducible exact LeO.none _)
   | (with_reducible refine LeO.ite ?_ ?_)
   | (with_reducible refine LeO.bind ?_ (fun _ => ?_))
   | exact ih0 _ _ _ _ _
   | exact chop_chopped.mono _ _ _ _ _
   | exact LeO.none _
   | refine LeO.ite ?_ ?_
   | refine LeO.bind ?_ (fun _ => ?_)
theorem chop_Sat.mono : ∀ a0 a1 a2 a3 k, LeO (chop_Sat.f k a0 a1 a2 a3) (chop_Sat.f (k + 1) a0 a1 a2 a3) := by
 intro a0 a1 a2 a3 k
 have ih0 := chop_Sat.mono_l k
 unfold chop_Sat.f
 repeat' first
   | (with_reducible exact ih0 _ _ _ _ _)
   | (with_reducible exact chop_chopped.mono _ _ _ _ _)
   | (with_reducible exact LeO.refl _)
   | (with_reducible exact LeO.none _)
   | (with_reducible refine LeO.ite ?_ ?_)
   | (with_reducible refine LeO.bind ?_ (fun _ => ?_))
   | exact ih0 _ _ _ _ _
   | exact chop_chopped.mono _ _ _ _ _
   | exact LeO.none _
   | refine LeO.ite ?_ ?_
   | refine LeO.bind ?_ (fun _ => ?_)
theorem chop_Sat.calls (k : Nat) (a0 : Int) (a1 : Int) (a2 : Int) (a3 : Bool) (r : Int) (w : World) (h : chop_Sat.f k a0 a1 a2 a3 = some r) :
  Calls Try.prog 23 #[.int .i64 a0, .int .i64 a1, .int .u64 a2, .bool a3] w fun e w' => e = .returned (.int .u64 r) ∧ Below w.heap.size w w' := by
 have HB := A_ (Below.refl w.heap.size w)
 have H : ((chop_known.f a0).bind fun t442 => (if t442 = true then ((chop_known.f a1).bind fun t443 => (chop_Sat.j0 k a0 a1 a2 a3 (!t443))) else (chop_Sat.j0 k a0 a1 a2 a3 true))) = some r := h
 clear h;have HC5 := A_ H;clear H
 go_enter Try.func23, Try.ntmps23
 go_upto_region 1 with (fail)
 go_cut [20] (fun v20 wc => ∃ (kq : Nat) (x20_4 : Bool), v20 = .bool x20_4 ∧ Aside0 (chop_Sat.j0 kq a0 a1 a2 a3 x20_4 = some r) ∧ Aside0 (kq ≤ k) ∧ Aside0 (Below w.heap.size w wc))
 case first =>
  have H := HC5.out
  clear HC5
  replace H := ob_ H
  obtain ⟨t442, A60, H⟩ := H
  replace H : (if t442 = true then ((chop_known.f a1).bind fun t443 => (chop_Sat.j0 k a0 a1 a2 a3 (!t443))) else (chop_Sat.j0 k a0 a1 a2 a3 true)) = some r := H
  have A6 := A_ A60;clear A60
  by_cases c7 : t442 = true
  ·subst c7
   have H1 : ((chop_known.f a1).bind fun t443 => (chop_Sat.j0 k a0 a1 a2 a3 (!t443))) = some r := by rw [if_pos rfl] at H; exact H
   clear H;have H := H1;clear H1
   replace H := ob_ H
   obtain ⟨t443, A80, H⟩ := H
   replace H : (chop_Sat.j0 k a0 a1 a2 a3 (!t443)) = some r := H
   have A8 := A_ A80;clear A80
   have H' := A_ H
   clear H
   go_wp2_with (first | ((with_reducible refine gate_callee (f := 63) rfl ?_); refine gl_ (some 14) Try.func63 #[.int .i64 a0] ?_; (with_reducible refine (chop_known.calls a0 true _ A6.out).mono ?_); rintro e w' ⟨rfl, ⟨nd, rfl⟩⟩; refine ⟨_, rfl, ?_⟩) | (go_at_call 63; (with_reducible refine (chop_known.calls a1 t443 _ A8.out).mono ?_); rintro e w' ⟨rfl, ⟨nd, rfl⟩⟩))
   go_meet
   case rel => exact ⟨_, (!t443), sm_, H', ⟨by first | omega | exact Nat.le_refl _⟩, ⟨hb_ HB.out⟩⟩
  ·replace c7 := Bool.eq_false_iff.mpr c7
   subst c7
   have H1 : (chop_Sat.j0 k a0 a1 a2 a3 true) = some r := by rw [if_neg (show ¬ (false = true) by decide)] at H; exact H
   clear H;have H := H1;clear H1
   have H' := A_ H
   clear H
   go_wp2_with (first | ((with_reducible refine gate_callee (f := 63) rfl ?_); refine gl_ (some 14) Try.func63 #[.int .i64 a0] ?_; (with_reducible refine (chop_known.calls a0 false _ A6.out).mono ?_); rintro e w' ⟨rfl, ⟨nd, rfl⟩⟩; refine ⟨_, rfl, ?_⟩))
   go_meet
   case rel => exact ⟨_, (true), sm_, H', ⟨by first | omega | exact Nat.le_refl _⟩, ⟨hb_ HB.out⟩⟩
 case rest =>
  clear HC5
  try clear c2
  try clear p2
  try clear c6
  try clear c7
  obtain ⟨kq, x20_4, rfl, HA, HJ4, HB⟩ := hcut
  cases kq with
  | zero => exact absurd HA.out (by simp [chop_Sat.j0])
  | succ kj4 =>
   have H := HA.out
   clear HA
   simp only [chop_Sat.j0] at H
   by_cases c9 : x20_4 = true
   ·subst c9
    have H1 : (some 0) = some r := by rw [if_pos rfl] at H; exact H
    clear H;have H := H1;clear H1
    obtain rfl := Option.some.inj H
    go_wp2
    go_ret
    exact ⟨er_, hb_ HB.out⟩
   ·replace c9 := Bool.eq_false_iff.mpr c9
    subst c9
    have H1 : ((chop_Ends.f a1 a3).bind fun bt444 => ((chop_chopped.f kj4 a0 a1 a2 a3).bind fun bt446 => (if bt446.2 = 1 then (some 0) else (if bt446.2 = 2 then (some bt444.1) else (if bt446.2 = 3 then (some bt444.2) else (some bt446.1)))))) = some r := by rw [if_neg (show ¬ (false = true) by decide)] at H; exact H
    clear H;have H := H1;clear H1
    replace H := ob_ H
    obtain ⟨⟨t444, t445⟩, A100, H⟩ := H
    replace H : ((chop_chopped.f kj4 a0 a1 a2 a3).bind fun bt446 => (if bt446.2 = 1 then (some 0) else (if bt446.2 = 2 then (some t444) else (if bt446.2 = 3 then (some t445) else (some bt446.1))))) = some r := H
    have A10 := A_ A100;clear A100
    replace H := ob_ H
    obtain ⟨⟨t446, t447⟩, A110, H⟩ := H
    replace H : (if t447 = 1 then (some 0) else (if t447 = 2 then (some t444) else (if t447 = 3 then (some t445) else (some t446)))) = some r := H
    have A11 := A_ A110;clear A110
    by_cases c12 : t447 = 1
    ·rw [if_pos c12] at H
     have c12b0 : (t447 == 1) = true := beq_iff_eq.mpr c12
     have c12b1 : (t447 != 1) = false := bne_eq_false_iff_eq.mpr c12
     clear c12
     obtain rfl := Option.some.inj H
     go_wp2_with (first | ((with_reducible refine gate_callee (f := 24) rfl ?_); refine gl_ (some 24) Try.func24 #[.int .i64 a1, .bool a3] ?_; (with_reducible refine (chop_Ends.calls a1 a3 t444 t445 _ A10.out).mono ?_); rintro e w' ⟨rfl, ⟨nd, rfl⟩⟩; refine ⟨_, rfl, ?_⟩) | ((with_reducible refine gate_callee (f := 64) rfl ?_); refine gl_ (some 32) Try.func64 #[.int .i64 a0, .int .i64 a1, .int .u64 a2, .bool a3] ?_; (with_reducible refine (chop_chopped.calls kj4 a0 a1 a2 a3 t446 t447 _ A11.out).mono ?_); rintro e w13 ⟨rfl, hb⟩; refine ⟨_, rfl, ?_⟩; replace HB := A_ (below_step (hb_ HB.out) hb); (try clear hb); (try clear hb2); (try clear hk); (try clear hi)))
     go_ret
     exact ⟨er_, hb_ HB.out⟩
    ·rw [if_neg c12] at H
     have c12b0 : (t447 == 1) = false := beq_eq_false_iff_ne.mpr c12
     have c12b1 : (t447 != 1) = true := bne_iff_ne.mpr c12
     by_cases c14 : t447 = 2
     ·rw [if_pos c14] at H
      have c14b0 : (t447 == 2) = true := beq_iff_eq.mpr c14
      have c14b1 : (t447 != 2) = false := bne_eq_false_iff_eq.mpr c14
      clear c14
      obtain rfl := Option.some.inj H
      go_wp2_with (first | ((with_reducible refine gate_callee (f := 24) rfl ?_); refine gl_ (some 24) Try.func24 #[.int .i64 a1, .bool a3] ?_; (with_reducible refine (chop_Ends.calls a1 a3 t444 t445 _ A10.out).mono ?_); rintro e w' ⟨rfl, ⟨nd, rfl⟩⟩; refine ⟨_, rfl, ?_⟩) | ((with_reducible refine gate_callee (f := 64) rfl ?_); refine gl_ (some 32) Try.func64 #[.int .i64 a0, .int .i64 a1, .int .u64 a2, .bool a3] ?_; (with_reducible refine (chop_chopped.calls kj4 a0 a1 a2 a3 t446 t447 _ A11.out).mono ?_); rintro e w15 ⟨rfl, hb⟩; refine ⟨_, rfl, ?_⟩; replace HB := A_ (below_step (hb_ HB.out) hb); (try clear hb); (try clear hb2); (try clear hk); (try clear hi)))
      go_ret
      exact ⟨er_, hb_ HB.out⟩
     ·rw [if_neg c14] at H
      have c14b0 : (t447 == 2) = false := beq_eq_false_iff_ne.mpr c14
      have c14b1 : (t447 != 2) = true := bne_iff_ne.mpr c14
      by_cases c16 : t447 = 3
      ·rw [if_pos c16] at H
       have c16b0 : (t447 == 3) = true := beq_iff_eq.mpr c16
       have c16b1 : (t447 != 3) = false := bne_eq_false_iff_eq.mpr c16
       clear c16
       obtain rfl := Option.some.inj H
       go_wp2_with (first | ((with_reducible refine gate_callee (f := 24) rfl ?_); refine gl_ (some 24) Try.func24 #[.int .i64 a1, .bool a3] ?_; (with_reducible refine (chop_Ends.calls a1 a3 t444 t445 _ A10.out).mono ?_); rintro e w' ⟨rfl, ⟨nd, rfl⟩⟩; refine ⟨_, rfl, ?_⟩) | ((with_reducible refine gate_callee (f := 64) rfl ?_); refine gl_ (some 32) Try.func64 #[.int .i64 a0, .int .i64 a1, .int .u64 a2, .bool a3] ?_; (with_reducible refine (chop_chopped.calls kj4 a0 a1 a2 a3 t446 t447 _ A11.out).mono ?_); rintro e w17 ⟨rfl, hb⟩; refine ⟨_, rfl, ?_⟩; replace HB := A_ (below_step (hb_ HB.out) hb); (try clear hb); (try clear hb2); (try clear hk); (try clear hi)))
       go_ret
       exact ⟨er_, hb_ HB.out⟩
      ·rw [if_neg c16] at H
       have c16b0 : (t447 == 3) = false := beq_eq_false_iff_ne.mpr c16
       have c16b1 : (t447 != 3) = true := bne_iff_ne.mpr c16
       obtain rfl := Option.some.inj H
       go_wp2_with (first | ((with_reducible refine gate_callee (f := 24) rfl ?_); refine gl_ (some 24) Try.func24 #[.int .i64 a1, .bool a3] ?_; (with_reducible refine (chop_Ends.calls a1 a3 t444 t445 _ A10.out).mono ?_); rintro e w' ⟨rfl, ⟨nd, rfl⟩⟩; refine ⟨_, rfl, ?_⟩) | ((with_reducible refine gate_callee (f := 64) rfl ?_); refine gl_ (some 32) Try.func64 #[.int .i64 a0, .int .i64 a1, .int .u64 a2, .bool a3] ?_; (with_reducible refine (chop_chopped.calls kj4 a0 a1 a2 a3 t446 t447 _ A11.out).mono ?_); rintro e w18 ⟨rfl, hb⟩; refine ⟨_, rfl, ?_⟩; replace HB := A_ (below_step (hb_ HB.out) hb); (try clear hb); (try clear hb2); (try clear hk); (try clear hi)))
       go_ret
       exact ⟨er_, hb_ HB.out⟩
def chop_Trap.j0 : Nat → Int → Int → Int → Bool → Bool → Option (Int × Int)
 | 0, _, _, _, _, _ => none
 | k + 1, x0, x1, x2, x3, x19 => if x19 = true then (some (0, 0)) else ((chop_chopped.f k x0 x1 x2 x3).bind fun bt440 => (if bt440.2 = 1 then (some (0, 4)) else (if bt440.2 = 2 then (some (0, 3)) else (if bt440.2 = 3 then (some (0, 3)) else (some (bt440.1, 0))))))
def chop_Trap.f (k : Nat) (a0 : Int) (a1 : Int) (a2 : Int) (a3 : Bool) : Option (Int × Int) := (chop_known.f a0).bind fun t438 => (if t438 = true then ((chop_known.f a1).bind fun t439 => (chop_Trap.j0 k a0 a1 a2 a3 (!t439))) else (chop_Trap.j0 k a0 a1 a2 a3 true))
theorem chop_Trap.mono_l : ∀ k, (∀ y0 y1 y2 y3 y4, LeO (chop_Trap.j0 k y0 y1 y2 y3 y4) (chop_Trap.j0 (k + 1) y0 y1 y2 y3 y4))
 | 0 => fun _ _ _ _ _ r h => by simp [chop_Trap.j0] at h
 | k + 1 => by
  have ih0 := chop_Trap.mono_l k
  ·intro y0 y1 y2 y3 y4
   unfold chop_Trap.j0
   repeat' first
   | (with_reducible exact ih0 _ _ _ _ _)
   | (with_reducible exact chop_chopped.mono _ _ _ _ _)
   | (with_reducible exact LeO.refl _)
   | (with_reducible exact LeO.none _)
   | (with_reducible refine LeO.ite ?_ ?_)
   | (with_reducible refine LeO.bind ?_ (fun _ => ?_))
   | exact ih0 _ _ _ _ _
   | exact chop_chopped.mono _ _ _ _ _
   | exact LeO.none _
   | refine LeO.ite ?_ ?_
   | refine LeO.bind ?_ (fun _ => ?_)
theorem chop_Trap.mono : ∀ a0 a1 a2 a3 k, LeO (chop_Trap.f k a0 a1 a2 a3) (chop_Trap.f (k + 1) a0 a1 a2 a3) := by
 intro a0 a1 a2 a3 k
 have ih0 := chop_Trap.mono_l k
 unfold chop_Trap.f
 repeat' first
   | (with_reducible exact ih0 _ _ _ _ _)
   | (with_reducible exact chop_chopped.mono _ _ _ _ _)
   | (with_reducible exact LeO.refl _)
   | (with_reducible exact LeO.none _)
   | (with_reducible refine LeO.ite ?_ ?_)
   | (with_reducible refine LeO.bind ?_ (fun _ => ?_))
   | exact ih0 _ _ _ _ _
   | exact chop_chopped.mono _ _ _ _ _
   | exact LeO.none _
   | refine LeO.ite ?_ ?_
   | refine LeO.bind ?_ (fun _ => ?_)
theorem chop_Trap.calls (k : Nat) (a0 : Int) (a1 : Int) (a2 : Int) (a3 : Bool) (r1 : Int) (r2 : Int) (w : World) (h : chop_Trap.f k a0 a1 a2 a3 = some (r1, r2)) :
  Calls Try.prog 22 #[.int .i64 a0, .int .i64 a1, .int .u64 a2, .bool a3] w fun e w' => e = .returned (.tuple #[.int .u64 r1, .int .i64 r2]) ∧ Below w.heap.size w w' := by
 have HB := A_ (Below.refl w.heap.size w)
 have H : ((chop_known.f a0).bind fun t438 => (if t438 = true then ((chop_known.f a1).bind fun t439 => (chop_Trap.j0 k a0 a1 a2 a3 (!t439))) else (chop_Trap.j0 k a0 a1 a2 a3 true))) = some (r1, r2) := h
 clear h;have HC5 := A_ H;clear H
 go_enter Try.func22, Try.ntmps22
 go_upto_region 1 with (fail)
 go_cut [19] (fun v19 wc => ∃ (kq : Nat) (x19_4 : Bool), v19 = .bool x19_4 ∧ Aside0 (chop_Trap.j0 kq a0 a1 a2 a3 x19_4 = some (r1, r2)) ∧ Aside0 (kq ≤ k) ∧ Aside0 (Below w.heap.size w wc))
 case first =>
  have H := HC5.out
  clear HC5
  replace H := ob_ H
  obtain ⟨t438, A60, H⟩ := H
  replace H : (if t438 = true then ((chop_known.f a1).bind fun t439 => (chop_Trap.j0 k a0 a1 a2 a3 (!t439))) else (chop_Trap.j0 k a0 a1 a2 a3 true)) = some (r1, r2) := H
  have A6 := A_ A60;clear A60
  by_cases c7 : t438 = true
  ·subst c7
   have H1 : ((chop_known.f a1).bind fun t439 => (chop_Trap.j0 k a0 a1 a2 a3 (!t439))) = some (r1, r2) := by rw [if_pos rfl] at H; exact H
   clear H;have H := H1;clear H1
   replace H := ob_ H
   obtain ⟨t439, A80, H⟩ := H
   replace H : (chop_Trap.j0 k a0 a1 a2 a3 (!t439)) = some (r1, r2) := H
   have A8 := A_ A80;clear A80
   have H' := A_ H
   clear H
   go_wp2_with (first | ((with_reducible refine gate_callee (f := 63) rfl ?_); refine gl_ (some 13) Try.func63 #[.int .i64 a0] ?_; (with_reducible refine (chop_known.calls a0 true _ A6.out).mono ?_); rintro e w' ⟨rfl, ⟨nd, rfl⟩⟩; refine ⟨_, rfl, ?_⟩) | (go_at_call 63; (with_reducible refine (chop_known.calls a1 t439 _ A8.out).mono ?_); rintro e w' ⟨rfl, ⟨nd, rfl⟩⟩))
   go_meet
   case rel => exact ⟨_, (!t439), sm_, H', ⟨by first | omega | exact Nat.le_refl _⟩, ⟨hb_ HB.out⟩⟩
  ·replace c7 := Bool.eq_false_iff.mpr c7
   subst c7
   have H1 : (chop_Trap.j0 k a0 a1 a2 a3 true) = some (r1, r2) := by rw [if_neg (show ¬ (false = true) by decide)] at H; exact H
   clear H;have H := H1;clear H1
   have H' := A_ H
   clear H
   go_wp2_with (first | ((with_reducible refine gate_callee (f := 63) rfl ?_); refine gl_ (some 13) Try.func63 #[.int .i64 a0] ?_; (with_reducible refine (chop_known.calls a0 false _ A6.out).mono ?_); rintro e w' ⟨rfl, ⟨nd, rfl⟩⟩; refine ⟨_, rfl, ?_⟩))
   go_meet
   case rel => exact ⟨_, (true), sm_, H', ⟨by first | omega | exact Nat.le_refl _⟩, ⟨hb_ HB.out⟩⟩
 case rest =>
  clear HC5
  try clear c2
  try clear p2
  try clear c6
  try clear c7
  obtain ⟨kq, x19_4, rfl, HA, HJ4, HB⟩ := hcut
  cases kq with
  | zero => exact absurd HA.out (by simp [chop_Trap.j0])
  | succ kj4 =>
   have H := HA.out
   clear HA
   simp only [chop_Trap.j0] at H
   by_cases c9 : x19_4 = true
   ·subst c9
    have H1 : (some (0, 0)) = some (r1, r2) := by rw [if_pos rfl] at H; exact H
    clear H;have H := H1;clear H1
    simp only [Option.some.injEq, Prod.mk.injEq] at H
    obtain ⟨rfl, rfl⟩ := H
    go_wp2
    go_ret2
    exact ⟨er_, hb_ HB.out⟩
   ·replace c9 := Bool.eq_false_iff.mpr c9
    subst c9
    have H1 : ((chop_chopped.f kj4 a0 a1 a2 a3).bind fun bt440 => (if bt440.2 = 1 then (some (0, 4)) else (if bt440.2 = 2 then (some (0, 3)) else (if bt440.2 = 3 then (some (0, 3)) else (some (bt440.1, 0)))))) = some (r1, r2) := by rw [if_neg (show ¬ (false = true) by decide)] at H; exact H
    clear H;have H := H1;clear H1
    replace H := ob_ H
    obtain ⟨⟨t440, t441⟩, A100, H⟩ := H
    replace H : (if t441 = 1 then (some (0, 4)) else (if t441 = 2 then (some (0, 3)) else (if t441 = 3 then (some (0, 3)) else (some (t440, 0))))) = some (r1, r2) := H
    have A10 := A_ A100;clear A100
    by_cases c11 : t441 = 1
    ·rw [if_pos c11] at H
     have c11b0 : (t441 == 1) = true := beq_iff_eq.mpr c11
     have c11b1 : (t441 != 1) = false := bne_eq_false_iff_eq.mpr c11
     clear c11
     simp only [Option.some.injEq, Prod.mk.injEq] at H
     obtain ⟨rfl, rfl⟩ := H
     go_wp2_with (first | ((with_reducible refine gate_callee (f := 64) rfl ?_); refine gl_ (some 25) Try.func64 #[.int .i64 a0, .int .i64 a1, .int .u64 a2, .bool a3] ?_; (with_reducible refine (chop_chopped.calls kj4 a0 a1 a2 a3 t440 t441 _ A10.out).mono ?_); rintro e w12 ⟨rfl, hb⟩; refine ⟨_, rfl, ?_⟩; replace HB := A_ (below_step (hb_ HB.out) hb); (try clear hb); (try clear hb2); (try clear hk); (try clear hi)))
     go_ret2
     exact ⟨er_, hb_ HB.out⟩
    ·rw [if_neg c11] at H
     have c11b0 : (t441 == 1) = false := beq_eq_false_iff_ne.mpr c11
     have c11b1 : (t441 != 1) = true := bne_iff_ne.mpr c11
     by_cases c13 : t441 = 2
     ·rw [if_pos c13] at H
      have c13b0 : (t441 == 2) = true := beq_iff_eq.mpr c13
      have c13b1 : (t441 != 2) = false := bne_eq_false_iff_eq.mpr c13
      clear c13
      simp only [Option.some.injEq, Prod.mk.injEq] at H
      obtain ⟨rfl, rfl⟩ := H
      go_wp2_with (first | ((with_reducible refine gate_callee (f := 64) rfl ?_); refine gl_ (some 25) Try.func64 #[.int .i64 a0, .int .i64 a1, .int .u64 a2, .bool a3] ?_; (with_reducible refine (chop_chopped.calls kj4 a0 a1 a2 a3 t440 t441 _ A10.out).mono ?_); rintro e w14 ⟨rfl, hb⟩; refine ⟨_, rfl, ?_⟩; replace HB := A_ (below_step (hb_ HB.out) hb); (try clear hb); (try clear hb2); (try clear hk); (try clear hi)))
      go_ret2
      exact ⟨er_, hb_ HB.out⟩
     ·rw [if_neg c13] at H
      have c13b0 : (t441 == 2) = false := beq_eq_false_iff_ne.mpr c13
      have c13b1 : (t441 != 2) = true := bne_iff_ne.mpr c13
      by_cases c15 : t441 = 3
      ·rw [if_pos c15] at H
       have c15b0 : (t441 == 3) = true := beq_iff_eq.mpr c15
       have c15b1 : (t441 != 3) = false := bne_eq_false_iff_eq.mpr c15
       clear c15
       simp only [Option.some.injEq, Prod.mk.injEq] at H
       obtain ⟨rfl, rfl⟩ := H
       go_wp2_with (first | ((with_reducible refine gate_callee (f := 64) rfl ?_); refine gl_ (some 25) Try.func64 #[.int .i64 a0, .int .i64 a1, .int .u64 a2, .bool a3] ?_; (with_reducible refine (chop_chopped.calls kj4 a0 a1 a2 a3 t440 t441 _ A10.out).mono ?_); rintro e w16 ⟨rfl, hb⟩; refine ⟨_, rfl, ?_⟩; replace HB := A_ (below_step (hb_ HB.out) hb); (try clear hb); (try clear hb2); (try clear hk); (try clear hi)))
       go_ret2
       exact ⟨er_, hb_ HB.out⟩
      ·rw [if_neg c15] at H
       have c15b0 : (t441 == 3) = false := beq_eq_false_iff_ne.mpr c15
       have c15b1 : (t441 != 3) = true := bne_iff_ne.mpr c15
       simp only [Option.some.injEq, Prod.mk.injEq] at H
       obtain ⟨rfl, rfl⟩ := H
       go_wp2_with (first | ((with_reducible refine gate_callee (f := 64) rfl ?_); refine gl_ (some 25) Try.func64 #[.int .i64 a0, .int .i64 a1, .int .u64 a2, .bool a3] ?_; (with_reducible refine (chop_chopped.calls kj4 a0 a1 a2 a3 t440 t441 _ A10.out).mono ?_); rintro e w17 ⟨rfl, hb⟩; refine ⟨_, rfl, ?_⟩; replace HB := A_ (below_step (hb_ HB.out) hb); (try clear hb); (try clear hb2); (try clear hk); (try clear hi)))
       go_ret2
       exact ⟨er_, hb_ HB.out⟩
def L12_awake.f (k : Nat)  : Option (Bool) := (chop_Trap.f k 64 32 13829653735729319117 false).bind fun bt448 => ((chop_Trap.f k 64 32 13840687554816376832 false).bind fun bt450 => (if bt448.1 = 0 then (if bt448.2 = 0 then (if bt450.2 = 3 then ((chop_Sat.f k 64 32 13840687554816376832 false).bind fun t452 => (if t452 = 0 then ((chop_Sat.f k 64 32 4617315517961601024 true).bind fun t453 => (some (t453 == 5))) else (some false))) else (some false)) else (some false)) else (some false)))
theorem L12_awake.mono : ∀ k, LeO (L12_awake.f k ) (L12_awake.f (k + 1) ) := by
 intro  k
 unfold L12_awake.f
 repeat' first
   | (with_reducible exact chop_Sat.mono _ _ _ _ _)
   | (with_reducible exact chop_Trap.mono _ _ _ _ _)
   | (with_reducible exact LeO.refl _)
   | (with_reducible exact LeO.none _)
   | (with_reducible refine LeO.ite ?_ ?_)
   | (with_reducible refine LeO.bind ?_ (fun _ => ?_))
   | exact chop_Sat.mono _ _ _ _ _
   | exact chop_Trap.mono _ _ _ _ _
   | exact LeO.none _
   | refine LeO.ite ?_ ?_
   | refine LeO.bind ?_ (fun _ => ?_)
theorem L12_awake.calls (k : Nat)  (r : Bool) (w : World) (h : L12_awake.f k  = some r) :
  Calls Try.prog 21 #[] w fun e w' => e = .returned (.bool r) ∧ Below w.heap.size w w' := by
 have HB := A_ (Below.refl w.heap.size w)
 have H : ((chop_Trap.f k 64 32 13829653735729319117 false).bind fun bt448 => ((chop_Trap.f k 64 32 13840687554816376832 false).bind fun bt450 => (if bt448.1 = 0 then (if bt448.2 = 0 then (if bt450.2 = 3 then ((chop_Sat.f k 64 32 13840687554816376832 false).bind fun t452 => (if t452 = 0 then ((chop_Sat.f k 64 32 4617315517961601024 true).bind fun t453 => (some (t453 == 5))) else (some false))) else (some false)) else (some false)) else (some false)))) = some r := h
 clear h
 replace H := ob_ H
 obtain ⟨⟨t448, t449⟩, A10, H⟩ := H
 replace H : ((chop_Trap.f k 64 32 13840687554816376832 false).bind fun bt450 => (if t448 = 0 then (if t449 = 0 then (if bt450.2 = 3 then ((chop_Sat.f k 64 32 13840687554816376832 false).bind fun t452 => (if t452 = 0 then ((chop_Sat.f k 64 32 4617315517961601024 true).bind fun t453 => (some (t453 == 5))) else (some false))) else (some false)) else (some false)) else (some false))) = some r := H
 have A1 := A_ A10;clear A10
 replace H := ob_ H
 obtain ⟨⟨t450, t451⟩, A20, H⟩ := H
 replace H : (if t448 = 0 then (if t449 = 0 then (if t451 = 3 then ((chop_Sat.f k 64 32 13840687554816376832 false).bind fun t452 => (if t452 = 0 then ((chop_Sat.f k 64 32 4617315517961601024 true).bind fun t453 => (some (t453 == 5))) else (some false))) else (some false)) else (some false)) else (some false)) = some r := H
 have A2 := A_ A20;clear A20
 by_cases c3 : t448 = 0
 ·rw [if_pos c3] at H
  have c3b0 : (t448 == 0) = true := beq_iff_eq.mpr c3
  have c3b1 : (t448 != 0) = false := bne_eq_false_iff_eq.mpr c3
  clear c3
  by_cases c4 : t449 = 0
  ·rw [if_pos c4] at H
   have c4b0 : (t449 == 0) = true := beq_iff_eq.mpr c4
   have c4b1 : (t449 != 0) = false := bne_eq_false_iff_eq.mpr c4
   clear c4
   by_cases c5 : t451 = 3
   ·rw [if_pos c5] at H
    have c5b0 : (t451 == 3) = true := beq_iff_eq.mpr c5
    have c5b1 : (t451 != 3) = false := bne_eq_false_iff_eq.mpr c5
    clear c5
    replace H := ob_ H
    obtain ⟨t452, A60, H⟩ := H
    replace H : (if t452 = 0 then ((chop_Sat.f k 64 32 4617315517961601024 true).bind fun t453 => (some (t453 == 5))) else (some false)) = some r := H
    have A6 := A_ A60;clear A60
    by_cases c7 : t452 = 0
    ·rw [if_pos c7] at H
     have c7b0 : (t452 == 0) = true := beq_iff_eq.mpr c7
     have c7b1 : (t452 != 0) = false := bne_eq_false_iff_eq.mpr c7
     clear c7
     replace H := ob_ H
     obtain ⟨t453, A80, H⟩ := H
     replace H : (some (t453 == 5)) = some r := H
     have A8 := A_ A80;clear A80
     obtain rfl := Option.some.inj H
     go_enter Try.func21, Try.ntmps21
     go_wp2_with (first | ((with_reducible refine gate_callee (f := 22) rfl ?_); refine gl_ (some 6) Try.func22 #[.int .i64 64, .int .i64 32, .int .u64 13829653735729319117, .bool false] ?_; (with_reducible refine (chop_Trap.calls k 64 32 13829653735729319117 false t448 t449 _ A1.out).mono ?_); rintro e w9 ⟨rfl, hb⟩; refine ⟨_, rfl, ?_⟩; replace HB := A_ (below_step (hb_ HB.out) hb); (try clear hb); (try clear hb2); (try clear hk); (try clear hi)) | ((with_reducible refine gate_callee (f := 22) rfl ?_); refine gl_ (some 10) Try.func22 #[.int .i64 64, .int .i64 32, .int .u64 13840687554816376832, .bool false] ?_; (with_reducible refine (chop_Trap.calls k 64 32 13840687554816376832 false t450 t451 _ A2.out).mono ?_); rintro e w10 ⟨rfl, hb⟩; refine ⟨_, rfl, ?_⟩; replace HB := A_ (below_step (hb_ HB.out) hb); (try clear hb); (try clear hb2); (try clear hk); (try clear hi)) | (go_at_call 23; (with_reducible refine (chop_Sat.calls k 64 32 13840687554816376832 false t452 _ A6.out).mono ?_); rintro e w11 ⟨rfl, hb⟩; replace HB := A_ (below_step (hb_ HB.out) hb); (try clear hb); (try clear hb2); (try clear hk); (try clear hi)) | (go_at_call 23; (with_reducible refine (chop_Sat.calls k 64 32 4617315517961601024 true t453 _ A8.out).mono ?_); rintro e w12 ⟨rfl, hb⟩; replace HB := A_ (below_step (hb_ HB.out) hb); (try clear hb); (try clear hb2); (try clear hk); (try clear hi)))
     go_ret
     exact ⟨er_, hb_ HB.out⟩
    ·rw [if_neg c7] at H
     have c7b0 : (t452 == 0) = false := beq_eq_false_iff_ne.mpr c7
     have c7b1 : (t452 != 0) = true := bne_iff_ne.mpr c7
     obtain rfl := Option.some.inj H
     go_enter Try.func21, Try.ntmps21
     go_wp2_with (first | ((with_reducible refine gate_callee (f := 22) rfl ?_); refine gl_ (some 6) Try.func22 #[.int .i64 64, .int .i64 32, .int .u64 13829653735729319117, .bool false] ?_; (with_reducible refine (chop_Trap.calls k 64 32 13829653735729319117 false t448 t449 _ A1.out).mono ?_); rintro e w13 ⟨rfl, hb⟩; refine ⟨_, rfl, ?_⟩; replace HB := A_ (below_step (hb_ HB.out) hb); (try clear hb); (try clear hb2); (try clear hk); (try clear hi)) | ((with_reducible refine gate_callee (f := 22) rfl ?_); refine gl_ (some 10) Try.func22 #[.int .i64 64, .int .i64 32, .int .u64 13840687554816376832, .bool false] ?_; (with_reducible refine (chop_Trap.calls k 64 32 13840687554816376832 false t450 t451 _ A2.out).mono ?_); rintro e w14 ⟨rfl, hb⟩; refine ⟨_, rfl, ?_⟩; replace HB := A_ (below_step (hb_ HB.out) hb); (try clear hb); (try clear hb2); (try clear hk); (try clear hi)) | (go_at_call 23; (with_reducible refine (chop_Sat.calls k 64 32 13840687554816376832 false t452 _ A6.out).mono ?_); rintro e w15 ⟨rfl, hb⟩; replace HB := A_ (below_step (hb_ HB.out) hb); (try clear hb); (try clear hb2); (try clear hk); (try clear hi)))
     go_ret
     exact ⟨er_, hb_ HB.out⟩
   ·rw [if_neg c5] at H
    have c5b0 : (t451 == 3) = false := beq_eq_false_iff_ne.mpr c5
    have c5b1 : (t451 != 3) = true := bne_iff_ne.mpr c5
    obtain rfl := Option.some.inj H
    go_enter Try.func21, Try.ntmps21
    go_wp2_with (first | ((with_reducible refine gate_callee (f := 22) rfl ?_); refine gl_ (some 6) Try.func22 #[.int .i64 64, .int .i64 32, .int .u64 13829653735729319117, .bool false] ?_; (with_reducible refine (chop_Trap.calls k 64 32 13829653735729319117 false t448 t449 _ A1.out).mono ?_); rintro e w16 ⟨rfl, hb⟩; refine ⟨_, rfl, ?_⟩; replace HB := A_ (below_step (hb_ HB.out) hb); (try clear hb); (try clear hb2); (try clear hk); (try clear hi)) | ((with_reducible refine gate_callee (f := 22) rfl ?_); refine gl_ (some 10) Try.func22 #[.int .i64 64, .int .i64 32, .int .u64 13840687554816376832, .bool false] ?_; (with_reducible refine (chop_Trap.calls k 64 32 13840687554816376832 false t450 t451 _ A2.out).mono ?_); rintro e w17 ⟨rfl, hb⟩; refine ⟨_, rfl, ?_⟩; replace HB := A_ (below_step (hb_ HB.out) hb); (try clear hb); (try clear hb2); (try clear hk); (try clear hi)))
    go_ret
    exact ⟨er_, hb_ HB.out⟩
  ·rw [if_neg c4] at H
   have c4b0 : (t449 == 0) = false := beq_eq_false_iff_ne.mpr c4
   have c4b1 : (t449 != 0) = true := bne_iff_ne.mpr c4
   obtain rfl := Option.some.inj H
   go_enter Try.func21, Try.ntmps21
   go_wp2_with (first | ((with_reducible refine gate_callee (f := 22) rfl ?_); refine gl_ (some 6) Try.func22 #[.int .i64 64, .int .i64 32, .int .u64 13829653735729319117, .bool false] ?_; (with_reducible refine (chop_Trap.calls k 64 32 13829653735729319117 false t448 t449 _ A1.out).mono ?_); rintro e w18 ⟨rfl, hb⟩; refine ⟨_, rfl, ?_⟩; replace HB := A_ (below_step (hb_ HB.out) hb); (try clear hb); (try clear hb2); (try clear hk); (try clear hi)) | ((with_reducible refine gate_callee (f := 22) rfl ?_); refine gl_ (some 10) Try.func22 #[.int .i64 64, .int .i64 32, .int .u64 13840687554816376832, .bool false] ?_; (with_reducible refine (chop_Trap.calls k 64 32 13840687554816376832 false t450 t451 _ A2.out).mono ?_); rintro e w19 ⟨rfl, hb⟩; refine ⟨_, rfl, ?_⟩; replace HB := A_ (below_step (hb_ HB.out) hb); (try clear hb); (try clear hb2); (try clear hk); (try clear hi)))
   go_ret
   exact ⟨er_, hb_ HB.out⟩
 ·rw [if_neg c3] at H
  have c3b0 : (t448 == 0) = false := beq_eq_false_iff_ne.mpr c3
  have c3b1 : (t448 != 0) = true := bne_iff_ne.mpr c3
  obtain rfl := Option.some.inj H
  go_enter Try.func21, Try.ntmps21
  go_wp2_with (first | ((with_reducible refine gate_callee (f := 22) rfl ?_); refine gl_ (some 6) Try.func22 #[.int .i64 64, .int .i64 32, .int .u64 13829653735729319117, .bool false] ?_; (with_reducible refine (chop_Trap.calls k 64 32 13829653735729319117 false t448 t449 _ A1.out).mono ?_); rintro e w20 ⟨rfl, hb⟩; refine ⟨_, rfl, ?_⟩; replace HB := A_ (below_step (hb_ HB.out) hb); (try clear hb); (try clear hb2); (try clear hk); (try clear hi)) | ((with_reducible refine gate_callee (f := 22) rfl ?_); refine gl_ (some 10) Try.func22 #[.int .i64 64, .int .i64 32, .int .u64 13840687554816376832, .bool false] ?_; (with_reducible refine (chop_Trap.calls k 64 32 13840687554816376832 false t450 t451 _ A2.out).mono ?_); rintro e w21 ⟨rfl, hb⟩; refine ⟨_, rfl, ?_⟩; replace HB := A_ (below_step (hb_ HB.out) hb); (try clear hb); (try clear hb2); (try clear hk); (try clear hi)))
  go_ret
  exact ⟨er_, hb_ HB.out⟩
def r2_Known.f (a0 : Int) : Option (Bool) := if a0 = 32 then (some true) else (some (a0 == 64))
theorem r2_Known.calls (a0 : Int) (r : Bool) (w : World) (h : r2_Known.f a0 = some r) :
  Calls Try.prog 10 #[.int .i64 a0] w fun e w' => e = .returned (.bool r) ∧ Drawn0 w w' := by
 have H : (if a0 = 32 then (some true) else (some (a0 == 64))) = some r := h
 clear h
 by_cases c2 : a0 = 32
 ·rw [if_pos c2] at H
  have c2b0 : (a0 == 32) = true := beq_iff_eq.mpr c2
  have c2b1 : (a0 != 32) = false := bne_eq_false_iff_eq.mpr c2
  clear c2
  obtain rfl := Option.some.inj H
  go_enter Try.func10, Try.ntmps10
  go_wp2
  go_ret
  exact ⟨sm_, by repeat (first | exact Drawn0.refl _ | apply Drawn0.step)⟩
 ·rw [if_neg c2] at H
  have c2b0 : (a0 == 32) = false := beq_eq_false_iff_ne.mpr c2
  have c2b1 : (a0 != 32) = true := bne_iff_ne.mpr c2
  obtain rfl := Option.some.inj H
  go_enter Try.func10, Try.ntmps10
  go_wp2
  go_ret
  exact ⟨sm_, by repeat (first | exact Drawn0.refl _ | apply Drawn0.step)⟩
def r1_at.f (l0 : List Int) (a1 : Int) : Option (Int) := if a1 < (l0.length : Int) then (if 0 ≤ a1 then (some (rd l0 a1)) else (none)) else (some 0)
theorem r1_at.calls (A0 : Option Addr) (c0 : Nat) (l0 : List Int) (a1 : Int) (r : Int) (w : World) (hr0 : Kd.C (Kd.int .u64) w A0 l0.length l0) (hc0 : l0.length ≤ c0) (h : r1_at.f l0 a1 = some r) :
  Calls Try.prog 70 #[.slice A0 l0.length c0, .int .i64 a1] w fun e w' => e = .returned (.int .u64 r) ∧ Drawn0 w w' := by
 have HR0 := A_ hr0;have HC0 := A_ hc0;clear hr0 hc0
 have H : (if a1 < (l0.length : Int) then (if 0 ≤ a1 then (some (rd l0 a1)) else (none)) else (some 0)) = some r := h
 clear h
 by_cases c3 : a1 < (l0.length : Int)
 ·rw [if_pos c3] at H
  have c3b0 : decide (a1 < (l0.length : Int)) = true := decide_eq_true c3
  clear c3
  by_cases c4 : 0 ≤ a1
  ·rw [if_pos c4] at H
   have c4b0 : decide (0 ≤ a1) = true := decide_eq_true c4
   clear c4
   obtain rfl := Option.some.inj H
   have p297 : 0 ≤ (a1 : Int) := of_decide_eq_true (by first | (with_reducible assumption) | assumption)
   have q297 : a1 < (l0.length : Int) := of_decide_eq_true (by first | (with_reducible assumption) | assumption)
   obtain ⟨ad297, e297, hx297_0⟩ := Kd.at_int HR0.out a1 p297 q297
   cases e297
   replace p297 := eq_true p297
   replace q297 := eq_true q297
   go_enter Try.func70, Try.ntmps70
   go_wp2
   go_ret
   exact ⟨sm_, by repeat (first | exact Drawn0.refl _ | apply Drawn0.step)⟩
  ·rw [if_neg c4] at H
   exact absurd H (by simp)
 ·rw [if_neg c3] at H
  have c3b0 : decide (a1 < (l0.length : Int)) = false := decide_eq_false c3
  clear c3
  obtain rfl := Option.some.inj H
  go_enter Try.func70, Try.ntmps70
  go_wp2
  go_ret
  exact ⟨sm_, by repeat (first | exact Drawn0.refl _ | apply Drawn0.step)⟩
def r1_Cmp.l0 : Nat → Int → List Int → List Int → Option (Int)
 | 0, _, _, _ => none
 | k + 1, x5, x316000, x317000 => if x5 ≥ 0 then ((r1_at.f x316000 x5).bind fun t317 => ((r1_at.f x317000 x5).bind fun t318 => (if t317 < t318 then (some (-1)) else (if t317 > t318 then (some 1) else (r1_Cmp.l0 k (wrap64 (x5 - 1)) x316000 x317000))))) else (some 0)
def r1_Cmp.f (k : Nat) (l0_0 : List Int) (l1_0 : List Int) : Option (Int) := r1_Cmp.l0 k (wrap64 ((mx (l0_0.length : Int) (l1_0.length : Int)) - 1)) l0_0 l1_0
theorem r1_Cmp.mono_l : ∀ k, (∀ y0 y1 y2, LeO (r1_Cmp.l0 k y0 y1 y2) (r1_Cmp.l0 (k + 1) y0 y1 y2))
 | 0 => fun _ _ _ r h => by simp [r1_Cmp.l0] at h
 | k + 1 => by
  have ih0 := r1_Cmp.mono_l k
  ·intro y0 y1 y2
   unfold r1_Cmp.l0
   repeat' first
   | (with_reducible exact ih0 _ _ _)
   | (with_reducible exact LeO.refl _)
   | (with_reducible exact LeO.none _)
   | (with_reducible refine LeO.ite ?_ ?_)
   | (with_reducible refine LeO.bind ?_ (fun _ => ?_))
   | exact ih0 _ _ _
   | exact LeO.none _
   | refine LeO.ite ?_ ?_
   | refine LeO.bind ?_ (fun _ => ?_)
theorem r1_Cmp.mono : ∀ a0 a1 k, LeO (r1_Cmp.f k a0 a1) (r1_Cmp.f (k + 1) a0 a1) := by
 intro a0 a1 k
 have ih0 := r1_Cmp.mono_l k
 unfold r1_Cmp.f
 repeat' first
   | (with_reducible exact ih0 _ _ _)
   | (with_reducible exact LeO.refl _)
   | (with_reducible exact LeO.none _)
   | (with_reducible refine LeO.ite ?_ ?_)
   | (with_reducible refine LeO.bind ?_ (fun _ => ?_))
   | exact ih0 _ _ _
   | exact LeO.none _
   | refine LeO.ite ?_ ?_
   | refine LeO.bind ?_ (fun _ => ?_)
theorem r1_Cmp.calls (k : Nat) (A0_0 : Option Addr) (c0_0 : Nat) (l0_0 : List Int) (A1_0 : Option Addr) (c1_0 : Nat) (l1_0 : List Int) (r : Int) (w : World) (hr0_0 : Kd.C (Kd.int .u64) w A0_0 l0_0.length l0_0) (hc0_0 : l0_0.length ≤ c0_0) (hr1_0 : Kd.C (Kd.int .u64) w A1_0 l1_0.length l1_0) (hc1_0 : l1_0.length ≤ c1_0) (h : r1_Cmp.f k l0_0 l1_0 = some r) :
  Calls Try.prog 41 #[.agg #[.slice A0_0 l0_0.length c0_0], .agg #[.slice A1_0 l1_0.length c1_0]] w fun e w' => e = .returned (.int .i64 r) ∧ Below w.heap.size w w' := by
 have hu53 := Try.underlying53
 have HR0_0 := A_ hr0_0;have HC0_0 := A_ hc0_0;clear hr0_0 hc0_0;have HR1_0 := A_ hr1_0;have HC1_0 := A_ hc1_0;clear hr1_0 hc1_0
 have HB := A_ (Below.refl w.heap.size w)
 have H : (r1_Cmp.l0 k (wrap64 ((mx (l0_0.length : Int) (l1_0.length : Int)) - 1)) l0_0 l1_0) = some r := h
 clear h
 obtain ⟨ji3, hji3⟩ : ∃ j_ : Int, (mx (l0_0.length : Int) (l1_0.length : Int)) = j_ := ⟨_, rfl⟩
 replace H : (r1_Cmp.l0 k (wrap64 ((ji3) - 1)) l0_0 l1_0) = some r := by first | (rw [hji3] at H; exact H) | (simp only [hji3] at H ⊢; exact H)
 (try (have hji3l : 0 ≤ ji3 := by (rw [← hji3]; unfold mx; (repeat' split) <;> omega)))
 (try (have hji3m : 0 ≤ ji3 := by omega))
 have hji3_ : (if (l0_0.length : Int) < (l1_0.length : Int) then (l1_0.length : Int) else (l0_0.length : Int)) = ji3 := hji3
 have hji3n_ : (if l0_0.length < l1_0.length then (l1_0.length : Int) else (l0_0.length : Int)) = ji3 := by have h_ := hji3_; simpa only [Int.ofNat_lt] using h_
 have H' := A_ H
 clear H
 go_enter Try.func41, Try.ntmps41
 go_wp2_with (first | ((with_reducible refine gate_dst (N := 2) rfl ?_); refine be_ 2 #[.slice A0_0 l0_0.length c0_0] 53 ?_; intro gb315 hg w4 hbox hb; have BK315 := A_ (hbox); have GW315 := A_ (sz_ hg (hb_ HB.out)); have GE315 := A_ (sz_ hg (hb_ HB.out)); replace HB := A_ (below_step (hb_ HB.out) hb); clear hb hbox hg) | ((with_reducible refine gate_dst (N := 3) rfl ?_); refine be_ 3 #[.slice A1_0 l1_0.length c1_0] 53 ?_; intro gb316 hg w5 hbox hb; have BK316 := A_ (hbox); have GW316 := A_ (sz_ hg (hb1_ HB.out GE315.out)); have GE316 := A_ (sz_ hg (hb1_ HB.out GE315.out)); have NB315_316 := A_ (nl_ hg BK315.out); have NB316_315 := A_ (ng_ hg BK315.out); replace BK315 := A_ (bb_ BK315.out hb); replace HB := A_ (below_step (hb1_ HB.out GE315.out) hb); clear hb hbox hg; have hnb6 := NB315_316.out; have hnc6 := NB316_315.out; have hcz7_0 := bv_ BK315.out 0; have hfz7_0 := blk_frozen BK315.out 0; have hcz8_0 := bv_ BK316.out 0; have hfz8_0 := blk_frozen BK316.out 0))
 repeat (go_quiet (first | ((with_reducible refine gate_dst (N := 2) rfl ?_); refine be_ 2 #[.slice A0_0 l0_0.length c0_0] 53 ?_; intro gb315 hg w4 hbox hb; have BK315 := A_ (hbox); have GW315 := A_ (sz_ hg (hb_ HB.out)); have GE315 := A_ (sz_ hg (hb_ HB.out)); replace HB := A_ (below_step (hb_ HB.out) hb); clear hb hbox hg) | ((with_reducible refine gate_dst (N := 3) rfl ?_); refine be_ 3 #[.slice A1_0 l1_0.length c1_0] 53 ?_; intro gb316 hg w5 hbox hb; have BK316 := A_ (hbox); have GW316 := A_ (sz_ hg (hb1_ HB.out GE315.out)); have GE316 := A_ (sz_ hg (hb1_ HB.out GE315.out)); have NB315_316 := A_ (nl_ hg BK315.out); have NB316_315 := A_ (ng_ hg BK315.out); replace BK315 := A_ (bb_ BK315.out hb); replace HB := A_ (below_step (hb1_ HB.out GE315.out) hb); clear hb hbox hg; have hnb6 := NB315_316.out; have hnc6 := NB316_315.out; have hcz7_0 := bv_ BK315.out 0; have hfz7_0 := blk_frozen BK315.out 0; have hcz8_0 := bv_ BK316.out 0; have hfz8_0 := blk_frozen BK316.out 0)); try go_wp2_with (first | ((with_reducible refine gate_dst (N := 2) rfl ?_); refine be_ 2 #[.slice A0_0 l0_0.length c0_0] 53 ?_; intro gb315 hg w4 hbox hb; have BK315 := A_ (hbox); have GW315 := A_ (sz_ hg (hb_ HB.out)); have GE315 := A_ (sz_ hg (hb_ HB.out)); replace HB := A_ (below_step (hb_ HB.out) hb); clear hb hbox hg) | ((with_reducible refine gate_dst (N := 3) rfl ?_); refine be_ 3 #[.slice A1_0 l1_0.length c1_0] 53 ?_; intro gb316 hg w5 hbox hb; have BK316 := A_ (hbox); have GW316 := A_ (sz_ hg (hb1_ HB.out GE315.out)); have GE316 := A_ (sz_ hg (hb1_ HB.out GE315.out)); have NB315_316 := A_ (nl_ hg BK315.out); have NB316_315 := A_ (ng_ hg BK315.out); replace BK315 := A_ (bb_ BK315.out hb); replace HB := A_ (below_step (hb1_ HB.out GE315.out) hb); clear hb hbox hg; have hnb6 := NB315_316.out; have hnc6 := NB316_315.out; have hcz7_0 := bv_ BK315.out 0; have hfz7_0 := blk_frozen BK315.out 0; have hcz8_0 := bv_ BK316.out 0; have hfz8_0 := blk_frozen BK316.out 0)))
 go_loopg [5] k (fun kq v5 w' => ∃ (x5_1 : Int), v5 = .int .i64 x5_1 ∧ Aside0 (r1_Cmp.l0 kq x5_1 l0_0 l1_0 = some r) ∧ Aside0 (kq ≤ k) ∧ Aside0 (w'.heap[gb315]? = some (.cells #[(.slice A0_0 l0_0.length c0_0)] 53 (0, 0))) ∧ Aside0 (w'.heap[gb316]? = some (.cells #[(.slice A1_0 l1_0.length c1_0)] 53 (0, 0))) ∧ Aside0 (Below w.heap.size w w'))
 case atStart => exact ⟨(wrap64 ((ji3) - 1)), (by first | rfl | (simp; done) | (simp only [← hji3] <;> (first | rfl | simp)) | (simp [*]; done)), H', ⟨Nat.le_refl _⟩, ⟨bk_ BK315.out⟩, ⟨bk_ BK316.out⟩, ⟨hb2_ HB.out GE315.out GE316.out⟩⟩
 case round =>
  clear H'
  try clear c1
  try clear p2
  try clear c4
  try clear c6
  try clear p6
  try clear hcz7_0
  try clear hcz8_0
  try clear hfz7_0
  try clear hfz8_0
  obtain ⟨x5_1, rfl, HA, HK1, BK315, BK316, HB⟩ := hrel
  cases gk with
  | zero => exact absurd HA.out (by simp [r1_Cmp.l0])
  | succ k1 =>
   have H := HA.out
   clear HA
   simp only [r1_Cmp.l0] at H
   by_cases c9 : x5_1 ≥ 0
   ·rw [if_pos c9] at H
    have c9b0 : decide (0 ≤ x5_1) = true := decide_eq_true c9
    clear c9
    replace H := ob_ H
    obtain ⟨t317, A100, H⟩ := H
    replace H : ((r1_at.f l1_0 x5_1).bind fun t318 => (if t317 < t318 then (some (-1)) else (if t317 > t318 then (some 1) else (r1_Cmp.l0 k1 (wrap64 (x5_1 - 1)) l0_0 l1_0)))) = some r := H
    have A10 := A_ A100;clear A100
    replace H := ob_ H
    obtain ⟨t318, A110, H⟩ := H
    replace H : (if t317 < t318 then (some (-1)) else (if t317 > t318 then (some 1) else (r1_Cmp.l0 k1 (wrap64 (x5_1 - 1)) l0_0 l1_0))) = some r := H
    have A11 := A_ A110;clear A110
    by_cases c12 : t317 < t318
    ·rw [if_pos c12] at H
     have c12b0 : decide (t317 < t318) = true := decide_eq_true c12
     clear c12
     obtain rfl := Option.some.inj H
     have hnb13 := NB315_316.out
     have hnc13 := NB316_315.out
     have hcz14_0 := bv_ BK315.out 0
     have hfz14_0 := blk_frozen BK315.out 0
     go_wp2_with (first | (go_at_call 70; (with_reducible refine (r1_at.calls _ _ l0_0 x5_1 t317 _ ?side1 ?side2 A10.out).mono ?_); (case side1 => exact cs_ ((Kd.C_below HR0_0.out HB.out))); (case side2 => exact HC0_0.out); rintro e w' ⟨rfl, ⟨nd, rfl⟩⟩; (try first | exact ⟨rfl, _, World.drewN_drewN _ _ _⟩ | exact ⟨rfl, _, Eq.trans (World.drewN_drewN _ _ _) (congrArg (World.drewN _) (Nat.add_assoc _ _ _))⟩); have hcz15_0 := bv_ BK316.out 0; have hfz15_0 := blk_frozen BK316.out 0) | (go_at_call 70; (with_reducible refine (r1_at.calls _ _ l1_0 x5_1 t318 _ ?side1 ?side2 A11.out).mono ?_); (case side1 => exact cs_ ((Kd.C_below HR1_0.out (hb2_ HB.out GE315.out GE316.out)))); (case side2 => exact HC1_0.out); rintro e w' ⟨rfl, ⟨nd, rfl⟩⟩; (try first | exact ⟨rfl, _, World.drewN_drewN _ _ _⟩ | exact ⟨rfl, _, Eq.trans (World.drewN_drewN _ _ _) (congrArg (World.drewN _) (Nat.add_assoc _ _ _))⟩)))
     repeat (go_quiet (first | (go_at_call 70; (with_reducible refine (r1_at.calls _ _ l0_0 x5_1 t317 _ ?side1 ?side2 A10.out).mono ?_); (case side1 => exact cs_ ((Kd.C_below HR0_0.out HB.out))); (case side2 => exact HC0_0.out); rintro e w' ⟨rfl, ⟨nd, rfl⟩⟩; (try first | exact ⟨rfl, _, World.drewN_drewN _ _ _⟩ | exact ⟨rfl, _, Eq.trans (World.drewN_drewN _ _ _) (congrArg (World.drewN _) (Nat.add_assoc _ _ _))⟩); have hcz15_0 := bv_ BK316.out 0; have hfz15_0 := blk_frozen BK316.out 0) | (go_at_call 70; (with_reducible refine (r1_at.calls _ _ l1_0 x5_1 t318 _ ?side1 ?side2 A11.out).mono ?_); (case side1 => exact cs_ ((Kd.C_below HR1_0.out (hb2_ HB.out GE315.out GE316.out)))); (case side2 => exact HC1_0.out); rintro e w' ⟨rfl, ⟨nd, rfl⟩⟩; (try first | exact ⟨rfl, _, World.drewN_drewN _ _ _⟩ | exact ⟨rfl, _, Eq.trans (World.drewN_drewN _ _ _) (congrArg (World.drewN _) (Nat.add_assoc _ _ _))⟩))); try go_wp2_with (first | (go_at_call 70; (with_reducible refine (r1_at.calls _ _ l0_0 x5_1 t317 _ ?side1 ?side2 A10.out).mono ?_); (case side1 => exact cs_ ((Kd.C_below HR0_0.out HB.out))); (case side2 => exact HC0_0.out); rintro e w' ⟨rfl, ⟨nd, rfl⟩⟩; (try first | exact ⟨rfl, _, World.drewN_drewN _ _ _⟩ | exact ⟨rfl, _, Eq.trans (World.drewN_drewN _ _ _) (congrArg (World.drewN _) (Nat.add_assoc _ _ _))⟩); have hcz15_0 := bv_ BK316.out 0; have hfz15_0 := blk_frozen BK316.out 0) | (go_at_call 70; (with_reducible refine (r1_at.calls _ _ l1_0 x5_1 t318 _ ?side1 ?side2 A11.out).mono ?_); (case side1 => exact cs_ ((Kd.C_below HR1_0.out (hb2_ HB.out GE315.out GE316.out)))); (case side2 => exact HC1_0.out); rintro e w' ⟨rfl, ⟨nd, rfl⟩⟩; (try first | exact ⟨rfl, _, World.drewN_drewN _ _ _⟩ | exact ⟨rfl, _, Eq.trans (World.drewN_drewN _ _ _) (congrArg (World.drewN _) (Nat.add_assoc _ _ _))⟩))))
     go_ret
     exact ⟨by first | rfl | (simp [errW_none, errW_some] <;> rfl) | (simp only [← hji3]; first | rfl | (simp [errW_none, errW_some] <;> rfl)) | (simp [*, errW_none, errW_some] <;> rfl), hb2_ HB.out GE315.out GE316.out⟩
    ·rw [if_neg c12] at H
     have c12b0 : decide (t317 < t318) = false := decide_eq_false c12
     clear c12
     by_cases c16 : t317 > t318
     ·rw [if_pos c16] at H
      have c16b0 : decide (t318 < t317) = true := decide_eq_true c16
      clear c16
      obtain rfl := Option.some.inj H
      have hnb17 := NB315_316.out
      have hnc17 := NB316_315.out
      have hcz18_0 := bv_ BK315.out 0
      have hfz18_0 := blk_frozen BK315.out 0
      go_wp2_with (first | (go_at_call 70; (with_reducible refine (r1_at.calls _ _ l0_0 x5_1 t317 _ ?side1 ?side2 A10.out).mono ?_); (case side1 => exact cs_ ((Kd.C_below HR0_0.out HB.out))); (case side2 => exact HC0_0.out); rintro e w' ⟨rfl, ⟨nd, rfl⟩⟩; (try first | exact ⟨rfl, _, World.drewN_drewN _ _ _⟩ | exact ⟨rfl, _, Eq.trans (World.drewN_drewN _ _ _) (congrArg (World.drewN _) (Nat.add_assoc _ _ _))⟩); have hcz19_0 := bv_ BK316.out 0; have hfz19_0 := blk_frozen BK316.out 0) | (go_at_call 70; (with_reducible refine (r1_at.calls _ _ l1_0 x5_1 t318 _ ?side1 ?side2 A11.out).mono ?_); (case side1 => exact cs_ ((Kd.C_below HR1_0.out (hb2_ HB.out GE315.out GE316.out)))); (case side2 => exact HC1_0.out); rintro e w' ⟨rfl, ⟨nd, rfl⟩⟩; (try first | exact ⟨rfl, _, World.drewN_drewN _ _ _⟩ | exact ⟨rfl, _, Eq.trans (World.drewN_drewN _ _ _) (congrArg (World.drewN _) (Nat.add_assoc _ _ _))⟩)))
      repeat (go_quiet (first | (go_at_call 70; (with_reducible refine (r1_at.calls _ _ l0_0 x5_1 t317 _ ?side1 ?side2 A10.out).mono ?_); (case side1 => exact cs_ ((Kd.C_below HR0_0.out HB.out))); (case side2 => exact HC0_0.out); rintro e w' ⟨rfl, ⟨nd, rfl⟩⟩; (try first | exact ⟨rfl, _, World.drewN_drewN _ _ _⟩ | exact ⟨rfl, _, Eq.trans (World.drewN_drewN _ _ _) (congrArg (World.drewN _) (Nat.add_assoc _ _ _))⟩); have hcz19_0 := bv_ BK316.out 0; have hfz19_0 := blk_frozen BK316.out 0) | (go_at_call 70; (with_reducible refine (r1_at.calls _ _ l1_0 x5_1 t318 _ ?side1 ?side2 A11.out).mono ?_); (case side1 => exact cs_ ((Kd.C_below HR1_0.out (hb2_ HB.out GE315.out GE316.out)))); (case side2 => exact HC1_0.out); rintro e w' ⟨rfl, ⟨nd, rfl⟩⟩; (try first | exact ⟨rfl, _, World.drewN_drewN _ _ _⟩ | exact ⟨rfl, _, Eq.trans (World.drewN_drewN _ _ _) (congrArg (World.drewN _) (Nat.add_assoc _ _ _))⟩))); try go_wp2_with (first | (go_at_call 70; (with_reducible refine (r1_at.calls _ _ l0_0 x5_1 t317 _ ?side1 ?side2 A10.out).mono ?_); (case side1 => exact cs_ ((Kd.C_below HR0_0.out HB.out))); (case side2 => exact HC0_0.out); rintro e w' ⟨rfl, ⟨nd, rfl⟩⟩; (try first | exact ⟨rfl, _, World.drewN_drewN _ _ _⟩ | exact ⟨rfl, _, Eq.trans (World.drewN_drewN _ _ _) (congrArg (World.drewN _) (Nat.add_assoc _ _ _))⟩); have hcz19_0 := bv_ BK316.out 0; have hfz19_0 := blk_frozen BK316.out 0) | (go_at_call 70; (with_reducible refine (r1_at.calls _ _ l1_0 x5_1 t318 _ ?side1 ?side2 A11.out).mono ?_); (case side1 => exact cs_ ((Kd.C_below HR1_0.out (hb2_ HB.out GE315.out GE316.out)))); (case side2 => exact HC1_0.out); rintro e w' ⟨rfl, ⟨nd, rfl⟩⟩; (try first | exact ⟨rfl, _, World.drewN_drewN _ _ _⟩ | exact ⟨rfl, _, Eq.trans (World.drewN_drewN _ _ _) (congrArg (World.drewN _) (Nat.add_assoc _ _ _))⟩))))
      go_ret
      exact ⟨by first | rfl | (simp [errW_none, errW_some] <;> rfl) | (simp only [← hji3]; first | rfl | (simp [errW_none, errW_some] <;> rfl)) | (simp [*, errW_none, errW_some] <;> rfl), hb2_ HB.out GE315.out GE316.out⟩
     ·rw [if_neg c16] at H
      have c16b0 : decide (t318 < t317) = false := decide_eq_false c16
      clear c16
      have H' := A_ H
      clear H
      have hnb20 := NB315_316.out
      have hnc20 := NB316_315.out
      have hcz21_0 := bv_ BK315.out 0
      have hfz21_0 := blk_frozen BK315.out 0
      go_wp2_with (first | (go_at_call 70; (with_reducible refine (r1_at.calls _ _ l0_0 x5_1 t317 _ ?side1 ?side2 A10.out).mono ?_); (case side1 => exact cs_ ((Kd.C_below HR0_0.out HB.out))); (case side2 => exact HC0_0.out); rintro e w' ⟨rfl, ⟨nd, rfl⟩⟩; (try first | exact ⟨rfl, _, World.drewN_drewN _ _ _⟩ | exact ⟨rfl, _, Eq.trans (World.drewN_drewN _ _ _) (congrArg (World.drewN _) (Nat.add_assoc _ _ _))⟩); have hcz22_0 := bv_ BK316.out 0; have hfz22_0 := blk_frozen BK316.out 0) | (go_at_call 70; (with_reducible refine (r1_at.calls _ _ l1_0 x5_1 t318 _ ?side1 ?side2 A11.out).mono ?_); (case side1 => exact cs_ ((Kd.C_below HR1_0.out (hb2_ HB.out GE315.out GE316.out)))); (case side2 => exact HC1_0.out); rintro e w' ⟨rfl, ⟨nd, rfl⟩⟩; (try first | exact ⟨rfl, _, World.drewN_drewN _ _ _⟩ | exact ⟨rfl, _, Eq.trans (World.drewN_drewN _ _ _) (congrArg (World.drewN _) (Nat.add_assoc _ _ _))⟩)))
      repeat (go_quiet (first | (go_at_call 70; (with_reducible refine (r1_at.calls _ _ l0_0 x5_1 t317 _ ?side1 ?side2 A10.out).mono ?_); (case side1 => exact cs_ ((Kd.C_below HR0_0.out HB.out))); (case side2 => exact HC0_0.out); rintro e w' ⟨rfl, ⟨nd, rfl⟩⟩; (try first | exact ⟨rfl, _, World.drewN_drewN _ _ _⟩ | exact ⟨rfl, _, Eq.trans (World.drewN_drewN _ _ _) (congrArg (World.drewN _) (Nat.add_assoc _ _ _))⟩); have hcz22_0 := bv_ BK316.out 0; have hfz22_0 := blk_frozen BK316.out 0) | (go_at_call 70; (with_reducible refine (r1_at.calls _ _ l1_0 x5_1 t318 _ ?side1 ?side2 A11.out).mono ?_); (case side1 => exact cs_ ((Kd.C_below HR1_0.out (hb2_ HB.out GE315.out GE316.out)))); (case side2 => exact HC1_0.out); rintro e w' ⟨rfl, ⟨nd, rfl⟩⟩; (try first | exact ⟨rfl, _, World.drewN_drewN _ _ _⟩ | exact ⟨rfl, _, Eq.trans (World.drewN_drewN _ _ _) (congrArg (World.drewN _) (Nat.add_assoc _ _ _))⟩))); try go_wp2_with (first | (go_at_call 70; (with_reducible refine (r1_at.calls _ _ l0_0 x5_1 t317 _ ?side1 ?side2 A10.out).mono ?_); (case side1 => exact cs_ ((Kd.C_below HR0_0.out HB.out))); (case side2 => exact HC0_0.out); rintro e w' ⟨rfl, ⟨nd, rfl⟩⟩; (try first | exact ⟨rfl, _, World.drewN_drewN _ _ _⟩ | exact ⟨rfl, _, Eq.trans (World.drewN_drewN _ _ _) (congrArg (World.drewN _) (Nat.add_assoc _ _ _))⟩); have hcz22_0 := bv_ BK316.out 0; have hfz22_0 := blk_frozen BK316.out 0) | (go_at_call 70; (with_reducible refine (r1_at.calls _ _ l1_0 x5_1 t318 _ ?side1 ?side2 A11.out).mono ?_); (case side1 => exact cs_ ((Kd.C_below HR1_0.out (hb2_ HB.out GE315.out GE316.out)))); (case side2 => exact HC1_0.out); rintro e w' ⟨rfl, ⟨nd, rfl⟩⟩; (try first | exact ⟨rfl, _, World.drewN_drewN _ _ _⟩ | exact ⟨rfl, _, Eq.trans (World.drewN_drewN _ _ _) (congrArg (World.drewN _) (Nat.add_assoc _ _ _))⟩))))
      go_roundg k1
      case measure => have := HK1.out; omega
      case rel => exact ⟨(wrap64 (x5_1 - 1)), sm_, H', ⟨by have := HK1.out; omega⟩, ⟨bk_ BK315.out⟩, ⟨bk_ BK316.out⟩, ⟨hb2_ HB.out GE315.out GE316.out⟩⟩
   ·rw [if_neg c9] at H
    have c9b0 : decide (0 ≤ x5_1) = false := decide_eq_false c9
    clear c9
    obtain rfl := Option.some.inj H
    go_wp2
    repeat (go_quiet (fail); try go_wp2)
    go_ret
    exact ⟨by first | rfl | (simp [errW_none, errW_some] <;> rfl) | (simp only [← hji3]; first | rfl | (simp [errW_none, errW_some] <;> rfl)) | (simp [*, errW_none, errW_some] <;> rfl), hb2_ HB.out GE315.out GE316.out⟩
def r1_trim.l0 : Nat → List Int → Int → Option (List Int)
 | 0, _, _ => none
 | k + 1, x0, x3 => if x3 > 0 then (if 0 ≤ (wrap64 (x3 - 1)) then (if (wrap64 (x3 - 1)) < (x0.length : Int) then (if (rd x0 (wrap64 (x3 - 1))) = 0 then (r1_trim.l0 k x0 (wrap64 (x3 - 1))) else (if 0 ≤ x3 then (if x3 ≤ (x0.length : Int) then (some (x0.take (x3 : Int).toNat)) else (none)) else (none))) else (none)) else (none)) else (if 0 ≤ x3 then (if x3 ≤ (x0.length : Int) then (some (x0.take (x3 : Int).toNat)) else (none)) else (none))
def r1_trim.f (k : Nat) (l0 : List Int) : Option (List Int) := r1_trim.l0 k l0 (l0.length : Int)
theorem r1_trim.mono_l : ∀ k, (∀ y0 y1, LeO (r1_trim.l0 k y0 y1) (r1_trim.l0 (k + 1) y0 y1))
 | 0 => fun _ _ r h => by simp [r1_trim.l0] at h
 | k + 1 => by
  have ih0 := r1_trim.mono_l k
  ·intro y0 y1
   unfold r1_trim.l0
   repeat' first
   | (with_reducible exact ih0 _ _)
   | (with_reducible exact LeO.refl _)
   | (with_reducible exact LeO.none _)
   | (with_reducible refine LeO.ite ?_ ?_)
   | (with_reducible refine LeO.bind ?_ (fun _ => ?_))
   | exact ih0 _ _
   | exact LeO.none _
   | refine LeO.ite ?_ ?_
   | refine LeO.bind ?_ (fun _ => ?_)
theorem r1_trim.mono : ∀ a0 k, LeO (r1_trim.f k a0) (r1_trim.f (k + 1) a0) := by
 intro a0 k
 have ih0 := r1_trim.mono_l k
 unfold r1_trim.f
 repeat' first
   | (with_reducible exact ih0 _ _)
   | (with_reducible exact LeO.refl _)
   | (with_reducible exact LeO.none _)
   | (with_reducible refine LeO.ite ?_ ?_)
   | (with_reducible refine LeO.bind ?_ (fun _ => ?_))
   | exact ih0 _ _
   | exact LeO.none _
   | refine LeO.ite ?_ ?_
   | refine LeO.bind ?_ (fun _ => ?_)
theorem r1_trim.calls (k : Nat) (P0_ : Nat → Prop) (u9000_ : Value) (l0 : List Int) (r : List Int) (w0 w : World) (hB : Below w0.heap.size w0 w) (ho0 : Kd.R (Kd.int .u64) 22 w w0.heap.size P0_ u9000_ l0) (h : r1_trim.f k l0 = some r) :
  Calls Try.prog 71 #[u9000_] w fun e w' => ∃ v0_ : Value, e = .returned (.agg #[v0_]) ∧ Kd.R (Kd.int .u64) 22 w' w0.heap.size (fun k_ => (P0_ k_ ∨ w.heap.size ≤ k_)) v0_ r ∧ Below w0.heap.size w0 w' ∧ Kept w w' (fun k_ => P0_ k_) := by
 have hu53 := Try.underlying53
 have HO0 := A_ (show Kd.R (Kd.int .u64) 22 w w0.heap.size (fun k_ => (P0_ k_ ∨ w.heap.size ≤ k_)) u9000_ l0 from Kd.R_mono ho0 (fun k_ hk => (.inl hk)))
 have HK := A_ (Kept.refl w (fun k_ => P0_ k_))
 have HW0 := A_ hB.size
 have HB := A_ hB;clear hB
 have H : (r1_trim.l0 k l0 (l0.length : Int)) = some r := h
 clear h
 have H' := A_ H
 clear H
 go_enter Try.func71, Try.ntmps71
 go_wp2_with (first | ((with_reducible refine gate_dst (N := 2) rfl ?_); refine be_ 2 #[.slice none 0 0] 53 ?_; intro gb267 hg w2 hbox hb; have BK267 := A_ (hbox); have GW267 := A_ ((by rw [hg]; exact (by first | exact HK.out.1 | exact (show Kept w _ (fun k_ => P0_ k_) from by repeat (first | (with_reducible first | exact HK.out | apply Kept.alloc | apply Kept.drewN | apply Kept.drew) | exact HK.out)).1) : w.heap.size ≤ gb267)); have GE267 := A_ ((by rw [hg]; exact (below_size (hb_ HB.out)) : w0.heap.size ≤ gb267)); replace HO0 := A_ (Kd.R_below (kr_ HO0.out) hb); replace HK := A_ (Kept.below (S := (fun k_ => P0_ k_)) (by repeat (first | (with_reducible first | exact HK.out | apply Kept.alloc | apply Kept.drewN | apply Kept.drew) | exact HK.out)) hb); replace HB := A_ (below_step (hb_ HB.out) hb); clear hb hbox hg; obtain ⟨Ao3, co3, eo3⟩ := Kd.R_slice HO0.out; subst eo3))
 go_loopg [3] k (fun kq v3 w' => ∃ (x3_1 : Int), v3 = .int .i64 x3_1 ∧ Aside0 (r1_trim.l0 kq l0 x3_1 = some r) ∧ Aside0 (kq ≤ k) ∧ Aside0 (Kd.R (Kd.int .u64) 22 w' w0.heap.size (fun k_ => (P0_ k_ ∨ w.heap.size ≤ k_)) (.slice Ao3 l0.length co3) l0) ∧ Aside0 (w'.heap[gb267]? = some (.cells #[(.slice none 0 0)] 53 (0, 0))) ∧ Aside0 (Kept w w' (fun k_ => P0_ k_)) ∧ Aside0 (Below w0.heap.size w0 w'))
 case atStart => exact ⟨((l0.length : Int)), sm_, H', ⟨Nat.le_refl _⟩, ⟨by (with_reducible repeat (first | apply Kd.R_alloc | apply Kd.R_drewN | apply Kd.R_drew)); exact HO0.out⟩, ⟨bk_ BK267.out⟩, ⟨by repeat (first | (with_reducible first | exact HK.out | apply Kept.alloc | apply Kept.drewN | apply Kept.drew | refine Kept.setCell ?_ (.inr GW267.out) _) | exact HK.out)⟩, ⟨hb1_ HB.out GE267.out⟩⟩
 case round =>
  clear H'
  try clear p2
  obtain ⟨x3_1, rfl, HA, HK1, HO_0, BK267, HK, HB⟩ := hrel
  cases gk with
  | zero => exact absurd HA.out (by simp [r1_trim.l0])
  | succ k1 =>
   have H := HA.out
   clear HA
   simp only [r1_trim.l0] at H
   by_cases c4 : x3_1 > 0
   ·rw [if_pos c4] at H
    have c4b0 : decide (0 < x3_1) = true := decide_eq_true c4
    clear c4
    obtain ⟨ji5, hji5⟩ : ∃ j_ : Int, (wrap64 (x3_1 - 1)) = j_ := ⟨_, rfl⟩
    replace H : (if 0 ≤ (ji5) then (if (ji5) < (l0.length : Int) then (if (rd l0 (ji5)) = 0 then (r1_trim.l0 k1 l0 ji5) else (if 0 ≤ x3_1 then (if x3_1 ≤ (l0.length : Int) then (some (l0.take (x3_1 : Int).toNat)) else (none)) else (none))) else (none)) else (none)) = some r := by first | (rw [hji5] at H; exact H) | (simp only [hji5] at H ⊢; exact H)
    have hji5w : (IntKind.i64.wrap (x3_1 - 1)) = ji5 := (i64_w _).trans hji5
    by_cases c6 : 0 ≤ (ji5)
    ·rw [if_pos c6] at H
     have c6b0 : decide (0 ≤ (ji5)) = true := decide_eq_true c6
     clear c6
     by_cases c7 : (ji5) < (l0.length : Int)
     ·rw [if_pos c7] at H
      have c7b0 : decide ((ji5) < (l0.length : Int)) = true := decide_eq_true c7
      clear c7
      by_cases c8 : (rd l0 (ji5)) = 0
      ·rw [if_pos c8] at H
       have c8b0 : ((rd l0 (ji5)) == 0) = true := beq_iff_eq.mpr c8
       have c8b1 : ((rd l0 (ji5)) != 0) = false := bne_eq_false_iff_eq.mpr c8
       clear c8
       have H' := A_ H
       clear H
       have p268 : 0 ≤ ((ji5) : Int) := of_decide_eq_true (by first | (with_reducible assumption) | assumption)
       have q268 : (ji5) < (l0.length : Int) := of_decide_eq_true (by first | (with_reducible assumption) | assumption)
       obtain ⟨ad268, e268, hx268_0⟩ := Kd.at_int (Kd.R_reads' HO_0.out).2.2 (ji5) p268 q268
       cases e268
       replace p268 := eq_true p268
       replace q268 := eq_true q268
       go_wp2
       go_roundg k1
       case measure => have := HK1.out; omega
       case rel => exact ⟨(ji5), (by first | rfl | (simp; done) | (simp only [← hji5] <;> (first | rfl | simp)) | (simp [*]; done)), H', ⟨by have := HK1.out; omega⟩, ⟨by (with_reducible repeat (first | apply Kd.R_alloc | apply Kd.R_drewN | apply Kd.R_drew)); exact HO_0.out⟩, ⟨bk_ BK267.out⟩, ⟨by repeat (first | (with_reducible first | exact HK.out | apply Kept.alloc | apply Kept.drewN | apply Kept.drew | refine Kept.setCell ?_ (.inr GW267.out) _) | exact HK.out)⟩, ⟨hb1_ HB.out GE267.out⟩⟩
      ·rw [if_neg c8] at H
       have c8b0 : ((rd l0 (ji5)) == 0) = false := beq_eq_false_iff_ne.mpr c8
       have c8b1 : ((rd l0 (ji5)) != 0) = true := bne_iff_ne.mpr c8
       by_cases c9 : 0 ≤ x3_1
       ·rw [if_pos c9] at H
        have c9b0 := eq_true c9
        have c9b1 : decide (0 ≤ x3_1) = true := decide_eq_true c9
        clear c9
        by_cases c10 : x3_1 ≤ (l0.length : Int)
        ·rw [if_pos c10] at H
         have c10b0 := eq_true c10
         have c10b1 : decide (x3_1 ≤ (l0.length : Int)) = true := decide_eq_true c10
         clear c10
         obtain ⟨y269, hy269⟩ : ∃ y_ : List Int, y_ = (l0.take (x3_1 : Int).toNat) := ⟨_, rfl⟩
         replace H : (some y269) = some r := by first | (rw [hy269]; with_reducible exact H) | (have H2_ := (Option.bind_some _ _).symm.trans H; rw [hy269]; with_reducible exact H2_) | (have H2_ := (Option.bind_some _ _).symm.trans H; with_reducible exact H2_) | with_reducible exact H | (rw [hy269]; exact H) | exact H
         have Ny269 := A_ hy269;clear hy269
         obtain rfl := Option.some.inj H
         have p268 : 0 ≤ ((ji5) : Int) := of_decide_eq_true (by first | (with_reducible assumption) | assumption)
         have q268 : (ji5) < (l0.length : Int) := of_decide_eq_true (by first | (with_reducible assumption) | assumption)
         obtain ⟨ad268, e268, hx268_0⟩ := Kd.at_int (Kd.R_reads' HO_0.out).2.2 (ji5) p268 q268
         cases e268
         replace p268 := eq_true p268
         replace q268 := eq_true q268
         have q11 : (x3_1 : Int) ≤ ((l0.length : Int) : Int) := of_decide_eq_true (by first | (with_reducible assumption) | assumption)
         obtain ⟨i011, hi011, _, hsz11, _⟩ := info_parts info22
         have hcut11 := cut_to (P := Try.prog) 51 22 .i64 Try.underlying51 hi011 (some ad268) l0.length co3 x3_1 (of_decide_eq_true (by first | (with_reducible assumption) | assumption)) q11 (Kd.R_reads' HO_0.out).2.1
         have hr11 := Kd.R_take (m := (x3_1 : Int).toNat) HO_0.out (by omega)
         have hy11 : y269.length = (x3_1 : Int).toNat := (by rw [Ny269.out, List.length_take]; omega)
         rw [← Ny269.out] at hr11
         rw [← hy11] at hr11 hcut11
         clear hy11 hi011 hsz11 HO_0;have HO271 := A_ hr11;clear hr11
         replace q11 := eq_true q11
         have hcz12_0 := bv_ BK267.out 0
         have hfz12_0 := blk_frozen BK267.out 0
         go_wp2
         refine bodyPost_ret (results_cell_row rfl _ _ gb267 53 #[.slice (some ad268) y269.length co3] (0, 0) _ rfl (by (with_reducible repeat (first | refine blk_drewN ?_ _ | refine blk_drew ?_ | refine blk_alloc ?_ _)); refine blk_put (cs := #[.slice none 0 0]) ?_ 0 _ rfl; (with_reducible repeat (first | refine blk_drewN ?_ _ | refine blk_drew ?_ | refine blk_alloc ?_ _)); exact BK267.out) Try.underlying53 rfl (by kernel_rfl)) rfl ?_
         exact ⟨_, by first | rfl | (simp [errW_none, errW_some] <;> rfl) | (simp only [← hji5]; first | rfl | (simp [errW_none, errW_some] <;> rfl)) | (simp [*, errW_none, errW_some] <;> rfl), by (with_reducible repeat (first | apply Kd.R_alloc | apply Kd.R_drewN | apply Kd.R_drew)); exact Kd.R_mono (Kd.R_far (p := ⟨gb267, 0, none⟩) (Kd.R_types HO271.out BK267.out (by decide)) (fun _ hk => hk.2) (.slice (some ad268) y269.length co3)) (fun _ hk => hk.1), by repeat (first | (with_reducible first | exact HB.out | apply below_alloc | apply pw_below_drewN | apply below_drew1 | refine below_set ?_ GE267.out) | exact HB.out), by repeat (first | (with_reducible first | exact HK.out | apply Kept.alloc | apply Kept.drewN | apply Kept.drew | refine Kept.setCell ?_ (.inr GW267.out) _) | exact HK.out)⟩
        ·rw [if_neg c10] at H
         exact absurd H (by simp)
       ·rw [if_neg c9] at H
        exact absurd H (by simp)
     ·rw [if_neg c7] at H
      exact absurd H (by simp)
    ·rw [if_neg c6] at H
     exact absurd H (by simp)
   ·rw [if_neg c4] at H
    have c4b0 : decide (0 < x3_1) = false := decide_eq_false c4
    clear c4
    by_cases c13 : 0 ≤ x3_1
    ·rw [if_pos c13] at H
     have c13b0 := eq_true c13
     have c13b1 : decide (0 ≤ x3_1) = true := decide_eq_true c13
     clear c13
     by_cases c14 : x3_1 ≤ (l0.length : Int)
     ·rw [if_pos c14] at H
      have c14b0 := eq_true c14
      have c14b1 : decide (x3_1 ≤ (l0.length : Int)) = true := decide_eq_true c14
      clear c14
      obtain ⟨y272, hy272⟩ : ∃ y_ : List Int, y_ = (l0.take (x3_1 : Int).toNat) := ⟨_, rfl⟩
      replace H : (some y272) = some r := by first | (rw [hy272]; with_reducible exact H) | (have H2_ := (Option.bind_some _ _).symm.trans H; rw [hy272]; with_reducible exact H2_) | (have H2_ := (Option.bind_some _ _).symm.trans H; with_reducible exact H2_) | with_reducible exact H | (rw [hy272]; exact H) | exact H
      have Ny272 := A_ hy272;clear hy272
      obtain rfl := Option.some.inj H
      have q15 : (x3_1 : Int) ≤ ((l0.length : Int) : Int) := of_decide_eq_true (by first | (with_reducible assumption) | assumption)
      obtain ⟨i015, hi015, _, hsz15, _⟩ := info_parts info22
      have hcut15 := cut_to (P := Try.prog) 51 22 .i64 Try.underlying51 hi015 Ao3 l0.length co3 x3_1 (of_decide_eq_true (by first | (with_reducible assumption) | assumption)) q15 (Kd.R_reads' HO_0.out).2.1
      have hr15 := Kd.R_take (m := (x3_1 : Int).toNat) HO_0.out (by omega)
      have hy15 : y272.length = (x3_1 : Int).toNat := (by rw [Ny272.out, List.length_take]; omega)
      rw [← Ny272.out] at hr15
      rw [← hy15] at hr15 hcut15
      clear hy15 hi015 hsz15 HO_0;have HO274 := A_ hr15;clear hr15
      replace q15 := eq_true q15
      have hcz16_0 := bv_ BK267.out 0
      have hfz16_0 := blk_frozen BK267.out 0
      go_wp2
      refine bodyPost_ret (results_cell_row rfl _ _ gb267 53 #[.slice Ao3 y272.length co3] (0, 0) _ rfl (by (with_reducible repeat (first | refine blk_drewN ?_ _ | refine blk_drew ?_ | refine blk_alloc ?_ _)); refine blk_put (cs := #[.slice none 0 0]) ?_ 0 _ rfl; (with_reducible repeat (first | refine blk_drewN ?_ _ | refine blk_drew ?_ | refine blk_alloc ?_ _)); exact BK267.out) Try.underlying53 rfl (by kernel_rfl)) rfl ?_
      exact ⟨_, by first | rfl | (simp [errW_none, errW_some] <;> rfl) | (simp [*, errW_none, errW_some] <;> rfl), by (with_reducible repeat (first | apply Kd.R_alloc | apply Kd.R_drewN | apply Kd.R_drew)); exact Kd.R_mono (Kd.R_far (p := ⟨gb267, 0, none⟩) (Kd.R_types HO274.out BK267.out (by decide)) (fun _ hk => hk.2) (.slice Ao3 y272.length co3)) (fun _ hk => hk.1), by repeat (first | (with_reducible first | exact HB.out | apply below_alloc | apply pw_below_drewN | apply below_drew1 | refine below_set ?_ GE267.out) | exact HB.out), by repeat (first | (with_reducible first | exact HK.out | apply Kept.alloc | apply Kept.drewN | apply Kept.drew | refine Kept.setCell ?_ (.inr GW267.out) _) | exact HK.out)⟩
     ·rw [if_neg c14] at H
      exact absurd H (by simp)
    ·rw [if_neg c13] at H
     exact absurd H (by simp)
def r1_Of.f (k : Nat) (a0 : Int) : Option (List Int) := (r1_trim.f k (([Int.tmod a0 4294967296, IntKind.u64.wrap (Int.tdiv a0 4294967296)] : List Int))).bind fun t294 => (some t294)
theorem r1_Of.mono : ∀ a0 k, LeO (r1_Of.f k a0) (r1_Of.f (k + 1) a0) := by
 intro a0 k
 unfold r1_Of.f
 repeat' first
   | (with_reducible exact r1_trim.mono _ _)
   | (with_reducible exact LeO.refl _)
   | (with_reducible exact LeO.none _)
   | (with_reducible refine LeO.ite ?_ ?_)
   | (with_reducible refine LeO.bind ?_ (fun _ => ?_))
   | exact r1_trim.mono _ _
   | exact LeO.none _
   | refine LeO.ite ?_ ?_
   | refine LeO.bind ?_ (fun _ => ?_)
theorem r1_Of.calls (k : Nat) (a0 : Int) (r : List Int) (w : World) (h : r1_Of.f k a0 = some r) :
  Calls Try.prog 33 #[.int .u64 a0] w fun e w' => ∃ v0_ : Value, e = .returned (.agg #[v0_]) ∧ Kd.R (Kd.int .u64) 22 w' w.heap.size (fun _ => True) v0_ r ∧ Below w.heap.size w w' := by
 have hu53 := Try.underlying53
 have HB := A_ (Below.refl w.heap.size w)
 have H : ((r1_trim.f k (([Int.tmod a0 4294967296, IntKind.u64.wrap (Int.tdiv a0 4294967296)] : List Int))).bind fun t294 => (some t294)) = some r := h
 clear h
 obtain ⟨y291, hy291⟩ : ∃ y_ : List Int, y_ = (([Int.tmod a0 4294967296, IntKind.u64.wrap (Int.tdiv a0 4294967296)] : List Int)) := ⟨_, rfl⟩
 replace H : ((r1_trim.f k y291).bind fun t294 => (some t294)) = some r := by first | (rw [hy291]; with_reducible exact H) | (have H2_ := (Option.bind_some _ _).symm.trans H; rw [hy291]; with_reducible exact H2_) | (have H2_ := (Option.bind_some _ _).symm.trans H; with_reducible exact H2_) | with_reducible exact H | (rw [hy291]; exact H) | exact H
 have Ny291 := A_ hy291;clear hy291
 replace H := ob_ H
 obtain ⟨t294, A20, H⟩ := H
 replace H : (some t294) = some r := H
 have A2 := A_ A20;clear A20
 obtain rfl := Option.some.inj H
 go_enter Try.func33, Try.ntmps33
 go_wp2_with (first | ((with_reducible refine gate_dst (N := 2) rfl ?_); refine be_ 2 #[.slice none 0 0] 53 ?_; intro gb290 hg w3 hbox hb; have BK290 := A_ (hbox); have GW290 := A_ (sz_ hg (hb_ HB.out)); have GE290 := A_ (sz_ hg (hb_ HB.out)); replace HB := A_ (below_step (hb_ HB.out) hb); clear hb hbox hg) | ((with_reducible refine gate_dst (N := 7) rfl ?_); refine Kd.R_lit (Kd.int .u64) _ 22 ?hg (N := 7) ?hd (xs := ([Int.tmod a0 4294967296, IntKind.u64.wrap (Int.tdiv a0 4294967296)] : List Int)) (inner := [.int .u64 (Int.tmod a0 4294967296), .int .u64 (IntKind.u64.wrap (Int.tdiv a0 4294967296))]) (ok := fun _ => True) (okp := fun _ => True) ?hr ?hp (fun _ hk => hk) trivial (Below.refl _ _) (Nat.le_refl _) (by simp) ?_; (case hd => rfl); (case hg => rfl); (case hr => first | (go_simp; done) | (go_simp; rfl)); (case hp => exact (Reps.one (show Kd.M (Kd.int .u64) _ _ _ (Int.tmod a0 4294967296) [.int .u64 (Int.tmod a0 4294967296)] from rfl) (Reps.one (show Kd.M (Kd.int .u64) _ _ _ (IntKind.u64.wrap (Int.tdiv a0 4294967296)) [.int .u64 (IntKind.u64.wrap (Int.tdiv a0 4294967296))] from rfl) (Reps.none _ _)))); intro v292 w4 ho5 hb hg_ hnew_; clear hg_ hnew_; (first | rw [← Ny291.out] at ho5 | (simp only [Int.reduceToNat] at ho5; rw [← Ny291.out] at ho5)); have HO293 := A_ (Kd.R_lower ho5 (below_size (hb1_ HB.out GE290.out))); replace BK290 := A_ (bb_ BK290.out hb); replace HB := A_ (below_step (hb1_ HB.out GE290.out) hb); clear hb ho5; obtain ⟨Ao6, co6, eo6⟩ := Kd.R_slice HO293.out; subst eo6) | ((with_reducible refine gate_callee (f := 71) rfl ?_); refine gl_ (some 8) Try.func71 #[.slice Ao6 y291.length co6] ?_; (with_reducible refine (r1_trim.calls k (fun k_ => some k_ = (.slice Ao6 y291.length co6 : Value).ownBlock) (.slice Ao6 y291.length co6) y291 t294 w _ ?side1 ?side2 A2.out).mono ?_); (case side1 => exact hb1_ HB.out GE290.out); (case side2 => exact Kd.R_tight rfl HO293.out); rintro e w7 ⟨v295, rfl, ho0, hb, hkp⟩; refine ⟨_, rfl, ?_⟩; have n0_ := A_ (blk_kept (bk_ BK290.out) hkp (fun hs_ => (fun e_ => (Kd.R_ne HO293.out BK290.out (by decide)) e_) hs_)); have n1_ := A_ (Kd.R_mono (ok' := fun k_ => True) ho0 (fun k_ hk_ => trivial)); have n2_ := A_ (hb); clear BK290; clear HB; clear HO293; have BK290 := n0_; have HO296 := n1_; have HB := n2_; clear n0_ n1_ n2_; (try clear hb); (try clear hkp); (try clear ho0); obtain ⟨Ao8, co8, eo8⟩ := Kd.R_slice HO296.out; subst eo8; have hcz9_0 := bv_ BK290.out 0; have hfz9_0 := blk_frozen BK290.out 0))
 refine bodyPost_ret (results_cell_row rfl _ _ gb290 53 #[.slice Ao8 t294.length co8] (0, 0) _ rfl (by (with_reducible repeat (first | refine blk_drewN ?_ _ | refine blk_drew ?_ | refine blk_alloc ?_ _)); refine blk_put (cs := #[.slice none 0 0]) ?_ 0 _ rfl; (with_reducible repeat (first | refine blk_drewN ?_ _ | refine blk_drew ?_ | refine blk_alloc ?_ _)); exact BK290.out) Try.underlying53 rfl (by kernel_rfl)) rfl ?_
 exact ⟨_, by first | rfl | (simp [errW_none, errW_some] <;> rfl) | (simp [*, errW_none, errW_some] <;> rfl), by (with_reducible repeat (first | apply Kd.R_alloc | apply Kd.R_drewN | apply Kd.R_drew)); exact Kd.R_mono (Kd.R_far (p := ⟨gb290, 0, none⟩) (Kd.R_types HO296.out BK290.out (by decide)) (fun _ hk => hk.2) (.slice Ao8 t294.length co8)) (fun _ hk => trivial), hb1_ HB.out GE290.out⟩
def r1_Uint.f (l0_0 : List Int) : Option (Int) := (r1_at.f l0_0 1).bind fun t536 => ((r1_at.f l0_0 0).bind fun t537 => (some (IntKind.u64.wrap ((IntKind.u64.wrap (t536 * 4294967296)) + t537))))
theorem r1_Uint.calls (A0_0 : Option Addr) (c0_0 : Nat) (l0_0 : List Int) (r : Int) (w : World) (hr0_0 : Kd.C (Kd.int .u64) w A0_0 l0_0.length l0_0) (hc0_0 : l0_0.length ≤ c0_0) (h : r1_Uint.f l0_0 = some r) :
  Calls Try.prog 66 #[.agg #[.slice A0_0 l0_0.length c0_0]] w fun e w' => e = .returned (.int .u64 r) ∧ Below w.heap.size w w' := by
 have hu53 := Try.underlying53
 have HR0_0 := A_ hr0_0;have HC0_0 := A_ hc0_0;clear hr0_0 hc0_0
 have HB := A_ (Below.refl w.heap.size w)
 have H : ((r1_at.f l0_0 1).bind fun t536 => ((r1_at.f l0_0 0).bind fun t537 => (some (IntKind.u64.wrap ((IntKind.u64.wrap (t536 * 4294967296)) + t537))))) = some r := h
 clear h
 replace H := ob_ H
 obtain ⟨t536, A20, H⟩ := H
 replace H : ((r1_at.f l0_0 0).bind fun t537 => (some (IntKind.u64.wrap ((IntKind.u64.wrap (t536 * 4294967296)) + t537)))) = some r := H
 have A2 := A_ A20;clear A20
 replace H := ob_ H
 obtain ⟨t537, A30, H⟩ := H
 replace H : (some (IntKind.u64.wrap ((IntKind.u64.wrap (t536 * 4294967296)) + t537))) = some r := H
 have A3 := A_ A30;clear A30
 obtain rfl := Option.some.inj H
 go_enter Try.func66, Try.ntmps66
 go_wp2_with (first | ((with_reducible refine gate_dst (N := 1) rfl ?_); refine be_ 1 #[.slice A0_0 l0_0.length c0_0] 53 ?_; intro gb535 hg w4 hbox hb; have BK535 := A_ (hbox); have GW535 := A_ (sz_ hg (hb_ HB.out)); have GE535 := A_ (sz_ hg (hb_ HB.out)); replace HB := A_ (below_step (hb_ HB.out) hb); clear hb hbox hg; have hcz5_0 := bv_ BK535.out 0; have hfz5_0 := blk_frozen BK535.out 0) | (go_at_call 70; (with_reducible refine (r1_at.calls _ _ l0_0 1 t536 _ ?side1 ?side2 A2.out).mono ?_); (case side1 => exact cs_ ((Kd.C_below HR0_0.out HB.out))); (case side2 => exact HC0_0.out); rintro e w' ⟨rfl, ⟨nd, rfl⟩⟩; (try first | exact ⟨rfl, _, World.drewN_drewN _ _ _⟩ | exact ⟨rfl, _, Eq.trans (World.drewN_drewN _ _ _) (congrArg (World.drewN _) (Nat.add_assoc _ _ _))⟩)) | (go_at_call 70; (with_reducible refine (r1_at.calls _ _ l0_0 0 t537 _ ?side1 ?side2 A3.out).mono ?_); (case side1 => exact cs_ ((Kd.C_below HR0_0.out (hb1_ HB.out GE535.out)))); (case side2 => exact HC0_0.out); rintro e w' ⟨rfl, ⟨nd, rfl⟩⟩; (try first | exact ⟨rfl, _, World.drewN_drewN _ _ _⟩ | exact ⟨rfl, _, Eq.trans (World.drewN_drewN _ _ _) (congrArg (World.drewN _) (Nat.add_assoc _ _ _))⟩)))
 repeat (go_quiet (first | ((with_reducible refine gate_dst (N := 1) rfl ?_); refine be_ 1 #[.slice A0_0 l0_0.length c0_0] 53 ?_; intro gb535 hg w4 hbox hb; have BK535 := A_ (hbox); have GW535 := A_ (sz_ hg (hb_ HB.out)); have GE535 := A_ (sz_ hg (hb_ HB.out)); replace HB := A_ (below_step (hb_ HB.out) hb); clear hb hbox hg; have hcz5_0 := bv_ BK535.out 0; have hfz5_0 := blk_frozen BK535.out 0) | (go_at_call 70; (with_reducible refine (r1_at.calls _ _ l0_0 1 t536 _ ?side1 ?side2 A2.out).mono ?_); (case side1 => exact cs_ ((Kd.C_below HR0_0.out HB.out))); (case side2 => exact HC0_0.out); rintro e w' ⟨rfl, ⟨nd, rfl⟩⟩; (try first | exact ⟨rfl, _, World.drewN_drewN _ _ _⟩ | exact ⟨rfl, _, Eq.trans (World.drewN_drewN _ _ _) (congrArg (World.drewN _) (Nat.add_assoc _ _ _))⟩)) | (go_at_call 70; (with_reducible refine (r1_at.calls _ _ l0_0 0 t537 _ ?side1 ?side2 A3.out).mono ?_); (case side1 => exact cs_ ((Kd.C_below HR0_0.out (hb1_ HB.out GE535.out)))); (case side2 => exact HC0_0.out); rintro e w' ⟨rfl, ⟨nd, rfl⟩⟩; (try first | exact ⟨rfl, _, World.drewN_drewN _ _ _⟩ | exact ⟨rfl, _, Eq.trans (World.drewN_drewN _ _ _) (congrArg (World.drewN _) (Nat.add_assoc _ _ _))⟩))); try go_wp2_with (first | ((with_reducible refine gate_dst (N := 1) rfl ?_); refine be_ 1 #[.slice A0_0 l0_0.length c0_0] 53 ?_; intro gb535 hg w4 hbox hb; have BK535 := A_ (hbox); have GW535 := A_ (sz_ hg (hb_ HB.out)); have GE535 := A_ (sz_ hg (hb_ HB.out)); replace HB := A_ (below_step (hb_ HB.out) hb); clear hb hbox hg; have hcz5_0 := bv_ BK535.out 0; have hfz5_0 := blk_frozen BK535.out 0) | (go_at_call 70; (with_reducible refine (r1_at.calls _ _ l0_0 1 t536 _ ?side1 ?side2 A2.out).mono ?_); (case side1 => exact cs_ ((Kd.C_below HR0_0.out HB.out))); (case side2 => exact HC0_0.out); rintro e w' ⟨rfl, ⟨nd, rfl⟩⟩; (try first | exact ⟨rfl, _, World.drewN_drewN _ _ _⟩ | exact ⟨rfl, _, Eq.trans (World.drewN_drewN _ _ _) (congrArg (World.drewN _) (Nat.add_assoc _ _ _))⟩)) | (go_at_call 70; (with_reducible refine (r1_at.calls _ _ l0_0 0 t537 _ ?side1 ?side2 A3.out).mono ?_); (case side1 => exact cs_ ((Kd.C_below HR0_0.out (hb1_ HB.out GE535.out)))); (case side2 => exact HC0_0.out); rintro e w' ⟨rfl, ⟨nd, rfl⟩⟩; (try first | exact ⟨rfl, _, World.drewN_drewN _ _ _⟩ | exact ⟨rfl, _, Eq.trans (World.drewN_drewN _ _ _) (congrArg (World.drewN _) (Nat.add_assoc _ _ _))⟩))))
 go_ret
 exact ⟨er_, hb1_ HB.out GE535.out⟩
def r2_Cut.f (a0 : Int) (a1 : Int) : Option (Int) := if a0 = 32 then (some (Int.tmod a1 4294967296)) else (some a1)
theorem r2_Cut.calls (a0 : Int) (a1 : Int) (r : Int) (w : World) (h : r2_Cut.f a0 a1 = some r) :
  Calls Try.prog 57 #[.int .i64 a0, .int .u64 a1] w fun e w' => e = .returned (.int .u64 r) ∧ Drawn0 w w' := by
 have H : (if a0 = 32 then (some (Int.tmod a1 4294967296)) else (some a1)) = some r := h
 clear h
 by_cases c3 : a0 = 32
 ·rw [if_pos c3] at H
  have c3b0 : (a0 == 32) = true := beq_iff_eq.mpr c3
  have c3b1 : (a0 != 32) = false := bne_eq_false_iff_eq.mpr c3
  clear c3
  obtain rfl := Option.some.inj H
  go_enter Try.func57, Try.ntmps57
  go_wp2
  go_ret
  exact ⟨sm_, by repeat (first | exact Drawn0.refl _ | apply Drawn0.step)⟩
 ·rw [if_neg c3] at H
  have c3b0 : (a0 == 32) = false := beq_eq_false_iff_ne.mpr c3
  have c3b1 : (a0 != 32) = true := bne_iff_ne.mpr c3
  obtain rfl := Option.some.inj H
  go_enter Try.func57, Try.ntmps57
  go_wp2
  go_ret
  exact ⟨sm_, by repeat (first | exact Drawn0.refl _ | apply Drawn0.step)⟩
def r2_B.f (a0 : Int) : Option (Int) := if a0 = 32 then (some 127) else (some 1023)
theorem r2_B.calls (a0 : Int) (r : Int) (w : World) (h : r2_B.f a0 = some r) :
  Calls Try.prog 83 #[.int .i64 a0] w fun e w' => e = .returned (.int .i64 r) ∧ Drawn0 w w' := by
 have H : (if a0 = 32 then (some 127) else (some 1023)) = some r := h
 clear h
 by_cases c2 : a0 = 32
 ·rw [if_pos c2] at H
  have c2b0 : (a0 == 32) = true := beq_iff_eq.mpr c2
  have c2b1 : (a0 != 32) = false := bne_eq_false_iff_eq.mpr c2
  clear c2
  obtain rfl := Option.some.inj H
  go_enter Try.func83, Try.ntmps83
  go_wp2
  go_ret
  exact ⟨sm_, by repeat (first | exact Drawn0.refl _ | apply Drawn0.step)⟩
 ·rw [if_neg c2] at H
  have c2b0 : (a0 == 32) = false := beq_eq_false_iff_ne.mpr c2
  have c2b1 : (a0 != 32) = true := bne_iff_ne.mpr c2
  obtain rfl := Option.some.inj H
  go_enter Try.func83, Try.ntmps83
  go_wp2
  go_ret
  exact ⟨sm_, by repeat (first | exact Drawn0.refl _ | apply Drawn0.step)⟩
def r2_E.f (a0 : Int) : Option (Int) := if a0 = 32 then (some 8) else (some 11)
theorem r2_E.calls (a0 : Int) (r : Int) (w : World) (h : r2_E.f a0 = some r) :
  Calls Try.prog 60 #[.int .i64 a0] w fun e w' => e = .returned (.int .i64 r) ∧ Drawn0 w w' := by
 have H : (if a0 = 32 then (some 8) else (some 11)) = some r := h
 clear h
 by_cases c2 : a0 = 32
 ·rw [if_pos c2] at H
  have c2b0 : (a0 == 32) = true := beq_iff_eq.mpr c2
  have c2b1 : (a0 != 32) = false := bne_eq_false_iff_eq.mpr c2
  clear c2
  obtain rfl := Option.some.inj H
  go_enter Try.func60, Try.ntmps60
  go_wp2
  go_ret
  exact ⟨sm_, by repeat (first | exact Drawn0.refl _ | apply Drawn0.step)⟩
 ·rw [if_neg c2] at H
  have c2b0 : (a0 == 32) = false := beq_eq_false_iff_ne.mpr c2
  have c2b1 : (a0 != 32) = true := bne_iff_ne.mpr c2
  obtain rfl := Option.some.inj H
  go_enter Try.func60, Try.ntmps60
  go_wp2
  go_ret
  exact ⟨sm_, by repeat (first | exact Drawn0.refl _ | apply Drawn0.step)⟩
def r2_F.f (a0 : Int) : Option (Int) := (r2_E.f a0).bind fun t235 => (some (wrap64 ((wrap64 (a0 - 1)) - t235)))
theorem r2_F.calls (a0 : Int) (r : Int) (w : World) (h : r2_F.f a0 = some r) :
  Calls Try.prog 59 #[.int .i64 a0] w fun e w' => e = .returned (.int .i64 r) ∧ Drawn0 w w' := by
 have H : ((r2_E.f a0).bind fun t235 => (some (wrap64 ((wrap64 (a0 - 1)) - t235)))) = some r := h
 clear h
 replace H := ob_ H
 obtain ⟨t235, A20, H⟩ := H
 replace H : (some (wrap64 ((wrap64 (a0 - 1)) - t235))) = some r := H
 have A2 := A_ A20;clear A20
 obtain rfl := Option.some.inj H
 go_enter Try.func59, Try.ntmps59
 go_wp2_with (first | ((with_reducible refine gate_callee (f := 60) rfl ?_); refine gl_ (some 6) Try.func60 #[.int .i64 a0] ?_; (with_reducible refine (r2_E.calls a0 t235 _ A2.out).mono ?_); rintro e w' ⟨rfl, ⟨nd, rfl⟩⟩; refine ⟨_, rfl, ?_⟩))
 go_ret
 exact ⟨sm_, by repeat (first | exact Drawn0.refl _ | apply Drawn0.step)⟩
end Go.Proofs.Ytjjehbedpgdhgaa.PA
