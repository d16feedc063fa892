/- What the Go functions that the statement ChopBack reaches compute, and the mathematics on it, in the order in which one leans on the other; for every input. -/
import Derived.Test.YthdeeoallfbjmaaDoorVChopBack1
import Derived.Test.YthdeeoallfbjmaaDoorMChopBack0
import Derived.Test.YthdeeoallfbjmaaDoorMChopBack6
import Derived.Test.YthdeeoallfbjmaaDoorMChopBack7
import Derived.Test.YthdeeoallfbjmaaDoorMChopBack5
import Derived.Test.YthdeeoallfbjmaaDoorMChopBack2
import Derived.Test.YthdeeoallfbjmaaDoorMChopBack1
import Derived.Deep.RegionHeld3
import Derived.Test.YthdeeoallfbjmaaDoorMChopBack4
import Derived.Test.YthdeeoallfbjmaaDoorMChopBack3
import Derived.Test.YthdeeoallfbjmaaDoorRows
import Derived.ProofKit
import Derived.JoinedOf
import Derived.KernelRfl
namespace Go.Proofs.YthdeeoallfbjmaaDoor.PA
open Go.RowKit Go.Proofs.YthdeeoallfbjmaaDoorW.PrintWords Go.Proofs.YthdeeoallfbjmaaDoorW.PrintLast Go.Proofs.YthdeeoallfbjmaaDoorW.PrintMore
attribute [local go_sem] max2_int min2_int max_two min_two max_three min_three max_four min_four   -- for this text's walks alone
set_option linter.unusedVariables false
set_option linter.unusedSimpArgs false
set_option maxHeartbeats 8000000
set_option maxRecDepth 100000
def L12_ChopBack.j0 : Nat → Int → Bool → Int → Int → Bool → Option (Bool)
 | 0, _, _, _, _, _ => none
 | k + 1, x1, x44, x667000, x667001, x667002 => if x44 = true then (some false) else ((cast_Exact.f k x667000 x667001 x1 x667002).bind fun t671 => (if t671 = true then ((cast_FromUint.f k x667000 x667001 x1).bind fun t672 => (if x667002 = true then ((cast_FromInt.f k x667000 x667001 x1).bind fun t673 => ((chop_Trap.f k x667000 x667001 t673 x667002).bind fun bt674 => (if bt674.2 = 0 then (if 0 ≤ (wrap64 (64 - x667001)) then (some (bt674.1 == (shr .u64 (shl .u64 x1 (wrap64 (64 - x667001))) (wrap64 (64 - x667001))))) else (none)) else (some false)))) else ((chop_Trap.f k x667000 x667001 t672 x667002).bind fun bt676 => (if bt676.2 = 0 then (if 0 ≤ (wrap64 (64 - x667001)) then (some (bt676.1 == (shr .u64 (shl .u64 x1 (wrap64 (64 - x667001))) (wrap64 (64 - x667001))))) else (none)) else (some false))))) else (some true)))
def L12_ChopBack.f (k : Nat) (a0_0 : Int) (a0_1 : Int) (a0_2 : Bool) (a1 : Int) : Option (Bool) := (L12_awake.f k).bind fun t667 => (if t667 = true then ((chop_Trap.f k a0_0 a0_1 a1 a0_2).bind fun bt668 => (if bt668.2 = 0 then ((chop_Sat.f k a0_0 a0_1 a1 a0_2).bind fun t670 => (if t670 = bt668.1 then (L12_ChopBack.j0 k a1 false a0_0 a0_1 a0_2) else (L12_ChopBack.j0 k a1 true a0_0 a0_1 a0_2))) else (L12_ChopBack.j0 k a1 (bt668.1 != 0) a0_0 a0_1 a0_2))) else (some false))
theorem L12_ChopBack.mono_l : ∀ k, (∀ y0 y1 y2 y3 y4, LeO (L12_ChopBack.j0 k y0 y1 y2 y3 y4) (L12_ChopBack.j0 (k + 1) y0 y1 y2 y3 y4))
 | 0 => fun _ _ _ _ _ r h => by simp [L12_ChopBack.j0] at h
 | k + 1 => by
  have ih0 := L12_ChopBack.mono_l k
  ·intro y0 y1 y2 y3 y4
   unfold L12_ChopBack.j0
   repeat' first
   | (with_reducible exact ih0 _ _ _ _ _)
   | (with_reducible exact cast_Exact.mono _ _ _ _ _)
   | (with_reducible exact cast_FromInt.mono _ _ _ _)
   | (with_reducible exact cast_FromUint.mono _ _ _ _)
   | (with_reducible exact chop_Sat.mono _ _ _ _ _)
   | (with_reducible exact chop_Trap.mono _ _ _ _ _)
   | (with_reducible exact L12_awake.mono _)
   | (with_reducible exact LeO.refl _)
   | (with_reducible exact LeO.none _)
   | (with_reducible refine LeO.ite ?_ ?_)
   | (with_reducible refine LeO.bind ?_ (fun _ => ?_))
   | exact ih0 _ _ _ _ _
   | exact cast_Exact.mono _ _ _ _ _
   | exact cast_FromInt.mono _ _ _ _
   | exact cast_FromUint.mono _ _ _ _
   | exact chop_Sat.mono _ _ _ _ _
   | exact chop_Trap.mono _ _ _ _ _
   | exact L12_awake.mono _
   | exact LeO.none _
   | refine LeO.ite ?_ ?_
   | refine LeO.bind ?_ (fun _ => ?_)
theorem L12_ChopBack.mono : ∀ a0 a1 a2 a3 k, LeO (L12_ChopBack.f k a0 a1 a2 a3) (L12_ChopBack.f (k + 1) a0 a1 a2 a3) := by
 intro a0 a1 a2 a3 k
 have ih0 := L12_ChopBack.mono_l k
 unfold L12_ChopBack.f
 repeat' first
   | (with_reducible exact ih0 _ _ _ _ _)
   | (with_reducible exact cast_Exact.mono _ _ _ _ _)
   | (with_reducible exact cast_FromInt.mono _ _ _ _)
   | (with_reducible exact cast_FromUint.mono _ _ _ _)
   | (with_reducible exact chop_Sat.mono _ _ _ _ _)
   | (with_reducible exact chop_Trap.mono _ _ _ _ _)
   | (with_reducible exact L12_awake.mono _)
   | (with_reducible exact LeO.refl _)
   | (with_reducible exact LeO.none _)
   | (with_reducible refine LeO.ite ?_ ?_)
   | (with_reducible refine LeO.bind ?_ (fun _ => ?_))
   | exact ih0 _ _ _ _ _
   | exact cast_Exact.mono _ _ _ _ _
   | exact cast_FromInt.mono _ _ _ _
   | exact cast_FromUint.mono _ _ _ _
   | exact chop_Sat.mono _ _ _ _ _
   | exact chop_Trap.mono _ _ _ _ _
   | exact L12_awake.mono _
   | exact LeO.none _
   | refine LeO.ite ?_ ?_
   | refine LeO.bind ?_ (fun _ => ?_)
theorem L12_ChopBack.calls (k : Nat) (a0_0 : Int) (a0_1 : Int) (a0_2 : Bool) (a1 : Int) (r : Bool) (w : World) (h : L12_ChopBack.f k a0_0 a0_1 a0_2 a1 = some r) (hr_ : Aside0 (r = true)) (T_ : Aside0 (TT w)) :
  Calls Tryd.prog 7 #[.agg #[.int .i64 a0_0, .int .i64 a0_1, .bool a0_2], .int .u64 a1] w fun e w' => e = .returned (.bool r) ∧ Below w.heap.size w w' := by
 have hu42 := Tryd.underlying42
 have HB := A_ (Below.refl w.heap.size w)
 have H : ((L12_awake.f k).bind fun t667 => (if t667 = true then ((chop_Trap.f k a0_0 a0_1 a1 a0_2).bind fun bt668 => (if bt668.2 = 0 then ((chop_Sat.f k a0_0 a0_1 a1 a0_2).bind fun t670 => (if t670 = bt668.1 then (L12_ChopBack.j0 k a1 false a0_0 a0_1 a0_2) else (L12_ChopBack.j0 k a1 true a0_0 a0_1 a0_2))) else (L12_ChopBack.j0 k a1 (bt668.1 != 0) a0_0 a0_1 a0_2))) else (some false))) = some r := h
 clear h
 replace H := ob_ H
 obtain ⟨t667, A30, H⟩ := H
 replace H : (if t667 = true then ((chop_Trap.f k a0_0 a0_1 a1 a0_2).bind fun bt668 => (if bt668.2 = 0 then ((chop_Sat.f k a0_0 a0_1 a1 a0_2).bind fun t670 => (if t670 = bt668.1 then (L12_ChopBack.j0 k a1 false a0_0 a0_1 a0_2) else (L12_ChopBack.j0 k a1 true a0_0 a0_1 a0_2))) else (L12_ChopBack.j0 k a1 (bt668.1 != 0) a0_0 a0_1 a0_2))) else (some false)) = some r := H
 have A3 := A_ A30;clear A30
 by_cases c4 : t667 = true
 ·subst c4
  have H1 : ((chop_Trap.f k a0_0 a0_1 a1 a0_2).bind fun bt668 => (if bt668.2 = 0 then ((chop_Sat.f k a0_0 a0_1 a1 a0_2).bind fun t670 => (if t670 = bt668.1 then (L12_ChopBack.j0 k a1 false a0_0 a0_1 a0_2) else (L12_ChopBack.j0 k a1 true a0_0 a0_1 a0_2))) else (L12_ChopBack.j0 k a1 (bt668.1 != 0) a0_0 a0_1 a0_2))) = some r := by rw [if_pos rfl] at H; exact H
  clear H;have H := H1;clear H1
  replace H := ob_ H
  obtain ⟨⟨t668, t669⟩, A50, H⟩ := H
  replace H : (if t669 = 0 then ((chop_Sat.f k a0_0 a0_1 a1 a0_2).bind fun t670 => (if t670 = t668 then (L12_ChopBack.j0 k a1 false a0_0 a0_1 a0_2) else (L12_ChopBack.j0 k a1 true a0_0 a0_1 a0_2))) else (L12_ChopBack.j0 k a1 (t668 != 0) a0_0 a0_1 a0_2)) = some r := H
  have A5 := A_ A50;clear A50;have HC6 := A_ H;clear H
  go_enter Tryd.func7, Tryd.ntmps7
  go_upto_region 4 with (first | ((with_reducible refine gate_dst (N := 2) rfl ?_); refine be_ 2 #[.int .i64 a0_0, .int .i64 a0_1, .bool a0_2] 42 ?_; intro gb666 hg w7 hbox hb; have BK666 := A_ (hbox); have GW666 := A_ (sz_ hg (hb_ HB.out)); have GE666 := A_ (sz_ hg (hb_ HB.out)); replace HB := A_ (below_step (hb_ HB.out) hb); clear hb hbox hg) | (go_at_call 35; (with_reducible refine (L12_awake.calls k  true _ A3.out).mono ?_); rintro e w8 ⟨rfl, hb⟩; replace BK666 := A_ (bb_ BK666.out hb); replace HB := A_ (below_step (hb1_ HB.out GE666.out) hb); (try clear hb); (try clear hb2); (try clear hk); (try clear hi); have hcz9_0 := bv_ BK666.out 0; have hcz9_1 := bv_ BK666.out 1; have hcz9_2 := bv_ BK666.out 2; have hfz9_0 := blk_frozen BK666.out 0; have hfz9_1 := blk_frozen BK666.out 1; have hfz9_2 := blk_frozen BK666.out 2) | (go_at_call 36; (with_reducible refine (chop_Trap.calls k a0_0 a0_1 a1 a0_2 t668 t669 _ A5.out).mono ?_); rintro e w10 ⟨rfl, hb⟩; replace BK666 := A_ (bb_ BK666.out hb); replace HB := A_ (below_step (hb1_ HB.out GE666.out) hb); (try clear hb); (try clear hb2); (try clear hk); (try clear hi)))
  repeat (go_quiet (first | ((with_reducible refine gate_dst (N := 2) rfl ?_); refine be_ 2 #[.int .i64 a0_0, .int .i64 a0_1, .bool a0_2] 42 ?_; intro gb666 hg w7 hbox hb; have BK666 := A_ (hbox); have GW666 := A_ (sz_ hg (hb_ HB.out)); have GE666 := A_ (sz_ hg (hb_ HB.out)); replace HB := A_ (below_step (hb_ HB.out) hb); clear hb hbox hg) | (go_at_call 35; (with_reducible refine (L12_awake.calls k  true _ A3.out).mono ?_); rintro e w8 ⟨rfl, hb⟩; replace BK666 := A_ (bb_ BK666.out hb); replace HB := A_ (below_step (hb1_ HB.out GE666.out) hb); (try clear hb); (try clear hb2); (try clear hk); (try clear hi); have hcz9_0 := bv_ BK666.out 0; have hcz9_1 := bv_ BK666.out 1; have hcz9_2 := bv_ BK666.out 2; have hfz9_0 := blk_frozen BK666.out 0; have hfz9_1 := blk_frozen BK666.out 1; have hfz9_2 := blk_frozen BK666.out 2) | (go_at_call 36; (with_reducible refine (chop_Trap.calls k a0_0 a0_1 a1 a0_2 t668 t669 _ A5.out).mono ?_); rintro e w10 ⟨rfl, hb⟩; replace BK666 := A_ (bb_ BK666.out hb); replace HB := A_ (below_step (hb1_ HB.out GE666.out) hb); (try clear hb); (try clear hb2); (try clear hk); (try clear hi))); go_upto_region 4 with (first | ((with_reducible refine gate_dst (N := 2) rfl ?_); refine be_ 2 #[.int .i64 a0_0, .int .i64 a0_1, .bool a0_2] 42 ?_; intro gb666 hg w7 hbox hb; have BK666 := A_ (hbox); have GW666 := A_ (sz_ hg (hb_ HB.out)); have GE666 := A_ (sz_ hg (hb_ HB.out)); replace HB := A_ (below_step (hb_ HB.out) hb); clear hb hbox hg) | (go_at_call 35; (with_reducible refine (L12_awake.calls k  true _ A3.out).mono ?_); rintro e w8 ⟨rfl, hb⟩; replace BK666 := A_ (bb_ BK666.out hb); replace HB := A_ (below_step (hb1_ HB.out GE666.out) hb); (try clear hb); (try clear hb2); (try clear hk); (try clear hi); have hcz9_0 := bv_ BK666.out 0; have hcz9_1 := bv_ BK666.out 1; have hcz9_2 := bv_ BK666.out 2; have hfz9_0 := blk_frozen BK666.out 0; have hfz9_1 := blk_frozen BK666.out 1; have hfz9_2 := blk_frozen BK666.out 2) | (go_at_call 36; (with_reducible refine (chop_Trap.calls k a0_0 a0_1 a1 a0_2 t668 t669 _ A5.out).mono ?_); rintro e w10 ⟨rfl, hb⟩; replace BK666 := A_ (bb_ BK666.out hb); replace HB := A_ (below_step (hb1_ HB.out GE666.out) hb); (try clear hb); (try clear hb2); (try clear hk); (try clear hi))))
  (try simp only [Act.put, lI_, l0_, lS_])
  go_cut [44] (fun v44 wc => ∃ (kq : Nat) (x44_5 : Bool), v44 = .bool x44_5 ∧ Aside0 (L12_ChopBack.j0 kq a1 x44_5 a0_0 a0_1 a0_2 = some r) ∧ Aside0 (kq ≤ k) ∧ Aside0 (wc.heap[gb666]? = some (.cells #[.int .i64 a0_0, .int .i64 a0_1, .bool a0_2] 42 (0, 0))) ∧ Aside0 (Below w.heap.size w wc))
  case first =>
   have H := HC6.out
   clear HC6
   by_cases c11 : t669 = 0
   ·rw [if_pos c11] at H
    have c11b0 : (t669 == 0) = true := beq_iff_eq.mpr c11
    have c11b1 : (t669 != 0) = false := bne_eq_false_iff_eq.mpr c11
    clear c11
    (first | rw [c11b0] | (simp only [i64_w, i32_w]; rw [c11b0]) | skip)
    replace H := ob_ H
    obtain ⟨t670, A120, H⟩ := H
    replace H : (if t670 = t668 then (L12_ChopBack.j0 k a1 false a0_0 a0_1 a0_2) else (L12_ChopBack.j0 k a1 true a0_0 a0_1 a0_2)) = some r := H
    have A12 := A_ A120;clear A120
    by_cases c13 : t670 = t668
    ·rw [if_pos c13] at H
     have c13b0 : (t670 == t668) = true := beq_iff_eq.mpr c13
     have c13b1 : (t670 != t668) = false := bne_eq_false_iff_eq.mpr c13
     clear c13
     have H' := A_ H
     clear H
     have hcz14_0 := bv_ BK666.out 0
     have hcz14_1 := bv_ BK666.out 1
     have hcz14_2 := bv_ BK666.out 2
     have hfz14_0 := blk_frozen BK666.out 0
     have hfz14_1 := blk_frozen BK666.out 1
     have hfz14_2 := blk_frozen BK666.out 2
     go_wp2_with (first | (go_at_call 37; (with_reducible refine (chop_Sat.calls k a0_0 a0_1 a1 a0_2 t670 _ A12.out).mono ?_); rintro e w15 ⟨rfl, hb⟩; replace BK666 := A_ (bb_ BK666.out hb); replace HB := A_ (below_step (hb1_ HB.out GE666.out) hb); (try clear hb); (try clear hb2); (try clear hk); (try clear hi)))
     repeat (go_quiet (first | (go_at_call 37; (with_reducible refine (chop_Sat.calls k a0_0 a0_1 a1 a0_2 t670 _ A12.out).mono ?_); rintro e w15 ⟨rfl, hb⟩; replace BK666 := A_ (bb_ BK666.out hb); replace HB := A_ (below_step (hb1_ HB.out GE666.out) hb); (try clear hb); (try clear hb2); (try clear hk); (try clear hi))); try go_wp2_with (first | (go_at_call 37; (with_reducible refine (chop_Sat.calls k a0_0 a0_1 a1 a0_2 t670 _ A12.out).mono ?_); rintro e w15 ⟨rfl, hb⟩; replace BK666 := A_ (bb_ BK666.out hb); replace HB := A_ (below_step (hb1_ HB.out GE666.out) hb); (try clear hb); (try clear hb2); (try clear hk); (try clear hi))))
     go_meet
     case rel => exact ⟨_, (false), sm_, H', ⟨by first | omega | exact Nat.le_refl _⟩, ⟨bk_ BK666.out⟩, ⟨hb1_ HB.out GE666.out⟩⟩
    ·rw [if_neg c13] at H
     have c13b0 : (t670 == t668) = false := beq_eq_false_iff_ne.mpr c13
     have c13b1 : (t670 != t668) = true := bne_iff_ne.mpr c13
     have H' := A_ H
     clear H
     have hcz16_0 := bv_ BK666.out 0
     have hcz16_1 := bv_ BK666.out 1
     have hcz16_2 := bv_ BK666.out 2
     have hfz16_0 := blk_frozen BK666.out 0
     have hfz16_1 := blk_frozen BK666.out 1
     have hfz16_2 := blk_frozen BK666.out 2
     go_wp2_with (first | (go_at_call 37; (with_reducible refine (chop_Sat.calls k a0_0 a0_1 a1 a0_2 t670 _ A12.out).mono ?_); rintro e w17 ⟨rfl, hb⟩; replace BK666 := A_ (bb_ BK666.out hb); replace HB := A_ (below_step (hb1_ HB.out GE666.out) hb); (try clear hb); (try clear hb2); (try clear hk); (try clear hi)))
     repeat (go_quiet (first | (go_at_call 37; (with_reducible refine (chop_Sat.calls k a0_0 a0_1 a1 a0_2 t670 _ A12.out).mono ?_); rintro e w17 ⟨rfl, hb⟩; replace BK666 := A_ (bb_ BK666.out hb); replace HB := A_ (below_step (hb1_ HB.out GE666.out) hb); (try clear hb); (try clear hb2); (try clear hk); (try clear hi))); try go_wp2_with (first | (go_at_call 37; (with_reducible refine (chop_Sat.calls k a0_0 a0_1 a1 a0_2 t670 _ A12.out).mono ?_); rintro e w17 ⟨rfl, hb⟩; replace BK666 := A_ (bb_ BK666.out hb); replace HB := A_ (below_step (hb1_ HB.out GE666.out) hb); (try clear hb); (try clear hb2); (try clear hk); (try clear hi))))
     go_meet
     case rel => exact ⟨_, (true), sm_, H', ⟨by first | omega | exact Nat.le_refl _⟩, ⟨bk_ BK666.out⟩, ⟨hb1_ HB.out GE666.out⟩⟩
   ·rw [if_neg c11] at H
    have c11b0 : (t669 == 0) = false := beq_eq_false_iff_ne.mpr c11
    have c11b1 : (t669 != 0) = true := bne_iff_ne.mpr c11
    (first | rw [c11b0] | (simp only [i64_w, i32_w]; rw [c11b0]) | skip)
    have H' := A_ H
    clear H
    go_wp2
    repeat (go_quiet (fail); try go_wp2)
    go_meet
    case rel => exact ⟨_, ((t668 != 0)), sm_, H', ⟨by first | omega | exact Nat.le_refl _⟩, ⟨bk_ BK666.out⟩, ⟨hb1_ HB.out GE666.out⟩⟩
  case rest =>
   clear HC6
   try clear c1
   try clear p2
   try clear c4
   try clear c7
   try clear c11
   try clear c11b0
   try clear c11b1
   try clear c13
   try clear c13b0
   try clear c13b1
   try clear hcz14_0
   try clear hcz14_1
   try clear hcz14_2
   try clear hcz16_0
   try clear hcz16_1
   try clear hcz16_2
   try clear hcz9_0
   try clear hcz9_1
   try clear hcz9_2
   try clear hfz14_0
   try clear hfz14_1
   try clear hfz14_2
   try clear hfz16_0
   try clear hfz16_1
   try clear hfz16_2
   try clear hfz9_0
   try clear hfz9_1
   try clear hfz9_2
   obtain ⟨kq, x44_5, rfl, HA, HJ5, BK666, HB⟩ := hcut
   cases kq with
   | zero => exact absurd HA.out (by simp [L12_ChopBack.j0])
   | succ kj5 =>
    have H := HA.out
    clear HA
    simp only [L12_ChopBack.j0] at H
    by_cases c18 : x44_5 = true
    ·subst c18
     have H1 : (some false) = some r := by rw [if_pos rfl] at H; exact H
     clear H;have H := H1;clear H1
     exact absurd ((Option.some.inj H).trans hr_.out) (by decide)
    ·replace c18 := Bool.eq_false_iff.mpr c18
     subst c18
     have H1 : ((cast_Exact.f kj5 a0_0 a0_1 a1 a0_2).bind fun t671 => (if t671 = true then ((cast_FromUint.f kj5 a0_0 a0_1 a1).bind fun t672 => (if a0_2 = true then ((cast_FromInt.f kj5 a0_0 a0_1 a1).bind fun t673 => ((chop_Trap.f kj5 a0_0 a0_1 t673 a0_2).bind fun bt674 => (if bt674.2 = 0 then (if 0 ≤ (wrap64 (64 - a0_1)) then (some (bt674.1 == (shr .u64 (shl .u64 a1 (wrap64 (64 - a0_1))) (wrap64 (64 - a0_1))))) else (none)) else (some false)))) else ((chop_Trap.f kj5 a0_0 a0_1 t672 a0_2).bind fun bt676 => (if bt676.2 = 0 then (if 0 ≤ (wrap64 (64 - a0_1)) then (some (bt676.1 == (shr .u64 (shl .u64 a1 (wrap64 (64 - a0_1))) (wrap64 (64 - a0_1))))) else (none)) else (some false))))) else (some true))) = some r := by rw [if_neg (show ¬ (false = true) by decide)] at H; exact H
     clear H;have H := H1;clear H1
     replace H := ob_ H
     obtain ⟨t671, A190, H⟩ := H
     replace H : (if t671 = true then ((cast_FromUint.f kj5 a0_0 a0_1 a1).bind fun t672 => (if a0_2 = true then ((cast_FromInt.f kj5 a0_0 a0_1 a1).bind fun t673 => ((chop_Trap.f kj5 a0_0 a0_1 t673 a0_2).bind fun bt674 => (if bt674.2 = 0 then (if 0 ≤ (wrap64 (64 - a0_1)) then (some (bt674.1 == (shr .u64 (shl .u64 a1 (wrap64 (64 - a0_1))) (wrap64 (64 - a0_1))))) else (none)) else (some false)))) else ((chop_Trap.f kj5 a0_0 a0_1 t672 a0_2).bind fun bt676 => (if bt676.2 = 0 then (if 0 ≤ (wrap64 (64 - a0_1)) then (some (bt676.1 == (shr .u64 (shl .u64 a1 (wrap64 (64 - a0_1))) (wrap64 (64 - a0_1))))) else (none)) else (some false))))) else (some true)) = some r := H
     have A19 := A_ A190;clear A190
     by_cases c20 : t671 = true
     ·subst c20
      have H1 : ((cast_FromUint.f kj5 a0_0 a0_1 a1).bind fun t672 => (if a0_2 = true then ((cast_FromInt.f kj5 a0_0 a0_1 a1).bind fun t673 => ((chop_Trap.f kj5 a0_0 a0_1 t673 a0_2).bind fun bt674 => (if bt674.2 = 0 then (if 0 ≤ (wrap64 (64 - a0_1)) then (some (bt674.1 == (shr .u64 (shl .u64 a1 (wrap64 (64 - a0_1))) (wrap64 (64 - a0_1))))) else (none)) else (some false)))) else ((chop_Trap.f kj5 a0_0 a0_1 t672 a0_2).bind fun bt676 => (if bt676.2 = 0 then (if 0 ≤ (wrap64 (64 - a0_1)) then (some (bt676.1 == (shr .u64 (shl .u64 a1 (wrap64 (64 - a0_1))) (wrap64 (64 - a0_1))))) else (none)) else (some false))))) = some r := by rw [if_pos rfl] at H; exact H
      clear H;have H := H1;clear H1
      replace H := ob_ H
      obtain ⟨t672, A210, H⟩ := H
      replace H : (if a0_2 = true then ((cast_FromInt.f kj5 a0_0 a0_1 a1).bind fun t673 => ((chop_Trap.f kj5 a0_0 a0_1 t673 a0_2).bind fun bt674 => (if bt674.2 = 0 then (if 0 ≤ (wrap64 (64 - a0_1)) then (some (bt674.1 == (shr .u64 (shl .u64 a1 (wrap64 (64 - a0_1))) (wrap64 (64 - a0_1))))) else (none)) else (some false)))) else ((chop_Trap.f kj5 a0_0 a0_1 t672 a0_2).bind fun bt676 => (if bt676.2 = 0 then (if 0 ≤ (wrap64 (64 - a0_1)) then (some (bt676.1 == (shr .u64 (shl .u64 a1 (wrap64 (64 - a0_1))) (wrap64 (64 - a0_1))))) else (none)) else (some false)))) = some r := H
      have A21 := A_ A210;clear A210
      by_cases c22 : a0_2 = true
      ·subst c22
       have H1 : ((cast_FromInt.f kj5 a0_0 a0_1 a1).bind fun t673 => ((chop_Trap.f kj5 a0_0 a0_1 t673 true).bind fun bt674 => (if bt674.2 = 0 then (if 0 ≤ (wrap64 (64 - a0_1)) then (some (bt674.1 == (shr .u64 (shl .u64 a1 (wrap64 (64 - a0_1))) (wrap64 (64 - a0_1))))) else (none)) else (some false)))) = some r := by rw [if_pos rfl] at H; exact H
       clear H;have H := H1;clear H1
       replace H := ob_ H
       obtain ⟨t673, A230, H⟩ := H
       replace H : ((chop_Trap.f kj5 a0_0 a0_1 t673 true).bind fun bt674 => (if bt674.2 = 0 then (if 0 ≤ (wrap64 (64 - a0_1)) then (some (bt674.1 == (shr .u64 (shl .u64 a1 (wrap64 (64 - a0_1))) (wrap64 (64 - a0_1))))) else (none)) else (some false))) = some r := H
       have A23 := A_ A230;clear A230
       replace H := ob_ H
       obtain ⟨⟨t674, t675⟩, A240, H⟩ := H
       replace H : (if t675 = 0 then (if 0 ≤ (wrap64 (64 - a0_1)) then (some (t674 == (shr .u64 (shl .u64 a1 (wrap64 (64 - a0_1))) (wrap64 (64 - a0_1))))) else (none)) else (some false)) = some r := H
       have A24 := A_ A240;clear A240
       by_cases c25 : t675 = 0
       ·rw [if_pos c25] at H
        have c25b0 : (t675 == 0) = true := beq_iff_eq.mpr c25
        have c25b1 : (t675 != 0) = false := bne_eq_false_iff_eq.mpr c25
        clear c25
        obtain ⟨ji26, hji26⟩ : ∃ j_ : Int, (wrap64 (64 - a0_1)) = j_ := ⟨_, rfl⟩
        replace H : (if 0 ≤ (ji26) then (some (t674 == (shr .u64 (shl .u64 a1 (ji26)) (ji26)))) else (none)) = some r := by first | (rw [hji26] at H; exact H) | (simp only [hji26] at H ⊢; exact H)
        (try rw [hji26] at A19)
        (try rw [hji26] at A21)
        (try rw [hji26] at A23)
        (try rw [hji26] at A24)
        have hji26w : (IntKind.i64.wrap (64 - a0_1)) = ji26 := (i64_w _).trans hji26
        by_cases c27 : 0 ≤ (ji26)
        ·rw [if_pos c27] at H
         have c27b0 := eq_true c27
         have c27b1 : decide (0 ≤ (ji26)) = true := decide_eq_true c27
         clear c27
         obtain ⟨ji28, hji28⟩ : ∃ j_ : Int, (shl .u64 a1 (ji26)) = j_ := ⟨_, rfl⟩
         replace H : (some (t674 == (shr .u64 (ji28) (ji26)))) = some r := by first | (rw [hji28] at H; exact H) | (simp only [hji28] at H ⊢; exact H)
         (try rw [hji28] at A19)
         (try rw [hji28] at A21)
         (try rw [hji28] at A23)
         (try rw [hji28] at A24)
         have hji28_ : (IntKind.u64.wrap (a1 * 2 ^ min (ji26).toNat 64)) = ji28 := hji28
         have hji28z : (ji26) ≤ 64 → (IntKind.u64.wrap (a1 * 2 ^ (ji26).toNat)) = ji28 := shl_small hji28
         have c29b0 := eq_true (of_decide_eq_true (by first | (with_reducible assumption) | assumption) : 0 ≤ (ji26))
         obtain ⟨ji30, hji30⟩ : ∃ j_ : Int, (shr .u64 (ji28) (ji26)) = j_ := ⟨_, rfl⟩
         replace H : (some (t674 == (ji30))) = some r := by first | (rw [hji30] at H; exact H) | (simp only [hji30] at H ⊢; exact H)
         (try rw [hji30] at A19)
         (try rw [hji30] at A21)
         (try rw [hji30] at A23)
         (try rw [hji30] at A24)
         have hji30_ : ((ji28) / 2 ^ min (ji26).toNat 64) = ji30 := hji30
         have hji30z : (ji26) ≤ 64 → ((ji28) / 2 ^ (ji26).toNat) = ji30 := shr_small hji30
         obtain rfl := Option.some.inj H
         have hcz31_0 := bv_ BK666.out 0
         have hcz31_1 := bv_ BK666.out 1
         have hcz31_2 := bv_ BK666.out 2
         have hfz31_0 := blk_frozen BK666.out 0
         have hfz31_1 := blk_frozen BK666.out 1
         have hfz31_2 := blk_frozen BK666.out 2
         go_wp2_with (first | (go_at_call 27; (refine (cast_Exact.calls kj5 a0_0 a0_1 a1 true true _ A19.out (TT.go (hb1_ HB.out GE666.out) T_)).mono ?_); rintro e w32 ⟨rfl, hb⟩; replace BK666 := A_ (bb_ BK666.out hb); replace HB := A_ (below_step (hb1_ HB.out GE666.out) hb); (try clear hb); (try clear hb2); (try clear hk); (try clear hi); have hcz33_0 := bv_ BK666.out 0; have hcz33_1 := bv_ BK666.out 1; have hcz33_2 := bv_ BK666.out 2; have hfz33_0 := blk_frozen BK666.out 0; have hfz33_1 := blk_frozen BK666.out 1; have hfz33_2 := blk_frozen BK666.out 2) | (go_at_call 25; (with_reducible refine (cast_FromUint.calls kj5 a0_0 a0_1 a1 t672 _ A21.out).mono ?_); rintro e w34 ⟨rfl, hb⟩; replace BK666 := A_ (bb_ BK666.out hb); replace HB := A_ (below_step (hb1_ HB.out GE666.out) hb); (try clear hb); (try clear hb2); (try clear hk); (try clear hi); have hcz35_0 := bv_ BK666.out 0; have hcz35_1 := bv_ BK666.out 1; have hcz35_2 := bv_ BK666.out 2; have hfz35_0 := blk_frozen BK666.out 0; have hfz35_1 := blk_frozen BK666.out 1; have hfz35_2 := blk_frozen BK666.out 2) | (go_at_call 26; (with_reducible refine (cast_FromInt.calls kj5 a0_0 a0_1 a1 t673 _ A23.out).mono ?_); rintro e w36 ⟨rfl, hb⟩; replace BK666 := A_ (bb_ BK666.out hb); replace HB := A_ (below_step (hb1_ HB.out GE666.out) hb); (try clear hb); (try clear hb2); (try clear hk); (try clear hi); have hcz37_0 := bv_ BK666.out 0; have hcz37_1 := bv_ BK666.out 1; have hcz37_2 := bv_ BK666.out 2; have hfz37_0 := blk_frozen BK666.out 0; have hfz37_1 := blk_frozen BK666.out 1; have hfz37_2 := blk_frozen BK666.out 2) | (go_at_call 36; (with_reducible refine (chop_Trap.calls kj5 a0_0 a0_1 t673 true t674 t675 _ A24.out).mono ?_); rintro e w38 ⟨rfl, hb⟩; replace BK666 := A_ (bb_ BK666.out hb); replace HB := A_ (below_step (hb1_ HB.out GE666.out) hb); (try clear hb); (try clear hb2); (try clear hk); (try clear hi); have hcz39_0 := bv_ BK666.out 0; have hcz39_1 := bv_ BK666.out 1; have hcz39_2 := bv_ BK666.out 2; have hfz39_0 := blk_frozen BK666.out 0; have hfz39_1 := blk_frozen BK666.out 1; have hfz39_2 := blk_frozen BK666.out 2))
         repeat (go_quiet (first | (go_at_call 27; (refine (cast_Exact.calls kj5 a0_0 a0_1 a1 true true _ A19.out (TT.go (hb1_ HB.out GE666.out) T_)).mono ?_); rintro e w32 ⟨rfl, hb⟩; replace BK666 := A_ (bb_ BK666.out hb); replace HB := A_ (below_step (hb1_ HB.out GE666.out) hb); (try clear hb); (try clear hb2); (try clear hk); (try clear hi); have hcz33_0 := bv_ BK666.out 0; have hcz33_1 := bv_ BK666.out 1; have hcz33_2 := bv_ BK666.out 2; have hfz33_0 := blk_frozen BK666.out 0; have hfz33_1 := blk_frozen BK666.out 1; have hfz33_2 := blk_frozen BK666.out 2) | (go_at_call 25; (with_reducible refine (cast_FromUint.calls kj5 a0_0 a0_1 a1 t672 _ A21.out).mono ?_); rintro e w34 ⟨rfl, hb⟩; replace BK666 := A_ (bb_ BK666.out hb); replace HB := A_ (below_step (hb1_ HB.out GE666.out) hb); (try clear hb); (try clear hb2); (try clear hk); (try clear hi); have hcz35_0 := bv_ BK666.out 0; have hcz35_1 := bv_ BK666.out 1; have hcz35_2 := bv_ BK666.out 2; have hfz35_0 := blk_frozen BK666.out 0; have hfz35_1 := blk_frozen BK666.out 1; have hfz35_2 := blk_frozen BK666.out 2) | (go_at_call 26; (with_reducible refine (cast_FromInt.calls kj5 a0_0 a0_1 a1 t673 _ A23.out).mono ?_); rintro e w36 ⟨rfl, hb⟩; replace BK666 := A_ (bb_ BK666.out hb); replace HB := A_ (below_step (hb1_ HB.out GE666.out) hb); (try clear hb); (try clear hb2); (try clear hk); (try clear hi); have hcz37_0 := bv_ BK666.out 0; have hcz37_1 := bv_ BK666.out 1; have hcz37_2 := bv_ BK666.out 2; have hfz37_0 := blk_frozen BK666.out 0; have hfz37_1 := blk_frozen BK666.out 1; have hfz37_2 := blk_frozen BK666.out 2) | (go_at_call 36; (with_reducible refine (chop_Trap.calls kj5 a0_0 a0_1 t673 true t674 t675 _ A24.out).mono ?_); rintro e w38 ⟨rfl, hb⟩; replace BK666 := A_ (bb_ BK666.out hb); replace HB := A_ (below_step (hb1_ HB.out GE666.out) hb); (try clear hb); (try clear hb2); (try clear hk); (try clear hi); have hcz39_0 := bv_ BK666.out 0; have hcz39_1 := bv_ BK666.out 1; have hcz39_2 := bv_ BK666.out 2; have hfz39_0 := blk_frozen BK666.out 0; have hfz39_1 := blk_frozen BK666.out 1; have hfz39_2 := blk_frozen BK666.out 2)); try go_wp2_with (first | (go_at_call 27; (refine (cast_Exact.calls kj5 a0_0 a0_1 a1 true true _ A19.out (TT.go (hb1_ HB.out GE666.out) T_)).mono ?_); rintro e w32 ⟨rfl, hb⟩; replace BK666 := A_ (bb_ BK666.out hb); replace HB := A_ (below_step (hb1_ HB.out GE666.out) hb); (try clear hb); (try clear hb2); (try clear hk); (try clear hi); have hcz33_0 := bv_ BK666.out 0; have hcz33_1 := bv_ BK666.out 1; have hcz33_2 := bv_ BK666.out 2; have hfz33_0 := blk_frozen BK666.out 0; have hfz33_1 := blk_frozen BK666.out 1; have hfz33_2 := blk_frozen BK666.out 2) | (go_at_call 25; (with_reducible refine (cast_FromUint.calls kj5 a0_0 a0_1 a1 t672 _ A21.out).mono ?_); rintro e w34 ⟨rfl, hb⟩; replace BK666 := A_ (bb_ BK666.out hb); replace HB := A_ (below_step (hb1_ HB.out GE666.out) hb); (try clear hb); (try clear hb2); (try clear hk); (try clear hi); have hcz35_0 := bv_ BK666.out 0; have hcz35_1 := bv_ BK666.out 1; have hcz35_2 := bv_ BK666.out 2; have hfz35_0 := blk_frozen BK666.out 0; have hfz35_1 := blk_frozen BK666.out 1; have hfz35_2 := blk_frozen BK666.out 2) | (go_at_call 26; (with_reducible refine (cast_FromInt.calls kj5 a0_0 a0_1 a1 t673 _ A23.out).mono ?_); rintro e w36 ⟨rfl, hb⟩; replace BK666 := A_ (bb_ BK666.out hb); replace HB := A_ (below_step (hb1_ HB.out GE666.out) hb); (try clear hb); (try clear hb2); (try clear hk); (try clear hi); have hcz37_0 := bv_ BK666.out 0; have hcz37_1 := bv_ BK666.out 1; have hcz37_2 := bv_ BK666.out 2; have hfz37_0 := blk_frozen BK666.out 0; have hfz37_1 := blk_frozen BK666.out 1; have hfz37_2 := blk_frozen BK666.out 2) | (go_at_call 36; (with_reducible refine (chop_Trap.calls kj5 a0_0 a0_1 t673 true t674 t675 _ A24.out).mono ?_); rintro e w38 ⟨rfl, hb⟩; replace BK666 := A_ (bb_ BK666.out hb); replace HB := A_ (below_step (hb1_ HB.out GE666.out) hb); (try clear hb); (try clear hb2); (try clear hk); (try clear hi); have hcz39_0 := bv_ BK666.out 0; have hcz39_1 := bv_ BK666.out 1; have hcz39_2 := bv_ BK666.out 2; have hfz39_0 := blk_frozen BK666.out 0; have hfz39_1 := blk_frozen BK666.out 1; have hfz39_2 := blk_frozen BK666.out 2)))
         go_ret
         exact ⟨by first | rfl | (simp [errW_none, errW_some] <;> rfl) | (simp only [← hji26, ← hji28, ← hji30]; first | rfl | (simp [errW_none, errW_some] <;> rfl)) | (simp [*, errW_none, errW_some] <;> rfl), hb1_ HB.out GE666.out⟩
        ·rw [if_neg c27] at H
         exact absurd H (by simp)
       ·rw [if_neg c25] at H
        have c25b0 : (t675 == 0) = false := beq_eq_false_iff_ne.mpr c25
        have c25b1 : (t675 != 0) = true := bne_iff_ne.mpr c25
        exact absurd ((Option.some.inj H).trans hr_.out) (by decide)
      ·replace c22 := Bool.eq_false_iff.mpr c22
       subst c22
       have H1 : ((chop_Trap.f kj5 a0_0 a0_1 t672 false).bind fun bt676 => (if bt676.2 = 0 then (if 0 ≤ (wrap64 (64 - a0_1)) then (some (bt676.1 == (shr .u64 (shl .u64 a1 (wrap64 (64 - a0_1))) (wrap64 (64 - a0_1))))) else (none)) else (some false))) = some r := by rw [if_neg (show ¬ (false = true) by decide)] at H; exact H
       clear H;have H := H1;clear H1
       replace H := ob_ H
       obtain ⟨⟨t676, t677⟩, A400, H⟩ := H
       replace H : (if t677 = 0 then (if 0 ≤ (wrap64 (64 - a0_1)) then (some (t676 == (shr .u64 (shl .u64 a1 (wrap64 (64 - a0_1))) (wrap64 (64 - a0_1))))) else (none)) else (some false)) = some r := H
       have A40 := A_ A400;clear A400
       by_cases c41 : t677 = 0
       ·rw [if_pos c41] at H
        have c41b0 : (t677 == 0) = true := beq_iff_eq.mpr c41
        have c41b1 : (t677 != 0) = false := bne_eq_false_iff_eq.mpr c41
        clear c41
        obtain ⟨ji42, hji42⟩ : ∃ j_ : Int, (wrap64 (64 - a0_1)) = j_ := ⟨_, rfl⟩
        replace H : (if 0 ≤ (ji42) then (some (t676 == (shr .u64 (shl .u64 a1 (ji42)) (ji42)))) else (none)) = some r := by first | (rw [hji42] at H; exact H) | (simp only [hji42] at H ⊢; exact H)
        (try rw [hji42] at A19)
        (try rw [hji42] at A21)
        (try rw [hji42] at A40)
        have hji42w : (IntKind.i64.wrap (64 - a0_1)) = ji42 := (i64_w _).trans hji42
        by_cases c43 : 0 ≤ (ji42)
        ·rw [if_pos c43] at H
         have c43b0 := eq_true c43
         have c43b1 : decide (0 ≤ (ji42)) = true := decide_eq_true c43
         clear c43
         obtain ⟨ji44, hji44⟩ : ∃ j_ : Int, (shl .u64 a1 (ji42)) = j_ := ⟨_, rfl⟩
         replace H : (some (t676 == (shr .u64 (ji44) (ji42)))) = some r := by first | (rw [hji44] at H; exact H) | (simp only [hji44] at H ⊢; exact H)
         (try rw [hji44] at A19)
         (try rw [hji44] at A21)
         (try rw [hji44] at A40)
         have hji44_ : (IntKind.u64.wrap (a1 * 2 ^ min (ji42).toNat 64)) = ji44 := hji44
         have hji44z : (ji42) ≤ 64 → (IntKind.u64.wrap (a1 * 2 ^ (ji42).toNat)) = ji44 := shl_small hji44
         have c45b0 := eq_true (of_decide_eq_true (by first | (with_reducible assumption) | assumption) : 0 ≤ (ji42))
         obtain ⟨ji46, hji46⟩ : ∃ j_ : Int, (shr .u64 (ji44) (ji42)) = j_ := ⟨_, rfl⟩
         replace H : (some (t676 == (ji46))) = some r := by first | (rw [hji46] at H; exact H) | (simp only [hji46] at H ⊢; exact H)
         (try rw [hji46] at A19)
         (try rw [hji46] at A21)
         (try rw [hji46] at A40)
         have hji46_ : ((ji44) / 2 ^ min (ji42).toNat 64) = ji46 := hji46
         have hji46z : (ji42) ≤ 64 → ((ji44) / 2 ^ (ji42).toNat) = ji46 := shr_small hji46
         obtain rfl := Option.some.inj H
         have hcz47_0 := bv_ BK666.out 0
         have hcz47_1 := bv_ BK666.out 1
         have hcz47_2 := bv_ BK666.out 2
         have hfz47_0 := blk_frozen BK666.out 0
         have hfz47_1 := blk_frozen BK666.out 1
         have hfz47_2 := blk_frozen BK666.out 2
         go_wp2_with (first | (go_at_call 27; (refine (cast_Exact.calls kj5 a0_0 a0_1 a1 false true _ A19.out (TT.go (hb1_ HB.out GE666.out) T_)).mono ?_); rintro e w48 ⟨rfl, hb⟩; replace BK666 := A_ (bb_ BK666.out hb); replace HB := A_ (below_step (hb1_ HB.out GE666.out) hb); (try clear hb); (try clear hb2); (try clear hk); (try clear hi); have hcz49_0 := bv_ BK666.out 0; have hcz49_1 := bv_ BK666.out 1; have hcz49_2 := bv_ BK666.out 2; have hfz49_0 := blk_frozen BK666.out 0; have hfz49_1 := blk_frozen BK666.out 1; have hfz49_2 := blk_frozen BK666.out 2) | (go_at_call 25; (with_reducible refine (cast_FromUint.calls kj5 a0_0 a0_1 a1 t672 _ A21.out).mono ?_); rintro e w50 ⟨rfl, hb⟩; replace BK666 := A_ (bb_ BK666.out hb); replace HB := A_ (below_step (hb1_ HB.out GE666.out) hb); (try clear hb); (try clear hb2); (try clear hk); (try clear hi); have hcz51_0 := bv_ BK666.out 0; have hcz51_1 := bv_ BK666.out 1; have hcz51_2 := bv_ BK666.out 2; have hfz51_0 := blk_frozen BK666.out 0; have hfz51_1 := blk_frozen BK666.out 1; have hfz51_2 := blk_frozen BK666.out 2) | (go_at_call 36; (with_reducible refine (chop_Trap.calls kj5 a0_0 a0_1 t672 false t676 t677 _ A40.out).mono ?_); rintro e w52 ⟨rfl, hb⟩; replace BK666 := A_ (bb_ BK666.out hb); replace HB := A_ (below_step (hb1_ HB.out GE666.out) hb); (try clear hb); (try clear hb2); (try clear hk); (try clear hi); have hcz53_0 := bv_ BK666.out 0; have hcz53_1 := bv_ BK666.out 1; have hcz53_2 := bv_ BK666.out 2; have hfz53_0 := blk_frozen BK666.out 0; have hfz53_1 := blk_frozen BK666.out 1; have hfz53_2 := blk_frozen BK666.out 2))
         repeat (go_quiet (first | (go_at_call 27; (refine (cast_Exact.calls kj5 a0_0 a0_1 a1 false true _ A19.out (TT.go (hb1_ HB.out GE666.out) T_)).mono ?_); rintro e w48 ⟨rfl, hb⟩; replace BK666 := A_ (bb_ BK666.out hb); replace HB := A_ (below_step (hb1_ HB.out GE666.out) hb); (try clear hb); (try clear hb2); (try clear hk); (try clear hi); have hcz49_0 := bv_ BK666.out 0; have hcz49_1 := bv_ BK666.out 1; have hcz49_2 := bv_ BK666.out 2; have hfz49_0 := blk_frozen BK666.out 0; have hfz49_1 := blk_frozen BK666.out 1; have hfz49_2 := blk_frozen BK666.out 2) | (go_at_call 25; (with_reducible refine (cast_FromUint.calls kj5 a0_0 a0_1 a1 t672 _ A21.out).mono ?_); rintro e w50 ⟨rfl, hb⟩; replace BK666 := A_ (bb_ BK666.out hb); replace HB := A_ (below_step (hb1_ HB.out GE666.out) hb); (try clear hb); (try clear hb2); (try clear hk); (try clear hi); have hcz51_0 := bv_ BK666.out 0; have hcz51_1 := bv_ BK666.out 1; have hcz51_2 := bv_ BK666.out 2; have hfz51_0 := blk_frozen BK666.out 0; have hfz51_1 := blk_frozen BK666.out 1; have hfz51_2 := blk_frozen BK666.out 2) | (go_at_call 36; (with_reducible refine (chop_Trap.calls kj5 a0_0 a0_1 t672 false t676 t677 _ A40.out).mono ?_); rintro e w52 ⟨rfl, hb⟩; replace BK666 := A_ (bb_ BK666.out hb); replace HB := A_ (below_step (hb1_ HB.out GE666.out) hb); (try clear hb); (try clear hb2); (try clear hk); (try clear hi); have hcz53_0 := bv_ BK666.out 0; have hcz53_1 := bv_ BK666.out 1; have hcz53_2 := bv_ BK666.out 2; have hfz53_0 := blk_frozen BK666.out 0; have hfz53_1 := blk_frozen BK666.out 1; have hfz53_2 := blk_frozen BK666.out 2)); try go_wp2_with (first | (go_at_call 27; (refine (cast_Exact.calls kj5 a0_0 a0_1 a1 false true _ A19.out (TT.go (hb1_ HB.out GE666.out) T_)).mono ?_); rintro e w48 ⟨rfl, hb⟩; replace BK666 := A_ (bb_ BK666.out hb); replace HB := A_ (below_step (hb1_ HB.out GE666.out) hb); (try clear hb); (try clear hb2); (try clear hk); (try clear hi); have hcz49_0 := bv_ BK666.out 0; have hcz49_1 := bv_ BK666.out 1; have hcz49_2 := bv_ BK666.out 2; have hfz49_0 := blk_frozen BK666.out 0; have hfz49_1 := blk_frozen BK666.out 1; have hfz49_2 := blk_frozen BK666.out 2) | (go_at_call 25; (with_reducible refine (cast_FromUint.calls kj5 a0_0 a0_1 a1 t672 _ A21.out).mono ?_); rintro e w50 ⟨rfl, hb⟩; replace BK666 := A_ (bb_ BK666.out hb); replace HB := A_ (below_step (hb1_ HB.out GE666.out) hb); (try clear hb); (try clear hb2); (try clear hk); (try clear hi); have hcz51_0 := bv_ BK666.out 0; have hcz51_1 := bv_ BK666.out 1; have hcz51_2 := bv_ BK666.out 2; have hfz51_0 := blk_frozen BK666.out 0; have hfz51_1 := blk_frozen BK666.out 1; have hfz51_2 := blk_frozen BK666.out 2) | (go_at_call 36; (with_reducible refine (chop_Trap.calls kj5 a0_0 a0_1 t672 false t676 t677 _ A40.out).mono ?_); rintro e w52 ⟨rfl, hb⟩; replace BK666 := A_ (bb_ BK666.out hb); replace HB := A_ (below_step (hb1_ HB.out GE666.out) hb); (try clear hb); (try clear hb2); (try clear hk); (try clear hi); have hcz53_0 := bv_ BK666.out 0; have hcz53_1 := bv_ BK666.out 1; have hcz53_2 := bv_ BK666.out 2; have hfz53_0 := blk_frozen BK666.out 0; have hfz53_1 := blk_frozen BK666.out 1; have hfz53_2 := blk_frozen BK666.out 2)))
         go_ret
         exact ⟨by first | rfl | (simp [errW_none, errW_some] <;> rfl) | (simp only [← hji42, ← hji44, ← hji46]; first | rfl | (simp [errW_none, errW_some] <;> rfl)) | (simp [*, errW_none, errW_some] <;> rfl), hb1_ HB.out GE666.out⟩
        ·rw [if_neg c43] at H
         exact absurd H (by simp)
       ·rw [if_neg c41] at H
        have c41b0 : (t677 == 0) = false := beq_eq_false_iff_ne.mpr c41
        have c41b1 : (t677 != 0) = true := bne_iff_ne.mpr c41
        exact absurd ((Option.some.inj H).trans hr_.out) (by decide)
     ·replace c20 := Bool.eq_false_iff.mpr c20
      subst c20
      have H1 : (some true) = some r := by rw [if_neg (show ¬ (false = true) by decide)] at H; exact H
      clear H;have H := H1;clear H1
      obtain rfl := Option.some.inj H
      have hcz54_0 := bv_ BK666.out 0
      have hcz54_1 := bv_ BK666.out 1
      have hcz54_2 := bv_ BK666.out 2
      have hfz54_0 := blk_frozen BK666.out 0
      have hfz54_1 := blk_frozen BK666.out 1
      have hfz54_2 := blk_frozen BK666.out 2
      go_wp2_with (first | (go_at_call 27; (refine (cast_Exact.calls kj5 a0_0 a0_1 a1 a0_2 false _ A19.out (TT.go (hb1_ HB.out GE666.out) T_)).mono ?_); rintro e w55 ⟨rfl, hb⟩; replace BK666 := A_ (bb_ BK666.out hb); replace HB := A_ (below_step (hb1_ HB.out GE666.out) hb); (try clear hb); (try clear hb2); (try clear hk); (try clear hi)))
      repeat (go_quiet (first | (go_at_call 27; (refine (cast_Exact.calls kj5 a0_0 a0_1 a1 a0_2 false _ A19.out (TT.go (hb1_ HB.out GE666.out) T_)).mono ?_); rintro e w55 ⟨rfl, hb⟩; replace BK666 := A_ (bb_ BK666.out hb); replace HB := A_ (below_step (hb1_ HB.out GE666.out) hb); (try clear hb); (try clear hb2); (try clear hk); (try clear hi))); try go_wp2_with (first | (go_at_call 27; (refine (cast_Exact.calls kj5 a0_0 a0_1 a1 a0_2 false _ A19.out (TT.go (hb1_ HB.out GE666.out) T_)).mono ?_); rintro e w55 ⟨rfl, hb⟩; replace BK666 := A_ (bb_ BK666.out hb); replace HB := A_ (below_step (hb1_ HB.out GE666.out) hb); (try clear hb); (try clear hb2); (try clear hk); (try clear hi))))
      go_ret
      exact ⟨er_, hb1_ HB.out GE666.out⟩
 ·replace c4 := Bool.eq_false_iff.mpr c4
  subst c4
  have H1 : (some false) = some r := by rw [if_neg (show ¬ (false = true) by decide)] at H; exact H
  clear H;have H := H1;clear H1
  exact absurd ((Option.some.inj H).trans hr_.out) (by decide)
def L12_ChopBack.Pure : Prop := ∀ (a0_0 : Int) (a0_1 : Int) (a0_2 : Bool) (a1 : Int), (Lit.int .i64 a0_0).wf = true → (Lit.int .i64 a0_1).wf = true → (Lit.int .u64 a1).wf = true → ∃ k, L12_ChopBack.f k a0_0 a0_1 a0_2 a1 = some true
theorem L12_ChopBack.walk (P : L12_ChopBack.Pure) (a0_0 : Int) (a0_1 : Int) (a0_2 : Bool) (a1 : Int) (w : World) (w0_0 : (Lit.int .i64 a0_0).wf = true) (w0_1 : (Lit.int .i64 a0_1).wf = true) (w1 : (Lit.int .u64 a1).wf = true) (T_ : Aside0 (TT w)) :
  Calls Tryd.prog 7 #[.agg #[.int .i64 a0_0, .int .i64 a0_1, .bool a0_2], .int .u64 a1] w fun e w' => e = .returned (.bool true) ∧ Below w.heap.size w w' := by
 obtain ⟨k, h⟩ := P a0_0 a0_1 a0_2 a1 w0_0 w0_1 w1
 refine (L12_ChopBack.calls k a0_0 a0_1 a0_2 a1 true w h ⟨rfl⟩ T_).mono ?_
 rintro e w' ⟨rfl, hd⟩
 exact ⟨rfl, hd⟩
end Go.Proofs.YthdeeoallfbjmaaDoor.PA
section
set_option linter.unusedVariables false
set_option linter.unusedSimpArgs false
namespace Go.Proofs.YthdeeoallfbjmaaDoor.Th
open Go.RowKit Go.Proofs.YthdeeoallfbjmaaDoorW.PrintWords Go.Proofs.YthdeeoallfbjmaaDoorW.PrintLast Go.Proofs.YthdeeoallfbjmaaDoorW.PrintMore Go.Proofs.YthdeeoallfbjmaaDoor.PA Bit Dig
theorem getD_in {α : Type} (d : α) (l : List α) (i : Nat) (h : i < l.length) : l.getD i d = l[i] := by simp [List.getD, h]
def tb (c : Nat) (w n : Int) (rd inn : Bool) (i : Nat) : Bool := if 0 ≤ (i : Int) - n ∧ (i : Int) - n < w then c.testBit ((i : Int) - n).toNat else if rd then c.testBit (((i : Int) - n + w) % w).toNat else inn
end Go.Proofs.YthdeeoallfbjmaaDoor.Th
end
set_option linter.unusedVariables false
namespace Pop
def ds (B : Nat) : Nat → Nat → Nat
  | 0, _ => 0
  | n + 1, x => x % B + ds B n (x / B)
def mk (B : Nat) : Nat → Nat
  | 0 => 0
  | n + 1 => (B - 1) + B * B * mk B n
theorem and_rec (k x m : Nat) : x &&& ((2 ^ k - 1) + 2 ^ k * 2 ^ k * m) = x % 2 ^ k + 2 ^ k * 2 ^ k * (x / (2 ^ k * 2 ^ k) &&& m) := by
  have h1 : 2 ^ k - 1 < 2 ^ (k + k) := by
    have a : 0 < 2 ^ k := Nat.pow_pos (by decide)
    have b : 2 ^ k ≤ 2 ^ (k + k) := Nat.pow_le_pow_right (by decide) (by omega)
    omega
  have h2 : x % 2 ^ k < 2 ^ (k + k) := by
    have a : x % 2 ^ k < 2 ^ k := Nat.mod_lt _ (Nat.pow_pos (by decide))
    have b : 2 ^ k ≤ 2 ^ (k + k) := Nat.pow_le_pow_right (by decide) (by omega)
    omega
  rw [← Nat.pow_add]
  refine Nat.eq_of_testBit_eq fun j => ?_
  rw [Nat.testBit_and, Nat.add_comm (2 ^ k - 1), Nat.add_comm (x % 2 ^ k), Nat.testBit_two_pow_mul_add _ h1, Nat.testBit_two_pow_mul_add _ h2]
  by_cases h : j < k + k
  · rw [if_pos h, if_pos h, Nat.testBit_two_pow_sub_one, Nat.testBit_mod_two_pow, Bool.and_comm]
  · rw [if_neg h, if_neg h, Nat.testBit_and, Nat.testBit_div_two_pow, show j - (k + k) + (k + k) = j by omega]
theorem div2 (B x : Nat) : x / B / B = x / (B * B) := Nat.div_div_eq_div_mul ..
theorem step (k : Nat) (hk : 0 < k) (n : Nat) : ∀ x, ds (2 ^ k * 2 ^ k) n ((x / 2 ^ k &&& mk (2 ^ k) n) + (x &&& mk (2 ^ k) n)) = ds (2 ^ k) (n + n) x := by
  have hB : 2 ≤ 2 ^ k := by
    have : 2 ^ 1 ≤ 2 ^ k := Nat.pow_le_pow_right (by decide) hk
    simpa using this
  induction n with
  | zero => intro x; rfl
  | succ n ih =>
    intro x
    have e1 := and_rec k x (mk (2 ^ k) n)
    have e2 := and_rec k (x / 2 ^ k) (mk (2 ^ k) n)
    have hh := ih (x / (2 ^ k * 2 ^ k))
    generalize hBd : 2 ^ k = B at *
    have e3 : x / B / (B * B) = x / (B * B) / B := by rw [Nat.div_div_eq_div_mul, Nat.div_div_eq_div_mul, Nat.mul_comm]
    rw [e3] at e2
    show (_ + _) % (B * B) + ds (B * B) n ((_ + _) / (B * B)) = _
    rw [show mk B (n + 1) = (B - 1) + B * B * mk B n from rfl, e1, e2]
    have l0 := Nat.mod_lt x (show 0 < B by omega)
    have l1 := Nat.mod_lt (x / B) (show 0 < B by omega)
    have hBB : B * 2 ≤ B * B := Nat.mul_le_mul_left B hB
    generalize (x / (B * B) / B &&& mk B n) = u at *
    generalize (x / (B * B) &&& mk B n) = v at *
    have e4 : x / B % B + B * B * u + (x % B + B * B * v) = B * B * (u + v) + (x / B % B + x % B) := by rw [Nat.mul_add]; omega
    rw [e4, Nat.mul_add_mod, Nat.mul_add_div (by omega), Nat.mod_eq_of_lt (by omega), Nat.div_eq_of_lt (a := x / B % B + x % B) (by omega), Nat.add_zero, hh]
    rw [show n + 1 + (n + 1) = (n + n) + 1 + 1 by omega]
    show _ = x % B + (x / B % B + ds B (n + n) (x / B / B))
    rw [div2]; omega
end Pop
section
set_option linter.unusedVariables false
set_option linter.unusedSimpArgs false
namespace Go.Proofs.YthdeeoallfbjmaaDoor.Th
open Go.RowKit Go.Proofs.YthdeeoallfbjmaaDoorW.PrintWords Go.Proofs.YthdeeoallfbjmaaDoorW.PrintLast Go.Proofs.YthdeeoallfbjmaaDoorW.PrintMore Go.Proofs.YthdeeoallfbjmaaDoor.PA Bit Flo Dig
theorem inf_pos (w : Int) (hw : w = 32 ∨ w = 64) : 0 < (fmt w).inf := by rcases hw with rfl | rfl <;> decide
theorem kinds (w : Int) (hw : w = 32 ∨ w = 64) (a : Nat) : (magN w a = 0 ∧ opn w a = (sgB w a, 0, 0, 0)) ∨ (0 < magN w a ∧ magN w a < (fmt w).inf ∧ opn w a = (sgB w a, 1, (fmt w).ex (magN w a), ((fmt w).sg (magN w a) : Int))) ∨ (magN w a = (fmt w).inf ∧ opn w a = (sgB w a, 2, 0, 0)) ∨ ((fmt w).inf < magN w a ∧ opn w a = (false, 3, 0, 0)) := by
  have h0 := inf_pos w hw
  unfold opn; simp only
  by_cases h1 : magN w a = 0
  · left; rw [if_pos h1]; exact ⟨h1, rfl⟩
  · right; rw [if_neg h1]
    by_cases h2 : magN w a < (fmt w).inf
    · left; rw [if_pos h2]; exact ⟨by omega, h2, rfl⟩
    · right; rw [if_neg h2]
      by_cases h3 : magN w a = (fmt w).inf
      · left; rw [if_pos h3]; exact ⟨h3, rfl⟩
      · right; rw [if_neg h3]; exact ⟨by omega, rfl⟩
end Go.Proofs.YthdeeoallfbjmaaDoor.Th
end
namespace Go.Proofs.YthdeeoallfbjmaaDoor.PA
open Go.RowKit Go.Proofs.YthdeeoallfbjmaaDoorW.PrintWords Go.Proofs.YthdeeoallfbjmaaDoorW.PrintLast Go.Proofs.YthdeeoallfbjmaaDoorW.PrintMore
attribute [local go_sem] max2_int min2_int max_two min_two max_three min_three max_four min_four   -- for this text's walks alone
set_option linter.unusedVariables false
set_option linter.unusedSimpArgs false
set_option maxHeartbeats 8000000
set_option maxRecDepth 100000
def r1_Div.l0 : Nat → Int → List Int → List Int → List Int → Option (List Int × List Int)
 | 0, _, _, _, _ => none
 | k + 1, x8, x424000, x427000, x428000 => if x8 ≥ 0 then ((r1_Shl.f k x424000 x8).bind fun t430 => ((r1_Cmp.f k x428000 t430).bind fun t434 => (if t434 ≥ 0 then ((r1_Sub.f k x428000 t430).bind fun t435 => ((r1_Of.f k 1).bind fun t438 => ((r1_Shl.f k t438 x8).bind fun t441 => ((r1_Add.f k x427000 t441).bind fun t444 => (r1_Div.l0 k (wrap64 (x8 - 1)) x424000 t444 t435))))) else (r1_Div.l0 k (wrap64 (x8 - 1)) x424000 x427000 x428000)))) else (some (x427000, x428000))
def r1_Div.f (k : Nat) (l0_0 : List Int) (l1_0 : List Int) : Option (List Int × List Int) := (r1_Len.f k l0_0).bind fun t428 => ((r1_Len.f k l1_0).bind fun t429 => (r1_Div.l0 k (wrap64 (t428 - t429)) l1_0 ([] : List Int) l0_0))
theorem r1_Div.mono_l : ∀ k, (∀ y0 y1 y2 y3, LeO (r1_Div.l0 k y0 y1 y2 y3) (r1_Div.l0 (k + 1) y0 y1 y2 y3))
 | 0 => fun _ _ _ _ r h => by simp [r1_Div.l0] at h
 | k + 1 => by
  have ih0 := r1_Div.mono_l k
  ·intro y0 y1 y2 y3
   unfold r1_Div.l0
   repeat' first
   | (with_reducible exact ih0 _ _ _ _)
   | (with_reducible exact r1_Add.mono _ _ _)
   | (with_reducible exact r1_Cmp.mono _ _ _)
   | (with_reducible exact r1_Len.mono _ _)
   | (with_reducible exact r1_Of.mono _ _)
   | (with_reducible exact r1_Shl.mono _ _ _)
   | (with_reducible exact r1_Sub.mono _ _ _)
   | (with_reducible exact LeO.refl _)
   | (with_reducible exact LeO.none _)
   | (with_reducible refine LeO.ite ?_ ?_)
   | (with_reducible refine LeO.bind ?_ (fun _ => ?_))
   | exact ih0 _ _ _ _
   | exact r1_Add.mono _ _ _
   | exact r1_Cmp.mono _ _ _
   | exact r1_Len.mono _ _
   | exact r1_Of.mono _ _
   | exact r1_Shl.mono _ _ _
   | exact r1_Sub.mono _ _ _
   | exact LeO.none _
   | refine LeO.ite ?_ ?_
   | refine LeO.bind ?_ (fun _ => ?_)
theorem r1_Div.mono : ∀ a0 a1 k, LeO (r1_Div.f k a0 a1) (r1_Div.f (k + 1) a0 a1) := by
 intro a0 a1 k
 have ih0 := r1_Div.mono_l k
 unfold r1_Div.f
 repeat' first
   | (with_reducible exact ih0 _ _ _ _)
   | (with_reducible exact r1_Add.mono _ _ _)
   | (with_reducible exact r1_Cmp.mono _ _ _)
   | (with_reducible exact r1_Len.mono _ _)
   | (with_reducible exact r1_Of.mono _ _)
   | (with_reducible exact r1_Shl.mono _ _ _)
   | (with_reducible exact r1_Sub.mono _ _ _)
   | (with_reducible exact LeO.refl _)
   | (with_reducible exact LeO.none _)
   | (with_reducible refine LeO.ite ?_ ?_)
   | (with_reducible refine LeO.bind ?_ (fun _ => ?_))
   | exact ih0 _ _ _ _
   | exact r1_Add.mono _ _ _
   | exact r1_Cmp.mono _ _ _
   | exact r1_Len.mono _ _
   | exact r1_Of.mono _ _
   | exact r1_Shl.mono _ _ _
   | exact r1_Sub.mono _ _ _
   | exact LeO.none _
   | refine LeO.ite ?_ ?_
   | refine LeO.bind ?_ (fun _ => ?_)
-- IMPORT Derived.Deep.RegionHeld3
-- IMPORT Derived.Test.YthdeeoallfbjmaaDoorNr
theorem Nr.len (k : Nat) (v : Value) (l : List Int) (r : Int) (w : World) (n : Nr.Nr w v l) (h : r1_Len.f k l = some r) : Calls Tryd.prog 94 #[.agg #[v]] w fun e w' => e = .returned (.int .i64 r) ∧ Below w.heap.size w w' := by
 obtain ⟨A, c, rfl, hc, hC⟩ := n
 exact r1_Len.calls k A c l r w hC hc h
theorem Nr.cmp (k : Nat) (v v1 : Value) (l l1 : List Int) (r : Int) (w : World) (n : Nr.Nr w v l) (n1 : Nr.Nr w v1 l1) (h : r1_Cmp.f k l l1 = some r) : Calls Tryd.prog 59 #[.agg #[v], .agg #[v1]] w fun e w' => e = .returned (.int .i64 r) ∧ Below w.heap.size w w' := by
 obtain ⟨A, c, rfl, hc, hC⟩ := n
 obtain ⟨A1, c1, rfl, hc1, hC1⟩ := n1
 exact r1_Cmp.calls k A c l A1 c1 l1 r w hC hc hC1 hc1 h
theorem Nr.outR {f : Nat} {xs : Array Value} {w : World} {r : List Int} (h : Calls Tryd.prog f xs w fun e w' => ∃ v0_ : Value, e = .returned (.agg #[v0_]) ∧ Kd.R (Kd.int .u64) 22 w' w.heap.size (fun _ => True) v0_ r ∧ Below w.heap.size w w') : Calls Tryd.prog f xs w fun e w' => ∃ A c, e = .returned (.agg #[.slice A r.length c]) ∧ Nr.Ow 22 w.heap.size w' (.slice A r.length c) r ∧ Below w.heap.size w w' := by
 refine h.mono ?_
 rintro e w' ⟨v0, rfl, hR, hb⟩
 obtain ⟨A, c, rfl, _⟩ := Nr.Nr.of_R hR
 exact ⟨A, c, rfl, Nr.Ow.of_R hR (Nat.le_refl _), hb⟩
theorem Nr.shl (k : Nat) (v : Value) (l : List Int) (a : Int) (r : List Int) (w : World) (n : Nr.Nr w v l) (h : r1_Shl.f k l a = some r) : Calls Tryd.prog 60 #[.agg #[v], .int .i64 a] w fun e w' => ∃ A c, e = .returned (.agg #[.slice A r.length c]) ∧ Nr.Ow 22 w.heap.size w' (.slice A r.length c) r ∧ Below w.heap.size w w' := by
 obtain ⟨A, c, rfl, hc, hC⟩ := n
 exact Nr.outR (r1_Shl.calls k A c l a r w hC hc h)
theorem Nr.sub (k : Nat) (v v1 : Value) (l l1 : List Int) (r : List Int) (w : World) (n : Nr.Nr w v l) (n1 : Nr.Nr w v1 l1) (h : r1_Sub.f k l l1 = some r) : Calls Tryd.prog 117 #[.agg #[v], .agg #[v1]] w fun e w' => ∃ A c, e = .returned (.agg #[.slice A r.length c]) ∧ Nr.Ow 22 w.heap.size w' (.slice A r.length c) r ∧ Below w.heap.size w w' := by
 obtain ⟨A, c, rfl, hc, hC⟩ := n
 obtain ⟨A1, c1, rfl, hc1, hC1⟩ := n1
 exact Nr.outR (r1_Sub.calls k A c l A1 c1 l1 r w hC hc hC1 hc1 h)
theorem Nr.add (k : Nat) (v v1 : Value) (l l1 : List Int) (r : List Int) (w : World) (n : Nr.Nr w v l) (n1 : Nr.Nr w v1 l1) (h : r1_Add.f k l l1 = some r) : Calls Tryd.prog 116 #[.agg #[v], .agg #[v1]] w fun e w' => ∃ A c, e = .returned (.agg #[.slice A r.length c]) ∧ Nr.Ow 22 w.heap.size w' (.slice A r.length c) r ∧ Below w.heap.size w w' := by
 obtain ⟨A, c, rfl, hc, hC⟩ := n
 obtain ⟨A1, c1, rfl, hc1, hC1⟩ := n1
 exact Nr.outR (r1_Add.calls k A c l A1 c1 l1 r w hC hc hC1 hc1 h)
theorem Nr.of (k : Nat) (a : Int) (r : List Int) (w : World) (h : r1_Of.f k a = some r) : Calls Tryd.prog 57 #[.int .u64 a] w fun e w' => ∃ A c, e = .returned (.agg #[.slice A r.length c]) ∧ Nr.Ow 22 w.heap.size w' (.slice A r.length c) r ∧ Below w.heap.size w w' :=
 Nr.outR (r1_Of.calls k a r w h)
theorem Nr.lower {e b b' : Nat} {w : World} {v : Value} {l : List Int} (h : Nr.Ow e b w v l) (hb : b' ≤ b) : Nr.Ow e b' w v l := Nr.Ow.of_R h.out hb
theorem Nr.fresh {P : Nat → Prop} {e e' base : Nat} {w0 w1 : World} {vq vr : Value} {lq lr : List Int} (hq : Nr.Ow e base w0 vq lq) (hr : Nr.Ow e' w0.heap.size w1 vr lr) (hb : base ≤ w0.heap.size) : Nr.At (fun k => (P k ∨ base ≤ k) ∧ some k ≠ vq.ownBlock) vr :=
 (Nr.At.of_R hr.out).mono fun k hk => ⟨Or.inr (Nat.le_trans hb hk.1), fun e => Nat.lt_irrefl _ (Nat.lt_of_lt_of_le (Kd.R_lt hq.out k e.symm) hk.1)⟩
theorem Nr.atlt {w : World} {v : Value} {l : List Int} (h : Nr.Nr w v l) : Nr.At (fun k => k < w.heap.size) v := by
 obtain ⟨A, c, hv, hl, h1, h2, h3⟩ := h
 intro ad n c' e hn
 rw [hv] at e
 injection e with e1 e2 e3
 subst e2
 obtain ⟨ad', e4, h4⟩ := h3 hn
 rw [e1] at e4
 injection e4 with e4
 subst e4
 obtain ⟨x, hx⟩ : ∃ x, l[0]? = some x := ⟨l[0]'hn, List.getElem?_eq_getElem hn⟩
 obtain ⟨cs, k1, k2, k3⟩ := h4 0 x hx
 have k2' : cs = [Value.int .u64 x] := k2
 have := World.block_lt_of_cell? w _ (k3 0 (.int .u64 x) (by rw [k2']; rfl))
 rwa [add_block] at this
theorem Nr.other {P : Nat → Prop} {e' : Nat} {w0 w1 : World} {vq vq' vr : Value} {lq' lr : List Int} (ha : Nr.At (fun k => P k ∧ some k ≠ vq.ownBlock) vr) (hn : Nr.Nr w0 vr lr) (hq : Nr.Ow e' w0.heap.size w1 vq' lq') : Nr.At (fun k => P k ∧ some k ≠ vq'.ownBlock) vr := fun ad n c e hn' =>
 ⟨(ha ad n c e hn').1, fun e2 => Nat.lt_irrefl _ (Nat.lt_of_lt_of_le (Nr.atlt hn ad n c e hn') (Kd.R_base hq.out _ e2.symm))⟩
theorem Nr.undrew {w w1 : World} (h : Below w.drew.heap.size w.drew w1) : Below w.heap.size w w1 := below_step (below_drew1 (Below.refl _ _)) h
theorem Nr.unalloc {w w1 : World} {o : Obj} (h : Below (w.alloc o).heap.size (w.alloc o) w1) : Below w.heap.size w w1 := below_step (below_alloc (Below.refl _ _) o) h
theorem Nr.newlt {w w1 : World} {o : Obj} (h : Below (w.alloc o).heap.size (w.alloc o) w1) : w.heap.size < w1.heap.size := by
 have := h.size
 simp at this
 omega
theorem Nr.newcell {w w1 : World} {v : Value} {ty : Nat} (h : Below (w.alloc (.cells #[v] ty)).heap.size (w.alloc (.cells #[v] ty)) w1) : w1.cell? ⟨w.heap.size, 0, none⟩ = some v := by
 rw [(Nr.bcell h).1 _ _ (by simp)]
 exact (World.cell?_alloc_new _ _ _ _).trans rfl
theorem r1_Div.calls (k : Nat) (P0_0_ : Nat → Prop) (A0_0 : Option Addr) (c0_0 : Nat) (l0_0 : List Int) (A1_0 : Option Addr) (c1_0 : Nat) (l1_0 : List Int) (r1 : List Int) (r2 : List Int) (w : World) (hs0_0 : Kd.V (Kd.int .u64) 22 w w.heap.size (fun k_ => P0_0_ k_) (.slice A0_0 l0_0.length c0_0) l0_0) (hr1_0 : Kd.C (Kd.int .u64) w A1_0 l1_0.length l1_0) (hc1_0 : l1_0.length ≤ c1_0) (h : r1_Div.f k l0_0 l1_0 = some (r1, r2)) :
  Calls Tryd.prog 110 #[.agg #[.slice A0_0 l0_0.length c0_0], .agg #[.slice A1_0 l1_0.length c1_0]] w fun e w' => ∃ v0_ v1_ : Value, e = .returned (.tuple #[.agg #[v0_], .agg #[v1_]]) ∧ Kd.R (Kd.int .u64) 22 w' w.heap.size (fun k_ => (w.heap.size ≤ k_)) v0_ r1 ∧ Kd.V (Kd.int .u64) 22 w' w.heap.size (fun k_ => (P0_0_ k_ ∨ w.heap.size ≤ k_) ∧ some k_ ≠ (v0_ : Value).ownBlock) v1_ r2 ∧ Below w.heap.size w w' := by
 obtain ⟨t0, A0, H⟩ := ob_ h
 obtain ⟨t1, A1, H⟩ := ob_ H
 have L0 := A_ A0;have L1 := A_ A1;have HL := A_ H;clear h A0 A1 H
 have NA := Nr.Nr.of_V hs0_0
 have AA := A_ (Nr.At.of_V hs0_0)
 have NB := Nr.Nr.of_C hc1_0 hr1_0
 clear hs0_0 hr1_0
 go_enter Tryd.func110, Tryd.ntmps110
 go_wp2
 go_region_held3 (fun w' => w'.cell? ⟨w.heap.size, 0, none⟩ = some (.slice A0_0 l0_0.length c0_0) ∧ w'.cell? ⟨w.heap.size + 1, 0, none⟩ = some (.slice A1_0 l1_0.length c1_0) ∧ w'.cell? ⟨w.heap.size + 2, 0, none⟩ = some (.slice none 0 0) ∧ w'.cell? ⟨w.heap.size + 3, 0, none⟩ = some (.slice none 0 0) ∧ w'.cell? ⟨w.heap.size + 4, 0, none⟩ = some (.slice none 0 0) ∧ w'.cell? ⟨w.heap.size + 5, 0, none⟩ = some (.slice A0_0 l0_0.length c0_0) ∧ w'.frozen? ⟨w.heap.size + 2, 0, none⟩ = false ∧ w'.frozen? ⟨w.heap.size + 3, 0, none⟩ = false ∧ w'.frozen? ⟨w.heap.size + 4, 0, none⟩ = false ∧ w'.frozen? ⟨w.heap.size + 5, 0, none⟩ = false ∧ w.heap.size + 5 < w'.heap.size ∧ Nr.Nr w' (.slice A0_0 l0_0.length c0_0) l0_0 ∧ Nr.Nr w' (.slice A1_0 l1_0.length c1_0) l1_0 ∧ Nr.Ow 22 w.heap.size w' (.slice none 0 0) [] ∧ Below w.heap.size w w')
  (((try go_split_ands); (try dsimp only); (repeat' apply And.intro) <;> first | assumption | (rw [hc _ _ (by omega)]; assumption) | (rw [hf _ _ (by omega)]; assumption) | (rw [Nr.al (by omega)]; assumption) | (rw [Nr.alf (by omega)]; assumption) | (apply Nr.lt_al; assumption) | (have := hb.size; omega) | (refine Nr.Nr.below ?_ hb; assumption) | (apply Nr.Nr.drew; (repeat apply Nr.Nr.alloc); assumption) | (apply Nr.Nr.alloc; assumption) | (apply Nr.Nr.drew; assumption) | (exact Nr.Ow.nil _ _ _) | (refine Nr.Ow.below ?_ hb; assumption) | (apply Nr.Ow.alloc; assumption) | (apply Nr.Ow.drew; assumption) | (refine below_step ?_ hb; assumption) | (simp [go_sem, World.cell?_alloc_past]; done) | (repeat (first | assumption | exact Below.refl _ _ | apply below_drew1 | apply below_alloc | (refine below_set ?_ (by omega))))))
  ((first | (go_at_call 94; (try go_split_ands); refine (Nr.len k _ l0_0 t0 _ ?_ L0.out).mono ?_; (assumption); rintro e w1 ⟨rfl, hb⟩; obtain ⟨hc, hf⟩ := Nr.bcell hb) | (go_at_call 94; (try go_split_ands); refine (Nr.len k _ l1_0 t1 _ ?_ L1.out).mono ?_; (assumption); rintro e w2 ⟨rfl, hb⟩; obtain ⟨hc, hf⟩ := Nr.bcell hb)))
 rename_i hH
 obtain ⟨q0, q1, q2, q3, q4, q5, f2, f3, f4, f5, hz, nr, nb, ow, bl⟩ := hH
 (repeat clear hc hf)
 (repeat clear hb)
 go_wp2
 iterate 30 (rename_i left_; clear left_)
 rename_i hK
 clear H
 have at0 : Nr.At (fun k_ => (P0_0_ k_ ∨ w.heap.size ≤ k_) ∧ some k_ ≠ (Value.slice none 0 0).ownBlock) (.slice A0_0 l0_0.length c0_0) := AA.out.mono fun k hk => ⟨Or.inl hk, fun e => by cases e⟩
 go_loopg [8] k (fun kq v8 w' => ∃ (x : Int) (Aq : Option Addr) (cq : Nat) (lq : List Int) (Ar : Option Addr) (cr : Nat) (lr : List Int), v8 = .int .i64 x ∧ Aside0 (r1_Div.l0 kq x l1_0 lq lr = some (r1, r2)) ∧ Aside0 (w'.cell? ⟨w.heap.size + 1, 0, none⟩ = some (.slice A1_0 l1_0.length c1_0) ∧ w'.cell? ⟨w.heap.size + 2, 0, none⟩ = some (.slice none 0 0) ∧ w'.cell? ⟨w.heap.size + 3, 0, none⟩ = some (.slice none 0 0) ∧ w'.cell? ⟨w.heap.size + 4, 0, none⟩ = some (.slice Aq lq.length cq) ∧ w'.cell? ⟨w.heap.size + 5, 0, none⟩ = some (.slice Ar lr.length cr) ∧ w'.frozen? ⟨w.heap.size + 2, 0, none⟩ = false ∧ w'.frozen? ⟨w.heap.size + 3, 0, none⟩ = false ∧ w'.frozen? ⟨w.heap.size + 4, 0, none⟩ = false ∧ w'.frozen? ⟨w.heap.size + 5, 0, none⟩ = false ∧ w.heap.size + 5 < w'.heap.size ∧ Nr.Nr w' (.slice A1_0 l1_0.length c1_0) l1_0 ∧ Nr.Nr w' (.slice Ar lr.length cr) lr ∧ Nr.Ow 22 (w.heap.size + 6) w' (.slice Aq lq.length cq) lq ∧ Nr.At (fun k_ => (P0_0_ k_ ∨ w.heap.size ≤ k_) ∧ some k_ ≠ (Value.slice Aq lq.length cq).ownBlock) (.slice Ar lr.length cr) ∧ Below w.heap.size w w'))
 case atStart => exact ⟨_, none, 0, [], A0_0, c0_0, l0_0, by rw [i64_w], HL, q1, q2, q3, q4, q5, f2, f3, f4, f5, hz, nb, nr, Nr.Ow.nil _ _ _, at0, bl⟩
 case round =>
  (repeat clear q0 q1 q2 q3 q4 q5 f2 f3 f4 f5 hz nr ow bl at0 nb)
  obtain ⟨x, Aq, cq, lq, Ar, cr, lr, rfl, E, F⟩ := hrel
  obtain ⟨q1, q2, q3, q4, q5, f2, f3, f4, f5, hz, nb, nr, ow, at0, bl⟩ := F.out
  clear F HL
  obtain _ | kr := gk
  ·cases E.out
  have E := E.out
  unfold r1_Div.l0 at E
  by_cases hx : x ≥ 0
  ·rw [if_pos hx] at E
   have c0 : decide (0 ≤ x) = true := decide_eq_true hx
   obtain ⟨t, T0, E⟩ := ob_ E
   obtain ⟨u, T1, E⟩ := ob_ E
   replace T0 := A_ T0;replace T1 := A_ T1;replace hx := A_ hx
   by_cases hu : u ≥ 0
   ·rw [if_pos hu] at E
    obtain ⟨s, S0, E⟩ := ob_ E
    obtain ⟨o1, S1, E⟩ := ob_ E
    obtain ⟨o2, S2, E⟩ := ob_ E
    obtain ⟨q', S3, E⟩ := ob_ E
    replace S0 := A_ S0;replace S1 := A_ S1;replace S2 := A_ S2;replace S3 := A_ S3;have EE := A_ E;clear E
    have cu : decide (0 ≤ u) = true := decide_eq_true hu
    clear hu
    go_wp2_with (first | (go_at_call 60; refine (Nr.shl kr _ l1_0 x t _ nb T0.out).mono ?_; rintro e w1 ⟨At, ct, rfl, ot, hb⟩; (try replace hb := Nr.undrew hb); obtain ⟨hc, hf⟩ := Nr.bcell hb; have hs := hb.size; replace q1 := (hc _ _ (by omega)).trans q1; replace q2 := (hc _ _ (by omega)).trans q2; replace q3 := (hc _ _ (by omega)).trans q3; replace q4 := (hc _ _ (by omega)).trans q4; replace q5 := (hc _ _ (by omega)).trans q5; replace f2 := (hf _ _ (by omega)).trans f2; replace f3 := (hf _ _ (by omega)).trans f3; replace f4 := (hf _ _ (by omega)).trans f4; replace f5 := (hf _ _ (by omega)).trans f5; replace nb := Nr.Nr.below nb hb; replace nr := Nr.Nr.below nr hb; replace ow := Nr.Ow.below ow hb; replace bl := below_step bl hb; replace hz := Nat.lt_of_lt_of_le hz hs; clear hc hf hs hb) | (go_at_call 59; refine (Nr.cmp kr _ _ lr t u _ (Nr.Nr.alloc nr _) (Nr.Nr.alloc ot.nr _) T1.out).mono ?_; rintro e w2 ⟨rfl, hb⟩; have tq := Nr.newcell hb; have ht := Nr.newlt hb; replace hb := Nr.unalloc hb; (try replace hb := Nr.undrew hb); obtain ⟨hc, hf⟩ := Nr.bcell hb; have hs := hb.size; replace q1 := (hc _ _ (by omega)).trans q1; replace q2 := (hc _ _ (by omega)).trans q2; replace q3 := (hc _ _ (by omega)).trans q3; replace q4 := (hc _ _ (by omega)).trans q4; replace q5 := (hc _ _ (by omega)).trans q5; replace f2 := (hf _ _ (by omega)).trans f2; replace f3 := (hf _ _ (by omega)).trans f3; replace f4 := (hf _ _ (by omega)).trans f4; replace f5 := (hf _ _ (by omega)).trans f5; replace nb := Nr.Nr.below nb hb; replace nr := Nr.Nr.below nr hb; replace ow := Nr.Ow.below ow hb; replace ot := Nr.Ow.below ot hb; replace bl := below_step bl hb; replace hz := Nat.lt_of_lt_of_le hz hs; clear hc hf hs hb) | (go_at_call 117; refine (Nr.sub kr _ _ lr t s _ nr ot.nr S0.out).mono ?_; rintro e w3 ⟨As, cs, rfl, os, hb⟩; have at1 := Nr.fresh (P := P0_0_) (Nr.lower ow (b' := w.heap.size) (by omega)) os (by omega); replace os := Nr.lower os (b' := w.heap.size + 6) (by omega); (try replace hb := Nr.undrew hb); obtain ⟨hc, hf⟩ := Nr.bcell hb; have hs := hb.size; replace q1 := (hc _ _ (by omega)).trans q1; replace q2 := (hc _ _ (by omega)).trans q2; replace q3 := (hc _ _ (by omega)).trans q3; replace q4 := (hc _ _ (by omega)).trans q4; replace q5 := (hc _ _ (by omega)).trans q5; replace f2 := (hf _ _ (by omega)).trans f2; replace f3 := (hf _ _ (by omega)).trans f3; replace f4 := (hf _ _ (by omega)).trans f4; replace f5 := (hf _ _ (by omega)).trans f5; replace nb := Nr.Nr.below nb hb; replace nr := Nr.Nr.below nr hb; replace ow := Nr.Ow.below ow hb; replace ot := Nr.Ow.below ot hb; replace bl := below_step bl hb; replace hz := Nat.lt_of_lt_of_le hz hs; clear hc hf hs hb))
    generalize hW : World.setCell _ _ _ = w4
    have hz4 : w4.heap.size = w3.heap.size := by rw [← hW]; simp
    have hc : ∀ b, b ≠ w.heap.size + 5 → w4.cell? ⟨b, 0, none⟩ = w3.cell? ⟨b, 0, none⟩ := fun b hb => by rw [← hW]; exact World.cell?_setCell_far _ _ _ _ (fun e => hb e.symm)
    have hf : ∀ b, w4.frozen? ⟨b, 0, none⟩ = w3.frozen? ⟨b, 0, none⟩ := fun b => by rw [← hW]; exact World.frozen?_setCell _ _ _ _
    have hi : Nr.IsRow (w3.cell? ⟨w.heap.size + 5, 0, none⟩) := by rw [q5]; exact Nr.IsRow.slice _ _ _
    replace q5 : w4.cell? ⟨w.heap.size + 5, 0, none⟩ = some (.slice As s.length cs) := by rw [← hW]; exact World.cell?_setCell_same _ _ _ q5
    replace q1 := (hc _ (by omega)).trans q1
    replace q2 := (hc _ (by omega)).trans q2
    replace q3 := (hc _ (by omega)).trans q3
    replace q4 := (hc _ (by omega)).trans q4
    replace f2 := (hf _).trans f2
    replace f3 := (hf _).trans f3
    replace f4 := (hf _).trans f4
    replace f5 := (hf _).trans f5
    replace nb : Nr.Nr w4 (.slice A1_0 l1_0.length c1_0) l1_0 := by rw [← hW]; exact Nr.Nr.set nb _ hi
    replace ow : Nr.Ow 22 (w.heap.size + 6) w4 (.slice Aq lq.length cq) lq := by rw [← hW]; exact Nr.Ow.set ow _ (fun e => by have h6 : _ ≤ w.heap.size + 5 := Kd.R_base ow.out _ e; omega)
    replace os : Nr.Ow 22 (w.heap.size + 6) w4 (.slice As s.length cs) s := by rw [← hW]; exact Nr.Ow.set os _ (fun e => by have h6 : _ ≤ w.heap.size + 5 := Kd.R_base os.out _ e; omega)
    replace bl : Below w.heap.size w w4 := by rw [← hW]; exact below_set bl (by omega)
    replace hz : w.heap.size + 5 < w4.heap.size := by omega
    clear hW hc hf hi hz4
    replace nr := os.nr
    clear os
    go_region_with (first | (go_at_call 57; refine (Nr.of kr 1 o1 _ S1.out).mono ?_; rintro e w5 ⟨Ao, co, rfl, oo, hb⟩; (try replace hb := Nr.undrew hb); obtain ⟨hc, hf⟩ := Nr.bcell hb; have hs := hb.size; replace q1 := (hc _ _ (by omega)).trans q1; replace q2 := (hc _ _ (by omega)).trans q2; replace q3 := (hc _ _ (by omega)).trans q3; replace q4 := (hc _ _ (by omega)).trans q4; replace q5 := (hc _ _ (by omega)).trans q5; replace f2 := (hf _ _ (by omega)).trans f2; replace f3 := (hf _ _ (by omega)).trans f3; replace f4 := (hf _ _ (by omega)).trans f4; replace f5 := (hf _ _ (by omega)).trans f5; replace nb := Nr.Nr.below nb hb; replace nr := Nr.Nr.below nr hb; replace ow := Nr.Ow.below ow hb; replace bl := below_step bl hb; replace hz := Nat.lt_of_lt_of_le hz hs; clear hc hf hs hb) | (go_at_call 60; refine (Nr.shl kr _ o1 x o2 _ oo.nr S2.out).mono ?_; rintro e w6 ⟨Ap, cp, rfl, op, hb⟩; (try replace hb := Nr.undrew hb); obtain ⟨hc, hf⟩ := Nr.bcell hb; have hs := hb.size; replace q1 := (hc _ _ (by omega)).trans q1; replace q2 := (hc _ _ (by omega)).trans q2; replace q3 := (hc _ _ (by omega)).trans q3; replace q4 := (hc _ _ (by omega)).trans q4; replace q5 := (hc _ _ (by omega)).trans q5; replace f2 := (hf _ _ (by omega)).trans f2; replace f3 := (hf _ _ (by omega)).trans f3; replace f4 := (hf _ _ (by omega)).trans f4; replace f5 := (hf _ _ (by omega)).trans f5; replace nb := Nr.Nr.below nb hb; replace nr := Nr.Nr.below nr hb; replace ow := Nr.Ow.below ow hb; replace oo := Nr.Ow.below oo hb; replace bl := below_step bl hb; replace hz := Nat.lt_of_lt_of_le hz hs; clear hc hf hs hb) | (go_at_call 116; refine (Nr.add kr _ _ lq o2 q' _ ow.nr op.nr S3.out).mono ?_; rintro e w7 ⟨Az, cz, rfl, oz, hb⟩; have at2 := Nr.other at1 nr oz; have oz := Nr.lower oz (b' := w.heap.size + 6) (by omega); (try replace hb := Nr.undrew hb); obtain ⟨hc, hf⟩ := Nr.bcell hb; have hs := hb.size; replace q1 := (hc _ _ (by omega)).trans q1; replace q2 := (hc _ _ (by omega)).trans q2; replace q3 := (hc _ _ (by omega)).trans q3; replace q4 := (hc _ _ (by omega)).trans q4; replace q5 := (hc _ _ (by omega)).trans q5; replace f2 := (hf _ _ (by omega)).trans f2; replace f3 := (hf _ _ (by omega)).trans f3; replace f4 := (hf _ _ (by omega)).trans f4; replace f5 := (hf _ _ (by omega)).trans f5; replace nb := Nr.Nr.below nb hb; replace nr := Nr.Nr.below nr hb; replace ow := Nr.Ow.below ow hb; replace bl := below_step bl hb; replace hz := Nat.lt_of_lt_of_le hz hs; clear hc hf hs hb))
    all_goals (
     generalize hW : World.setCell _ _ _ = w8
     have hz4 : w8.heap.size = w7.heap.size := by rw [← hW]; simp
     have hc : ∀ b, b ≠ w.heap.size + 4 → w8.cell? ⟨b, 0, none⟩ = w7.cell? ⟨b, 0, none⟩ := fun b hb => by rw [← hW]; exact World.cell?_setCell_far _ _ _ _ (fun e => hb e.symm)
     have hf : ∀ b, w8.frozen? ⟨b, 0, none⟩ = w7.frozen? ⟨b, 0, none⟩ := fun b => by rw [← hW]; exact World.frozen?_setCell _ _ _ _
     have hi : Nr.IsRow (w7.cell? ⟨w.heap.size + 4, 0, none⟩) := by rw [q4]; exact Nr.IsRow.slice _ _ _
     replace q4 : w8.cell? ⟨w.heap.size + 4, 0, none⟩ = some (.slice Az q'.length cz) := by rw [← hW]; exact World.cell?_setCell_same _ _ _ q4
     replace q1 := (hc _ (by omega)).trans q1
     replace q2 := (hc _ (by omega)).trans q2
     replace q3 := (hc _ (by omega)).trans q3
     replace q5 := (hc _ (by omega)).trans q5
     replace f2 := (hf _).trans f2
     replace f3 := (hf _).trans f3
     replace f4 := (hf _).trans f4
     replace f5 := (hf _).trans f5
     replace nb : Nr.Nr w8 (.slice A1_0 l1_0.length c1_0) l1_0 := by rw [← hW]; exact Nr.Nr.set nb _ hi
     replace nr : Nr.Nr w8 (.slice As s.length cs) s := by rw [← hW]; exact Nr.Nr.set nr _ hi
     replace oz : Nr.Ow 22 (w.heap.size + 6) w8 (.slice Az q'.length cz) q' := by rw [← hW]; exact Nr.Ow.set oz _ (fun e => by have h6 : _ ≤ w.heap.size + 4 := Kd.R_base oz.out _ e; omega)
     replace bl : Below w.heap.size w w8 := by rw [← hW]; exact below_set bl (by omega)
     replace hz : w.heap.size + 5 < w8.heap.size := by omega
     clear hW hc hf hi hz4
     go_wp2
     go_roundg kr
     case measure => omega
     case rel => exact ⟨_, Az, cz, q', As, cs, s, rfl, EE, ⟨q1, q2, q3, q4, q5, f2, f3, f4, f5, hz, nb, nr, oz, at2, bl⟩⟩)
   ·rw [if_neg hu] at E
    have EE := A_ E;clear E
    have cu : decide (0 ≤ u) = false := decide_eq_false hu
    clear hu
    go_wp2_with (first | (go_at_call 60; refine (Nr.shl kr _ l1_0 x t _ nb T0.out).mono ?_; rintro e w1 ⟨At, ct, rfl, ot, hb⟩; (try replace hb := Nr.undrew hb); obtain ⟨hc, hf⟩ := Nr.bcell hb; have hs := hb.size; replace q1 := (hc _ _ (by omega)).trans q1; replace q2 := (hc _ _ (by omega)).trans q2; replace q3 := (hc _ _ (by omega)).trans q3; replace q4 := (hc _ _ (by omega)).trans q4; replace q5 := (hc _ _ (by omega)).trans q5; replace f2 := (hf _ _ (by omega)).trans f2; replace f3 := (hf _ _ (by omega)).trans f3; replace f4 := (hf _ _ (by omega)).trans f4; replace f5 := (hf _ _ (by omega)).trans f5; replace nb := Nr.Nr.below nb hb; replace nr := Nr.Nr.below nr hb; replace ow := Nr.Ow.below ow hb; replace bl := below_step bl hb; replace hz := Nat.lt_of_lt_of_le hz hs; clear hc hf hs hb) | (go_at_call 59; refine (Nr.cmp kr _ _ lr t u _ (Nr.Nr.alloc nr _) (Nr.Nr.alloc ot.nr _) T1.out).mono ?_; rintro e w2 ⟨rfl, hb⟩; have tq := Nr.newcell hb; have ht := Nr.newlt hb; replace hb := Nr.unalloc hb; (try replace hb := Nr.undrew hb); obtain ⟨hc, hf⟩ := Nr.bcell hb; have hs := hb.size; replace q1 := (hc _ _ (by omega)).trans q1; replace q2 := (hc _ _ (by omega)).trans q2; replace q3 := (hc _ _ (by omega)).trans q3; replace q4 := (hc _ _ (by omega)).trans q4; replace q5 := (hc _ _ (by omega)).trans q5; replace f2 := (hf _ _ (by omega)).trans f2; replace f3 := (hf _ _ (by omega)).trans f3; replace f4 := (hf _ _ (by omega)).trans f4; replace f5 := (hf _ _ (by omega)).trans f5; replace nb := Nr.Nr.below nb hb; replace nr := Nr.Nr.below nr hb; replace ow := Nr.Ow.below ow hb; replace ot := Nr.Ow.below ot hb; replace bl := below_step bl hb; replace hz := Nat.lt_of_lt_of_le hz hs; clear hc hf hs hb))
    go_roundg kr
    case measure => omega
    case rel => exact ⟨_, Aq, cq, lq, Ar, cr, lr, rfl, EE, ⟨q1, q2, q3, q4, q5, f2, f3, f4, f5, hz, nb, nr, ow, at0, bl⟩⟩
  ·rw [if_neg hx] at E
   have c0 : decide (0 ≤ x) = false := decide_eq_false hx
   injection E with E
   injection E with E1 E2
   subst E1
   subst E2
   clear hx E
   go_wp2
   go_region
   go_wp2
   have i2 : Nr.IsRow (wr.cell? ⟨w.heap.size + 2, 0, none⟩) := by rw [q2]; exact Nr.IsRow.slice _ _ _
   have e2 := World.cell?_setCell_same _ _ (.slice Aq lq.length cq) q2
   have e3 : (wr.setCell ⟨w.heap.size + 2, 0, none⟩ (.slice Aq lq.length cq)).cell? ⟨w.heap.size + 3, 0, none⟩ = some (.slice none 0 0) := (World.cell?_setCell_far _ _ _ _ (by simp)).trans q3
   have i3 : Nr.IsRow ((wr.setCell ⟨w.heap.size + 2, 0, none⟩ (.slice Aq lq.length cq)).cell? ⟨w.heap.size + 3, 0, none⟩) := by rw [e3]; exact Nr.IsRow.slice _ _ _
   have e4 := World.cell?_setCell_same _ _ (.slice Ar lr.length cr) e3
   have e5 : ((wr.setCell ⟨w.heap.size + 2, 0, none⟩ (.slice Aq lq.length cq)).setCell ⟨w.heap.size + 3, 0, none⟩ (.slice Ar lr.length cr)).cell? ⟨w.heap.size + 2, 0, none⟩ = some (.slice Aq lq.length cq) := (World.cell?_setCell_far _ _ _ _ (by simp)).trans e2
   have ow' := Nr.Ow.drew (Nr.Ow.set (Nr.Ow.set ow (p := ⟨w.heap.size + 2, 0, none⟩) (.slice Aq lq.length cq) (fun e => by have h6 : _ ≤ w.heap.size + 2 := Kd.R_base ow.out _ e; omega)) (p := ⟨w.heap.size + 3, 0, none⟩) (.slice Ar lr.length cr) (fun e => by have h6 : _ ≤ w.heap.size + 3 := Kd.R_base ow.out _ e; omega))
   have nr' := Nr.Nr.drew (Nr.Nr.set (Nr.Nr.set nr (.slice Aq lq.length cq) i2) (.slice Ar lr.length cr) i3)
   exact bodyPost_ret (v := .tuple #[.agg #[.slice Aq lq.length cq], .agg #[.slice Ar lr.length cr]]) (by simp [results, Tryd.results110, go_sem, e4, e5]) rfl ⟨_, _, rfl, (Nr.lower ow' (by omega)).out, Nr.Nr.toV nr' at0, below_drew1 (below_set (below_set bl (by omega)) (by omega))⟩
end Go.Proofs.YthdeeoallfbjmaaDoor.PA
namespace Go.Proofs.YthdeeoallfbjmaaDoor.Pure
theorem ChopBack : Go.Proofs.YthdeeoallfbjmaaDoor.PA.L12_ChopBack.Pure := Go.Proofs.YthdeeoallfbjmaaDoor.Th.ChopBackP
end Go.Proofs.YthdeeoallfbjmaaDoor.Pure
namespace Go.Proofs.YthdeeoallfbjmaaDoor.Facts
abbrev ch (n : Nat) : Char := Char.ofNat n
theorem words_word (w : List Char) (r : List Char) (h : w.all (fun c => c != ch 32) = true) : wordsSigns (w ++ ch 32 :: r) = w :: wordsSigns r := by
  induction w with
  | nil => rfl
  | cons c w ih =>
    rw [List.all_cons, Bool.and_eq_true] at h
    have hc : c ≠ ch 32 := bne_iff_ne.1 h.1
    rw [List.cons_append]
    rw [wordsSigns.eq_3 c _ (fun e => hc e), ih h.2]
def w1 : List Char := [ch 104, ch 97, ch 114, ch 110, ch 101, ch 115, ch 115]
def w2 : List Char := [ch 98, ch 57, ch 54, ch 51, ch 49, ch 48, ch 49, ch 55, ch 56, ch 57, ch 57, ch 48, ch 102, ch 51, ch 56, ch 101, ch 50, ch 100, ch 48, ch 100, ch 54, ch 53, ch 99, ch 52, ch 55, ch 101, ch 100, ch 50, ch 53, ch 102, ch 54, ch 98, ch 98, ch 52, ch 57, ch 102, ch 54, ch 48, ch 55, ch 48, ch 52, ch 51, ch 99, ch 50, ch 101, ch 56, ch 100, ch 98, ch 55, ch 102, ch 56, ch 97, ch 102, ch 48, ch 55, ch 97, ch 55, ch 49, ch 100, ch 56, ch 50, ch 54, ch 99, ch 48]
def w3 : List Char := [ch 99, ch 117, ch 116]
set_option maxRecDepth 100000 in
def tailSigns : List Char := [ch 97, ch 116, ch 32, ch 116, ch 114, ch 117, ch 110, ch 110, ch 105, ch 111, ch 110, ch 47, ch 116, ch 114, ch 117, ch 110, ch 110, ch 105, ch 111, ch 110, ch 108, ch 97, ch 119, ch 49, ch 51, ch 46, ch 73, ch 110, ch 116, ch 115, ch 82, ch 117, ch 110, ch 115, ch 32, ch 116, ch 114, ch 117, ch 110, ch 110, ch 105, ch 111, ch 110, ch 47, ch 116, ch 114, ch 117, ch 110, ch 110, ch 105, ch 111, ch 110, ch 108, ch 97, ch 119, ch 49, ch 51, ch 46, ch 73, ch 110, ch 116, ch 115, ch 67, ch 111, ch 117, ch 110, ch 116, ch 115, ch 32, ch 116, ch 114, ch 117, ch 110, ch 110, ch 105, ch 111, ch 110, ch 47, ch 116, ch 114, ch 117, ch 110, ch 110, ch 105, ch 111, ch 110, ch 108, ch 97, ch 119, ch 49, ch 49, ch 46, ch 67, ch 97, ch 115, ch 116, ch 77, ch 97, ch 107, ch 101, ch 115, ch 32, ch 116, ch 114, ch 117, ch 110, ch 110, ch 105, ch 111, ch 110, ch 47, ch 116, ch 114, ch 117, ch 110, ch 110, ch 105, ch 111, ch 110, ch 108, ch 97, ch 119, ch 49, ch 49, ch 46, ch 67, ch 97, ch 115, ch 116, ch 66, ch 97, ch 99, ch 107, ch 32, ch 116, ch 114, ch 117, ch 110, ch 110, ch 105, ch 111, ch 110, ch 47, ch 116, ch 114, ch 117, ch 110, ch 110, ch 105, ch 111, ch 110, ch 108, ch 97, ch 119, ch 49, ch 50, ch 46, ch 67, ch 104, ch 111, ch 112, ch 66, ch 97, ch 99, ch 107]
set_option maxRecDepth 100000 in
theorem head_list : Tryd.prog.initOrder.toList = w1 ++ ch 32 :: (w2 ++ ch 32 :: (w3 ++ ch 32 :: tailSigns)) :=
  (congrArg String.toList (show Tryd.prog.initOrder = String.ofList (w1 ++ ch 32 :: (w2 ++ ch 32 :: (w3 ++ ch 32 :: tailSigns))) from rfl)).trans String.toList_ofList
theorem words : ∃ rest, behindMainWord (wordsSigns Tryd.prog.initOrder.toList) = w3 :: rest := by
  refine ⟨wordsSigns tailSigns, ?_⟩
  rw [head_list, words_word w1 _ (by kernel_rfl), words_word w2 _ (by kernel_rfl), words_word w3 _ (by kernel_rfl)]
  generalize wordsSigns tailSigns = rest
  have e : ((w1 == "harness".toList || w1 == "ownmain".toList) && isSumSigns w2) = true := by kernel_rfl
  show (if ((w1 == "harness".toList || w1 == "ownmain".toList) && isSumSigns w2) = true then w3 :: rest else w1 :: w2 :: w3 :: rest) = w3 :: rest
  rw [if_pos e]
theorem c3 : (w3 == "gc".toList) = false ∧ (w3 == "spec".toList) = false ∧ (w3 == "cut".toList) = true ∧ (w3 == "carried".toList) = false ∧ (w3 == "finals".toList) = false := ⟨by kernel_rfl, by kernel_rfl, by kernel_rfl, by kernel_rfl, by kernel_rfl⟩
theorem strip (rest : List (List Char)) : stripLifts liftWords (w3 :: rest) = ([], w3 :: rest) := by
  have key : ∀ l : List String, l.all (fun o => !(w3 == o.toList)) = true → stripLifts l (w3 :: rest) = ([], w3 :: rest) := by
    intro l
    induction l with
    | nil => intro _; rfl
    | cons o l ih =>
      intro h
      rw [List.all_cons, Bool.and_eq_true] at h
      unfold stripLifts
      rw [if_neg (fun e => by have h1 := h.1; rw [e] at h1; cases h1)]
      exact ih h.2
  exact key liftWords (by kernel_rfl)
theorem make_of (P : Program) (h : ∃ rest, behindMainWord (wordsSigns P.initOrder.toList) = w3 :: rest) : P.make = some .cut := by
  obtain ⟨rest, h⟩ := h
  unfold Program.make
  rw [h]
  show (if (w3 == "gc".toList || w3 == "spec".toList) = true then some Make.whole else if (w3 == "cut".toList || (w3 == "finals".toList && rest.head? == some "cut".toList)) = true then some Make.cut else _) = some Make.cut
  rw [if_neg (by rw [c3.1, c3.2.1]; decide), if_pos (by rw [c3.2.2.1, Bool.true_or])]
set_option maxRecDepth 100000 in
theorem liftsFact : Tryd.prog.liftsFinal = false := by
  unfold Program.liftsFinal Program.headLifts
  rw [head_list]
  kernel_rfl
theorem doorFact : (!Tryd.prog.laysLater && !Tryd.prog.bearsReflect && Tryd.prog.doorFits []) = true := by kernel_rfl
theorem makeFact : Tryd.prog.make = some .cut := make_of _ words
theorem enter_of (P : Program) (h : ∃ rest, behindMainWord (wordsSigns P.initOrder.toList) = w3 :: rest) (d : (!P.laysLater && !P.bearsReflect && P.doorFits []) = true) : P.mayEnter = true := by
  obtain ⟨rest, h⟩ := h
  rw [Bool.and_eq_true, Bool.and_eq_true] at d
  have e : ((some w3 == some "cut".toList) : Bool) = true := by kernel_rfl
  unfold Program.mayEnter
  rw [h]
  show ((_ || _) || ((stripLifts liftWords (w3 :: rest)).2.head? == some "cut".toList && ((stripLifts liftWords (w3 :: rest)).1.contains "finals" || !P.laysLater) && ((stripLifts liftWords (w3 :: rest)).1.contains "reflectrows" || !P.bearsReflect) &&
      ((stripLifts liftWords (w3 :: rest)).1.contains "reflectrows" || !(stripLifts liftWords (w3 :: rest)).1.contains "leanrows") && P.doorFits (stripLifts liftWords (w3 :: rest)).1)) = true
  rw [strip, Bool.or_eq_true]
  refine .inr ?_
  rw [Bool.and_eq_true, Bool.and_eq_true, Bool.and_eq_true, Bool.and_eq_true, Bool.or_eq_true, Bool.or_eq_true]
  exact ⟨⟨⟨⟨e, .inr d.1.1⟩, .inr d.1.2⟩, rfl⟩, d.2⟩
theorem enterFact : Tryd.prog.mayEnter = true := enter_of _ words doorFact
end Go.Proofs.YthdeeoallfbjmaaDoor.Facts
