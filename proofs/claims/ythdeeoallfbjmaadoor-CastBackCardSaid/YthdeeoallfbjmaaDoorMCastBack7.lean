/- What the Go functions that the statement CastBack reaches compute, and the mathematics on it, in the order in which one leans on the other; for every input. -/
import Derived.Test.YthdeeoallfbjmaaDoorVCastBack1
import Derived.Test.YthdeeoallfbjmaaDoorMCastBack0
import Derived.Test.YthdeeoallfbjmaaDoorMCastBack6
import Derived.Test.YthdeeoallfbjmaaDoorMCastBack2
import Derived.Test.YthdeeoallfbjmaaDoorMCastBack5
import Derived.Test.YthdeeoallfbjmaaDoorMCastBack1
import Derived.Test.YthdeeoallfbjmaaDoorMCastBack4
import Derived.Deep.RegionHeld3
import Derived.Test.YthdeeoallfbjmaaDoorMCastBack3
namespace Go.Proofs.YthdeeoallfbjmaaDoor.PA
open Go.RowKit Go.Proofs.YthdeeoallfbjmaaDoorW.PrintWords Go.Proofs.YthdeeoallfbjmaaDoorW.PrintLast Go.Proofs.YthdeeoallfbjmaaDoorW.PrintMore
attribute [local go_sem] max2_int min2_int max_two min_two max_three min_three max_four min_four   -- for this text's walks alone
set_option linter.unusedVariables false
set_option linter.unusedSimpArgs false
set_option maxHeartbeats 8000000
set_option maxRecDepth 100000
mutual
def L11_CastBack.j0 : Nat → Int → Bool → Option (Bool)
 | 0, _, _ => none
 | k + 1, x1, x29 => if x29 = true then (some false) else ((cast_Exact.f k 32 64 (x1 / 1099511627776) false).bind fun t618 => (if t618 = true then ((cast_Exact.f k 64 64 (x1 / 2048) true).bind fun t619 => (if t619 = true then ((cast_FromUint.f k 32 64 (x1 / 1099511627776)).bind fun t620 => ((cast_Promote.f k t620).bind fun t621 => ((cast_FromUint.f k 64 64 (x1 / 1099511627776)).bind fun t622 => (L11_CastBack.j1 k (x1 / 1099511627776) (t621 != t622))))) else (L11_CastBack.j1 k (x1 / 1099511627776) true))) else (L11_CastBack.j1 k (x1 / 1099511627776) true)))
def L11_CastBack.j1 : Nat → Int → Bool → Option (Bool)
 | 0, _, _ => none
 | k + 1, x6, x48 => if x48 = true then (some false) else (if x6 = 0 then (some true) else ((cast_FromInt.f k 64 64 (IntKind.u64.wrap (-x6))).bind fun t623 => ((cast_FromInt.f k 64 64 x6).bind fun t624 => (some (t623 == (Go.bits .or .u64 t624 9223372036854775808))))))
end
def L11_CastBack.f (k : Nat) (a0 : Int) (a1 : Int) : Option (Bool) := (L11_awake.f k).bind fun t609 => (if t609 = true then ((cast_Promote.f k a0).bind fun t610 => ((cast_Demote.f k t610).bind fun t611 => ((shape_IsNan.f k 32 a0).bind fun t612 => (if t612 = true then ((shape_Nan.f 32).bind fun t613 => (if t611 = t613 then ((shape_IsNan.f k 32 a0).bind fun t614 => (if t614 = true then (L11_CastBack.j0 k a1 false) else ((shape_Cut.f 32 a0).bind fun t615 => (L11_CastBack.j0 k a1 (t611 != t615))))) else (L11_CastBack.j0 k a1 true))) else ((shape_IsNan.f k 32 a0).bind fun t616 => (if t616 = true then (L11_CastBack.j0 k a1 false) else ((shape_Cut.f 32 a0).bind fun t617 => (L11_CastBack.j0 k a1 (t611 != t617))))))))) else (some false))
theorem L11_CastBack.mono_l : ∀ k, (∀ y0 y1, LeO (L11_CastBack.j0 k y0 y1) (L11_CastBack.j0 (k + 1) y0 y1)) ∧ (∀ y0 y1, LeO (L11_CastBack.j1 k y0 y1) (L11_CastBack.j1 (k + 1) y0 y1))
 | 0 => ⟨fun _ _ r h => by simp [L11_CastBack.j0] at h, fun _ _ r h => by simp [L11_CastBack.j1] at h⟩
 | k + 1 => by
  obtain ⟨ih0, ih1⟩ := L11_CastBack.mono_l k
  refine ⟨?_, ?_⟩
  ·intro y0 y1
   unfold L11_CastBack.j0
   repeat' first
   | (with_reducible exact ih0 _ _)
   | (with_reducible exact ih1 _ _)
   | (with_reducible exact cast_Demote.mono _ _)
   | (with_reducible exact cast_Exact.mono _ _ _ _ _)
   | (with_reducible exact cast_FromInt.mono _ _ _ _)
   | (with_reducible exact cast_FromUint.mono _ _ _ _)
   | (with_reducible exact cast_Promote.mono _ _)
   | (with_reducible exact shape_IsNan.mono _ _ _)
   | (with_reducible exact L11_awake.mono _)
   | (with_reducible exact LeO.refl _)
   | (with_reducible exact LeO.none _)
   | (with_reducible refine LeO.ite ?_ ?_)
   | (with_reducible refine LeO.bind ?_ (fun _ => ?_))
   | exact ih0 _ _
   | exact ih1 _ _
   | exact cast_Demote.mono _ _
   | exact cast_Exact.mono _ _ _ _ _
   | exact cast_FromInt.mono _ _ _ _
   | exact cast_FromUint.mono _ _ _ _
   | exact cast_Promote.mono _ _
   | exact shape_IsNan.mono _ _ _
   | exact L11_awake.mono _
   | exact LeO.none _
   | refine LeO.ite ?_ ?_
   | refine LeO.bind ?_ (fun _ => ?_)
  ·intro y0 y1
   unfold L11_CastBack.j1
   repeat' first
   | (with_reducible exact ih0 _ _)
   | (with_reducible exact ih1 _ _)
   | (with_reducible exact cast_Demote.mono _ _)
   | (with_reducible exact cast_Exact.mono _ _ _ _ _)
   | (with_reducible exact cast_FromInt.mono _ _ _ _)
   | (with_reducible exact cast_FromUint.mono _ _ _ _)
   | (with_reducible exact cast_Promote.mono _ _)
   | (with_reducible exact shape_IsNan.mono _ _ _)
   | (with_reducible exact L11_awake.mono _)
   | (with_reducible exact LeO.refl _)
   | (with_reducible exact LeO.none _)
   | (with_reducible refine LeO.ite ?_ ?_)
   | (with_reducible refine LeO.bind ?_ (fun _ => ?_))
   | exact ih0 _ _
   | exact ih1 _ _
   | exact cast_Demote.mono _ _
   | exact cast_Exact.mono _ _ _ _ _
   | exact cast_FromInt.mono _ _ _ _
   | exact cast_FromUint.mono _ _ _ _
   | exact cast_Promote.mono _ _
   | exact shape_IsNan.mono _ _ _
   | exact L11_awake.mono _
   | exact LeO.none _
   | refine LeO.ite ?_ ?_
   | refine LeO.bind ?_ (fun _ => ?_)
theorem L11_CastBack.mono : ∀ a0 a1 k, LeO (L11_CastBack.f k a0 a1) (L11_CastBack.f (k + 1) a0 a1) := by
 intro a0 a1 k
 obtain ⟨ih0, ih1⟩ := L11_CastBack.mono_l k
 unfold L11_CastBack.f
 repeat' first
   | (with_reducible exact ih0 _ _)
   | (with_reducible exact ih1 _ _)
   | (with_reducible exact cast_Demote.mono _ _)
   | (with_reducible exact cast_Exact.mono _ _ _ _ _)
   | (with_reducible exact cast_FromInt.mono _ _ _ _)
   | (with_reducible exact cast_FromUint.mono _ _ _ _)
   | (with_reducible exact cast_Promote.mono _ _)
   | (with_reducible exact shape_IsNan.mono _ _ _)
   | (with_reducible exact L11_awake.mono _)
   | (with_reducible exact LeO.refl _)
   | (with_reducible exact LeO.none _)
   | (with_reducible refine LeO.ite ?_ ?_)
   | (with_reducible refine LeO.bind ?_ (fun _ => ?_))
   | exact ih0 _ _
   | exact ih1 _ _
   | exact cast_Demote.mono _ _
   | exact cast_Exact.mono _ _ _ _ _
   | exact cast_FromInt.mono _ _ _ _
   | exact cast_FromUint.mono _ _ _ _
   | exact cast_Promote.mono _ _
   | exact shape_IsNan.mono _ _ _
   | exact L11_awake.mono _
   | exact LeO.none _
   | refine LeO.ite ?_ ?_
   | refine LeO.bind ?_ (fun _ => ?_)
theorem L11_CastBack.calls (k : Nat) (a0 : Int) (a1 : Int) (r : Bool) (w : World) (h : L11_CastBack.f k a0 a1 = some r) (hr_ : Aside0 (r = true)) (T_ : Aside0 (TT w)) :
  Calls Tryd.prog 6 #[.int .u64 a0, .int .u64 a1] w fun e w' => e = .returned (.bool r) ∧ Below w.heap.size w w' := by
 have HB := A_ (Below.refl w.heap.size w)
 have H : ((L11_awake.f k).bind fun t609 => (if t609 = true then ((cast_Promote.f k a0).bind fun t610 => ((cast_Demote.f k t610).bind fun t611 => ((shape_IsNan.f k 32 a0).bind fun t612 => (if t612 = true then ((shape_Nan.f 32).bind fun t613 => (if t611 = t613 then ((shape_IsNan.f k 32 a0).bind fun t614 => (if t614 = true then (L11_CastBack.j0 k a1 false) else ((shape_Cut.f 32 a0).bind fun t615 => (L11_CastBack.j0 k a1 (t611 != t615))))) else (L11_CastBack.j0 k a1 true))) else ((shape_IsNan.f k 32 a0).bind fun t616 => (if t616 = true then (L11_CastBack.j0 k a1 false) else ((shape_Cut.f 32 a0).bind fun t617 => (L11_CastBack.j0 k a1 (t611 != t617))))))))) else (some false))) = some r := h
 clear h
 replace H := ob_ H
 obtain ⟨t609, A30, H⟩ := H
 replace H : (if t609 = true then ((cast_Promote.f k a0).bind fun t610 => ((cast_Demote.f k t610).bind fun t611 => ((shape_IsNan.f k 32 a0).bind fun t612 => (if t612 = true then ((shape_Nan.f 32).bind fun t613 => (if t611 = t613 then ((shape_IsNan.f k 32 a0).bind fun t614 => (if t614 = true then (L11_CastBack.j0 k a1 false) else ((shape_Cut.f 32 a0).bind fun t615 => (L11_CastBack.j0 k a1 (t611 != t615))))) else (L11_CastBack.j0 k a1 true))) else ((shape_IsNan.f k 32 a0).bind fun t616 => (if t616 = true then (L11_CastBack.j0 k a1 false) else ((shape_Cut.f 32 a0).bind fun t617 => (L11_CastBack.j0 k a1 (t611 != t617))))))))) else (some false)) = some r := H
 have A3 := A_ A30;clear A30
 by_cases c4 : t609 = true
 ·subst c4
  have H1 : ((cast_Promote.f k a0).bind fun t610 => ((cast_Demote.f k t610).bind fun t611 => ((shape_IsNan.f k 32 a0).bind fun t612 => (if t612 = true then ((shape_Nan.f 32).bind fun t613 => (if t611 = t613 then ((shape_IsNan.f k 32 a0).bind fun t614 => (if t614 = true then (L11_CastBack.j0 k a1 false) else ((shape_Cut.f 32 a0).bind fun t615 => (L11_CastBack.j0 k a1 (t611 != t615))))) else (L11_CastBack.j0 k a1 true))) else ((shape_IsNan.f k 32 a0).bind fun t616 => (if t616 = true then (L11_CastBack.j0 k a1 false) else ((shape_Cut.f 32 a0).bind fun t617 => (L11_CastBack.j0 k a1 (t611 != t617))))))))) = some r := by rw [if_pos rfl] at H; exact H
  clear H;have H := H1;clear H1
  replace H := ob_ H
  obtain ⟨t610, A50, H⟩ := H
  replace H : ((cast_Demote.f k t610).bind fun t611 => ((shape_IsNan.f k 32 a0).bind fun t612 => (if t612 = true then ((shape_Nan.f 32).bind fun t613 => (if t611 = t613 then ((shape_IsNan.f k 32 a0).bind fun t614 => (if t614 = true then (L11_CastBack.j0 k a1 false) else ((shape_Cut.f 32 a0).bind fun t615 => (L11_CastBack.j0 k a1 (t611 != t615))))) else (L11_CastBack.j0 k a1 true))) else ((shape_IsNan.f k 32 a0).bind fun t616 => (if t616 = true then (L11_CastBack.j0 k a1 false) else ((shape_Cut.f 32 a0).bind fun t617 => (L11_CastBack.j0 k a1 (t611 != t617)))))))) = some r := H
  have A5 := A_ A50;clear A50
  replace H := ob_ H
  obtain ⟨t611, A60, H⟩ := H
  replace H : ((shape_IsNan.f k 32 a0).bind fun t612 => (if t612 = true then ((shape_Nan.f 32).bind fun t613 => (if t611 = t613 then ((shape_IsNan.f k 32 a0).bind fun t614 => (if t614 = true then (L11_CastBack.j0 k a1 false) else ((shape_Cut.f 32 a0).bind fun t615 => (L11_CastBack.j0 k a1 (t611 != t615))))) else (L11_CastBack.j0 k a1 true))) else ((shape_IsNan.f k 32 a0).bind fun t616 => (if t616 = true then (L11_CastBack.j0 k a1 false) else ((shape_Cut.f 32 a0).bind fun t617 => (L11_CastBack.j0 k a1 (t611 != t617))))))) = some r := H
  have A6 := A_ A60;clear A60;have HC7 := A_ H;clear H
  go_enter Tryd.func6, Tryd.ntmps6
  go_upto_region 4 with (first | ((with_reducible refine gate_callee (f := 24) rfl ?_); refine goesL_ (some 7) rfl rfl Tryd.func24 (by kernel_rfl) rfl #[] rfl mp_ ?_; (with_reducible refine (L11_awake.calls k  true _ A3.out).mono ?_); rintro e w8 ⟨rfl, hb⟩; refine ⟨_, rfl, ?_⟩; replace HB := A_ (below_step (hb_ HB.out) hb); (try clear hb); (try clear hb2); (try clear hk); (try clear hi)) | ((with_reducible refine gate_callee (f := 31) rfl ?_); refine goesL_ (some 10) rfl rfl Tryd.func31 (by kernel_rfl) rfl #[.int .u64 a0] rfl mp_ ?_; (with_reducible refine (cast_Promote.calls k a0 t610 _ A5.out).mono ?_); rintro e w9 ⟨rfl, hb⟩; refine ⟨_, rfl, ?_⟩; replace HB := A_ (below_step (hb_ HB.out) hb); (try clear hb); (try clear hb2); (try clear hk); (try clear hi)) | ((with_reducible refine gate_callee (f := 30) rfl ?_); refine goesL_ (some 11) rfl rfl Tryd.func30 (by kernel_rfl) rfl #[.int .u64 t610] rfl mp_ ?_; (with_reducible refine (cast_Demote.calls k t610 t611 _ A6.out).mono ?_); rintro e w10 ⟨rfl, hb⟩; refine ⟨_, rfl, ?_⟩; replace HB := A_ (below_step (hb_ HB.out) hb); (try clear hb); (try clear hb2); (try clear hk); (try clear hi)))
  (try simp only [Act.put, lI_, l0_, lS_])
  go_cut [29] (fun v29 wc => ∃ (kq : Nat) (x29_6 : Bool), v29 = .bool x29_6 ∧ Aside0 (L11_CastBack.j0 kq a1 x29_6 = some r) ∧ Aside0 (kq ≤ k) ∧ Aside0 (Below w.heap.size w wc))
  case first =>
   have H := HC7.out
   clear HC7
   replace H := ob_ H
   obtain ⟨t612, A110, H⟩ := H
   replace H : (if t612 = true then ((shape_Nan.f 32).bind fun t613 => (if t611 = t613 then ((shape_IsNan.f k 32 a0).bind fun t614 => (if t614 = true then (L11_CastBack.j0 k a1 false) else ((shape_Cut.f 32 a0).bind fun t615 => (L11_CastBack.j0 k a1 (t611 != t615))))) else (L11_CastBack.j0 k a1 true))) else ((shape_IsNan.f k 32 a0).bind fun t616 => (if t616 = true then (L11_CastBack.j0 k a1 false) else ((shape_Cut.f 32 a0).bind fun t617 => (L11_CastBack.j0 k a1 (t611 != t617)))))) = some r := H
   have A11 := A_ A110;clear A110
   by_cases c12 : t612 = true
   ·subst c12
    have H1 : ((shape_Nan.f 32).bind fun t613 => (if t611 = t613 then ((shape_IsNan.f k 32 a0).bind fun t614 => (if t614 = true then (L11_CastBack.j0 k a1 false) else ((shape_Cut.f 32 a0).bind fun t615 => (L11_CastBack.j0 k a1 (t611 != t615))))) else (L11_CastBack.j0 k a1 true))) = some r := by rw [if_pos rfl] at H; exact H
    clear H;have H := H1;clear H1
    replace H := ob_ H
    obtain ⟨t613, A130, H⟩ := H
    replace H : (if t611 = t613 then ((shape_IsNan.f k 32 a0).bind fun t614 => (if t614 = true then (L11_CastBack.j0 k a1 false) else ((shape_Cut.f 32 a0).bind fun t615 => (L11_CastBack.j0 k a1 (t611 != t615))))) else (L11_CastBack.j0 k a1 true)) = some r := H
    have A13 := A_ A130;clear A130
    by_cases c14 : t611 = t613
    ·rw [if_pos c14] at H
     have c14b0 : (t611 == t613) = true := beq_iff_eq.mpr c14
     have c14b1 : (t611 != t613) = false := bne_eq_false_iff_eq.mpr c14
     clear c14
     (first | rw [c14b0] | (simp only [i64_w, i32_w]; rw [c14b0]) | skip)
     replace H := ob_ H
     obtain ⟨t614, A150, H⟩ := H
     replace H : (if t614 = true then (L11_CastBack.j0 k a1 false) else ((shape_Cut.f 32 a0).bind fun t615 => (L11_CastBack.j0 k a1 (t611 != t615)))) = some r := H
     have A15 := A_ A150;clear A150
     by_cases c16 : t614 = true
     ·subst c16
      have H1 : (L11_CastBack.j0 k a1 false) = some r := by rw [if_pos rfl] at H; exact H
      clear H;have H := H1;clear H1
      have H' := A_ H
      clear H
      go_wp2_with (first | ((with_reducible refine gate_callee (f := 32) rfl ?_); refine goesL_ (some 13) rfl rfl Tryd.func32 (by kernel_rfl) rfl #[.int .i64 32, .int .u64 a0] rfl mp_ ?_; (with_reducible refine (shape_IsNan.calls k 32 a0 true _ A11.out).mono ?_); rintro e w17 ⟨rfl, hb⟩; refine ⟨_, rfl, ?_⟩; replace HB := A_ (below_step (hb_ HB.out) hb); (try clear hb); (try clear hb2); (try clear hk); (try clear hi)) | (go_at_call 33; (with_reducible refine (shape_Nan.calls 32 t613 _ A13.out).mono ?_); rintro e w18 ⟨rfl, hb⟩; replace HB := A_ (below_step (hb_ HB.out) hb); (try clear hb); (try clear hb2); (try clear hk); (try clear hi)) | (go_at_call 32; (with_reducible refine (shape_IsNan.calls k 32 a0 true _ A15.out).mono ?_); rintro e w19 ⟨rfl, hb⟩; replace HB := A_ (below_step (hb_ HB.out) hb); (try clear hb); (try clear hb2); (try clear hk); (try clear hi)))
      go_meet
      case rel => exact ⟨_, (false), sm_, H', ⟨by first | omega | exact Nat.le_refl _⟩, ⟨hb_ HB.out⟩⟩
     ·replace c16 := Bool.eq_false_iff.mpr c16
      subst c16
      have H1 : ((shape_Cut.f 32 a0).bind fun t615 => (L11_CastBack.j0 k a1 (t611 != t615))) = some r := by rw [if_neg (show ¬ (false = true) by decide)] at H; exact H
      clear H;have H := H1;clear H1
      replace H := ob_ H
      obtain ⟨t615, A200, H⟩ := H
      replace H : (L11_CastBack.j0 k a1 (t611 != t615)) = some r := H
      have A20 := A_ A200;clear A200
      have H' := A_ H
      clear H
      go_wp2_with (first | ((with_reducible refine gate_callee (f := 32) rfl ?_); refine goesL_ (some 13) rfl rfl Tryd.func32 (by kernel_rfl) rfl #[.int .i64 32, .int .u64 a0] rfl mp_ ?_; (with_reducible refine (shape_IsNan.calls k 32 a0 true _ A11.out).mono ?_); rintro e w21 ⟨rfl, hb⟩; refine ⟨_, rfl, ?_⟩; replace HB := A_ (below_step (hb_ HB.out) hb); (try clear hb); (try clear hb2); (try clear hk); (try clear hi)) | (go_at_call 33; (with_reducible refine (shape_Nan.calls 32 t613 _ A13.out).mono ?_); rintro e w22 ⟨rfl, hb⟩; replace HB := A_ (below_step (hb_ HB.out) hb); (try clear hb); (try clear hb2); (try clear hk); (try clear hi)) | (go_at_call 32; (with_reducible refine (shape_IsNan.calls k 32 a0 false _ A15.out).mono ?_); rintro e w23 ⟨rfl, hb⟩; replace HB := A_ (below_step (hb_ HB.out) hb); (try clear hb); (try clear hb2); (try clear hk); (try clear hi)) | (go_at_call 34; (with_reducible refine (shape_Cut.calls 32 a0 t615 _ A20.out).mono ?_); rintro e w' ⟨rfl, ⟨nd, rfl⟩⟩))
      go_meet
      case rel => exact ⟨_, ((t611 != t615)), sm_, H', ⟨by first | omega | exact Nat.le_refl _⟩, ⟨hb_ HB.out⟩⟩
    ·rw [if_neg c14] at H
     have c14b0 : (t611 == t613) = false := beq_eq_false_iff_ne.mpr c14
     have c14b1 : (t611 != t613) = true := bne_iff_ne.mpr c14
     (first | rw [c14b0] | (simp only [i64_w, i32_w]; rw [c14b0]) | skip)
     have H' := A_ H
     clear H
     go_wp2_with (first | ((with_reducible refine gate_callee (f := 32) rfl ?_); refine goesL_ (some 13) rfl rfl Tryd.func32 (by kernel_rfl) rfl #[.int .i64 32, .int .u64 a0] rfl mp_ ?_; (with_reducible refine (shape_IsNan.calls k 32 a0 true _ A11.out).mono ?_); rintro e w24 ⟨rfl, hb⟩; refine ⟨_, rfl, ?_⟩; replace HB := A_ (below_step (hb_ HB.out) hb); (try clear hb); (try clear hb2); (try clear hk); (try clear hi)) | (go_at_call 33; (with_reducible refine (shape_Nan.calls 32 t613 _ A13.out).mono ?_); rintro e w25 ⟨rfl, hb⟩; replace HB := A_ (below_step (hb_ HB.out) hb); (try clear hb); (try clear hb2); (try clear hk); (try clear hi)))
     go_meet
     case rel => exact ⟨_, (true), sm_, H', ⟨by first | omega | exact Nat.le_refl _⟩, ⟨hb_ HB.out⟩⟩
   ·replace c12 := Bool.eq_false_iff.mpr c12
    subst c12
    have H1 : ((shape_IsNan.f k 32 a0).bind fun t616 => (if t616 = true then (L11_CastBack.j0 k a1 false) else ((shape_Cut.f 32 a0).bind fun t617 => (L11_CastBack.j0 k a1 (t611 != t617))))) = some r := by rw [if_neg (show ¬ (false = true) by decide)] at H; exact H
    clear H;have H := H1;clear H1
    replace H := ob_ H
    obtain ⟨t616, A260, H⟩ := H
    replace H : (if t616 = true then (L11_CastBack.j0 k a1 false) else ((shape_Cut.f 32 a0).bind fun t617 => (L11_CastBack.j0 k a1 (t611 != t617)))) = some r := H
    have A26 := A_ A260;clear A260
    by_cases c27 : t616 = true
    ·subst c27
     have H1 : (L11_CastBack.j0 k a1 false) = some r := by rw [if_pos rfl] at H; exact H
     clear H;have H := H1;clear H1
     have H' := A_ H
     clear H
     go_wp2_with (first | ((with_reducible refine gate_callee (f := 32) rfl ?_); refine goesL_ (some 13) rfl rfl Tryd.func32 (by kernel_rfl) rfl #[.int .i64 32, .int .u64 a0] rfl mp_ ?_; (with_reducible refine (shape_IsNan.calls k 32 a0 false _ A11.out).mono ?_); rintro e w28 ⟨rfl, hb⟩; refine ⟨_, rfl, ?_⟩; replace HB := A_ (below_step (hb_ HB.out) hb); (try clear hb); (try clear hb2); (try clear hk); (try clear hi)) | (go_at_call 32; (with_reducible refine (shape_IsNan.calls k 32 a0 true _ A26.out).mono ?_); rintro e w29 ⟨rfl, hb⟩; replace HB := A_ (below_step (hb_ HB.out) hb); (try clear hb); (try clear hb2); (try clear hk); (try clear hi)))
     go_meet
     case rel => exact ⟨_, (false), sm_, H', ⟨by first | omega | exact Nat.le_refl _⟩, ⟨hb_ HB.out⟩⟩
    ·replace c27 := Bool.eq_false_iff.mpr c27
     subst c27
     have H1 : ((shape_Cut.f 32 a0).bind fun t617 => (L11_CastBack.j0 k a1 (t611 != t617))) = some r := by rw [if_neg (show ¬ (false = true) by decide)] at H; exact H
     clear H;have H := H1;clear H1
     replace H := ob_ H
     obtain ⟨t617, A300, H⟩ := H
     replace H : (L11_CastBack.j0 k a1 (t611 != t617)) = some r := H
     have A30 := A_ A300;clear A300
     have H' := A_ H
     clear H
     go_wp2_with (first | ((with_reducible refine gate_callee (f := 32) rfl ?_); refine goesL_ (some 13) rfl rfl Tryd.func32 (by kernel_rfl) rfl #[.int .i64 32, .int .u64 a0] rfl mp_ ?_; (with_reducible refine (shape_IsNan.calls k 32 a0 false _ A11.out).mono ?_); rintro e w31 ⟨rfl, hb⟩; refine ⟨_, rfl, ?_⟩; replace HB := A_ (below_step (hb_ HB.out) hb); (try clear hb); (try clear hb2); (try clear hk); (try clear hi)) | (go_at_call 32; (with_reducible refine (shape_IsNan.calls k 32 a0 false _ A26.out).mono ?_); rintro e w32 ⟨rfl, hb⟩; replace HB := A_ (below_step (hb_ HB.out) hb); (try clear hb); (try clear hb2); (try clear hk); (try clear hi)) | (go_at_call 34; (with_reducible refine (shape_Cut.calls 32 a0 t617 _ A30.out).mono ?_); rintro e w' ⟨rfl, ⟨nd, rfl⟩⟩))
     go_meet
     case rel => exact ⟨_, ((t611 != t617)), sm_, H', ⟨by first | omega | exact Nat.le_refl _⟩, ⟨hb_ HB.out⟩⟩
  case rest =>
   clear HC7
   try clear c1
   try clear c2
   try clear p2
   try clear c3
   try clear c4
   try clear c6
   try clear c12
   try clear c14
   try clear c14b0
   try clear c14b1
   try clear c16
   try clear c24
   try clear c27
   try clear c30
   try clear c31
   try clear c32
   obtain ⟨kq, x29_6, rfl, HA, HJ6, HB⟩ := hcut
   cases kq with
   | zero => exact absurd HA.out (by simp [L11_CastBack.j0])
   | succ kj6 =>
    have H := HA.out
    clear HA
    simp only [L11_CastBack.j0] at H
    by_cases c33 : x29_6 = true
    ·subst c33
     have H1 : (some false) = some r := by rw [if_pos rfl] at H; exact H
     clear H;have H := H1;clear H1
     exact absurd ((Option.some.inj H).trans hr_.out) (by decide)
    ·replace c33 := Bool.eq_false_iff.mpr c33
     subst c33
     have H1 : ((cast_Exact.f kj6 32 64 (a1 / 1099511627776) false).bind fun t618 => (if t618 = true then ((cast_Exact.f kj6 64 64 (a1 / 2048) true).bind fun t619 => (if t619 = true then ((cast_FromUint.f kj6 32 64 (a1 / 1099511627776)).bind fun t620 => ((cast_Promote.f kj6 t620).bind fun t621 => ((cast_FromUint.f kj6 64 64 (a1 / 1099511627776)).bind fun t622 => (L11_CastBack.j1 kj6 (a1 / 1099511627776) (t621 != t622))))) else (L11_CastBack.j1 kj6 (a1 / 1099511627776) true))) else (L11_CastBack.j1 kj6 (a1 / 1099511627776) true))) = some r := by rw [if_neg (show ¬ (false = true) by decide)] at H; exact H
     clear H;have H := H1;clear H1;have HC34 := A_ H;clear H
     go_upto_region 7 with (fail)
     go_cut [48] (fun v48 wc => ∃ (kq : Nat) (x48_33 : Bool), v48 = .bool x48_33 ∧ Aside0 (L11_CastBack.j1 kq (a1 / 1099511627776) x48_33 = some r) ∧ Aside0 (kq ≤ kj6) ∧ Aside0 (Below w.heap.size w wc))
     case first =>
      have H := HC34.out
      clear HC34
      replace H := ob_ H
      obtain ⟨t618, A350, H⟩ := H
      replace H : (if t618 = true then ((cast_Exact.f kj6 64 64 (a1 / 2048) true).bind fun t619 => (if t619 = true then ((cast_FromUint.f kj6 32 64 (a1 / 1099511627776)).bind fun t620 => ((cast_Promote.f kj6 t620).bind fun t621 => ((cast_FromUint.f kj6 64 64 (a1 / 1099511627776)).bind fun t622 => (L11_CastBack.j1 kj6 (a1 / 1099511627776) (t621 != t622))))) else (L11_CastBack.j1 kj6 (a1 / 1099511627776) true))) else (L11_CastBack.j1 kj6 (a1 / 1099511627776) true)) = some r := H
      have A35 := A_ A350;clear A350
      by_cases c36 : t618 = true
      ·subst c36
       have H1 : ((cast_Exact.f kj6 64 64 (a1 / 2048) true).bind fun t619 => (if t619 = true then ((cast_FromUint.f kj6 32 64 (a1 / 1099511627776)).bind fun t620 => ((cast_Promote.f kj6 t620).bind fun t621 => ((cast_FromUint.f kj6 64 64 (a1 / 1099511627776)).bind fun t622 => (L11_CastBack.j1 kj6 (a1 / 1099511627776) (t621 != t622))))) else (L11_CastBack.j1 kj6 (a1 / 1099511627776) true))) = some r := by rw [if_pos rfl] at H; exact H
       clear H;have H := H1;clear H1
       replace H := ob_ H
       obtain ⟨t619, A370, H⟩ := H
       replace H : (if t619 = true then ((cast_FromUint.f kj6 32 64 (a1 / 1099511627776)).bind fun t620 => ((cast_Promote.f kj6 t620).bind fun t621 => ((cast_FromUint.f kj6 64 64 (a1 / 1099511627776)).bind fun t622 => (L11_CastBack.j1 kj6 (a1 / 1099511627776) (t621 != t622))))) else (L11_CastBack.j1 kj6 (a1 / 1099511627776) true)) = some r := H
       have A37 := A_ A370;clear A370
       by_cases c38 : t619 = true
       ·subst c38
        have H1 : ((cast_FromUint.f kj6 32 64 (a1 / 1099511627776)).bind fun t620 => ((cast_Promote.f kj6 t620).bind fun t621 => ((cast_FromUint.f kj6 64 64 (a1 / 1099511627776)).bind fun t622 => (L11_CastBack.j1 kj6 (a1 / 1099511627776) (t621 != t622))))) = some r := by rw [if_pos rfl] at H; exact H
        clear H;have H := H1;clear H1
        replace H := ob_ H
        obtain ⟨t620, A390, H⟩ := H
        replace H : ((cast_Promote.f kj6 t620).bind fun t621 => ((cast_FromUint.f kj6 64 64 (a1 / 1099511627776)).bind fun t622 => (L11_CastBack.j1 kj6 (a1 / 1099511627776) (t621 != t622)))) = some r := H
        have A39 := A_ A390;clear A390
        replace H := ob_ H
        obtain ⟨t621, A400, H⟩ := H
        replace H : ((cast_FromUint.f kj6 64 64 (a1 / 1099511627776)).bind fun t622 => (L11_CastBack.j1 kj6 (a1 / 1099511627776) (t621 != t622))) = some r := H
        have A40 := A_ A400;clear A400
        replace H := ob_ H
        obtain ⟨t622, A410, H⟩ := H
        replace H : (L11_CastBack.j1 kj6 (a1 / 1099511627776) (t621 != t622)) = some r := H
        have A41 := A_ A410;clear A410
        have H' := A_ H
        clear H
        go_wp2_with (first | ((with_reducible refine gate_callee (f := 27) rfl ?_); refine goesL_ (some 33) rfl rfl Tryd.func27 (by kernel_rfl) rfl #[.int .i64 32, .int .i64 64, .int .u64 (a1 / 1099511627776), .bool false] rfl mp_ ?_; (refine (cast_Exact.calls kj6 32 64 (a1 / 1099511627776) false true _ A35.out (TT.go (hb_ HB.out) T_)).mono ?_); rintro e w42 ⟨rfl, hb⟩; refine ⟨_, rfl, ?_⟩; replace HB := A_ (below_step (hb_ HB.out) hb); (try clear hb); (try clear hb2); (try clear hk); (try clear hi)) | (go_at_call 27; (refine (cast_Exact.calls kj6 64 64 (a1 / 2048) true true _ A37.out (TT.go (hb_ HB.out) T_)).mono ?_); rintro e w43 ⟨rfl, hb⟩; replace HB := A_ (below_step (hb_ HB.out) hb); (try clear hb); (try clear hb2); (try clear hk); (try clear hi)) | (go_at_call 25; (with_reducible refine (cast_FromUint.calls kj6 32 64 (a1 / 1099511627776) t620 _ A39.out).mono ?_); rintro e w44 ⟨rfl, hb⟩; replace HB := A_ (below_step (hb_ HB.out) hb); (try clear hb); (try clear hb2); (try clear hk); (try clear hi)) | (go_at_call 31; (with_reducible refine (cast_Promote.calls kj6 t620 t621 _ A40.out).mono ?_); rintro e w45 ⟨rfl, hb⟩; replace HB := A_ (below_step (hb_ HB.out) hb); (try clear hb); (try clear hb2); (try clear hk); (try clear hi)) | (go_at_call 25; (with_reducible refine (cast_FromUint.calls kj6 64 64 (a1 / 1099511627776) t622 _ A41.out).mono ?_); rintro e w46 ⟨rfl, hb⟩; replace HB := A_ (below_step (hb_ HB.out) hb); (try clear hb); (try clear hb2); (try clear hk); (try clear hi)))
        go_meet
        case rel => exact ⟨_, ((t621 != t622)), sm_, H', ⟨by have := HJ6.out; first | omega | exact Nat.le_refl _⟩, ⟨hb_ HB.out⟩⟩
       ·replace c38 := Bool.eq_false_iff.mpr c38
        subst c38
        have H1 : (L11_CastBack.j1 kj6 (a1 / 1099511627776) true) = some r := by rw [if_neg (show ¬ (false = true) by decide)] at H; exact H
        clear H;have H := H1;clear H1
        have H' := A_ H
        clear H
        go_wp2_with (first | ((with_reducible refine gate_callee (f := 27) rfl ?_); refine goesL_ (some 33) rfl rfl Tryd.func27 (by kernel_rfl) rfl #[.int .i64 32, .int .i64 64, .int .u64 (a1 / 1099511627776), .bool false] rfl mp_ ?_; (refine (cast_Exact.calls kj6 32 64 (a1 / 1099511627776) false true _ A35.out (TT.go (hb_ HB.out) T_)).mono ?_); rintro e w47 ⟨rfl, hb⟩; refine ⟨_, rfl, ?_⟩; replace HB := A_ (below_step (hb_ HB.out) hb); (try clear hb); (try clear hb2); (try clear hk); (try clear hi)) | (go_at_call 27; (refine (cast_Exact.calls kj6 64 64 (a1 / 2048) true false _ A37.out (TT.go (hb_ HB.out) T_)).mono ?_); rintro e w48 ⟨rfl, hb⟩; replace HB := A_ (below_step (hb_ HB.out) hb); (try clear hb); (try clear hb2); (try clear hk); (try clear hi)))
        go_meet
        case rel => exact ⟨_, (true), sm_, H', ⟨by have := HJ6.out; first | omega | exact Nat.le_refl _⟩, ⟨hb_ HB.out⟩⟩
      ·replace c36 := Bool.eq_false_iff.mpr c36
       subst c36
       have H1 : (L11_CastBack.j1 kj6 (a1 / 1099511627776) true) = some r := by rw [if_neg (show ¬ (false = true) by decide)] at H; exact H
       clear H;have H := H1;clear H1
       have H' := A_ H
       clear H
       go_wp2_with (first | ((with_reducible refine gate_callee (f := 27) rfl ?_); refine goesL_ (some 33) rfl rfl Tryd.func27 (by kernel_rfl) rfl #[.int .i64 32, .int .i64 64, .int .u64 (a1 / 1099511627776), .bool false] rfl mp_ ?_; (refine (cast_Exact.calls kj6 32 64 (a1 / 1099511627776) false false _ A35.out (TT.go (hb_ HB.out) T_)).mono ?_); rintro e w49 ⟨rfl, hb⟩; refine ⟨_, rfl, ?_⟩; replace HB := A_ (below_step (hb_ HB.out) hb); (try clear hb); (try clear hb2); (try clear hk); (try clear hi)))
       go_meet
       case rel => exact ⟨_, (true), sm_, H', ⟨by have := HJ6.out; first | omega | exact Nat.le_refl _⟩, ⟨hb_ HB.out⟩⟩
     case rest =>
      clear HC34
      try clear c1
      try clear c2
      try clear p2
      try clear c3
      try clear c4
      try clear c6
      try clear c12
      try clear c14
      try clear c14b0
      try clear c14b1
      try clear c16
      try clear c24
      try clear c27
      try clear c30
      try clear c31
      try clear c32
      try clear c33
      try clear c36
      try clear c38
      try clear p2
      obtain ⟨kq, x48_33, rfl, HA, HJ33, HB⟩ := hcut
      cases kq with
      | zero => exact absurd HA.out (by simp [L11_CastBack.j1])
      | succ kj33 =>
       have H := HA.out
       clear HA
       simp only [L11_CastBack.j1] at H
       by_cases c50 : x48_33 = true
       ·subst c50
        have H1 : (some false) = some r := by rw [if_pos rfl] at H; exact H
        clear H;have H := H1;clear H1
        exact absurd ((Option.some.inj H).trans hr_.out) (by decide)
       ·replace c50 := Bool.eq_false_iff.mpr c50
        subst c50
        have H1 : (if (a1 / 1099511627776) = 0 then (some true) else ((cast_FromInt.f kj33 64 64 (IntKind.u64.wrap (-(a1 / 1099511627776)))).bind fun t623 => ((cast_FromInt.f kj33 64 64 (a1 / 1099511627776)).bind fun t624 => (some (t623 == (Go.bits .or .u64 t624 9223372036854775808)))))) = some r := by rw [if_neg (show ¬ (false = true) by decide)] at H; exact H
        clear H;have H := H1;clear H1
        by_cases c51 : (a1 / 1099511627776) = 0
        ·rw [if_pos c51] at H
         have c51b0 : ((a1 / 1099511627776) == 0) = true := beq_iff_eq.mpr c51
         have c51b1 : ((a1 / 1099511627776) != 0) = false := bne_eq_false_iff_eq.mpr c51
         clear c51
         obtain rfl := Option.some.inj H
         go_wp2
         go_ret
         exact ⟨er_, hb_ HB.out⟩
        ·rw [if_neg c51] at H
         have c51b0 : ((a1 / 1099511627776) == 0) = false := beq_eq_false_iff_ne.mpr c51
         have c51b1 : ((a1 / 1099511627776) != 0) = true := bne_iff_ne.mpr c51
         replace H := ob_ H
         obtain ⟨t623, A520, H⟩ := H
         replace H : ((cast_FromInt.f kj33 64 64 (a1 / 1099511627776)).bind fun t624 => (some (t623 == (Go.bits .or .u64 t624 9223372036854775808)))) = some r := H
         have A52 := A_ A520;clear A520
         replace H := ob_ H
         obtain ⟨t624, A530, H⟩ := H
         replace H : (some (t623 == (Go.bits .or .u64 t624 9223372036854775808))) = some r := H
         have A53 := A_ A530;clear A530
         obtain rfl := Option.some.inj H
         go_wp2_with (first | (go_at_call 26; (with_reducible refine (cast_FromInt.calls kj33 64 64 (IntKind.u64.wrap (-(a1 / 1099511627776))) t623 _ A52.out).mono ?_); rintro e w54 ⟨rfl, hb⟩; replace HB := A_ (below_step (hb_ HB.out) hb); (try clear hb); (try clear hb2); (try clear hk); (try clear hi)) | (go_at_call 26; (with_reducible refine (cast_FromInt.calls kj33 64 64 (a1 / 1099511627776) t624 _ A53.out).mono ?_); rintro e w55 ⟨rfl, hb⟩; replace HB := A_ (below_step (hb_ HB.out) hb); (try clear hb); (try clear hb2); (try clear hk); (try clear hi)))
         go_ret
         exact ⟨er_, hb_ HB.out⟩
 ·replace c4 := Bool.eq_false_iff.mpr c4
  subst c4
  have H1 : (some false) = some r := by rw [if_neg (show ¬ (false = true) by decide)] at H; exact H
  clear H;have H := H1;clear H1
  exact absurd ((Option.some.inj H).trans hr_.out) (by decide)
def L11_CastBack.Pure : Prop := ∀ (a0 : Int) (a1 : Int), (Lit.int .u64 a0).wf = true → (Lit.int .u64 a1).wf = true → ∃ k, L11_CastBack.f k a0 a1 = some true
theorem L11_CastBack.walk (P : L11_CastBack.Pure) (a0 : Int) (a1 : Int) (w : World) (w0 : (Lit.int .u64 a0).wf = true) (w1 : (Lit.int .u64 a1).wf = true) (T_ : Aside0 (TT w)) :
  Calls Tryd.prog 6 #[.int .u64 a0, .int .u64 a1] w fun e w' => e = .returned (.bool true) ∧ Below w.heap.size w w' := by
 obtain ⟨k, h⟩ := P a0 a1 w0 w1
 refine (L11_CastBack.calls k a0 a1 true w h ⟨rfl⟩ T_).mono ?_
 rintro e w' ⟨rfl, hd⟩
 exact ⟨rfl, hd⟩
def ints_signed.f (a0 : Int) (a1 : Int) : Option (Int) := if a0 = 32 then (some (wrap64 (wrap32 ((a1) % 4294967296)))) else (some (wrap64 (a1)))
theorem ints_signed.calls (a0 : Int) (a1 : Int) (r : Int) (w : World) (h : ints_signed.f a0 a1 = some r) :
  Calls Tryd.prog 48 #[.int .i64 a0, .int .u64 a1] w fun e w' => e = .returned (.int .i64 r) ∧ Drawn0 w w' := by
 have H : (if a0 = 32 then (some (wrap64 (wrap32 ((a1) % 4294967296)))) else (some (wrap64 (a1)))) = some r := h
 clear h
 by_cases c3 : a0 = 32
 ·rw [if_pos c3] at H
  have c3b0 : (a0 == 32) = true := beq_iff_eq.mpr c3
  have c3b1 : (a0 != 32) = false := bne_eq_false_iff_eq.mpr c3
  clear c3
  obtain rfl := Option.some.inj H
  go_enter Tryd.func48, Tryd.ntmps48
  go_wp2
  go_ret
  exact ⟨sm_, by repeat (first | exact Drawn0.refl _ | apply Drawn0.step)⟩
 ·rw [if_neg c3] at H
  have c3b0 : (a0 == 32) = false := beq_eq_false_iff_ne.mpr c3
  have c3b1 : (a0 != 32) = true := bne_iff_ne.mpr c3
  obtain rfl := Option.some.inj H
  go_enter Tryd.func48, Tryd.ntmps48
  go_wp2
  go_ret
  exact ⟨sm_, by repeat (first | exact Drawn0.refl _ | apply Drawn0.step)⟩
end Go.Proofs.YthdeeoallfbjmaaDoor.PA
section
set_option linter.unusedVariables false
set_option linter.unusedSimpArgs false
namespace Go.Proofs.YthdeeoallfbjmaaDoor.Th
open Go.RowKit Go.Proofs.YthdeeoallfbjmaaDoorW.PrintWords Go.Proofs.YthdeeoallfbjmaaDoorW.PrintLast Go.Proofs.YthdeeoallfbjmaaDoorW.PrintMore Go.Proofs.YthdeeoallfbjmaaDoor.PA Bit Dig
def pw (w : Int) : Nat := if w = 32 then 4294967296 else 18446744073709551616
theorem pw_64 (w : Int) : pw w ≤ 18446744073709551616 := by unfold pw; split <;> omega
theorem pw_0 (w : Int) : 0 < pw w := by unfold pw; split <;> decide
theorem getD_in {α : Type} (d : α) (l : List α) (i : Nat) (h : i < l.length) : l.getD i d = l[i] := by simp [List.getD, h]
def tb (c : Nat) (w n : Int) (rd inn : Bool) (i : Nat) : Bool := if 0 ≤ (i : Int) - n ∧ (i : Int) - n < w then c.testBit ((i : Int) - n).toNat else if rd then c.testBit (((i : Int) - n + w) % w).toNat else inn
def sgn (w : Int) (a : Nat) : Int := (a % pw w : Nat) - (if sgB w a then (pw w : Int) else 0)
theorem signedS (w : Int) (hw : w = 32 ∨ w = 64) (a : Nat) (ha : a < 18446744073709551616) : ints_signed.f w a = some (sgn w a) := by
  unfold ints_signed.f sgn sgB pw sb
  rcases hw with rfl | rfl
  · simp only [if_true, decide_eq_true_eq]
    rw [show wrap32 ((a : Int) % 4294967296) = if a / 2147483648 % 2 = 1 then ((a % 4294967296 : Nat) : Int) - 4294967296 else ((a % 4294967296 : Nat) : Int) by unfold wrap32; split <;> omega]
    congr 1
    split
    · rw [w64_id (by omega) (by omega)]; rfl
    · rw [w64_id (by omega) (by omega)]; omega
  · simp only [show ¬ ((64 : Int) = 32) by decide, if_false, decide_eq_true_eq]
    congr 1
    unfold wrap64
    split <;> omega
end Go.Proofs.YthdeeoallfbjmaaDoor.Th
end
set_option linter.unusedVariables false
namespace Pop
def ds (B : Nat) : Nat → Nat → Nat
  | 0, _ => 0
  | n + 1, x => x % B + ds B n (x / B)
def mk (B : Nat) : Nat → Nat
  | 0 => 0
  | n + 1 => (B - 1) + B * B * mk B n
theorem and_rec (k x m : Nat) : x &&& ((2 ^ k - 1) + 2 ^ k * 2 ^ k * m) = x % 2 ^ k + 2 ^ k * 2 ^ k * (x / (2 ^ k * 2 ^ k) &&& m) := by
  have h1 : 2 ^ k - 1 < 2 ^ (k + k) := by
    have a : 0 < 2 ^ k := Nat.pow_pos (by decide)
    have b : 2 ^ k ≤ 2 ^ (k + k) := Nat.pow_le_pow_right (by decide) (by omega)
    omega
  have h2 : x % 2 ^ k < 2 ^ (k + k) := by
    have a : x % 2 ^ k < 2 ^ k := Nat.mod_lt _ (Nat.pow_pos (by decide))
    have b : 2 ^ k ≤ 2 ^ (k + k) := Nat.pow_le_pow_right (by decide) (by omega)
    omega
  rw [← Nat.pow_add]
  refine Nat.eq_of_testBit_eq fun j => ?_
  rw [Nat.testBit_and, Nat.add_comm (2 ^ k - 1), Nat.add_comm (x % 2 ^ k), Nat.testBit_two_pow_mul_add _ h1, Nat.testBit_two_pow_mul_add _ h2]
  by_cases h : j < k + k
  · rw [if_pos h, if_pos h, Nat.testBit_two_pow_sub_one, Nat.testBit_mod_two_pow, Bool.and_comm]
  · rw [if_neg h, if_neg h, Nat.testBit_and, Nat.testBit_div_two_pow, show j - (k + k) + (k + k) = j by omega]
theorem div2 (B x : Nat) : x / B / B = x / (B * B) := Nat.div_div_eq_div_mul ..
theorem step (k : Nat) (hk : 0 < k) (n : Nat) : ∀ x, ds (2 ^ k * 2 ^ k) n ((x / 2 ^ k &&& mk (2 ^ k) n) + (x &&& mk (2 ^ k) n)) = ds (2 ^ k) (n + n) x := by
  have hB : 2 ≤ 2 ^ k := by
    have : 2 ^ 1 ≤ 2 ^ k := Nat.pow_le_pow_right (by decide) hk
    simpa using this
  induction n with
  | zero => intro x; rfl
  | succ n ih =>
    intro x
    have e1 := and_rec k x (mk (2 ^ k) n)
    have e2 := and_rec k (x / 2 ^ k) (mk (2 ^ k) n)
    have hh := ih (x / (2 ^ k * 2 ^ k))
    generalize hBd : 2 ^ k = B at *
    have e3 : x / B / (B * B) = x / (B * B) / B := by rw [Nat.div_div_eq_div_mul, Nat.div_div_eq_div_mul, Nat.mul_comm]
    rw [e3] at e2
    show (_ + _) % (B * B) + ds (B * B) n ((_ + _) / (B * B)) = _
    rw [show mk B (n + 1) = (B - 1) + B * B * mk B n from rfl, e1, e2]
    have l0 := Nat.mod_lt x (show 0 < B by omega)
    have l1 := Nat.mod_lt (x / B) (show 0 < B by omega)
    have hBB : B * 2 ≤ B * B := Nat.mul_le_mul_left B hB
    generalize (x / (B * B) / B &&& mk B n) = u at *
    generalize (x / (B * B) &&& mk B n) = v at *
    have e4 : x / B % B + B * B * u + (x % B + B * B * v) = B * B * (u + v) + (x / B % B + x % B) := by rw [Nat.mul_add]; omega
    rw [e4, Nat.mul_add_mod, Nat.mul_add_div (by omega), Nat.mod_eq_of_lt (by omega), Nat.div_eq_of_lt (a := x / B % B + x % B) (by omega), Nat.add_zero, hh]
    rw [show n + 1 + (n + 1) = (n + n) + 1 + 1 by omega]
    show _ = x % B + (x / B % B + ds B (n + n) (x / B / B))
    rw [div2]; omega
def le (B c : Nat) : Nat → Nat → Prop
  | 0, _ => True
  | n + 1, x => x % B ≤ c ∧ le B c n (x / B)
end Pop
section
set_option linter.unusedVariables false
set_option linter.unusedSimpArgs false
namespace Go.Proofs.YthdeeoallfbjmaaDoor.Th
open Go.RowKit Go.Proofs.YthdeeoallfbjmaaDoorW.PrintWords Go.Proofs.YthdeeoallfbjmaaDoorW.PrintLast Go.Proofs.YthdeeoallfbjmaaDoorW.PrintMore Go.Proofs.YthdeeoallfbjmaaDoor.PA Bit Dig
theorem ctz_le (c : Nat) (hc : c < 18446744073709551616) : Lib.ctz 64 c ≤ 64 := by
  unfold Lib.ctz
  split
  · exact Nat.le_refl _
  · rename_i h
    obtain ⟨m, _, h2⟩ := Lib.ctzFrom_spec 64 c (by omega) (by simpa using hc)
    omega
theorem ctz_spec (w : Int) (hw : w = 32 ∨ w = 64) (c : Nat) (hc : c < pw w) (h0 : 0 < c) : ∃ m, c = 2 ^ Lib.ctz 64 c * (2 * m + 1) ∧ Lib.ctz 64 c < bl c := by
  have h64 := pw_64 w
  obtain ⟨m, h1, h2⟩ := Lib.ctzFrom_spec 64 c h0 (by have : c < 18446744073709551616 := by omega
                                                     simpa using this)
  have e : Lib.ctz 64 c = Lib.ctzFrom 64 c := by unfold Lib.ctz; rw [if_neg (by omega)]
  refine ⟨m, by rw [e]; exact h1, ?_⟩
  rw [e]
  rcases Nat.lt_or_ge (Lib.ctzFrom 64 c) (bl c) with h | h
  · exact h
  · exfalso
    have k := bl_le.1 h
    have : 2 ^ Lib.ctzFrom 64 c ≤ 2 ^ Lib.ctzFrom 64 c * (2 * m + 1) := Nat.le_mul_of_pos_right _ (by omega)
    omega
def mg (w : Int) (a : Nat) : Nat := if sgB w a then pw w - a % pw w else a % pw w
theorem sgn_mg (w : Int) (a : Nat) : sgn w a = if sgB w a then -((mg w a : Nat) : Int) else ((mg w a : Nat) : Int) := by
  unfold sgn mg
  have := Nat.mod_lt a (pw_0 w)
  cases sgB w a
  · simp
  · simp only [if_true]; omega
theorem mg_bd (w : Int) (hw : w = 32 ∨ w = 64) (a : Nat) : mg w a ≤ sb w ∧ (sgB w a = false → mg w a < sb w) ∧ (sgB w a = true → 0 < mg w a) ∧ pw w = 2 * sb w := by
  rcases hw with rfl | rfl
  · simp only [mg, sgB, pw, sb, if_true]
    by_cases h : a / 2147483648 % 2 = 1
    · simp only [h, decide_true, if_true]; exact ⟨by omega, (fun h => by cases h), (fun _ => by omega), by first | trivial | omega⟩
    · simp only [h, decide_false, if_neg (show ¬ (false = true) by decide)]; exact ⟨by omega, (fun _ => by omega), (fun h => by cases h), by first | trivial | omega⟩
  · simp only [mg, sgB, pw, sb, show ¬ ((64 : Int) = 32) by decide, if_false]
    by_cases h : a / 9223372036854775808 % 2 = 1
    · simp only [h, decide_true, if_true]; exact ⟨by omega, (fun h => by cases h), (fun _ => by omega), by first | trivial | omega⟩
    · simp only [h, decide_false, if_neg (show ¬ (false = true) by decide)]; exact ⟨by omega, (fun _ => by omega), (fun h => by cases h), by first | trivial | omega⟩
theorem ctz_bits {c t m : Nat} (h : c = 2 ^ t * (2 * m + 1)) : (∀ i, i < t → c.testBit i = false) ∧ c.testBit t = true := by
  subst h
  constructor
  · intro i hi
    rw [Nat.testBit_eq_decide_div_mod_eq, show 2 ^ t * (2 * m + 1) = 2 ^ i * (2 * (2 ^ (t - i - 1) * (2 * m + 1))) by
      rw [show t = i + (1 + (t - i - 1)) by omega, Nat.pow_add, Nat.pow_add, show i + (1 + (t - i - 1)) - i - 1 = t - i - 1 by omega]; simp [Nat.mul_assoc], Nat.mul_div_cancel_left _ (Nat.pow_pos (by decide))]
    simp
  · rw [Nat.testBit_eq_decide_div_mod_eq, Nat.mul_div_cancel_left _ (Nat.pow_pos (by decide))]
    simp
end Go.Proofs.YthdeeoallfbjmaaDoor.Th
end
section
set_option linter.unusedVariables false
set_option linter.unusedSimpArgs false
namespace Go.Proofs.YthdeeoallfbjmaaDoor.Th
open Go.RowKit Go.Proofs.YthdeeoallfbjmaaDoorW.PrintWords Go.Proofs.YthdeeoallfbjmaaDoorW.PrintLast Go.Proofs.YthdeeoallfbjmaaDoorW.PrintMore Go.Proofs.YthdeeoallfbjmaaDoor.PA Bit Flo
theorem opn_mk (w : Int) (hw : w = 32 ∨ w = 64) (m : Nat) (s : Bool) (h : m < sb w) : opn w (mkN w m s) = if m = 0 then (s, 0, 0, 0) else if m < (fmt w).inf then (s, 1, (fmt w).ex m, ((fmt w).sg m : Int)) else if m = (fmt w).inf then (s, 2, 0, 0) else (false, 3, 0, 0) := by
  unfold opn; simp only [sg_mk w hw m s h, mag_mk w hw m s h]
theorem cut_as_mk (w : Int) (hw : w = 32 ∨ w = 64) (a : Nat) (ha : a < 18446744073709551616) : cutN w a = mkN w (magN w a) (sgB w a) := by
  rw [cutN_eq w hw a ha]; rfl
end Go.Proofs.YthdeeoallfbjmaaDoor.Th
end
section
set_option linter.unusedVariables false
set_option linter.unusedSimpArgs false
namespace Go.Proofs.YthdeeoallfbjmaaDoor.Th
open Go.RowKit Go.Proofs.YthdeeoallfbjmaaDoorW.PrintWords Go.Proofs.YthdeeoallfbjmaaDoorW.PrintLast Go.Proofs.YthdeeoallfbjmaaDoorW.PrintMore Go.Proofs.YthdeeoallfbjmaaDoor.PA Bit Flo Dig
theorem inf_pos (w : Int) (hw : w = 32 ∨ w = 64) : 0 < (fmt w).inf := by rcases hw with rfl | rfl <;> decide
theorem kinds (w : Int) (hw : w = 32 ∨ w = 64) (a : Nat) : (magN w a = 0 ∧ opn w a = (sgB w a, 0, 0, 0)) ∨ (0 < magN w a ∧ magN w a < (fmt w).inf ∧ opn w a = (sgB w a, 1, (fmt w).ex (magN w a), ((fmt w).sg (magN w a) : Int))) ∨ (magN w a = (fmt w).inf ∧ opn w a = (sgB w a, 2, 0, 0)) ∨ ((fmt w).inf < magN w a ∧ opn w a = (false, 3, 0, 0)) := by
  have h0 := inf_pos w hw
  unfold opn; simp only
  by_cases h1 : magN w a = 0
  · left; rw [if_pos h1]; exact ⟨h1, rfl⟩
  · right; rw [if_neg h1]
    by_cases h2 : magN w a < (fmt w).inf
    · left; rw [if_pos h2]; exact ⟨by omega, h2, rfl⟩
    · right; rw [if_neg h2]
      by_cases h3 : magN w a = (fmt w).inf
      · left; rw [if_pos h3]; exact ⟨h3, rfl⟩
      · right; rw [if_neg h3]; exact ⟨by omega, rfl⟩
theorem sg_64 (w : Int) (hw : w = 32 ∨ w = 64) (m : Nat) : (fmt w).sg m < 9007199254740992 := by
  have h := (fmt w).sg_lt m
  rcases hw with rfl | rfl
  · rw [fmt32] at h ⊢; rw [show (2 : Nat) ^ (f32.f + 1) = 16777216 by decide] at h; omega
  · rw [fmt64] at h ⊢; rw [show (2 : Nat) ^ (f64.f + 1) = 9007199254740992 by decide] at h; omega
end Go.Proofs.YthdeeoallfbjmaaDoor.Th
end
section
set_option linter.unusedVariables false
set_option linter.unusedSimpArgs false
namespace Go.Proofs.YthdeeoallfbjmaaDoor.Th
open Flo
theorem fmt_bd (w : Int) : (fmt w).f < 100 ∧ (-5000 < (fmt w).low ∧ (fmt w).low < 0) ∧ (fmt w).top < 5000 := by
  unfold fmt; split <;> decide
theorem fmt_f (w : Int) : (fmt w).f ≤ 52 := by unfold fmt; split <;> decide
theorem pk_ex (w : Int) (S : Nat) (e : Int) (hS : S < 340282366920938463463374607431768211456) : pkm (fmt w) S e false = (fmt w).rnd ((S : Rat) * tw e) := by
  have h := fmt_bd w
  rw [← pkx_f, pkm_rnd _ h.1 h.2.1 h.2.2 S e false hS]
end Go.Proofs.YthdeeoallfbjmaaDoor.Th
end
namespace Go.Proofs.YthdeeoallfbjmaaDoor.PA
open Go.RowKit Go.Proofs.YthdeeoallfbjmaaDoorW.PrintWords Go.Proofs.YthdeeoallfbjmaaDoorW.PrintLast Go.Proofs.YthdeeoallfbjmaaDoorW.PrintMore
attribute [local go_sem] max2_int min2_int max_two min_two max_three min_three max_four min_four   -- for this text's walks alone
set_option linter.unusedVariables false
set_option linter.unusedSimpArgs false
set_option maxHeartbeats 8000000
set_option maxRecDepth 100000
def r1_Div.l0 : Nat → Int → List Int → List Int → List Int → Option (List Int × List Int)
 | 0, _, _, _, _ => none
 | k + 1, x8, x424000, x427000, x428000 => if x8 ≥ 0 then ((r1_Shl.f k x424000 x8).bind fun t430 => ((r1_Cmp.f k x428000 t430).bind fun t434 => (if t434 ≥ 0 then ((r1_Sub.f k x428000 t430).bind fun t435 => ((r1_Of.f k 1).bind fun t438 => ((r1_Shl.f k t438 x8).bind fun t441 => ((r1_Add.f k x427000 t441).bind fun t444 => (r1_Div.l0 k (wrap64 (x8 - 1)) x424000 t444 t435))))) else (r1_Div.l0 k (wrap64 (x8 - 1)) x424000 x427000 x428000)))) else (some (x427000, x428000))
def r1_Div.f (k : Nat) (l0_0 : List Int) (l1_0 : List Int) : Option (List Int × List Int) := (r1_Len.f k l0_0).bind fun t428 => ((r1_Len.f k l1_0).bind fun t429 => (r1_Div.l0 k (wrap64 (t428 - t429)) l1_0 ([] : List Int) l0_0))
theorem r1_Div.mono_l : ∀ k, (∀ y0 y1 y2 y3, LeO (r1_Div.l0 k y0 y1 y2 y3) (r1_Div.l0 (k + 1) y0 y1 y2 y3))
 | 0 => fun _ _ _ _ r h => by simp [r1_Div.l0] at h
 | k + 1 => by
  have ih0 := r1_Div.mono_l k
  ·intro y0 y1 y2 y3
   unfold r1_Div.l0
   repeat' first
   | (with_reducible exact ih0 _ _ _ _)
   | (with_reducible exact r1_Add.mono _ _ _)
   | (with_reducible exact r1_Cmp.mono _ _ _)
   | (with_reducible exact r1_Len.mono _ _)
   | (with_reducible exact r1_Of.mono _ _)
   | (with_reducible exact r1_Shl.mono _ _ _)
   | (with_reducible exact r1_Sub.mono _ _ _)
   | (with_reducible exact LeO.refl _)
   | (with_reducible exact LeO.none _)
   | (with_reducible refine LeO.ite ?_ ?_)
   | (with_reducible refine LeO.bind ?_ (fun _ => ?_))
   | exact ih0 _ _ _ _
   | exact r1_Add.mono _ _ _
   | exact r1_Cmp.mono _ _ _
   | exact r1_Len.mono _ _
   | exact r1_Of.mono _ _
   | exact r1_Shl.mono _ _ _
   | exact r1_Sub.mono _ _ _
   | exact LeO.none _
   | refine LeO.ite ?_ ?_
   | refine LeO.bind ?_ (fun _ => ?_)
theorem r1_Div.mono : ∀ a0 a1 k, LeO (r1_Div.f k a0 a1) (r1_Div.f (k + 1) a0 a1) := by
 intro a0 a1 k
 have ih0 := r1_Div.mono_l k
 unfold r1_Div.f
 repeat' first
   | (with_reducible exact ih0 _ _ _ _)
   | (with_reducible exact r1_Add.mono _ _ _)
   | (with_reducible exact r1_Cmp.mono _ _ _)
   | (with_reducible exact r1_Len.mono _ _)
   | (with_reducible exact r1_Of.mono _ _)
   | (with_reducible exact r1_Shl.mono _ _ _)
   | (with_reducible exact r1_Sub.mono _ _ _)
   | (with_reducible exact LeO.refl _)
   | (with_reducible exact LeO.none _)
   | (with_reducible refine LeO.ite ?_ ?_)
   | (with_reducible refine LeO.bind ?_ (fun _ => ?_))
   | exact ih0 _ _ _ _
   | exact r1_Add.mono _ _ _
   | exact r1_Cmp.mono _ _ _
   | exact r1_Len.mono _ _
   | exact r1_Of.mono _ _
   | exact r1_Shl.mono _ _ _
   | exact r1_Sub.mono _ _ _
   | exact LeO.none _
   | refine LeO.ite ?_ ?_
   | refine LeO.bind ?_ (fun _ => ?_)
-- IMPORT Derived.Deep.RegionHeld3
-- IMPORT Derived.Test.YthdeeoallfbjmaaDoorNr
theorem Nr.len (k : Nat) (v : Value) (l : List Int) (r : Int) (w : World) (n : Nr.Nr w v l) (h : r1_Len.f k l = some r) : Calls Tryd.prog 94 #[.agg #[v]] w fun e w' => e = .returned (.int .i64 r) ∧ Below w.heap.size w w' := by
 obtain ⟨A, c, rfl, hc, hC⟩ := n
 exact r1_Len.calls k A c l r w hC hc h
theorem Nr.cmp (k : Nat) (v v1 : Value) (l l1 : List Int) (r : Int) (w : World) (n : Nr.Nr w v l) (n1 : Nr.Nr w v1 l1) (h : r1_Cmp.f k l l1 = some r) : Calls Tryd.prog 59 #[.agg #[v], .agg #[v1]] w fun e w' => e = .returned (.int .i64 r) ∧ Below w.heap.size w w' := by
 obtain ⟨A, c, rfl, hc, hC⟩ := n
 obtain ⟨A1, c1, rfl, hc1, hC1⟩ := n1
 exact r1_Cmp.calls k A c l A1 c1 l1 r w hC hc hC1 hc1 h
theorem Nr.outR {f : Nat} {xs : Array Value} {w : World} {r : List Int} (h : Calls Tryd.prog f xs w fun e w' => ∃ v0_ : Value, e = .returned (.agg #[v0_]) ∧ Kd.R (Kd.int .u64) 22 w' w.heap.size (fun _ => True) v0_ r ∧ Below w.heap.size w w') : Calls Tryd.prog f xs w fun e w' => ∃ A c, e = .returned (.agg #[.slice A r.length c]) ∧ Nr.Ow 22 w.heap.size w' (.slice A r.length c) r ∧ Below w.heap.size w w' := by
 refine h.mono ?_
 rintro e w' ⟨v0, rfl, hR, hb⟩
 obtain ⟨A, c, rfl, _⟩ := Nr.Nr.of_R hR
 exact ⟨A, c, rfl, Nr.Ow.of_R hR (Nat.le_refl _), hb⟩
theorem Nr.shl (k : Nat) (v : Value) (l : List Int) (a : Int) (r : List Int) (w : World) (n : Nr.Nr w v l) (h : r1_Shl.f k l a = some r) : Calls Tryd.prog 60 #[.agg #[v], .int .i64 a] w fun e w' => ∃ A c, e = .returned (.agg #[.slice A r.length c]) ∧ Nr.Ow 22 w.heap.size w' (.slice A r.length c) r ∧ Below w.heap.size w w' := by
 obtain ⟨A, c, rfl, hc, hC⟩ := n
 exact Nr.outR (r1_Shl.calls k A c l a r w hC hc h)
theorem Nr.sub (k : Nat) (v v1 : Value) (l l1 : List Int) (r : List Int) (w : World) (n : Nr.Nr w v l) (n1 : Nr.Nr w v1 l1) (h : r1_Sub.f k l l1 = some r) : Calls Tryd.prog 117 #[.agg #[v], .agg #[v1]] w fun e w' => ∃ A c, e = .returned (.agg #[.slice A r.length c]) ∧ Nr.Ow 22 w.heap.size w' (.slice A r.length c) r ∧ Below w.heap.size w w' := by
 obtain ⟨A, c, rfl, hc, hC⟩ := n
 obtain ⟨A1, c1, rfl, hc1, hC1⟩ := n1
 exact Nr.outR (r1_Sub.calls k A c l A1 c1 l1 r w hC hc hC1 hc1 h)
theorem Nr.add (k : Nat) (v v1 : Value) (l l1 : List Int) (r : List Int) (w : World) (n : Nr.Nr w v l) (n1 : Nr.Nr w v1 l1) (h : r1_Add.f k l l1 = some r) : Calls Tryd.prog 116 #[.agg #[v], .agg #[v1]] w fun e w' => ∃ A c, e = .returned (.agg #[.slice A r.length c]) ∧ Nr.Ow 22 w.heap.size w' (.slice A r.length c) r ∧ Below w.heap.size w w' := by
 obtain ⟨A, c, rfl, hc, hC⟩ := n
 obtain ⟨A1, c1, rfl, hc1, hC1⟩ := n1
 exact Nr.outR (r1_Add.calls k A c l A1 c1 l1 r w hC hc hC1 hc1 h)
theorem Nr.of (k : Nat) (a : Int) (r : List Int) (w : World) (h : r1_Of.f k a = some r) : Calls Tryd.prog 57 #[.int .u64 a] w fun e w' => ∃ A c, e = .returned (.agg #[.slice A r.length c]) ∧ Nr.Ow 22 w.heap.size w' (.slice A r.length c) r ∧ Below w.heap.size w w' :=
 Nr.outR (r1_Of.calls k a r w h)
theorem Nr.lower {e b b' : Nat} {w : World} {v : Value} {l : List Int} (h : Nr.Ow e b w v l) (hb : b' ≤ b) : Nr.Ow e b' w v l := Nr.Ow.of_R h.out hb
theorem Nr.fresh {P : Nat → Prop} {e e' base : Nat} {w0 w1 : World} {vq vr : Value} {lq lr : List Int} (hq : Nr.Ow e base w0 vq lq) (hr : Nr.Ow e' w0.heap.size w1 vr lr) (hb : base ≤ w0.heap.size) : Nr.At (fun k => (P k ∨ base ≤ k) ∧ some k ≠ vq.ownBlock) vr :=
 (Nr.At.of_R hr.out).mono fun k hk => ⟨Or.inr (Nat.le_trans hb hk.1), fun e => Nat.lt_irrefl _ (Nat.lt_of_lt_of_le (Kd.R_lt hq.out k e.symm) hk.1)⟩
theorem Nr.atlt {w : World} {v : Value} {l : List Int} (h : Nr.Nr w v l) : Nr.At (fun k => k < w.heap.size) v := by
 obtain ⟨A, c, hv, hl, h1, h2, h3⟩ := h
 intro ad n c' e hn
 rw [hv] at e
 injection e with e1 e2 e3
 subst e2
 obtain ⟨ad', e4, h4⟩ := h3 hn
 rw [e1] at e4
 injection e4 with e4
 subst e4
 obtain ⟨x, hx⟩ : ∃ x, l[0]? = some x := ⟨l[0]'hn, List.getElem?_eq_getElem hn⟩
 obtain ⟨cs, k1, k2, k3⟩ := h4 0 x hx
 have k2' : cs = [Value.int .u64 x] := k2
 have := World.block_lt_of_cell? w _ (k3 0 (.int .u64 x) (by rw [k2']; rfl))
 rwa [add_block] at this
theorem Nr.other {P : Nat → Prop} {e' : Nat} {w0 w1 : World} {vq vq' vr : Value} {lq' lr : List Int} (ha : Nr.At (fun k => P k ∧ some k ≠ vq.ownBlock) vr) (hn : Nr.Nr w0 vr lr) (hq : Nr.Ow e' w0.heap.size w1 vq' lq') : Nr.At (fun k => P k ∧ some k ≠ vq'.ownBlock) vr := fun ad n c e hn' =>
 ⟨(ha ad n c e hn').1, fun e2 => Nat.lt_irrefl _ (Nat.lt_of_lt_of_le (Nr.atlt hn ad n c e hn') (Kd.R_base hq.out _ e2.symm))⟩
theorem Nr.undrew {w w1 : World} (h : Below w.drew.heap.size w.drew w1) : Below w.heap.size w w1 := below_step (below_drew1 (Below.refl _ _)) h
theorem Nr.unalloc {w w1 : World} {o : Obj} (h : Below (w.alloc o).heap.size (w.alloc o) w1) : Below w.heap.size w w1 := below_step (below_alloc (Below.refl _ _) o) h
theorem Nr.newlt {w w1 : World} {o : Obj} (h : Below (w.alloc o).heap.size (w.alloc o) w1) : w.heap.size < w1.heap.size := by
 have := h.size
 simp at this
 omega
theorem Nr.newcell {w w1 : World} {v : Value} {ty : Nat} (h : Below (w.alloc (.cells #[v] ty)).heap.size (w.alloc (.cells #[v] ty)) w1) : w1.cell? ⟨w.heap.size, 0, none⟩ = some v := by
 rw [(Nr.bcell h).1 _ _ (by simp)]
 exact (World.cell?_alloc_new _ _ _ _).trans rfl
theorem r1_Div.calls (k : Nat) (P0_0_ : Nat → Prop) (A0_0 : Option Addr) (c0_0 : Nat) (l0_0 : List Int) (A1_0 : Option Addr) (c1_0 : Nat) (l1_0 : List Int) (r1 : List Int) (r2 : List Int) (w : World) (hs0_0 : Kd.V (Kd.int .u64) 22 w w.heap.size (fun k_ => P0_0_ k_) (.slice A0_0 l0_0.length c0_0) l0_0) (hr1_0 : Kd.C (Kd.int .u64) w A1_0 l1_0.length l1_0) (hc1_0 : l1_0.length ≤ c1_0) (h : r1_Div.f k l0_0 l1_0 = some (r1, r2)) :
  Calls Tryd.prog 110 #[.agg #[.slice A0_0 l0_0.length c0_0], .agg #[.slice A1_0 l1_0.length c1_0]] w fun e w' => ∃ v0_ v1_ : Value, e = .returned (.tuple #[.agg #[v0_], .agg #[v1_]]) ∧ Kd.R (Kd.int .u64) 22 w' w.heap.size (fun k_ => (w.heap.size ≤ k_)) v0_ r1 ∧ Kd.V (Kd.int .u64) 22 w' w.heap.size (fun k_ => (P0_0_ k_ ∨ w.heap.size ≤ k_) ∧ some k_ ≠ (v0_ : Value).ownBlock) v1_ r2 ∧ Below w.heap.size w w' := by
 obtain ⟨t0, A0, H⟩ := ob_ h
 obtain ⟨t1, A1, H⟩ := ob_ H
 have L0 := A_ A0;have L1 := A_ A1;have HL := A_ H;clear h A0 A1 H
 have NA := Nr.Nr.of_V hs0_0
 have AA := A_ (Nr.At.of_V hs0_0)
 have NB := Nr.Nr.of_C hc1_0 hr1_0
 clear hs0_0 hr1_0
 go_enter Tryd.func110, Tryd.ntmps110
 go_wp2
 go_region_held3 (fun w' => w'.cell? ⟨w.heap.size, 0, none⟩ = some (.slice A0_0 l0_0.length c0_0) ∧ w'.cell? ⟨w.heap.size + 1, 0, none⟩ = some (.slice A1_0 l1_0.length c1_0) ∧ w'.cell? ⟨w.heap.size + 2, 0, none⟩ = some (.slice none 0 0) ∧ w'.cell? ⟨w.heap.size + 3, 0, none⟩ = some (.slice none 0 0) ∧ w'.cell? ⟨w.heap.size + 4, 0, none⟩ = some (.slice none 0 0) ∧ w'.cell? ⟨w.heap.size + 5, 0, none⟩ = some (.slice A0_0 l0_0.length c0_0) ∧ w'.frozen? ⟨w.heap.size + 2, 0, none⟩ = false ∧ w'.frozen? ⟨w.heap.size + 3, 0, none⟩ = false ∧ w'.frozen? ⟨w.heap.size + 4, 0, none⟩ = false ∧ w'.frozen? ⟨w.heap.size + 5, 0, none⟩ = false ∧ w.heap.size + 5 < w'.heap.size ∧ Nr.Nr w' (.slice A0_0 l0_0.length c0_0) l0_0 ∧ Nr.Nr w' (.slice A1_0 l1_0.length c1_0) l1_0 ∧ Nr.Ow 22 w.heap.size w' (.slice none 0 0) [] ∧ Below w.heap.size w w')
  (((try go_split_ands); (try dsimp only); (repeat' apply And.intro) <;> first | assumption | (rw [hc _ _ (by omega)]; assumption) | (rw [hf _ _ (by omega)]; assumption) | (rw [Nr.al (by omega)]; assumption) | (rw [Nr.alf (by omega)]; assumption) | (apply Nr.lt_al; assumption) | (have := hb.size; omega) | (refine Nr.Nr.below ?_ hb; assumption) | (apply Nr.Nr.drew; (repeat apply Nr.Nr.alloc); assumption) | (apply Nr.Nr.alloc; assumption) | (apply Nr.Nr.drew; assumption) | (exact Nr.Ow.nil _ _ _) | (refine Nr.Ow.below ?_ hb; assumption) | (apply Nr.Ow.alloc; assumption) | (apply Nr.Ow.drew; assumption) | (refine below_step ?_ hb; assumption) | (simp [go_sem, World.cell?_alloc_past]; done) | (repeat (first | assumption | exact Below.refl _ _ | apply below_drew1 | apply below_alloc | (refine below_set ?_ (by omega))))))
  ((first | (go_at_call 94; (try go_split_ands); refine (Nr.len k _ l0_0 t0 _ ?_ L0.out).mono ?_; (assumption); rintro e w1 ⟨rfl, hb⟩; obtain ⟨hc, hf⟩ := Nr.bcell hb) | (go_at_call 94; (try go_split_ands); refine (Nr.len k _ l1_0 t1 _ ?_ L1.out).mono ?_; (assumption); rintro e w2 ⟨rfl, hb⟩; obtain ⟨hc, hf⟩ := Nr.bcell hb)))
 rename_i hH
 obtain ⟨q0, q1, q2, q3, q4, q5, f2, f3, f4, f5, hz, nr, nb, ow, bl⟩ := hH
 (repeat clear hc hf)
 (repeat clear hb)
 go_wp2
 iterate 30 (rename_i left_; clear left_)
 rename_i hK
 clear H
 have at0 : Nr.At (fun k_ => (P0_0_ k_ ∨ w.heap.size ≤ k_) ∧ some k_ ≠ (Value.slice none 0 0).ownBlock) (.slice A0_0 l0_0.length c0_0) := AA.out.mono fun k hk => ⟨Or.inl hk, fun e => by cases e⟩
 go_loopg [8] k (fun kq v8 w' => ∃ (x : Int) (Aq : Option Addr) (cq : Nat) (lq : List Int) (Ar : Option Addr) (cr : Nat) (lr : List Int), v8 = .int .i64 x ∧ Aside0 (r1_Div.l0 kq x l1_0 lq lr = some (r1, r2)) ∧ Aside0 (w'.cell? ⟨w.heap.size + 1, 0, none⟩ = some (.slice A1_0 l1_0.length c1_0) ∧ w'.cell? ⟨w.heap.size + 2, 0, none⟩ = some (.slice none 0 0) ∧ w'.cell? ⟨w.heap.size + 3, 0, none⟩ = some (.slice none 0 0) ∧ w'.cell? ⟨w.heap.size + 4, 0, none⟩ = some (.slice Aq lq.length cq) ∧ w'.cell? ⟨w.heap.size + 5, 0, none⟩ = some (.slice Ar lr.length cr) ∧ w'.frozen? ⟨w.heap.size + 2, 0, none⟩ = false ∧ w'.frozen? ⟨w.heap.size + 3, 0, none⟩ = false ∧ w'.frozen? ⟨w.heap.size + 4, 0, none⟩ = false ∧ w'.frozen? ⟨w.heap.size + 5, 0, none⟩ = false ∧ w.heap.size + 5 < w'.heap.size ∧ Nr.Nr w' (.slice A1_0 l1_0.length c1_0) l1_0 ∧ Nr.Nr w' (.slice Ar lr.length cr) lr ∧ Nr.Ow 22 (w.heap.size + 6) w' (.slice Aq lq.length cq) lq ∧ Nr.At (fun k_ => (P0_0_ k_ ∨ w.heap.size ≤ k_) ∧ some k_ ≠ (Value.slice Aq lq.length cq).ownBlock) (.slice Ar lr.length cr) ∧ Below w.heap.size w w'))
 case atStart => exact ⟨_, none, 0, [], A0_0, c0_0, l0_0, by rw [i64_w], HL, q1, q2, q3, q4, q5, f2, f3, f4, f5, hz, nb, nr, Nr.Ow.nil _ _ _, at0, bl⟩
 case round =>
  (repeat clear q0 q1 q2 q3 q4 q5 f2 f3 f4 f5 hz nr ow bl at0 nb)
  obtain ⟨x, Aq, cq, lq, Ar, cr, lr, rfl, E, F⟩ := hrel
  obtain ⟨q1, q2, q3, q4, q5, f2, f3, f4, f5, hz, nb, nr, ow, at0, bl⟩ := F.out
  clear F HL
  obtain _ | kr := gk
  ·cases E.out
  have E := E.out
  unfold r1_Div.l0 at E
  by_cases hx : x ≥ 0
  ·rw [if_pos hx] at E
   have c0 : decide (0 ≤ x) = true := decide_eq_true hx
   obtain ⟨t, T0, E⟩ := ob_ E
   obtain ⟨u, T1, E⟩ := ob_ E
   replace T0 := A_ T0;replace T1 := A_ T1;replace hx := A_ hx
   by_cases hu : u ≥ 0
   ·rw [if_pos hu] at E
    obtain ⟨s, S0, E⟩ := ob_ E
    obtain ⟨o1, S1, E⟩ := ob_ E
    obtain ⟨o2, S2, E⟩ := ob_ E
    obtain ⟨q', S3, E⟩ := ob_ E
    replace S0 := A_ S0;replace S1 := A_ S1;replace S2 := A_ S2;replace S3 := A_ S3;have EE := A_ E;clear E
    have cu : decide (0 ≤ u) = true := decide_eq_true hu
    clear hu
    go_wp2_with (first | (go_at_call 60; refine (Nr.shl kr _ l1_0 x t _ nb T0.out).mono ?_; rintro e w1 ⟨At, ct, rfl, ot, hb⟩; (try replace hb := Nr.undrew hb); obtain ⟨hc, hf⟩ := Nr.bcell hb; have hs := hb.size; replace q1 := (hc _ _ (by omega)).trans q1; replace q2 := (hc _ _ (by omega)).trans q2; replace q3 := (hc _ _ (by omega)).trans q3; replace q4 := (hc _ _ (by omega)).trans q4; replace q5 := (hc _ _ (by omega)).trans q5; replace f2 := (hf _ _ (by omega)).trans f2; replace f3 := (hf _ _ (by omega)).trans f3; replace f4 := (hf _ _ (by omega)).trans f4; replace f5 := (hf _ _ (by omega)).trans f5; replace nb := Nr.Nr.below nb hb; replace nr := Nr.Nr.below nr hb; replace ow := Nr.Ow.below ow hb; replace bl := below_step bl hb; replace hz := Nat.lt_of_lt_of_le hz hs; clear hc hf hs hb) | (go_at_call 59; refine (Nr.cmp kr _ _ lr t u _ (Nr.Nr.alloc nr _) (Nr.Nr.alloc ot.nr _) T1.out).mono ?_; rintro e w2 ⟨rfl, hb⟩; have tq := Nr.newcell hb; have ht := Nr.newlt hb; replace hb := Nr.unalloc hb; (try replace hb := Nr.undrew hb); obtain ⟨hc, hf⟩ := Nr.bcell hb; have hs := hb.size; replace q1 := (hc _ _ (by omega)).trans q1; replace q2 := (hc _ _ (by omega)).trans q2; replace q3 := (hc _ _ (by omega)).trans q3; replace q4 := (hc _ _ (by omega)).trans q4; replace q5 := (hc _ _ (by omega)).trans q5; replace f2 := (hf _ _ (by omega)).trans f2; replace f3 := (hf _ _ (by omega)).trans f3; replace f4 := (hf _ _ (by omega)).trans f4; replace f5 := (hf _ _ (by omega)).trans f5; replace nb := Nr.Nr.below nb hb; replace nr := Nr.Nr.below nr hb; replace ow := Nr.Ow.below ow hb; replace ot := Nr.Ow.below ot hb; replace bl := below_step bl hb; replace hz := Nat.lt_of_lt_of_le hz hs; clear hc hf hs hb) | (go_at_call 117; refine (Nr.sub kr _ _ lr t s _ nr ot.nr S0.out).mono ?_; rintro e w3 ⟨As, cs, rfl, os, hb⟩; have at1 := Nr.fresh (P := P0_0_) (Nr.lower ow (b' := w.heap.size) (by omega)) os (by omega); replace os := Nr.lower os (b' := w.heap.size + 6) (by omega); (try replace hb := Nr.undrew hb); obtain ⟨hc, hf⟩ := Nr.bcell hb; have hs := hb.size; replace q1 := (hc _ _ (by omega)).trans q1; replace q2 := (hc _ _ (by omega)).trans q2; replace q3 := (hc _ _ (by omega)).trans q3; replace q4 := (hc _ _ (by omega)).trans q4; replace q5 := (hc _ _ (by omega)).trans q5; replace f2 := (hf _ _ (by omega)).trans f2; replace f3 := (hf _ _ (by omega)).trans f3; replace f4 := (hf _ _ (by omega)).trans f4; replace f5 := (hf _ _ (by omega)).trans f5; replace nb := Nr.Nr.below nb hb; replace nr := Nr.Nr.below nr hb; replace ow := Nr.Ow.below ow hb; replace ot := Nr.Ow.below ot hb; replace bl := below_step bl hb; replace hz := Nat.lt_of_lt_of_le hz hs; clear hc hf hs hb))
    generalize hW : World.setCell _ _ _ = w4
    have hz4 : w4.heap.size = w3.heap.size := by rw [← hW]; simp
    have hc : ∀ b, b ≠ w.heap.size + 5 → w4.cell? ⟨b, 0, none⟩ = w3.cell? ⟨b, 0, none⟩ := fun b hb => by rw [← hW]; exact World.cell?_setCell_far _ _ _ _ (fun e => hb e.symm)
    have hf : ∀ b, w4.frozen? ⟨b, 0, none⟩ = w3.frozen? ⟨b, 0, none⟩ := fun b => by rw [← hW]; exact World.frozen?_setCell _ _ _ _
    have hi : Nr.IsRow (w3.cell? ⟨w.heap.size + 5, 0, none⟩) := by rw [q5]; exact Nr.IsRow.slice _ _ _
    replace q5 : w4.cell? ⟨w.heap.size + 5, 0, none⟩ = some (.slice As s.length cs) := by rw [← hW]; exact World.cell?_setCell_same _ _ _ q5
    replace q1 := (hc _ (by omega)).trans q1
    replace q2 := (hc _ (by omega)).trans q2
    replace q3 := (hc _ (by omega)).trans q3
    replace q4 := (hc _ (by omega)).trans q4
    replace f2 := (hf _).trans f2
    replace f3 := (hf _).trans f3
    replace f4 := (hf _).trans f4
    replace f5 := (hf _).trans f5
    replace nb : Nr.Nr w4 (.slice A1_0 l1_0.length c1_0) l1_0 := by rw [← hW]; exact Nr.Nr.set nb _ hi
    replace ow : Nr.Ow 22 (w.heap.size + 6) w4 (.slice Aq lq.length cq) lq := by rw [← hW]; exact Nr.Ow.set ow _ (fun e => by have h6 : _ ≤ w.heap.size + 5 := Kd.R_base ow.out _ e; omega)
    replace os : Nr.Ow 22 (w.heap.size + 6) w4 (.slice As s.length cs) s := by rw [← hW]; exact Nr.Ow.set os _ (fun e => by have h6 : _ ≤ w.heap.size + 5 := Kd.R_base os.out _ e; omega)
    replace bl : Below w.heap.size w w4 := by rw [← hW]; exact below_set bl (by omega)
    replace hz : w.heap.size + 5 < w4.heap.size := by omega
    clear hW hc hf hi hz4
    replace nr := os.nr
    clear os
    go_region_with (first | (go_at_call 57; refine (Nr.of kr 1 o1 _ S1.out).mono ?_; rintro e w5 ⟨Ao, co, rfl, oo, hb⟩; (try replace hb := Nr.undrew hb); obtain ⟨hc, hf⟩ := Nr.bcell hb; have hs := hb.size; replace q1 := (hc _ _ (by omega)).trans q1; replace q2 := (hc _ _ (by omega)).trans q2; replace q3 := (hc _ _ (by omega)).trans q3; replace q4 := (hc _ _ (by omega)).trans q4; replace q5 := (hc _ _ (by omega)).trans q5; replace f2 := (hf _ _ (by omega)).trans f2; replace f3 := (hf _ _ (by omega)).trans f3; replace f4 := (hf _ _ (by omega)).trans f4; replace f5 := (hf _ _ (by omega)).trans f5; replace nb := Nr.Nr.below nb hb; replace nr := Nr.Nr.below nr hb; replace ow := Nr.Ow.below ow hb; replace bl := below_step bl hb; replace hz := Nat.lt_of_lt_of_le hz hs; clear hc hf hs hb) | (go_at_call 60; refine (Nr.shl kr _ o1 x o2 _ oo.nr S2.out).mono ?_; rintro e w6 ⟨Ap, cp, rfl, op, hb⟩; (try replace hb := Nr.undrew hb); obtain ⟨hc, hf⟩ := Nr.bcell hb; have hs := hb.size; replace q1 := (hc _ _ (by omega)).trans q1; replace q2 := (hc _ _ (by omega)).trans q2; replace q3 := (hc _ _ (by omega)).trans q3; replace q4 := (hc _ _ (by omega)).trans q4; replace q5 := (hc _ _ (by omega)).trans q5; replace f2 := (hf _ _ (by omega)).trans f2; replace f3 := (hf _ _ (by omega)).trans f3; replace f4 := (hf _ _ (by omega)).trans f4; replace f5 := (hf _ _ (by omega)).trans f5; replace nb := Nr.Nr.below nb hb; replace nr := Nr.Nr.below nr hb; replace ow := Nr.Ow.below ow hb; replace oo := Nr.Ow.below oo hb; replace bl := below_step bl hb; replace hz := Nat.lt_of_lt_of_le hz hs; clear hc hf hs hb) | (go_at_call 116; refine (Nr.add kr _ _ lq o2 q' _ ow.nr op.nr S3.out).mono ?_; rintro e w7 ⟨Az, cz, rfl, oz, hb⟩; have at2 := Nr.other at1 nr oz; have oz := Nr.lower oz (b' := w.heap.size + 6) (by omega); (try replace hb := Nr.undrew hb); obtain ⟨hc, hf⟩ := Nr.bcell hb; have hs := hb.size; replace q1 := (hc _ _ (by omega)).trans q1; replace q2 := (hc _ _ (by omega)).trans q2; replace q3 := (hc _ _ (by omega)).trans q3; replace q4 := (hc _ _ (by omega)).trans q4; replace q5 := (hc _ _ (by omega)).trans q5; replace f2 := (hf _ _ (by omega)).trans f2; replace f3 := (hf _ _ (by omega)).trans f3; replace f4 := (hf _ _ (by omega)).trans f4; replace f5 := (hf _ _ (by omega)).trans f5; replace nb := Nr.Nr.below nb hb; replace nr := Nr.Nr.below nr hb; replace ow := Nr.Ow.below ow hb; replace bl := below_step bl hb; replace hz := Nat.lt_of_lt_of_le hz hs; clear hc hf hs hb))
    all_goals (
     generalize hW : World.setCell _ _ _ = w8
     have hz4 : w8.heap.size = w7.heap.size := by rw [← hW]; simp
     have hc : ∀ b, b ≠ w.heap.size + 4 → w8.cell? ⟨b, 0, none⟩ = w7.cell? ⟨b, 0, none⟩ := fun b hb => by rw [← hW]; exact World.cell?_setCell_far _ _ _ _ (fun e => hb e.symm)
     have hf : ∀ b, w8.frozen? ⟨b, 0, none⟩ = w7.frozen? ⟨b, 0, none⟩ := fun b => by rw [← hW]; exact World.frozen?_setCell _ _ _ _
     have hi : Nr.IsRow (w7.cell? ⟨w.heap.size + 4, 0, none⟩) := by rw [q4]; exact Nr.IsRow.slice _ _ _
     replace q4 : w8.cell? ⟨w.heap.size + 4, 0, none⟩ = some (.slice Az q'.length cz) := by rw [← hW]; exact World.cell?_setCell_same _ _ _ q4
     replace q1 := (hc _ (by omega)).trans q1
     replace q2 := (hc _ (by omega)).trans q2
     replace q3 := (hc _ (by omega)).trans q3
     replace q5 := (hc _ (by omega)).trans q5
     replace f2 := (hf _).trans f2
     replace f3 := (hf _).trans f3
     replace f4 := (hf _).trans f4
     replace f5 := (hf _).trans f5
     replace nb : Nr.Nr w8 (.slice A1_0 l1_0.length c1_0) l1_0 := by rw [← hW]; exact Nr.Nr.set nb _ hi
     replace nr : Nr.Nr w8 (.slice As s.length cs) s := by rw [← hW]; exact Nr.Nr.set nr _ hi
     replace oz : Nr.Ow 22 (w.heap.size + 6) w8 (.slice Az q'.length cz) q' := by rw [← hW]; exact Nr.Ow.set oz _ (fun e => by have h6 : _ ≤ w.heap.size + 4 := Kd.R_base oz.out _ e; omega)
     replace bl : Below w.heap.size w w8 := by rw [← hW]; exact below_set bl (by omega)
     replace hz : w.heap.size + 5 < w8.heap.size := by omega
     clear hW hc hf hi hz4
     go_wp2
     go_roundg kr
     case measure => omega
     case rel => exact ⟨_, Az, cz, q', As, cs, s, rfl, EE, ⟨q1, q2, q3, q4, q5, f2, f3, f4, f5, hz, nb, nr, oz, at2, bl⟩⟩)
   ·rw [if_neg hu] at E
    have EE := A_ E;clear E
    have cu : decide (0 ≤ u) = false := decide_eq_false hu
    clear hu
    go_wp2_with (first | (go_at_call 60; refine (Nr.shl kr _ l1_0 x t _ nb T0.out).mono ?_; rintro e w1 ⟨At, ct, rfl, ot, hb⟩; (try replace hb := Nr.undrew hb); obtain ⟨hc, hf⟩ := Nr.bcell hb; have hs := hb.size; replace q1 := (hc _ _ (by omega)).trans q1; replace q2 := (hc _ _ (by omega)).trans q2; replace q3 := (hc _ _ (by omega)).trans q3; replace q4 := (hc _ _ (by omega)).trans q4; replace q5 := (hc _ _ (by omega)).trans q5; replace f2 := (hf _ _ (by omega)).trans f2; replace f3 := (hf _ _ (by omega)).trans f3; replace f4 := (hf _ _ (by omega)).trans f4; replace f5 := (hf _ _ (by omega)).trans f5; replace nb := Nr.Nr.below nb hb; replace nr := Nr.Nr.below nr hb; replace ow := Nr.Ow.below ow hb; replace bl := below_step bl hb; replace hz := Nat.lt_of_lt_of_le hz hs; clear hc hf hs hb) | (go_at_call 59; refine (Nr.cmp kr _ _ lr t u _ (Nr.Nr.alloc nr _) (Nr.Nr.alloc ot.nr _) T1.out).mono ?_; rintro e w2 ⟨rfl, hb⟩; have tq := Nr.newcell hb; have ht := Nr.newlt hb; replace hb := Nr.unalloc hb; (try replace hb := Nr.undrew hb); obtain ⟨hc, hf⟩ := Nr.bcell hb; have hs := hb.size; replace q1 := (hc _ _ (by omega)).trans q1; replace q2 := (hc _ _ (by omega)).trans q2; replace q3 := (hc _ _ (by omega)).trans q3; replace q4 := (hc _ _ (by omega)).trans q4; replace q5 := (hc _ _ (by omega)).trans q5; replace f2 := (hf _ _ (by omega)).trans f2; replace f3 := (hf _ _ (by omega)).trans f3; replace f4 := (hf _ _ (by omega)).trans f4; replace f5 := (hf _ _ (by omega)).trans f5; replace nb := Nr.Nr.below nb hb; replace nr := Nr.Nr.below nr hb; replace ow := Nr.Ow.below ow hb; replace ot := Nr.Ow.below ot hb; replace bl := below_step bl hb; replace hz := Nat.lt_of_lt_of_le hz hs; clear hc hf hs hb))
    go_roundg kr
    case measure => omega
    case rel => exact ⟨_, Aq, cq, lq, Ar, cr, lr, rfl, EE, ⟨q1, q2, q3, q4, q5, f2, f3, f4, f5, hz, nb, nr, ow, at0, bl⟩⟩
  ·rw [if_neg hx] at E
   have c0 : decide (0 ≤ x) = false := decide_eq_false hx
   injection E with E
   injection E with E1 E2
   subst E1
   subst E2
   clear hx E
   go_wp2
   go_region
   go_wp2
   have i2 : Nr.IsRow (wr.cell? ⟨w.heap.size + 2, 0, none⟩) := by rw [q2]; exact Nr.IsRow.slice _ _ _
   have e2 := World.cell?_setCell_same _ _ (.slice Aq lq.length cq) q2
   have e3 : (wr.setCell ⟨w.heap.size + 2, 0, none⟩ (.slice Aq lq.length cq)).cell? ⟨w.heap.size + 3, 0, none⟩ = some (.slice none 0 0) := (World.cell?_setCell_far _ _ _ _ (by simp)).trans q3
   have i3 : Nr.IsRow ((wr.setCell ⟨w.heap.size + 2, 0, none⟩ (.slice Aq lq.length cq)).cell? ⟨w.heap.size + 3, 0, none⟩) := by rw [e3]; exact Nr.IsRow.slice _ _ _
   have e4 := World.cell?_setCell_same _ _ (.slice Ar lr.length cr) e3
   have e5 : ((wr.setCell ⟨w.heap.size + 2, 0, none⟩ (.slice Aq lq.length cq)).setCell ⟨w.heap.size + 3, 0, none⟩ (.slice Ar lr.length cr)).cell? ⟨w.heap.size + 2, 0, none⟩ = some (.slice Aq lq.length cq) := (World.cell?_setCell_far _ _ _ _ (by simp)).trans e2
   have ow' := Nr.Ow.drew (Nr.Ow.set (Nr.Ow.set ow (p := ⟨w.heap.size + 2, 0, none⟩) (.slice Aq lq.length cq) (fun e => by have h6 : _ ≤ w.heap.size + 2 := Kd.R_base ow.out _ e; omega)) (p := ⟨w.heap.size + 3, 0, none⟩) (.slice Ar lr.length cr) (fun e => by have h6 : _ ≤ w.heap.size + 3 := Kd.R_base ow.out _ e; omega))
   have nr' := Nr.Nr.drew (Nr.Nr.set (Nr.Nr.set nr (.slice Aq lq.length cq) i2) (.slice Ar lr.length cr) i3)
   exact bodyPost_ret (v := .tuple #[.agg #[.slice Aq lq.length cq], .agg #[.slice Ar lr.length cr]]) (by simp [results, Tryd.results110, go_sem, e4, e5]) rfl ⟨_, _, rfl, (Nr.lower ow' (by omega)).out, Nr.Nr.toV nr' at0, below_drew1 (below_set (below_set bl (by omega)) (by omega))⟩
end Go.Proofs.YthdeeoallfbjmaaDoor.PA
section
set_option linter.unusedVariables false
set_option linter.unusedSimpArgs false
namespace Go.Proofs.YthdeeoallfbjmaaDoor.Th
open Go.RowKit Go.Proofs.YthdeeoallfbjmaaDoorW.PrintWords Go.Proofs.YthdeeoallfbjmaaDoorW.PrintLast Go.Proofs.YthdeeoallfbjmaaDoorW.PrintMore Go.Proofs.YthdeeoallfbjmaaDoor.PA Bit Flo
theorem packE (w : Int) (hw : w = 32 ∨ w = 64) (s : Bool) (h l : Nat) (hh : h < 18446744073709551616) (hl : l < 18446744073709551616) (e : Int) (m : Bool) : round_Pack.f w s h l e m = some ((mkN w (pkm (fmt w) (wn h l) e m) s : Nat) : Int) := by
  unfold round_Pack.f
  rw [if_pos (by omega), if_pos hw, Int.toNat_natCast, Int.toNat_natCast]
theorem pack1 (w : Int) (hw : w = 32 ∨ w = 64) (s : Bool) (n : Nat) (hn : n < 18446744073709551616) (e : Int) : round_Pack.f w s 0 n e false = some ((mkN w ((fmt w).rnd ((n : Rat) * tw e)) s : Nat) : Int) := by
  have := packE w hw s 0 n (by decide) hn e false
  rw [show wn 0 n = n by unfold wn; omega, pk_ex w n e (by omega)] at this
  exact this
theorem wholeE (w : Int) (hw : w = 32 ∨ w = 64) (s : Bool) (n : Nat) (hn : n < 18446744073709551616) : round_Whole.f w s n = some ((mkN w ((fmt w).rnd (n : Rat)) (s && decide (0 < n)) : Nat) : Int) := by
  unfold round_Whole.f
  have h := fun t => pack1 w hw t n hn 0
  rw [tw_zero, Rat.mul_one] at h
  rw [ofW n]
  cases s
  · rw [if_neg (by decide), Option.bind_some]
    show (round_Pack.f w false 0 (n : Int) 0 false).bind _ = _
    rw [h false, Option.bind_some]
    simp
  · rw [if_pos rfl, Option.bind_some]
    show (round_Pack.f w (decide ((n : Int) > 0)) 0 (n : Int) 0 false).bind _ = _
    rw [h, Option.bind_some]
    simp
theorem shN (w : Int) (hw : w = 32 ∨ w = 64) : shape_Nan.f w = some ((nanN w : Nat) : Int) := by rcases hw with rfl | rfl; exact shNan32; exact shNan64
end Go.Proofs.YthdeeoallfbjmaaDoor.Th
end
section
set_option linter.unusedVariables false
set_option linter.unusedSimpArgs false
namespace Go.Proofs.YthdeeoallfbjmaaDoor.Th
open Go.RowKit Go.Proofs.YthdeeoallfbjmaaDoorW.PrintWords Go.Proofs.YthdeeoallfbjmaaDoorW.PrintLast Go.Proofs.YthdeeoallfbjmaaDoorW.PrintMore Go.Proofs.YthdeeoallfbjmaaDoor.PA Bit Dig Flo
noncomputable def narG (w : Int) (s : Bool) (kd e : Int) (g : Nat) : Nat := if kd = 0 then mkN w 0 s else if kd = 1 then mkN w ((fmt w).rnd ((g : Rat) * tw e)) s else if kd = 2 then mkN w (fmt w).inf s else if kd = 3 then nanN w else 0
theorem narrowG (w : Int) (hw : w = 32 ∨ w = 64) (s : Bool) (kd e : Int) (g : Nat) (hg : g < 18446744073709551616) : round_Narrow.f w s kd e g = some ((narG w s kd e g : Nat) : Int) := by
  unfold round_Narrow.f narG
  by_cases h0 : kd = 0
  · rw [if_pos h0, if_pos h0, shZ w hw, Option.bind_some]
  · rw [if_neg h0, if_neg h0]
    by_cases h1 : kd = 1
    · rw [if_pos h1, if_pos h1, ofW g, Option.bind_some]
      show (round_Pack.f w s 0 (g : Int) e false).bind _ = _
      rw [pack1 w hw s g hg e, Option.bind_some]
    · rw [if_neg h1, if_neg h1]
      by_cases h2 : kd = 2
      · rw [if_pos h2, if_pos h2, shI w hw, Option.bind_some]
      · rw [if_neg h2, if_neg h2]
        by_cases h3 : kd = 3
        · rw [if_pos h3, if_pos h3, shN w hw, Option.bind_some]
        · rw [if_neg h3, if_neg h3]; rfl
theorem castKnown (w : Int) (hw : w = 32 ∨ w = 64) : cast_known.f w = some true := by rcases hw with rfl | rfl <;> rfl
theorem inf_sb (w : Int) (hw : w = 32 ∨ w = 64) : (fmt w).inf < sb w ∧ nanN w < sb w ∧ (fmt w).inf < nanN w ∧ nanN w = mkN w (nanN w) false := by
  rcases hw with rfl | rfl
  · rw [fmt32, inf32]; exact ⟨by decide, by decide, by decide, by decide⟩
  · rw [fmt64, inf64]; exact ⟨by decide, by decide, by decide, by decide⟩
theorem sb_pow (w : Int) : ∃ k, sb w = 2 ^ k ∧ k < 64 := by unfold sb; split; exact ⟨31, by decide, by decide⟩; exact ⟨63, by decide, by decide⟩
theorem or_sb (w : Int) {m : Nat} (h : m < sb w) : Go.bits .or .u64 (m : Int) ((mkN w 0 true : Nat) : Int) = ((mkN w m true : Nat) : Int) := by
  have hs : 2 * sb w ≤ 18446744073709551616 := by unfold sb; split <;> decide
  obtain ⟨k, hk, hk2⟩ := sb_pow w
  rw [show mkN w 0 true = sb w by simp [mkN], u64_or_nat m _ (by omega) (by omega), show mkN w m true = m + sb w by simp [mkN]]
  rw [hk] at h ⊢
  have := or_pow m 1 k h
  rw [Nat.one_mul] at this
  rw [this]
def rdM (fr : Int) (n : Nat) (sd : Bool) : Nat := if sd then mg fr n else cutN fr n
def rdS (fr : Int) (n : Nat) (sd : Bool) : Bool := sd && sgB fr n
theorem awake11M : Ev (fun k => L11_awake.f k) true := Ev.of (fun k => L11_awake.mono k) (k := 12) (by decide +kernel)
theorem rdM_lt (fr : Int) (hf : fr = 32 ∨ fr = 64) (n : Nat) (hn : n < 18446744073709551616) (sd : Bool) : rdM fr n sd < 18446744073709551616 := by
  unfold rdM
  have h := mg_bd fr hf n
  have h2 := cutN_lt fr n hn
  have h3 : sb fr ≤ 9223372036854775808 := by unfold sb; split <;> omega
  cases sd
  · simpa using h2
  · simp only [if_true]; omega
theorem castSigned (fr : Int) (hf : fr = 32 ∨ fr = 64) (n : Nat) (hn : n < 18446744073709551616) : cast_signed.f fr n = some (((mg fr n : Nat) : Int), sgB fr n) := by
  have h := signedS fr hf n hn
  have g := sgn_mg fr n
  have b := mg_bd fr hf n
  have h3 : sb fr ≤ 9223372036854775808 := by unfold sb; split <;> omega
  have key : ∀ x : Int, x = sgn fr n → (if x < 0 then (some (IntKind.u64.wrap (-(IntKind.u64.wrap x)), true)) else (some (IntKind.u64.wrap x, false))) = some (((mg fr n : Nat) : Int), sgB fr n) := by
    intro x hx
    rw [hx, g]
    rw [IntKind.wrap_u64]
    cases s : sgB fr n
    · rw [if_neg (show ¬ (false = true) by decide), if_neg (by omega), IntKind.wrap_u64]; congr 2; omega
    · have := b.2.2.1 s
      rw [if_pos (rfl : true = true), if_pos (by omega)]
      congr 2
      rw [IntKind.wrap_u64]; omega
  unfold ints_signed.f at h
  unfold cast_signed.f cast_amount_int32.f cast_amount_int64.f
  rcases hf with rfl | rfl
  · rw [if_pos rfl] at h ⊢
    have e : wrap32 ((n : Int) % 4294967296) = sgn 32 n := by
      rw [← Option.some.inj h, w64_id] <;> unfold wrap32 <;> omega
    rw [key _ e]; rfl
  · rw [if_neg (by decide)] at h ⊢
    have e : wrap64 (n : Int) = sgn 64 n := Option.some.inj h
    rw [key _ e]; rfl
theorem readE (fr : Int) (hf : fr = 32 ∨ fr = 64) (n : Nat) (hn : n < 18446744073709551616) (sd : Bool) : cast_read.f fr n sd = some (((rdM fr n sd : Nat) : Int), rdS fr n sd) := by
  unfold cast_read.f
  cases sd
  · rw [if_neg (by decide), shCut fr n hn]; rfl
  · rw [if_pos rfl, castSigned fr hf n hn]; simp [rdM, rdS]
theorem rd_pos (fr : Int) (hf : fr = 32 ∨ fr = 64) (n : Nat) (sd : Bool) (h : rdS fr n sd = true) : 0 < rdM fr n sd := by
  unfold rdS at h
  unfold rdM
  rw [Bool.and_eq_true] at h
  rw [h.1, if_pos rfl]
  exact (mg_bd fr hf n).2.2.1 h.2
noncomputable def cfN (w fr : Int) (n : Nat) (sd : Bool) : Nat := mkN w ((fmt w).rnd ((rdM fr n sd : Nat) : Rat)) (rdS fr n sd)
theorem castMade (w : Int) (hw : w = 32 ∨ w = 64) (fr : Int) (hf : fr = 32 ∨ fr = 64) (n : Nat) (hn : n < 18446744073709551616) (sd : Bool) : Ev (fun k => cast_made.f k w fr n sd) ((cfN w fr n sd : Nat) : Int) := by
  unfold cast_made.f
  have e : (rdS fr n sd && decide (0 < rdM fr n sd)) = rdS fr n sd := by
    cases s : rdS fr n sd
    · rfl
    · rw [decide_eq_true (rd_pos fr hf n sd s)]; rfl
  refine Ev.bs (castKnown w hw) (Ev.pos rfl (Ev.bs (castKnown fr hf) (Ev.step (fun _ => cast_made.j0.eq_2 ..) (Ev.neg (by decide) (Ev.bs (readE fr hf n hn sd) (Ev.bs (wholeE w hw _ _ (rdM_lt fr hf n hn sd)) (Ev.out ?_)))))))
  rw [e]; rfl
theorem fromU (w : Int) (hw : w = 32 ∨ w = 64) (fr : Int) (hf : fr = 32 ∨ fr = 64) (n : Nat) (hn : n < 18446744073709551616) : Ev (fun k => cast_FromUint.f k w fr n) ((cfN w fr n false : Nat) : Int) := by
  unfold cast_FromUint.f
  exact Ev.bind (castMade w hw fr hf n hn false) (Ev.out rfl)
theorem fromI (w : Int) (hw : w = 32 ∨ w = 64) (fr : Int) (hf : fr = 32 ∨ fr = 64) (n : Nat) (hn : n < 18446744073709551616) : Ev (fun k => cast_FromInt.f k w fr n) ((cfN w fr n true : Nat) : Int) := by
  unfold cast_FromInt.f
  exact Ev.bind (castMade w hw fr hf n hn true) (Ev.out rfl)
theorem rnd64_lt (w : Int) (hw : w = 32 ∨ w = 64) {M : Nat} (hM : M ≤ 18446744073709551616) : (fmt w).rnd (M : Rat) < (fmt w).inf := by
  obtain ⟨m, hm⟩ := (fmt w).val_repr (n := 1) (e := 64) (by have := (fmt w).pow_pos; rw [Nat.pow_succ]; omega) (by rcases hw with rfl | rfl <;> decide)
  have h1 : m < (fmt w).inf := by
    rw [← (fmt w).val_lt_iff, hm, (fmt w).val_inf]
    have : ((1 : Nat) : Rat) * tw 64 = tw 64 := by grind
    rw [this]
    exact tw_lt (by rcases hw with rfl | rfl <;> decide)
  have h2 : (M : Rat) ≤ (fmt w).val m := by
    rw [hm]
    have e : tw 64 = ((18446744073709551616 : Nat) : Rat) := by rw [show (64 : Int) = ((64 : Nat) : Int) from rfl, tw_nat]
    rw [e]
    have := nat_le.2 hM
    grind
  exact Nat.lt_of_le_of_lt ((fmt w).rnd_lt_inf h2 h1) h1
theorem bl_odd {M t o : Nat} (h : M = 2 ^ t * o) (ho : 0 < o) : bl M = bl o + t := by
  rw [h, Nat.mul_comm, bl_shift _ _ ho]
theorem sg_lt' (w : Int) (m : Nat) : (fmt w).sg m < 2 ^ ((fmt w).f + 1) := by
  obtain ⟨q, n, _, h2, _, h4, _⟩ := (fmt w).sg_ex m
  rw [h4]; exact h2
theorem repr_iff (w : Int) (hw : w = 32 ∨ w = 64) {M t o : Nat} (h : M = 2 ^ t * (2 * o + 1)) (hM : M < 18446744073709551616) : (fmt w).val ((fmt w).rnd (M : Rat)) = (M : Rat) ↔ bl M ≤ t + ((fmt w).f + 1) := by
  have hb := bl_odd h (show 0 < 2 * o + 1 by omega)
  constructor
  · intro e
    obtain ⟨m, hm⟩ : ∃ m, (fmt w).rnd (M : Rat) = m := ⟨_, rfl⟩
    rw [hm] at e
    unfold Fmt.val at e
    have hs := sg_lt' w m
    have key : bl (2 * o + 1) ≤ (fmt w).f + 1 := by
      rw [bl_le]
      refine Nat.lt_of_le_of_lt ?_ hs
      rcases Int.le_total 0 ((fmt w).ex m) with x | x
      · obtain ⟨n, hn⟩ := Int.eq_ofNat_of_zero_le x
        rw [hn, tw_nat] at e
        have e2 : (fmt w).sg m * 2 ^ n = 2 ^ t * (2 * o + 1) := by rw [← h]; exact_mod_cast e
        rcases Nat.le_total n t with y | y
        · have e3 : (fmt w).sg m = 2 ^ (t - n) * (2 * o + 1) := by
            have : (fmt w).sg m * 2 ^ n = 2 ^ (t - n) * (2 * o + 1) * 2 ^ n := by
              rw [e2, Nat.mul_right_comm, ← Nat.pow_add, show t - n + n = t by omega]
            exact Nat.eq_of_mul_eq_mul_right (Nat.pow_pos (by decide)) this
          rw [e3]
          exact Nat.le_mul_of_pos_left _ (Nat.pow_pos (by decide))
        · have e3 : (fmt w).sg m * 2 ^ (n - t) = 2 * o + 1 := by
            have : 2 ^ t * ((fmt w).sg m * 2 ^ (n - t)) = 2 ^ t * (2 * o + 1) := by
              rw [← e2, Nat.mul_left_comm, ← Nat.pow_add, show t + (n - t) = n by omega]
            exact Nat.eq_of_mul_eq_mul_left (Nat.pow_pos (by decide)) this
          rcases Nat.eq_zero_or_pos (n - t) with z | z
          · rw [z, Nat.pow_zero, Nat.mul_one] at e3; omega
          · obtain ⟨d, hd⟩ : ∃ d, n - t = d + 1 := ⟨n - t - 1, by omega⟩
            rw [hd, Nat.pow_succ, ← Nat.mul_assoc] at e3
            omega
      · obtain ⟨n, hn⟩ := Int.eq_ofNat_of_zero_le (show 0 ≤ -(fmt w).ex m by omega)
        have e2 : ((fmt w).sg m : Rat) = ((M * 2 ^ n : Nat) : Rat) := by
          have q : tw ((fmt w).ex m) * tw n = 1 := by rw [← tw_add, show (fmt w).ex m + (n : Int) = 0 by omega, tw_zero]
          push_cast
          have q2 := tw_nat n
          push_cast at q2
          rw [← q2, ← e, Rat.mul_assoc, q, Rat.mul_one]
        have e3 : (fmt w).sg m = M * 2 ^ n := by exact_mod_cast e2
        rw [e3, h]
        have p1 : 0 < 2 ^ t := Nat.pow_pos (by decide)
        have p2 : 0 < 2 ^ n := Nat.pow_pos (by decide)
        exact Nat.le_trans (Nat.le_mul_of_pos_left _ p1) (Nat.le_mul_of_pos_right _ p2)
    omega
  · intro e
    have ho : 2 * o + 1 ≤ 2 ^ ((fmt w).f + 1) := Nat.le_of_lt (bl_le.1 (by omega))
    obtain ⟨m, hm⟩ := (fmt w).val_repr (e := (t : Int)) ho (by have := (fmt_bd w).2.1; omega)
    have e2 : (fmt w).val m = (M : Rat) := by
      rw [hm, tw_nat, h]; push_cast; grind
    have l := rnd64_lt w hw (Nat.le_of_lt hM)
    have h1 : m ≤ (fmt w).inf := by
      rcases Nat.lt_or_ge (fmt w).inf m with y | y
      rotate_left
      · exact y
      · exfalso
        have z := (fmt w).rnd_inf (x := (M : Rat)) (by rw [← e2]; exact Rat.le_of_lt ((fmt w).val_lt_iff.2 y))
        omega
    rw [← e2, (fmt w).rnd_val h1]
theorem tz63 (M : Nat) (h0 : 0 < M) (hM : M < 18446744073709551616) : bits_TrailingZeros64.f (Go.bits .or .u64 (M : Int) 9223372036854775808) = some ((Lib.ctz 64 M : Nat) : Int) := by
  rw [show (9223372036854775808 : Int) = ((9223372036854775808 : Nat) : Int) from rfl, u64_or_nat _ _ hM (by decide)]
  have l : M ||| 9223372036854775808 < 18446744073709551616 := Nat.or_lt_two_pow (n := 64) hM (by decide)
  unfold bits_TrailingZeros64.f
  rw [if_pos (by omega), Int.toNat_natCast]
  congr 2
  obtain ⟨m, h1, h2⟩ := ctz_spec 64 (.inr rfl) M (by simpa [pw] using hM) h0
  have p0 : 0 < M ||| 9223372036854775808 := Nat.lt_of_lt_of_le (by decide) Nat.right_le_or
  obtain ⟨m', h1', h2'⟩ := ctz_spec 64 (.inr rfl) (M ||| 9223372036854775808) (by simpa [pw] using l) p0
  obtain ⟨a1, a2⟩ := ctz_bits h1
  obtain ⟨b1, b2⟩ := ctz_bits h1'
  have b64 := bl64 hM
  have ob : ∀ i, (M ||| 9223372036854775808).testBit i = (M.testBit i || decide (i = 63)) := fun i => by
    rw [Nat.testBit_or, show (9223372036854775808 : Nat) = 2 ^ 63 by decide, Nat.testBit_two_pow]
    congr 1
    rw [decide_eq_decide]; omega
  rcases Nat.lt_trichotomy (Lib.ctz 64 (M ||| 9223372036854775808)) (Lib.ctz 64 M) with x | x | x
  · exfalso
    rw [ob, a1 _ x, Bool.false_or, decide_eq_true_eq] at b2
    omega
  · exact x
  · exfalso
    have := b1 _ x
    rw [ob, a2, Bool.true_or] at this
    cases this
theorem fieldsE (w : Int) (hw : w = 32 ∨ w = 64) : ∃ x, shape_Fields.f w = some (x, ((fmt w).f : Int)) := by
  rcases hw with rfl | rfl
  · exact ⟨_, rfl⟩
  · exact ⟨_, rfl⟩
def exB (w : Int) (M : Nat) : Bool := decide (bl M ≤ Lib.ctz 64 M + ((fmt w).f + 1))
theorem exB_iff (w : Int) (hw : w = 32 ∨ w = 64) {M : Nat} (hM : M < 18446744073709551616) : exB w M = true ↔ (fmt w).val ((fmt w).rnd (M : Rat)) = (M : Rat) := by
  unfold exB
  rw [decide_eq_true_iff]
  rcases Nat.eq_zero_or_pos M with z | z
  · subst z
    have e : (fmt w).rnd ((0 : Nat) : Rat) = 0 := (fmt w).rnd_zero
    rw [e, (fmt w).val_zero]
    exact ⟨fun _ => rfl, fun _ => by rw [bl_zero]; omega⟩
  · obtain ⟨m, h1, h2⟩ := ctz_spec 64 (.inr rfl) M (by simpa [pw] using hM) z
    exact (repr_iff w hw h1 hM).symm
theorem exactC (w : Int) (hw : w = 32 ∨ w = 64) (fr : Int) (hf : fr = 32 ∨ fr = 64) (n : Nat) (hn : n < 18446744073709551616) (sd : Bool) : Ev (fun k => cast_Exact.f k w fr n sd) (exB w (rdM fr n sd)) := by
  unfold cast_Exact.f
  have hM := rdM_lt fr hf n hn sd
  have f52 := fmt_f w
  obtain ⟨x, hx⟩ := fieldsE w hw
  refine Ev.bs (castKnown w hw) (Ev.pos rfl (Ev.bs (castKnown fr hf) (Ev.step (fun _ => cast_Exact.j0.eq_2 ..) (Ev.neg (by decide) (Ev.bs (readE fr hf n hn sd) (Ev.bs hx ?_))))))
  generalize rdM fr n sd = M at *
  have b64 := bl64 hM
  refine Ev.bs (a := ((bl M : Nat) : Int)) (by unfold bits_Len64.f; rw [if_pos (by omega), Int.toNat_natCast, bitLen_bl (by omega)]) ?_
  rw [w64_id (n := ((fmt w).f : Int) + 1) (by omega) (by omega)]
  rcases Nat.eq_zero_or_pos M with z | z
  · subst z
    refine Ev.bs (a := 63) (show bits_TrailingZeros64.f (Go.bits .or .u64 ((0 : Nat) : Int) 9223372036854775808) = some 63 by decide +kernel) ?_
    rw [bl_zero]
    exact Ev.pos (by rw [w64_id (by omega) (by omega)]; omega) (Ev.out (by unfold exB; rw [bl_zero]; simp))
  · refine Ev.bs (tz63 M z hM) ?_
    have hz := ctz_le M hM
    rw [w64_id (by omega) (by omega)]
    unfold exB
    by_cases c : bl M ≤ Lib.ctz 64 M + ((fmt w).f + 1)
    · exact Ev.pos (by omega) (Ev.out (by simp [c]))
    · refine Ev.neg (by omega) (Ev.out ?_)
      rw [decide_eq_false c, beq_eq_false_iff_ne]; omega
theorem turnE (v w : Int) (hv : v = 32 ∨ v = 64) (hw : w = 32 ∨ w = 64) (a : Nat) (ha : a < 18446744073709551616) {s : Bool} {kd e : Int} {g : Nat} (h : opn v a = (s, kd, e, (g : Int))) (hg : g < 18446744073709551616) :
    Ev (fun k => (shape_Open.f k v a).bind fun b => (round_Narrow.f w b.1 b.2.1 b.2.2.1 b.2.2.2).bind fun t => some t) ((narG w s kd e g : Nat) : Int) := by
  refine Ev.bind (openS v hv a ha) ?_
  rw [h]
  exact Ev.bs (narrowG w hw s kd e g hg) (Ev.out rfl)
theorem up_repr (m : Nat) (hm : m < (fmt 32).inf) : ∃ q, q < (fmt 64).inf ∧ (fmt 64).val q = (fmt 32).val m := by
  have h1 := sg_lt' 32 m
  have he := (fmt 32).low_ex m
  have h2 : (fmt 32).sg m ≤ 2 ^ ((fmt 64).f + 1) := Nat.le_trans (Nat.le_of_lt h1) (by decide)
  obtain ⟨q, hq⟩ := (fmt 64).val_repr (e := (fmt 32).ex m) h2 (Int.le_trans (by decide) he)
  refine ⟨q, ?_, hq⟩
  rw [← (fmt 64).val_lt_iff, hq, show ((fmt 32).sg m : Rat) * tw ((fmt 32).ex m) = (fmt 32).val m from rfl]
  have h3 := (fmt 32).val_lt_iff.2 hm
  rw [(fmt 32).val_inf] at h3
  rw [(fmt 64).val_inf]
  have h4 : tw (((fmt 32).top : Int) - 1 + (fmt 32).low + (fmt 32).f) < tw (((fmt 64).top : Int) - 1 + (fmt 64).low + (fmt 64).f) := tw_lt (by decide)
  grind
theorem promK (m : Nat) (s : Bool) (hm : m < (fmt 32).inf) : Ev (fun k => cast_Promote.f k ((mkN 32 m s : Nat) : Int)) ((mkN 64 ((fmt 64).rnd ((fmt 32).val m)) s : Nat) : Int) := by
  have ms : m < sb 32 := by have := (inf_sb 32 (.inl rfl)).1; omega
  have o := opn_mk 32 (.inl rfl) m s ms
  unfold cast_Promote.f
  by_cases z : m = 0
  · rw [if_pos z] at o
    have := turnE 32 64 (.inl rfl) (.inr rfl) (mkN 32 m s) (mkN_lt 32 (.inl rfl) m s ms) (g := 0) o (by decide)
    rw [z, (fmt 32).val_zero, (fmt 64).rnd_zero]
    rw [z] at this
    exact this
  · rw [if_neg z, if_pos hm] at o
    have := turnE 32 64 (.inl rfl) (.inr rfl) (mkN 32 m s) (mkN_lt 32 (.inl rfl) m s ms) o (by have := sg_64 32 (.inl rfl) m; omega)
    exact this
theorem backE (a : Nat) (ha : a < 18446744073709551616) : ∃ p, Ev (fun k => cast_Promote.f k a) ((p : Nat) : Int) ∧ Ev (fun k => cast_Demote.f k p) (((if (opn 32 a).2.1 = 3 then nanN 32 else cutN 32 a) : Nat) : Int) := by
  have h32 : (32 : Int) = 32 ∨ (32 : Int) = 64 := .inl rfl
  have h64 : (64 : Int) = 32 ∨ (64 : Int) = 64 := .inr rfl
  have c := cut_as_mk 32 h32 a ha
  unfold cast_Promote.f cast_Demote.f
  have b64 := inf_sb 64 h64
  have dn : ∀ (p : Nat) (s : Bool) (kd e : Int) (g r : Nat), p < 18446744073709551616 → opn 64 p = (s, kd, e, (g : Int)) → g < 18446744073709551616 → narG 32 s kd e g = r →
      Ev (fun k => (shape_Open.f k 64 p).bind fun b => (round_Narrow.f 32 b.1 b.2.1 b.2.2.1 b.2.2.2).bind fun t => some t) ((r : Nat) : Int) := by
    intro p s kd e g r hp h hg e2
    rw [← e2]
    exact turnE 64 32 h64 h32 p hp h hg
  rcases kinds 32 h32 a with ⟨k1, k2⟩ | ⟨k0, k1, k2⟩ | ⟨k1, k2⟩ | ⟨k1, k2⟩
  · refine ⟨_, turnE 32 64 h32 h64 a ha (g := 0) k2 (by decide), ?_⟩
    have z : 0 < sb 64 := by decide
    rw [if_neg (by rw [k2]; simp), c, k1]
    refine dn (mkN 64 0 (sgB 32 a)) (sgB 32 a) 0 0 0 _ (mkN_lt 64 h64 0 _ z) ?_ (by decide) rfl
    have := opn_mk 64 h64 0 (sgB 32 a) z
    rwa [if_pos rfl] at this
  · obtain ⟨q, hq, hv⟩ := up_repr _ k1
    have q0 : q ≠ 0 := by
      intro z
      have h1 := (fmt 32).val_pos.2 k0
      rw [← hv, z, (fmt 64).val_zero] at h1
      exact absurd h1 (Rat.lt_irrefl)
    have qs : q < sb 64 := by omega
    refine ⟨_, turnE 32 64 h32 h64 a ha k2 (by have := sg_64 32 h32 (magN 32 a); omega), ?_⟩
    have e1 : narG 64 (sgB 32 a) 1 ((fmt 32).ex (magN 32 a)) ((fmt 32).sg (magN 32 a)) = mkN 64 q (sgB 32 a) := by
      show mkN 64 ((fmt 64).rnd ((fmt 32).val (magN 32 a))) (sgB 32 a) = _
      rw [← hv, (fmt 64).rnd_val (Nat.le_of_lt hq)]
    rw [e1, if_neg (by rw [k2]; simp), c]
    have o := opn_mk 64 h64 q (sgB 32 a) qs
    rw [if_neg q0, if_pos hq] at o
    refine dn _ _ _ _ _ _ (mkN_lt 64 h64 q _ qs) o (by have := sg_64 64 h64 q; omega) ?_
    show mkN 32 ((fmt 32).rnd ((fmt 64).val q)) (sgB 32 a) = _
    rw [hv, (fmt 32).rnd_val (Nat.le_of_lt k1)]
  · refine ⟨_, turnE 32 64 h32 h64 a ha (g := 0) k2 (by decide), ?_⟩
    have i0 := inf_pos 64 h64
    rw [if_neg (by rw [k2]; simp), c, k1]
    refine dn (mkN 64 (fmt 64).inf (sgB 32 a)) (sgB 32 a) 2 0 0 _ (mkN_lt 64 h64 _ _ b64.1) ?_ (by decide) rfl
    have := opn_mk 64 h64 (fmt 64).inf (sgB 32 a) b64.1
    rwa [if_neg (by omega), if_neg (by omega), if_pos rfl] at this
  · refine ⟨_, turnE 32 64 h32 h64 a ha (g := 0) k2 (by decide), ?_⟩
    have i0 := inf_pos 64 h64
    rw [if_pos (by rw [k2])]
    refine dn (nanN 64) false 3 0 0 _ (by decide) ?_ (by decide) rfl
    have := opn_mk 64 h64 (nanN 64) false b64.2.1
    rw [if_neg (by omega), if_neg (by omega), if_neg (by omega)] at this
    rw [b64.2.2.2]
    exact this
theorem exB_small (w : Int) {M : Nat} (h : bl M ≤ (fmt w).f + 1) : exB w M = true := by unfold exB; exact decide_eq_true (by omega)
theorem CastBackP : L11_CastBack.Pure := by
  intro a n ha0 hn0
  obtain ⟨ha1, ha2⟩ := wf_u64 ha0
  obtain ⟨a, rfl⟩ := Int.eq_ofNat_of_zero_le ha1
  have ha : a < 18446744073709551616 := by omega
  obtain ⟨hn1, hn2⟩ := wf_u64 hn0
  obtain ⟨n, rfl⟩ := Int.eq_ofNat_of_zero_le hn1
  have hn : n < 18446744073709551616 := by omega
  have h32 : (32 : Int) = 32 ∨ (32 : Int) = 64 := .inl rfl
  have h64 : (64 : Int) = 32 ∨ (64 : Int) = 64 := .inr rfl
  have j1 : ∀ M : Nat, M < 16777216 → Ev (fun k => L11_CastBack.j1 k M false) true := by
    intro M hM
    refine Ev.step (fun _ => L11_CastBack.j1.eq_2 ..) (Ev.neg (by decide) ?_)
    by_cases z : M = 0
    · exact Ev.pos (by omega) (Ev.out rfl)
    · refine Ev.neg (by omega) ?_
      have e : IntKind.u64.wrap (-(M : Int)) = ((18446744073709551616 - M : Nat) : Int) := by rw [IntKind.wrap_u64]; omega
      rw [e]
      refine Ev.bind (fromI 64 h64 64 h64 _ (by omega)) (Ev.bind (fromI 64 h64 64 h64 M (by omega)) (Ev.out ?_))
      have s1 : sgB 64 (18446744073709551616 - M) = true := by unfold sgB sb; rw [if_neg (by decide), decide_eq_true_eq]; omega
      have s2 : sgB 64 M = false := by unfold sgB sb; rw [if_neg (by decide), decide_eq_false_iff_not]; omega
      have g1 : mg 64 (18446744073709551616 - M) = M := by
        unfold mg; rw [s1, if_pos rfl]; unfold pw; rw [if_neg (by decide)]; omega
      have g2 : mg 64 M = M := by
        unfold mg; rw [s2, if_neg (by decide)]; unfold pw; rw [if_neg (by decide)]; omega
      have ms := rnd64_lt 64 h64 (M := M) (by omega)
      have is := (inf_sb 64 h64).1
      have o := or_sb 64 (m := (fmt 64).rnd (M : Rat)) (by omega)
      have m0 : ((mkN 64 0 true : Nat) : Int) = 9223372036854775808 := by decide
      rw [m0] at o
      unfold cfN rdM rdS
      rw [s1, s2, if_pos rfl, if_pos rfl, g1, g2]
      have e3 : mkN 64 ((fmt 64).rnd (M : Rat)) (true && false) = (fmt 64).rnd (M : Rat) := by simp [mkN]
      rw [e3, o]
      simp
  have j0 : Ev (fun k => L11_CastBack.j0 k n false) true := by
    refine Ev.step (fun _ => L11_CastBack.j0.eq_2 ..) (Ev.neg (by decide) ?_)
    have e1 : (n : Int) / 1099511627776 = ((n / 1099511627776 : Nat) : Int) := by omega
    have e2 : (n : Int) / 2048 = ((n / 2048 : Nat) : Int) := by omega
    rw [e1, e2]
    have hM : n / 1099511627776 < 16777216 := by omega
    have hL : n / 2048 < 9007199254740992 := by omega
    have x1 := exactC 32 h32 64 h64 (n / 1099511627776) (by omega) false
    have x2 := exactC 64 h64 64 h64 (n / 2048) (by omega) true
    have s2 : sgB 64 (n / 2048) = false := by unfold sgB sb; rw [if_neg (by decide), decide_eq_false_iff_not]; omega
    have r1 : rdM 64 (n / 1099511627776) false = n / 1099511627776 := by simp [rdM, cutN]
    have r2 : rdM 64 (n / 2048) true = n / 2048 := by
      unfold rdM mg; rw [if_pos rfl, s2, if_neg (by decide)]; unfold pw; rw [if_neg (by decide)]; omega
    have t1 : exB 32 (n / 1099511627776) = true := exB_small 32 (bl_le.2 (show n / 1099511627776 < 2 ^ ((fmt 32).f + 1) from hM))
    have t2 : exB 64 (n / 2048) = true := exB_small 64 (bl_le.2 (show n / 2048 < 2 ^ ((fmt 64).f + 1) from hL))
    rw [r1, t1] at x1
    rw [r2, t2] at x2
    have u1 := fromU 32 h32 64 h64 (n / 1099511627776) (by omega)
    have u2 := fromU 64 h64 64 h64 (n / 1099511627776) (by omega)
    have v := (exB_iff 32 h32 (M := n / 1099511627776) (by omega)).1 t1
    have c1 : cfN 32 64 (n / 1099511627776) false = mkN 32 ((fmt 32).rnd ((n / 1099511627776 : Nat) : Rat)) false := by unfold cfN; rw [r1]; rfl
    have c2 : cfN 64 64 (n / 1099511627776) false = mkN 64 ((fmt 64).rnd ((n / 1099511627776 : Nat) : Rat)) false := by unfold cfN; rw [r1]; rfl
    rw [c1] at u1
    rw [c2] at u2
    have p := promK ((fmt 32).rnd ((n / 1099511627776 : Nat) : Rat)) false (rnd64_lt 32 h32 (by omega))
    rw [v] at p
    refine Ev.bind x1 (Ev.pos rfl (Ev.bind x2 (Ev.pos rfl (Ev.bind u1 (Ev.bind p (Ev.bind u2 ?_))))))
    rw [bne_self_eq_false]
    exact j1 _ hM
  refine Ev.rounds ?_
  unfold L11_CastBack.f
  obtain ⟨p, p1, p2⟩ := backE a ha
  refine Ev.bind awake11M (Ev.pos rfl (Ev.bind p1 (Ev.bind p2 (Ev.bind (isnanS 32 h32 a ha) ?_))))
  by_cases k3 : (opn 32 a).2.1 = 3
  · refine Ev.pos (by rw [k3]; rfl) (Ev.bs (shN 32 h32) (Ev.pos (by rw [if_pos k3]) (Ev.bind (isnanS 32 h32 a ha) (Ev.pos (by rw [k3]; rfl) j0))))
  · refine Ev.neg (by simpa using k3) (Ev.bind (isnanS 32 h32 a ha) (Ev.neg (by simpa using k3) (Ev.bs (shCut 32 a ha) ?_)))
    rw [if_neg k3, bne_self_eq_false]
    exact j0
end Go.Proofs.YthdeeoallfbjmaaDoor.Th
end
namespace Go.Proofs.YthdeeoallfbjmaaDoor.Pure
theorem CastBack : Go.Proofs.YthdeeoallfbjmaaDoor.PA.L11_CastBack.Pure := Go.Proofs.YthdeeoallfbjmaaDoor.Th.CastBackP
end Go.Proofs.YthdeeoallfbjmaaDoor.Pure
