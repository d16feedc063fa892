/- What the Go functions that the statement WholeKeeps reaches compute, and the mathematics on it, in the order in which one leans on the other; for every input. -/
import Derived.Test.YthdeeoallfbjmaaVWholeKeeps1
import Derived.Test.YthdeeoallfbjmaaMWholeKeeps0
import Derived.Test.YthdeeoallfbjmaaMWholeKeeps1
import Derived.Test.YthdeeoallfbjmaaMWholeKeeps6
import Derived.Test.YthdeeoallfbjmaaMWholeKeeps5
import Derived.Test.YthdeeoallfbjmaaMWholeKeeps3
import Derived.Test.YthdeeoallfbjmaaMWholeKeeps2
import Derived.Test.YthdeeoallfbjmaaMWholeKeeps4
import Derived.Deep.RegionHeld3
namespace Go.Proofs.Ythdeeoallfbjmaa.PA
open Go.RowKit Go.Proofs.YthdeeoallfbjmaaW.PrintWords Go.Proofs.YthdeeoallfbjmaaW.PrintLast Go.Proofs.YthdeeoallfbjmaaW.PrintMore
attribute [local go_sem] max2_int min2_int max_two min_two max_three min_three max_four min_four   -- for this text's walks alone
set_option linter.unusedVariables false
set_option linter.unusedSimpArgs false
set_option maxHeartbeats 8000000
set_option maxRecDepth 100000
mutual
def L09_WholeKeeps.j0 : Nat → Int → Int → Bool → Option (Bool)
 | 0, _, _, _ => none
 | k + 1, x0, x1, x18 => if x18 = true then (some true) else ((whole_Ceil.f k x0 x1).bind fun t528 => ((whole_Floor.f k x0 x1).bind fun t529 => ((whole_Trunc.f k x0 x1).bind fun t530 => ((whole_Nearest.f k x0 x1).bind fun t531 => ((shape_Open.f k x0 x1).bind fun bt532 => (if bt532.2.1 = 3 then ((shape_Nan.f x0).bind fun t537 => (if t528 = t537 then (if t529 = t528 then (if t530 = t528 then (some (t531 == t528)) else (some false)) else (some false)) else (some false))) else ((whole_IsWhole.f k x0 x1).bind fun t538 => (if t538 = true then (L09_WholeKeeps.j1 k x0 x1 t528 t529 t530 t531 true bt532.1 bt532.2.1 bt532.2.2.1 bt532.2.2.2) else (L09_WholeKeeps.j1 k x0 x1 t528 t529 t530 t531 (bt532.2.1 == 2) bt532.1 bt532.2.1 bt532.2.2.1 bt532.2.2.2)))))))))
def L09_WholeKeeps.j1 : Nat → Int → Int → Int → Int → Int → Int → Bool → Bool → Int → Int → Int → Option (Bool)
 | 0, _, _, _, _, _, _, _, _, _, _, _ => none
 | k + 1, x0, x1, x5, x6, x7, x8, x63, x537000, x537001, x537002, x537003 => if x63 = true then ((shape_Cut.f x0 x1).bind fun t539 => (if x5 = t539 then (if x6 = t539 then (if x7 = t539 then (some (x8 == t539)) else (some false)) else (some false)) else (some false))) else ((order_Lt.f k x0 x6 x1).bind fun t540 => (if t540 = true then ((order_Lt.f k x0 x1 x5).bind fun t541 => (if t541 = true then ((whole_IsWhole.f k x0 x5).bind fun t542 => (if t542 = true then ((whole_IsWhole.f k x0 x6).bind fun t543 => (if t543 = true then (if x8 = x5 then (L09_WholeKeeps.j2 k x5 x6 x7 false x537000 x537001 x537002 x537003) else (L09_WholeKeeps.j2 k x5 x6 x7 (x8 != x6) x537000 x537001 x537002 x537003)) else (L09_WholeKeeps.j2 k x5 x6 x7 true x537000 x537001 x537002 x537003))) else (L09_WholeKeeps.j2 k x5 x6 x7 true x537000 x537001 x537002 x537003))) else (L09_WholeKeeps.j2 k x5 x6 x7 true x537000 x537001 x537002 x537003))) else (L09_WholeKeeps.j2 k x5 x6 x7 true x537000 x537001 x537002 x537003)))
def L09_WholeKeeps.j2 : Nat → Int → Int → Int → Bool → Bool → Int → Int → Int → Option (Bool)
 | 0, _, _, _, _, _, _, _, _ => none
 | k + 1, x5, x6, x7, x118, x537000, x537001, x537002, x537003 => if x118 = true then (some false) else (if x537000 = true then (some (x7 == x5)) else (some (x7 == x6)))
end
def L09_WholeKeeps.f (k : Nat) (a0 : Int) (a1 : Int) : Option (Bool) := (L09_awake.f k).bind fun t527 => (if t527 = true then (if a0 = 32 then (L09_WholeKeeps.j0 k a0 a1 false) else (L09_WholeKeeps.j0 k a0 a1 (a0 != 64))) else (some false))
theorem L09_WholeKeeps.mono_l : ∀ k, (∀ y0 y1 y2, LeO (L09_WholeKeeps.j0 k y0 y1 y2) (L09_WholeKeeps.j0 (k + 1) y0 y1 y2)) ∧ (∀ y0 y1 y2 y3 y4 y5 y6 y7 y8 y9 y10, LeO (L09_WholeKeeps.j1 k y0 y1 y2 y3 y4 y5 y6 y7 y8 y9 y10) (L09_WholeKeeps.j1 (k + 1) y0 y1 y2 y3 y4 y5 y6 y7 y8 y9 y10)) ∧ (∀ y0 y1 y2 y3 y4 y5 y6 y7, LeO (L09_WholeKeeps.j2 k y0 y1 y2 y3 y4 y5 y6 y7) (L09_WholeKeeps.j2 (k + 1) y0 y1 y2 y3 y4 y5 y6 y7))
 | 0 => ⟨fun _ _ _ r h => by simp [L09_WholeKeeps.j0] at h, fun _ _ _ _ _ _ _ _ _ _ _ r h => by simp [L09_WholeKeeps.j1] at h, fun _ _ _ _ _ _ _ _ r h => by simp [L09_WholeKeeps.j2] at h⟩
 | k + 1 => by
  obtain ⟨ih0, ih1, ih2⟩ := L09_WholeKeeps.mono_l k
  refine ⟨?_, ?_, ?_⟩
  ·intro y0 y1 y2
   unfold L09_WholeKeeps.j0
   repeat' first
   | (with_reducible exact ih0 _ _ _)
   | (with_reducible exact ih1 _ _ _ _ _ _ _ _ _ _ _)
   | (with_reducible exact ih2 _ _ _ _ _ _ _ _)
   | (with_reducible exact order_Lt.mono _ _ _ _)
   | (with_reducible exact shape_Open.mono _ _ _)
   | (with_reducible exact L09_awake.mono _)
   | (with_reducible exact whole_Ceil.mono _ _ _)
   | (with_reducible exact whole_Floor.mono _ _ _)
   | (with_reducible exact whole_IsWhole.mono _ _ _)
   | (with_reducible exact whole_Nearest.mono _ _ _)
   | (with_reducible exact whole_Trunc.mono _ _ _)
   | (with_reducible exact LeO.refl _)
   | (with_reducible exact LeO.none _)
   | (with_reducible refine LeO.ite ?_ ?_)
   | (with_reducible refine LeO.bind ?_ (fun _ => ?_))
   | exact ih0 _ _ _
   | exact ih1 _ _ _ _ _ _ _ _ _ _ _
   | exact ih2 _ _ _ _ _ _ _ _
   | exact order_Lt.mono _ _ _ _
   | exact shape_Open.mono _ _ _
   | exact L09_awake.mono _
   | exact whole_Ceil.mono _ _ _
   | exact whole_Floor.mono _ _ _
   | exact whole_IsWhole.mono _ _ _
   | exact whole_Nearest.mono _ _ _
   | exact whole_Trunc.mono _ _ _
   | exact LeO.none _
   | refine LeO.ite ?_ ?_
   | refine LeO.bind ?_ (fun _ => ?_)
  ·intro y0 y1 y2 y3 y4 y5 y6 y7 y8 y9 y10
   unfold L09_WholeKeeps.j1
   repeat' first
   | (with_reducible exact ih0 _ _ _)
   | (with_reducible exact ih1 _ _ _ _ _ _ _ _ _ _ _)
   | (with_reducible exact ih2 _ _ _ _ _ _ _ _)
   | (with_reducible exact order_Lt.mono _ _ _ _)
   | (with_reducible exact shape_Open.mono _ _ _)
   | (with_reducible exact L09_awake.mono _)
   | (with_reducible exact whole_Ceil.mono _ _ _)
   | (with_reducible exact whole_Floor.mono _ _ _)
   | (with_reducible exact whole_IsWhole.mono _ _ _)
   | (with_reducible exact whole_Nearest.mono _ _ _)
   | (with_reducible exact whole_Trunc.mono _ _ _)
   | (with_reducible exact LeO.refl _)
   | (with_reducible exact LeO.none _)
   | (with_reducible refine LeO.ite ?_ ?_)
   | (with_reducible refine LeO.bind ?_ (fun _ => ?_))
   | exact ih0 _ _ _
   | exact ih1 _ _ _ _ _ _ _ _ _ _ _
   | exact ih2 _ _ _ _ _ _ _ _
   | exact order_Lt.mono _ _ _ _
   | exact shape_Open.mono _ _ _
   | exact L09_awake.mono _
   | exact whole_Ceil.mono _ _ _
   | exact whole_Floor.mono _ _ _
   | exact whole_IsWhole.mono _ _ _
   | exact whole_Nearest.mono _ _ _
   | exact whole_Trunc.mono _ _ _
   | exact LeO.none _
   | refine LeO.ite ?_ ?_
   | refine LeO.bind ?_ (fun _ => ?_)
  ·intro y0 y1 y2 y3 y4 y5 y6 y7
   unfold L09_WholeKeeps.j2
   repeat' first
   | (with_reducible exact ih0 _ _ _)
   | (with_reducible exact ih1 _ _ _ _ _ _ _ _ _ _ _)
   | (with_reducible exact ih2 _ _ _ _ _ _ _ _)
   | (with_reducible exact order_Lt.mono _ _ _ _)
   | (with_reducible exact shape_Open.mono _ _ _)
   | (with_reducible exact L09_awake.mono _)
   | (with_reducible exact whole_Ceil.mono _ _ _)
   | (with_reducible exact whole_Floor.mono _ _ _)
   | (with_reducible exact whole_IsWhole.mono _ _ _)
   | (with_reducible exact whole_Nearest.mono _ _ _)
   | (with_reducible exact whole_Trunc.mono _ _ _)
   | (with_reducible exact LeO.refl _)
   | (with_reducible exact LeO.none _)
   | (with_reducible refine LeO.ite ?_ ?_)
   | (with_reducible refine LeO.bind ?_ (fun _ => ?_))
   | exact ih0 _ _ _
   | exact ih1 _ _ _ _ _ _ _ _ _ _ _
   | exact ih2 _ _ _ _ _ _ _ _
   | exact order_Lt.mono _ _ _ _
   | exact shape_Open.mono _ _ _
   | exact L09_awake.mono _
   | exact whole_Ceil.mono _ _ _
   | exact whole_Floor.mono _ _ _
   | exact whole_IsWhole.mono _ _ _
   | exact whole_Nearest.mono _ _ _
   | exact whole_Trunc.mono _ _ _
   | exact LeO.none _
   | refine LeO.ite ?_ ?_
   | refine LeO.bind ?_ (fun _ => ?_)
theorem L09_WholeKeeps.mono : ∀ a0 a1 k, LeO (L09_WholeKeeps.f k a0 a1) (L09_WholeKeeps.f (k + 1) a0 a1) := by
 intro a0 a1 k
 obtain ⟨ih0, ih1, ih2⟩ := L09_WholeKeeps.mono_l k
 unfold L09_WholeKeeps.f
 repeat' first
   | (with_reducible exact ih0 _ _ _)
   | (with_reducible exact ih1 _ _ _ _ _ _ _ _ _ _ _)
   | (with_reducible exact ih2 _ _ _ _ _ _ _ _)
   | (with_reducible exact order_Lt.mono _ _ _ _)
   | (with_reducible exact shape_Open.mono _ _ _)
   | (with_reducible exact L09_awake.mono _)
   | (with_reducible exact whole_Ceil.mono _ _ _)
   | (with_reducible exact whole_Floor.mono _ _ _)
   | (with_reducible exact whole_IsWhole.mono _ _ _)
   | (with_reducible exact whole_Nearest.mono _ _ _)
   | (with_reducible exact whole_Trunc.mono _ _ _)
   | (with_reducible exact LeO.refl _)
   | (with_reducible exact LeO.none _)
   | (with_reducible refine LeO.ite ?_ ?_)
   | (with_reducible refine LeO.bind ?_ (fun _ => ?_))
   | exact ih0 _ _ _
   | exact ih1 _ _ _ _ _ _ _ _ _ _ _
   | exact ih2 _ _ _ _ _ _ _ _
   | exact order_Lt.mono _ _ _ _
   | exact shape_Open.mono _ _ _
   | exact L09_awake.mono _
   | exact whole_Ceil.mono _ _ _
   | exact whole_Floor.mono _ _ _
   | exact whole_IsWhole.mono _ _ _
   | exact whole_Nearest.mono _ _ _
   | exact whole_Trunc.mono _ _ _
   | exact LeO.none _
   | refine LeO.ite ?_ ?_
   | refine LeO.bind ?_ (fun _ => ?_)
theorem L09_WholeKeeps.calls (k : Nat) (a0 : Int) (a1 : Int) (r : Bool) (w : World) (h : L09_WholeKeeps.f k a0 a1 = some r) (hr_ : Aside0 (r = true)) :
  Calls Try.prog 4 #[.int .i64 a0, .int .u64 a1] w fun e w' => e = .returned (.bool r) ∧ Below w.heap.size w w' := by
 have hu36 := Try.underlying36
 have HB := A_ (Below.refl w.heap.size w)
 have H : ((L09_awake.f k).bind fun t527 => (if t527 = true then (if a0 = 32 then (L09_WholeKeeps.j0 k a0 a1 false) else (L09_WholeKeeps.j0 k a0 a1 (a0 != 64))) else (some false))) = some r := h
 clear h
 replace H := ob_ H
 obtain ⟨t527, A30, H⟩ := H
 replace H : (if t527 = true then (if a0 = 32 then (L09_WholeKeeps.j0 k a0 a1 false) else (L09_WholeKeeps.j0 k a0 a1 (a0 != 64))) else (some false)) = some r := H
 have A3 := A_ A30;clear A30
 by_cases c4 : t527 = true
 ·subst c4
  have H1 : (if a0 = 32 then (L09_WholeKeeps.j0 k a0 a1 false) else (L09_WholeKeeps.j0 k a0 a1 (a0 != 64))) = some r := by rw [if_pos rfl] at H; exact H
  clear H;have H := H1;clear H1;have HC5 := A_ H;clear H
  go_enter Try.func4, Try.ntmps4
  go_upto_region 3 with (first | ((with_reducible refine gate_callee (f := 6) rfl ?_); refine gl_ (some 11) Try.func6 #[] ?_; (with_reducible refine (L09_awake.calls k  true _ A3.out).mono ?_); rintro e w6 ⟨rfl, hb⟩; refine ⟨_, rfl, ?_⟩; replace HB := A_ (below_step (hb_ HB.out) hb); (try clear hb); (try clear hb2); (try clear hk); (try clear hi)))
  (try simp only [Act.put, lI_, l0_, lS_])
  go_cut [18] (fun v18 wc => ∃ (kq : Nat) (x18_4 : Bool), v18 = .bool x18_4 ∧ Aside0 (L09_WholeKeeps.j0 kq a0 a1 x18_4 = some r) ∧ Aside0 (kq ≤ k) ∧ Aside0 (Below w.heap.size w wc))
  case first =>
   have H := HC5.out
   clear HC5
   by_cases c7 : a0 = 32
   ·rw [if_pos c7] at H
    have c7b0 : (a0 == 32) = true := beq_iff_eq.mpr c7
    have c7b1 : (a0 != 32) = false := bne_eq_false_iff_eq.mpr c7
    clear c7
    (first | rw [c7b0] | (simp only [i64_w, i32_w]; rw [c7b0]) | skip)
    have H' := A_ H
    clear H
    go_wp2
    go_meet
    case rel => exact ⟨_, (false), sm_, H', ⟨by first | omega | exact Nat.le_refl _⟩, ⟨hb_ HB.out⟩⟩
   ·rw [if_neg c7] at H
    have c7b0 : (a0 == 32) = false := beq_eq_false_iff_ne.mpr c7
    have c7b1 : (a0 != 32) = true := bne_iff_ne.mpr c7
    (first | rw [c7b0] | (simp only [i64_w, i32_w]; rw [c7b0]) | skip)
    have H' := A_ H
    clear H
    go_wp2
    go_meet
    case rel => exact ⟨_, ((a0 != 64)), sm_, H', ⟨by first | omega | exact Nat.le_refl _⟩, ⟨hb_ HB.out⟩⟩
  case rest =>
   clear HC5
   try clear p2
   try clear c4
   try clear c6
   try clear c7
   try clear c7b0
   try clear c7b1
   obtain ⟨kq, x18_4, rfl, HA, HJ4, HB⟩ := hcut
   cases kq with
   | zero => exact absurd HA.out (by simp [L09_WholeKeeps.j0])
   | succ kj4 =>
    have H := HA.out
    clear HA
    simp only [L09_WholeKeeps.j0] at H
    by_cases c8 : x18_4 = true
    ·subst c8
     have H1 : (some true) = some r := by rw [if_pos rfl] at H; exact H
     clear H;have H := H1;clear H1
     obtain rfl := Option.some.inj H
     go_wp2
     go_ret
     exact ⟨er_, hb_ HB.out⟩
    ·replace c8 := Bool.eq_false_iff.mpr c8
     subst c8
     have H1 : ((whole_Ceil.f kj4 a0 a1).bind fun t528 => ((whole_Floor.f kj4 a0 a1).bind fun t529 => ((whole_Trunc.f kj4 a0 a1).bind fun t530 => ((whole_Nearest.f kj4 a0 a1).bind fun t531 => ((shape_Open.f kj4 a0 a1).bind fun bt532 => (if bt532.2.1 = 3 then ((shape_Nan.f a0).bind fun t537 => (if t528 = t537 then (if t529 = t528 then (if t530 = t528 then (some (t531 == t528)) else (some false)) else (some false)) else (some false))) else ((whole_IsWhole.f kj4 a0 a1).bind fun t538 => (if t538 = true then (L09_WholeKeeps.j1 kj4 a0 a1 t528 t529 t530 t531 true bt532.1 bt532.2.1 bt532.2.2.1 bt532.2.2.2) else (L09_WholeKeeps.j1 kj4 a0 a1 t528 t529 t530 t531 (bt532.2.1 == 2) bt532.1 bt532.2.1 bt532.2.2.1 bt532.2.2.2))))))))) = some r := by rw [if_neg (show ¬ (false = true) by decide)] at H; exact H
     clear H;have H := H1;clear H1
     replace H := ob_ H
     obtain ⟨t528, A90, H⟩ := H
     replace H : ((whole_Floor.f kj4 a0 a1).bind fun t529 => ((whole_Trunc.f kj4 a0 a1).bind fun t530 => ((whole_Nearest.f kj4 a0 a1).bind fun t531 => ((shape_Open.f kj4 a0 a1).bind fun bt532 => (if bt532.2.1 = 3 then ((shape_Nan.f a0).bind fun t537 => (if t528 = t537 then (if t529 = t528 then (if t530 = t528 then (some (t531 == t528)) else (some false)) else (some false)) else (some false))) else ((whole_IsWhole.f kj4 a0 a1).bind fun t538 => (if t538 = true then (L09_WholeKeeps.j1 kj4 a0 a1 t528 t529 t530 t531 true bt532.1 bt532.2.1 bt532.2.2.1 bt532.2.2.2) else (L09_WholeKeeps.j1 kj4 a0 a1 t528 t529 t530 t531 (bt532.2.1 == 2) bt532.1 bt532.2.1 bt532.2.2.1 bt532.2.2.2)))))))) = some r := H
     have A9 := A_ A90;clear A90
     replace H := ob_ H
     obtain ⟨t529, A100, H⟩ := H
     replace H : ((whole_Trunc.f kj4 a0 a1).bind fun t530 => ((whole_Nearest.f kj4 a0 a1).bind fun t531 => ((shape_Open.f kj4 a0 a1).bind fun bt532 => (if bt532.2.1 = 3 then ((shape_Nan.f a0).bind fun t537 => (if t528 = t537 then (if t529 = t528 then (if t530 = t528 then (some (t531 == t528)) else (some false)) else (some false)) else (some false))) else ((whole_IsWhole.f kj4 a0 a1).bind fun t538 => (if t538 = true then (L09_WholeKeeps.j1 kj4 a0 a1 t528 t529 t530 t531 true bt532.1 bt532.2.1 bt532.2.2.1 bt532.2.2.2) else (L09_WholeKeeps.j1 kj4 a0 a1 t528 t529 t530 t531 (bt532.2.1 == 2) bt532.1 bt532.2.1 bt532.2.2.1 bt532.2.2.2))))))) = some r := H
     have A10 := A_ A100;clear A100
     replace H := ob_ H
     obtain ⟨t530, A110, H⟩ := H
     replace H : ((whole_Nearest.f kj4 a0 a1).bind fun t531 => ((shape_Open.f kj4 a0 a1).bind fun bt532 => (if bt532.2.1 = 3 then ((shape_Nan.f a0).bind fun t537 => (if t528 = t537 then (if t529 = t528 then (if t530 = t528 then (some (t531 == t528)) else (some false)) else (some false)) else (some false))) else ((whole_IsWhole.f kj4 a0 a1).bind fun t538 => (if t538 = true then (L09_WholeKeeps.j1 kj4 a0 a1 t528 t529 t530 t531 true bt532.1 bt532.2.1 bt532.2.2.1 bt532.2.2.2) else (L09_WholeKeeps.j1 kj4 a0 a1 t528 t529 t530 t531 (bt532.2.1 == 2) bt532.1 bt532.2.1 bt532.2.2.1 bt532.2.2.2)))))) = some r := H
     have A11 := A_ A110;clear A110
     replace H := ob_ H
     obtain ⟨t531, A120, H⟩ := H
     replace H : ((shape_Open.f kj4 a0 a1).bind fun bt532 => (if bt532.2.1 = 3 then ((shape_Nan.f a0).bind fun t537 => (if t528 = t537 then (if t529 = t528 then (if t530 = t528 then (some (t531 == t528)) else (some false)) else (some false)) else (some false))) else ((whole_IsWhole.f kj4 a0 a1).bind fun t538 => (if t538 = true then (L09_WholeKeeps.j1 kj4 a0 a1 t528 t529 t530 t531 true bt532.1 bt532.2.1 bt532.2.2.1 bt532.2.2.2) else (L09_WholeKeeps.j1 kj4 a0 a1 t528 t529 t530 t531 (bt532.2.1 == 2) bt532.1 bt532.2.1 bt532.2.2.1 bt532.2.2.2))))) = some r := H
     have A12 := A_ A120;clear A120
     replace H := ob_ H
     obtain ⟨⟨t532, t533, t534, t535⟩, A130, H⟩ := H
     replace H : (if t533 = 3 then ((shape_Nan.f a0).bind fun t537 => (if t528 = t537 then (if t529 = t528 then (if t530 = t528 then (some (t531 == t528)) else (some false)) else (some false)) else (some false))) else ((whole_IsWhole.f kj4 a0 a1).bind fun t538 => (if t538 = true then (L09_WholeKeeps.j1 kj4 a0 a1 t528 t529 t530 t531 true t532 t533 t534 t535) else (L09_WholeKeeps.j1 kj4 a0 a1 t528 t529 t530 t531 (t533 == 2) t532 t533 t534 t535)))) = some r := H
     have A13 := A_ A130;clear A130
     by_cases c14 : t533 = 3
     ·rw [if_pos c14] at H
      have c14b0 : (t533 == 3) = true := beq_iff_eq.mpr c14
      have c14b1 : (t533 != 3) = false := bne_eq_false_iff_eq.mpr c14
      clear c14
      replace H := ob_ H
      obtain ⟨t537, A150, H⟩ := H
      replace H : (if t528 = t537 then (if t529 = t528 then (if t530 = t528 then (some (t531 == t528)) else (some false)) else (some false)) else (some false)) = some r := H
      have A15 := A_ A150;clear A150
      by_cases c16 : t528 = t537
      ·rw [if_pos c16] at H
       have c16b0 : (t528 == t537) = true := beq_iff_eq.mpr c16
       have c16b1 : (t528 != t537) = false := bne_eq_false_iff_eq.mpr c16
       clear c16
       by_cases c17 : t529 = t528
       ·rw [if_pos c17] at H
        have c17b0 : (t529 == t528) = true := beq_iff_eq.mpr c17
        have c17b1 : (t529 != t528) = false := bne_eq_false_iff_eq.mpr c17
        clear c17
        by_cases c18 : t530 = t528
        ·rw [if_pos c18] at H
         have c18b0 : (t530 == t528) = true := beq_iff_eq.mpr c18
         have c18b1 : (t530 != t528) = false := bne_eq_false_iff_eq.mpr c18
         clear c18
         obtain rfl := Option.some.inj H
         go_wp2_with (first | ((with_reducible refine gate_callee (f := 7) rfl ?_); refine gl_ (some 21) Try.func7 #[.int .i64 a0, .int .u64 a1] ?_; (with_reducible refine (whole_Ceil.calls kj4 a0 a1 t528 _ A9.out).mono ?_); rintro e w19 ⟨rfl, hb⟩; refine ⟨_, rfl, ?_⟩; replace HB := A_ (below_step (hb_ HB.out) hb); (try clear hb); (try clear hb2); (try clear hk); (try clear hi)) | ((with_reducible refine gate_callee (f := 8) rfl ?_); refine gl_ (some 24) Try.func8 #[.int .i64 a0, .int .u64 a1] ?_; (with_reducible refine (whole_Floor.calls kj4 a0 a1 t529 _ A10.out).mono ?_); rintro e w20 ⟨rfl, hb⟩; refine ⟨_, rfl, ?_⟩; replace HB := A_ (below_step (hb_ HB.out) hb); (try clear hb); (try clear hb2); (try clear hk); (try clear hi)) | ((with_reducible refine gate_callee (f := 9) rfl ?_); refine gl_ (some 27) Try.func9 #[.int .i64 a0, .int .u64 a1] ?_; (with_reducible refine (whole_Trunc.calls kj4 a0 a1 t530 _ A11.out).mono ?_); rintro e w21 ⟨rfl, hb⟩; refine ⟨_, rfl, ?_⟩; replace HB := A_ (below_step (hb_ HB.out) hb); (try clear hb); (try clear hb2); (try clear hk); (try clear hi)) | ((with_reducible refine gate_callee (f := 10) rfl ?_); refine gl_ (some 30) Try.func10 #[.int .i64 a0, .int .u64 a1] ?_; (with_reducible refine (whole_Nearest.calls kj4 a0 a1 t531 _ A12.out).mono ?_); rintro e w22 ⟨rfl, hb⟩; refine ⟨_, rfl, ?_⟩; replace HB := A_ (below_step (hb_ HB.out) hb); (try clear hb); (try clear hb2); (try clear hk); (try clear hi)) | ((with_reducible refine gate_callee (f := 16) rfl ?_); refine gl_ (some 33) Try.func16 #[.int .i64 a0, .int .u64 a1] ?_; (with_reducible refine (shape_Open.calls kj4 a0 a1 t532 t533 t534 t535 _ A13.out).mono ?_); rintro e w23 ⟨rfl, hb⟩; refine ⟨_, rfl, ?_⟩; replace HB := A_ (below_step (hb_ HB.out) hb); (try clear hb); (try clear hb2); (try clear hk); (try clear hi)) | ((with_reducible refine gate_dst (N := 9) rfl ?_); refine be_ 9 #[.bool false, .int .i64 0, .int .i64 0, .int .u64 0] 36 ?_; intro gb536 hg w24 hbox hb; have BK536 := A_ (hbox); have GW536 := A_ (sz_ hg (hb_ HB.out)); have GE536 := A_ (sz_ hg (hb_ HB.out)); replace HB := A_ (below_step (hb_ HB.out) hb); clear hb hbox hg; have hcz25_0 := bv_ BK536.out 0; have hcz25_1 := bv_ BK536.out 1; have hcz25_2 := bv_ BK536.out 2; have hcz25_3 := bv_ BK536.out 3; have hfz25_0 := blk_frozen BK536.out 0; have hfz25_1 := blk_frozen BK536.out 1; have hfz25_2 := blk_frozen BK536.out 2; have hfz25_3 := blk_frozen BK536.out 3) | ((with_reducible refine gate_callee (f := 17) rfl ?_); refine gl_ (some 39) Try.func17 #[.int .i64 a0] ?_; (with_reducible refine (shape_Nan.calls a0 t537 _ A15.out).mono ?_); rintro e w26 ⟨rfl, hb⟩; refine ⟨_, rfl, ?_⟩; replace BK536 := A_ (blk_below (g := gb536) (o := .cells #[.bool t532, .int .i64 t533, .int .i64 t534, .int .u64 t535] 36 (0, 0)) (by (with_reducible repeat (first | refine blk_drewN ?_ _ | refine blk_drew ?_ | refine blk_alloc ?_ _)); refine blk_put (cs := #[.bool t532, .int .i64 t533, .int .i64 t534, .int .u64 0]) ?_ 3 _ rfl; (with_reducible repeat (first | refine blk_drewN ?_ _ | refine blk_drew ?_ | refine blk_alloc ?_ _)); refine blk_put (cs := #[.bool t532, .int .i64 t533, .int .i64 0, .int .u64 0]) ?_ 2 _ rfl; (with_reducible repeat (first | refine blk_drewN ?_ _ | refine blk_drew ?_ | refine blk_alloc ?_ _)); refine blk_put (cs := #[.bool t532, .int .i64 0, .int .i64 0, .int .u64 0]) ?_ 1 _ rfl; (with_reducible repeat (first | refine blk_drewN ?_ _ | refine blk_drew ?_ | refine blk_alloc ?_ _)); refine blk_put (cs := #[.bool false, .int .i64 0, .int .i64 0, .int .u64 0]) ?_ 0 _ rfl; (with_reducible repeat (first | refine blk_drewN ?_ _ | refine blk_drew ?_ | refine blk_alloc ?_ _)); exact BK536.out) hb); replace HB := A_ (below_step (hb1_ HB.out GE536.out) hb); (try clear hb); (try clear hb2); (try clear hk); (try clear hi)))
         go_ret
         exact ⟨er_, hb1_ HB.out GE536.out⟩
        ·rw [if_neg c18] at H
         have c18b0 : (t530 == t528) = false := beq_eq_false_iff_ne.mpr c18
         have c18b1 : (t530 != t528) = true := bne_iff_ne.mpr c18
         exact absurd ((Option.some.inj H).trans hr_.out) (by decide)
       ·rw [if_neg c17] at H
        have c17b0 : (t529 == t528) = false := beq_eq_false_iff_ne.mpr c17
        have c17b1 : (t529 != t528) = true := bne_iff_ne.mpr c17
        exact absurd ((Option.some.inj H).trans hr_.out) (by decide)
      ·rw [if_neg c16] at H
       have c16b0 : (t528 == t537) = false := beq_eq_false_iff_ne.mpr c16
       have c16b1 : (t528 != t537) = true := bne_iff_ne.mpr c16
       exact absurd ((Option.some.inj H).trans hr_.out) (by decide)
     ·rw [if_neg c14] at H
      have c14b0 : (t533 == 3) = false := beq_eq_false_iff_ne.mpr c14
      have c14b1 : (t533 != 3) = true := bne_iff_ne.mpr c14
      have HC27 := A_ H;clear H
      go_upto_region 9 with (first | ((with_reducible refine gate_callee (f := 7) rfl ?_); refine gl_ (some 21) Try.func7 #[.int .i64 a0, .int .u64 a1] ?_; (with_reducible refine (whole_Ceil.calls kj4 a0 a1 t528 _ A9.out).mono ?_); rintro e w28 ⟨rfl, hb⟩; refine ⟨_, rfl, ?_⟩; replace HB := A_ (below_step (hb_ HB.out) hb); (try clear hb); (try clear hb2); (try clear hk); (try clear hi)) | ((with_reducible refine gate_callee (f := 8) rfl ?_); refine gl_ (some 24) Try.func8 #[.int .i64 a0, .int .u64 a1] ?_; (with_reducible refine (whole_Floor.calls kj4 a0 a1 t529 _ A10.out).mono ?_); rintro e w29 ⟨rfl, hb⟩; refine ⟨_, rfl, ?_⟩; replace HB := A_ (below_step (hb_ HB.out) hb); (try clear hb); (try clear hb2); (try clear hk); (try clear hi)) | ((with_reducible refine gate_callee (f := 9) rfl ?_); refine gl_ (some 27) Try.func9 #[.int .i64 a0, .int .u64 a1] ?_; (with_reducible refine (whole_Trunc.calls kj4 a0 a1 t530 _ A11.out).mono ?_); rintro e w30 ⟨rfl, hb⟩; refine ⟨_, rfl, ?_⟩; replace HB := A_ (below_step (hb_ HB.out) hb); (try clear hb); (try clear hb2); (try clear hk); (try clear hi)) | ((with_reducible refine gate_callee (f := 10) rfl ?_); refine gl_ (some 30) Try.func10 #[.int .i64 a0, .int .u64 a1] ?_; (with_reducible refine (whole_Nearest.calls kj4 a0 a1 t531 _ A12.out).mono ?_); rintro e w31 ⟨rfl, hb⟩; refine ⟨_, rfl, ?_⟩; replace HB := A_ (below_step (hb_ HB.out) hb); (try clear hb); (try clear hb2); (try clear hk); (try clear hi)) | ((with_reducible refine gate_callee (f := 16) rfl ?_); refine gl_ (some 33) Try.func16 #[.int .i64 a0, .int .u64 a1] ?_; (with_reducible refine (shape_Open.calls kj4 a0 a1 t532 t533 t534 t535 _ A13.out).mono ?_); rintro e w32 ⟨rfl, hb⟩; refine ⟨_, rfl, ?_⟩; replace HB := A_ (below_step (hb_ HB.out) hb); (try clear hb); (try clear hb2); (try clear hk); (try clear hi)) | ((with_reducible refine gate_dst (N := 9) rfl ?_); refine be_ 9 #[.bool false, .int .i64 0, .int .i64 0, .int .u64 0] 36 ?_; intro gb536 hg w33 hbox hb; have BK536 := A_ (hbox); have GW536 := A_ (sz_ hg (hb_ HB.out)); have GE536 := A_ (sz_ hg (hb_ HB.out)); replace HB := A_ (below_step (hb_ HB.out) hb); clear hb hbox hg; have hcz34_0 := bv_ BK536.out 0; have hcz34_1 := bv_ BK536.out 1; have hcz34_2 := bv_ BK536.out 2; have hcz34_3 := bv_ BK536.out 3; have hfz34_0 := blk_frozen BK536.out 0; have hfz34_1 := blk_frozen BK536.out 1; have hfz34_2 := blk_frozen BK536.out 2; have hfz34_3 := blk_frozen BK536.out 3))
      (try simp only [Act.put, lI_, l0_, lS_])
      go_cut [63] (fun v63 wc => ∃ (kq : Nat) (x63_26 : Bool), v63 = .bool x63_26 ∧ Aside0 (L09_WholeKeeps.j1 kq a0 a1 t528 t529 t530 t531 x63_26 t532 t533 t534 t535 = some r) ∧ Aside0 (kq ≤ kj4) ∧ Aside0 (wc.heap[gb536]? = some (.cells #[.bool t532, .int .i64 t533, .int .i64 t534, .int .u64 t535] 36 (0, 0))) ∧ Aside0 (Below w.heap.size w wc))
      case first =>
       have H := HC27.out
       clear HC27
       replace H := ob_ H
       obtain ⟨t538, A350, H⟩ := H
       replace H : (if t538 = true then (L09_WholeKeeps.j1 kj4 a0 a1 t528 t529 t530 t531 true t532 t533 t534 t535) else (L09_WholeKeeps.j1 kj4 a0 a1 t528 t529 t530 t531 (t533 == 2) t532 t533 t534 t535)) = some r := H
       have A35 := A_ A350;clear A350
       by_cases c36 : t538 = true
       ·subst c36
        have H1 : (L09_WholeKeeps.j1 kj4 a0 a1 t528 t529 t530 t531 true t532 t533 t534 t535) = some r := by rw [if_pos rfl] at H; exact H
        clear H;have H := H1;clear H1
        have H' := A_ H
        clear H
        go_wp2_with (first | ((with_reducible refine gate_callee (f := 13) rfl ?_); refine gl_ (some 58) Try.func13 #[.int .i64 a0, .int .u64 a1] ?_; (with_reducible refine (whole_IsWhole.calls kj4 a0 a1 true _ A35.out).mono ?_); rintro e w37 ⟨rfl, hb⟩; refine ⟨_, rfl, ?_⟩; replace BK536 := A_ (blk_below (g := gb536) (o := .cells #[.bool t532, .int .i64 t533, .int .i64 t534, .int .u64 t535] 36 (0, 0)) (by (with_reducible repeat (first | refine blk_drewN ?_ _ | refine blk_drew ?_ | refine blk_alloc ?_ _)); refine blk_put (cs := #[.bool t532, .int .i64 t533, .int .i64 t534, .int .u64 0]) ?_ 3 _ rfl; (with_reducible repeat (first | refine blk_drewN ?_ _ | refine blk_drew ?_ | refine blk_alloc ?_ _)); refine blk_put (cs := #[.bool t532, .int .i64 t533, .int .i64 0, .int .u64 0]) ?_ 2 _ rfl; (with_reducible repeat (first | refine blk_drewN ?_ _ | refine blk_drew ?_ | refine blk_alloc ?_ _)); refine blk_put (cs := #[.bool t532, .int .i64 0, .int .i64 0, .int .u64 0]) ?_ 1 _ rfl; (with_reducible repeat (first | refine blk_drewN ?_ _ | refine blk_drew ?_ | refine blk_alloc ?_ _)); refine blk_put (cs := #[.bool false, .int .i64 0, .int .i64 0, .int .u64 0]) ?_ 0 _ rfl; (with_reducible repeat (first | refine blk_drewN ?_ _ | refine blk_drew ?_ | refine blk_alloc ?_ _)); exact BK536.out) hb); replace HB := A_ (below_step (hb1_ HB.out GE536.out) hb); (try clear hb); (try clear hb2); (try clear hk); (try clear hi)))
        go_meet
        case rel => exact ⟨_, (true), sm_, H', ⟨by have := HJ4.out; first | omega | exact Nat.le_refl _⟩, ⟨bk_ BK536.out⟩, ⟨hb1_ HB.out GE536.out⟩⟩
       ·replace c36 := Bool.eq_false_iff.mpr c36
        subst c36
        have H1 : (L09_WholeKeeps.j1 kj4 a0 a1 t528 t529 t530 t531 (t533 == 2) t532 t533 t534 t535) = some r := by rw [if_neg (show ¬ (false = true) by decide)] at H; exact H
        clear H;have H := H1;clear H1
        have H' := A_ H
        clear H
        go_wp2_with (first | ((with_reducible refine gate_callee (f := 13) rfl ?_); refine gl_ (some 58) Try.func13 #[.int .i64 a0, .int .u64 a1] ?_; (with_reducible refine (whole_IsWhole.calls kj4 a0 a1 false _ A35.out).mono ?_); rintro e w38 ⟨rfl, hb⟩; refine ⟨_, rfl, ?_⟩; replace BK536 := A_ (blk_below (g := gb536) (o := .cells #[.bool t532, .int .i64 t533, .int .i64 t534, .int .u64 t535] 36 (0, 0)) (by (with_reducible repeat (first | refine blk_drewN ?_ _ | refine blk_drew ?_ | refine blk_alloc ?_ _)); refine blk_put (cs := #[.bool t532, .int .i64 t533, .int .i64 t534, .int .u64 0]) ?_ 3 _ rfl; (with_reducible repeat (first | refine blk_drewN ?_ _ | refine blk_drew ?_ | refine blk_alloc ?_ _)); refine blk_put (cs := #[.bool t532, .int .i64 t533, .int .i64 0, .int .u64 0]) ?_ 2 _ rfl; (with_reducible repeat (first | refine blk_drewN ?_ _ | refine blk_drew ?_ | refine blk_alloc ?_ _)); refine blk_put (cs := #[.bool t532, .int .i64 0, .int .i64 0, .int .u64 0]) ?_ 1 _ rfl; (with_reducible repeat (first | refine blk_drewN ?_ _ | refine blk_drew ?_ | refine blk_alloc ?_ _)); refine blk_put (cs := #[.bool false, .int .i64 0, .int .i64 0, .int .u64 0]) ?_ 0 _ rfl; (with_reducible repeat (first | refine blk_drewN ?_ _ | refine blk_drew ?_ | refine blk_alloc ?_ _)); exact BK536.out) hb); replace HB := A_ (below_step (hb1_ HB.out GE536.out) hb); (try clear hb); (try clear hb2); (try clear hk); (try clear hi); have hcz39_0 := bv_ BK536.out 0; have hcz39_1 := bv_ BK536.out 1; have hcz39_2 := bv_ BK536.out 2; have hcz39_3 := bv_ BK536.out 3; have hfz39_0 := blk_frozen BK536.out 0; have hfz39_1 := blk_frozen BK536.out 1; have hfz39_2 := blk_frozen BK536.out 2; have hfz39_3 := blk_frozen BK536.out 3))
        go_meet
        case rel => exact ⟨_, ((t533 == 2)), sm_, H', ⟨by have := HJ4.out; first | omega | exact Nat.le_refl _⟩, ⟨bk_ BK536.out⟩, ⟨hb1_ HB.out GE536.out⟩⟩
      case rest =>
       clear HC27
       try clear c1
       try clear p2
       try clear c3
       try clear c4
       try clear c6
       try clear c7
       try clear c7b0
       try clear c7b1
       try clear c8
       try clear c9
       try clear c10
       try clear c13
       try clear c14
       try clear c14b0
       try clear c14b1
       try clear c16
       try clear c16b0
       try clear c16b1
       try clear c17
       try clear c17b0
       try clear c17b1
       try clear c18
       try clear c18b0
       try clear c18b1
       try clear c36
       try clear hcz25_0
       try clear hcz25_1
       try clear hcz25_2
       try clear hcz25_3
       try clear hcz34_0
       try clear hcz34_1
       try clear hcz34_2
       try clear hcz34_3
       try clear hcz39_0
       try clear hcz39_1
       try clear hcz39_2
       try clear hcz39_3
       try clear hfz25_0
       try clear hfz25_1
       try clear hfz25_2
       try clear hfz25_3
       try clear hfz34_0
       try clear hfz34_1
       try clear hfz34_2
       try clear hfz34_3
       try clear hfz39_0
       try clear hfz39_1
       try clear hfz39_2
       try clear hfz39_3
       try clear p2
       obtain ⟨kq, x63_26, rfl, HA, HJ26, BK536, HB⟩ := hcut
       cases kq with
       | zero => exact absurd HA.out (by simp [L09_WholeKeeps.j1])
       | succ kj26 =>
        have H := HA.out
        clear HA
        simp only [L09_WholeKeeps.j1] at H
        by_cases c40 : x63_26 = true
        ·subst c40
         have H1 : ((shape_Cut.f a0 a1).bind fun t539 => (if t528 = t539 then (if t529 = t539 then (if t530 = t539 then (some (t531 == t539)) else (some false)) else (some false)) else (some false))) = some r := by rw [if_pos rfl] at H; exact H
         clear H;have H := H1;clear H1
         replace H := ob_ H
         obtain ⟨t539, A410, H⟩ := H
         replace H : (if t528 = t539 then (if t529 = t539 then (if t530 = t539 then (some (t531 == t539)) else (some false)) else (some false)) else (some false)) = some r := H
         have A41 := A_ A410;clear A410
         by_cases c42 : t528 = t539
         ·rw [if_pos c42] at H
          have c42b0 : (t528 == t539) = true := beq_iff_eq.mpr c42
          have c42b1 : (t528 != t539) = false := bne_eq_false_iff_eq.mpr c42
          clear c42
          by_cases c43 : t529 = t539
          ·rw [if_pos c43] at H
           have c43b0 : (t529 == t539) = true := beq_iff_eq.mpr c43
           have c43b1 : (t529 != t539) = false := bne_eq_false_iff_eq.mpr c43
           clear c43
           by_cases c44 : t530 = t539
           ·rw [if_pos c44] at H
            have c44b0 : (t530 == t539) = true := beq_iff_eq.mpr c44
            have c44b1 : (t530 != t539) = false := bne_eq_false_iff_eq.mpr c44
            clear c44
            obtain rfl := Option.some.inj H
            go_wp2_with (first | ((with_reducible refine gate_callee (f := 18) rfl ?_); refine gl_ (some 66) Try.func18 #[.int .i64 a0, .int .u64 a1] ?_; (with_reducible refine (shape_Cut.calls a0 a1 t539 _ A41.out).mono ?_); rintro e w' ⟨rfl, ⟨nd, rfl⟩⟩; refine ⟨_, rfl, ?_⟩))
            go_ret
            exact ⟨er_, hb1_ HB.out GE536.out⟩
           ·rw [if_neg c44] at H
            have c44b0 : (t530 == t539) = false := beq_eq_false_iff_ne.mpr c44
            have c44b1 : (t530 != t539) = true := bne_iff_ne.mpr c44
            exact absurd ((Option.some.inj H).trans hr_.out) (by decide)
          ·rw [if_neg c43] at H
           have c43b0 : (t529 == t539) = false := beq_eq_false_iff_ne.mpr c43
           have c43b1 : (t529 != t539) = true := bne_iff_ne.mpr c43
           exact absurd ((Option.some.inj H).trans hr_.out) (by decide)
         ·rw [if_neg c42] at H
          have c42b0 : (t528 == t539) = false := beq_eq_false_iff_ne.mpr c42
          have c42b1 : (t528 != t539) = true := bne_iff_ne.mpr c42
          exact absurd ((Option.some.inj H).trans hr_.out) (by decide)
        ·replace c40 := Bool.eq_false_iff.mpr c40
         subst c40
         have H1 : ((order_Lt.f kj26 a0 t529 a1).bind fun t540 => (if t540 = true then ((order_Lt.f kj26 a0 a1 t528).bind fun t541 => (if t541 = true then ((whole_IsWhole.f kj26 a0 t528).bind fun t542 => (if t542 = true then ((whole_IsWhole.f kj26 a0 t529).bind fun t543 => (if t543 = true then (if t531 = t528 then (L09_WholeKeeps.j2 kj26 t528 t529 t530 false t532 t533 t534 t535) else (L09_WholeKeeps.j2 kj26 t528 t529 t530 (t531 != t529) t532 t533 t534 t535)) else (L09_WholeKeeps.j2 kj26 t528 t529 t530 true t532 t533 t534 t535))) else (L09_WholeKeeps.j2 kj26 t528 t529 t530 true t532 t533 t534 t535))) else (L09_WholeKeeps.j2 kj26 t528 t529 t530 true t532 t533 t534 t535))) else (L09_WholeKeeps.j2 kj26 t528 t529 t530 true t532 t533 t534 t535))) = some r := by rw [if_neg (show ¬ (false = true) by decide)] at H; exact H
         clear H;have H := H1;clear H1;have HC45 := A_ H;clear H
         go_upto_region 12 with (fail)
         go_cut [118] (fun v118 wc => ∃ (kq : Nat) (x118_44 : Bool), v118 = .bool x118_44 ∧ Aside0 (L09_WholeKeeps.j2 kq t528 t529 t530 x118_44 t532 t533 t534 t535 = some r) ∧ Aside0 (kq ≤ kj26) ∧ Aside0 (wc.heap[gb536]? = some (.cells #[.bool t532, .int .i64 t533, .int .i64 t534, .int .u64 t535] 36 (0, 0))) ∧ Aside0 (Below w.heap.size w wc))
         case first =>
          have H := HC45.out
          clear HC45
          replace H := ob_ H
          obtain ⟨t540, A460, H⟩ := H
          replace H : (if t540 = true then ((order_Lt.f kj26 a0 a1 t528).bind fun t541 => (if t541 = true then ((whole_IsWhole.f kj26 a0 t528).bind fun t542 => (if t542 = true then ((whole_IsWhole.f kj26 a0 t529).bind fun t543 => (if t543 = true then (if t531 = t528 then (L09_WholeKeeps.j2 kj26 t528 t529 t530 false t532 t533 t534 t535) else (L09_WholeKeeps.j2 kj26 t528 t529 t530 (t531 != t529) t532 t533 t534 t535)) else (L09_WholeKeeps.j2 kj26 t528 t529 t530 true t532 t533 t534 t535))) else (L09_WholeKeeps.j2 kj26 t528 t529 t530 true t532 t533 t534 t535))) else (L09_WholeKeeps.j2 kj26 t528 t529 t530 true t532 t533 t534 t535))) else (L09_WholeKeeps.j2 kj26 t528 t529 t530 true t532 t533 t534 t535)) = some r := H
          have A46 := A_ A460;clear A460
          by_cases c47 : t540 = true
          ·subst c47
           have H1 : ((order_Lt.f kj26 a0 a1 t528).bind fun t541 => (if t541 = true then ((whole_IsWhole.f kj26 a0 t528).bind fun t542 => (if t542 = true then ((whole_IsWhole.f kj26 a0 t529).bind fun t543 => (if t543 = true then (if t531 = t528 then (L09_WholeKeeps.j2 kj26 t528 t529 t530 false t532 t533 t534 t535) else (L09_WholeKeeps.j2 kj26 t528 t529 t530 (t531 != t529) t532 t533 t534 t535)) else (L09_WholeKeeps.j2 kj26 t528 t529 t530 true t532 t533 t534 t535))) else (L09_WholeKeeps.j2 kj26 t528 t529 t530 true t532 t533 t534 t535))) else (L09_WholeKeeps.j2 kj26 t528 t529 t530 true t532 t533 t534 t535))) = some r := by rw [if_pos rfl] at H; exact H
           clear H;have H := H1;clear H1
           replace H := ob_ H
           obtain ⟨t541, A480, H⟩ := H
           replace H : (if t541 = true then ((whole_IsWhole.f kj26 a0 t528).bind fun t542 => (if t542 = true then ((whole_IsWhole.f kj26 a0 t529).bind fun t543 => (if t543 = true then (if t531 = t528 then (L09_WholeKeeps.j2 kj26 t528 t529 t530 false t532 t533 t534 t535) else (L09_WholeKeeps.j2 kj26 t528 t529 t530 (t531 != t529) t532 t533 t534 t535)) else (L09_WholeKeeps.j2 kj26 t528 t529 t530 true t532 t533 t534 t535))) else (L09_WholeKeeps.j2 kj26 t528 t529 t530 true t532 t533 t534 t535))) else (L09_WholeKeeps.j2 kj26 t528 t529 t530 true t532 t533 t534 t535)) = some r := H
           have A48 := A_ A480;clear A480
           by_cases c49 : t541 = true
           ·subst c49
            have H1 : ((whole_IsWhole.f kj26 a0 t528).bind fun t542 => (if t542 = true then ((whole_IsWhole.f kj26 a0 t529).bind fun t543 => (if t543 = true then (if t531 = t528 then (L09_WholeKeeps.j2 kj26 t528 t529 t530 false t532 t533 t534 t535) else (L09_WholeKeeps.j2 kj26 t528 t529 t530 (t531 != t529) t532 t533 t534 t535)) else (L09_WholeKeeps.j2 kj26 t528 t529 t530 true t532 t533 t534 t535))) else (L09_WholeKeeps.j2 kj26 t528 t529 t530 true t532 t533 t534 t535))) = some r := by rw [if_pos rfl] at H; exact H
            clear H;have H := H1;clear H1
            replace H := ob_ H
            obtain ⟨t542, A500, H⟩ := H
            replace H : (if t542 = true then ((whole_IsWhole.f kj26 a0 t529).bind fun t543 => (if t543 = true then (if t531 = t528 then (L09_WholeKeeps.j2 kj26 t528 t529 t530 false t532 t533 t534 t535) else (L09_WholeKeeps.j2 kj26 t528 t529 t530 (t531 != t529) t532 t533 t534 t535)) else (L09_WholeKeeps.j2 kj26 t528 t529 t530 true t532 t533 t534 t535))) else (L09_WholeKeeps.j2 kj26 t528 t529 t530 true t532 t533 t534 t535)) = some r := H
            have A50 := A_ A500;clear A500
            by_cases c51 : t542 = true
            ·subst c51
             have H1 : ((whole_IsWhole.f kj26 a0 t529).bind fun t543 => (if t543 = true then (if t531 = t528 then (L09_WholeKeeps.j2 kj26 t528 t529 t530 false t532 t533 t534 t535) else (L09_WholeKeeps.j2 kj26 t528 t529 t530 (t531 != t529) t532 t533 t534 t535)) else (L09_WholeKeeps.j2 kj26 t528 t529 t530 true t532 t533 t534 t535))) = some r := by rw [if_pos rfl] at H; exact H
             clear H;have H := H1;clear H1
             replace H := ob_ H
             obtain ⟨t543, A520, H⟩ := H
             replace H : (if t543 = true then (if t531 = t528 then (L09_WholeKeeps.j2 kj26 t528 t529 t530 false t532 t533 t534 t535) else (L09_WholeKeeps.j2 kj26 t528 t529 t530 (t531 != t529) t532 t533 t534 t535)) else (L09_WholeKeeps.j2 kj26 t528 t529 t530 true t532 t533 t534 t535)) = some r := H
             have A52 := A_ A520;clear A520
             by_cases c53 : t543 = true
             ·subst c53
              have H1 : (if t531 = t528 then (L09_WholeKeeps.j2 kj26 t528 t529 t530 false t532 t533 t534 t535) else (L09_WholeKeeps.j2 kj26 t528 t529 t530 (t531 != t529) t532 t533 t534 t535)) = some r := by rw [if_pos rfl] at H; exact H
              clear H;have H := H1;clear H1
              by_cases c54 : t531 = t528
              ·rw [if_pos c54] at H
               have c54b0 : (t531 == t528) = true := beq_iff_eq.mpr c54
               have c54b1 : (t531 != t528) = false := bne_eq_false_iff_eq.mpr c54
               clear c54
               (first | rw [c54b0] | (simp only [i64_w, i32_w]; rw [c54b0]) | skip)
               have H' := A_ H
               clear H
               go_wp2_with (first | ((with_reducible refine gate_callee (f := 19) rfl ?_); refine gl_ (some 88) Try.func19 #[.int .i64 a0, .int .u64 t529, .int .u64 a1] ?_; (with_reducible refine (order_Lt.calls kj26 a0 t529 a1 true _ A46.out).mono ?_); rintro e w55 ⟨rfl, hb⟩; refine ⟨_, rfl, ?_⟩; replace BK536 := A_ (bb_ BK536.out hb); replace HB := A_ (below_step (hb1_ HB.out GE536.out) hb); (try clear hb); (try clear hb2); (try clear hk); (try clear hi)) | (go_at_call 19; (with_reducible refine (order_Lt.calls kj26 a0 a1 t528 true _ A48.out).mono ?_); rintro e w56 ⟨rfl, hb⟩; replace BK536 := A_ (bb_ BK536.out hb); replace HB := A_ (below_step (hb1_ HB.out GE536.out) hb); (try clear hb); (try clear hb2); (try clear hk); (try clear hi)) | (go_at_call 13; (with_reducible refine (whole_IsWhole.calls kj26 a0 t528 true _ A50.out).mono ?_); rintro e w57 ⟨rfl, hb⟩; replace BK536 := A_ (bb_ BK536.out hb); replace HB := A_ (below_step (hb1_ HB.out GE536.out) hb); (try clear hb); (try clear hb2); (try clear hk); (try clear hi)) | (go_at_call 13; (with_reducible refine (whole_IsWhole.calls kj26 a0 t529 true _ A52.out).mono ?_); rintro e w58 ⟨rfl, hb⟩; replace BK536 := A_ (bb_ BK536.out hb); replace HB := A_ (below_step (hb1_ HB.out GE536.out) hb); (try clear hb); (try clear hb2); (try clear hk); (try clear hi)))
               go_meet
               case rel => exact ⟨_, (false), sm_, H', ⟨by have := HJ4.out; have := HJ26.out; first | omega | exact Nat.le_refl _⟩, ⟨bk_ BK536.out⟩, ⟨hb1_ HB.out GE536.out⟩⟩
              ·rw [if_neg c54] at H
               have c54b0 : (t531 == t528) = false := beq_eq_false_iff_ne.mpr c54
               have c54b1 : (t531 != t528) = true := bne_iff_ne.mpr c54
               (first | rw [c54b0] | (simp only [i64_w, i32_w]; rw [c54b0]) | skip)
               have H' := A_ H
               clear H
               go_wp2_with (first | ((with_reducible refine gate_callee (f := 19) rfl ?_); refine gl_ (some 88) Try.func19 #[.int .i64 a0, .int .u64 t529, .int .u64 a1] ?_; (with_reducible refine (order_Lt.calls kj26 a0 t529 a1 true _ A46.out).mono ?_); rintro e w59 ⟨rfl, hb⟩; refine ⟨_, rfl, ?_⟩; replace BK536 := A_ (bb_ BK536.out hb); replace HB := A_ (below_step (hb1_ HB.out GE536.out) hb); (try clear hb); (try clear hb2); (try clear hk); (try clear hi)) | (go_at_call 19; (with_reducible refine (order_Lt.calls kj26 a0 a1 t528 true _ A48.out).mono ?_); rintro e w60 ⟨rfl, hb⟩; replace BK536 := A_ (bb_ BK536.out hb); replace HB := A_ (below_step (hb1_ HB.out GE536.out) hb); (try clear hb); (try clear hb2); (try clear hk); (try clear hi)) | (go_at_call 13; (with_reducible refine (whole_IsWhole.calls kj26 a0 t528 true _ A50.out).mono ?_); rintro e w61 ⟨rfl, hb⟩; replace BK536 := A_ (bb_ BK536.out hb); replace HB := A_ (below_step (hb1_ HB.out GE536.out) hb); (try clear hb); (try clear hb2); (try clear hk); (try clear hi)) | (go_at_call 13; (with_reducible refine (whole_IsWhole.calls kj26 a0 t529 true _ A52.out).mono ?_); rintro e w62 ⟨rfl, hb⟩; replace BK536 := A_ (bb_ BK536.out hb); replace HB := A_ (below_step (hb1_ HB.out GE536.out) hb); (try clear hb); (try clear hb2); (try clear hk); (try clear hi)))
               go_meet
               case rel => exact ⟨_, ((t531 != t529)), sm_, H', ⟨by have := HJ4.out; have := HJ26.out; first | omega | exact Nat.le_refl _⟩, ⟨bk_ BK536.out⟩, ⟨hb1_ HB.out GE536.out⟩⟩
             ·replace c53 := Bool.eq_false_iff.mpr c53
              subst c53
              have H1 : (L09_WholeKeeps.j2 kj26 t528 t529 t530 true t532 t533 t534 t535) = some r := by rw [if_neg (show ¬ (false = true) by decide)] at H; exact H
              clear H;have H := H1;clear H1
              have H' := A_ H
              clear H
              go_wp2_with (first | ((with_reducible refine gate_callee (f := 19) rfl ?_); refine gl_ (some 88) Try.func19 #[.int .i64 a0, .int .u64 t529, .int .u64 a1] ?_; (with_reducible refine (order_Lt.calls kj26 a0 t529 a1 true _ A46.out).mono ?_); rintro e w63 ⟨rfl, hb⟩; refine ⟨_, rfl, ?_⟩; replace BK536 := A_ (bb_ BK536.out hb); replace HB := A_ (below_step (hb1_ HB.out GE536.out) hb); (try clear hb); (try clear hb2); (try clear hk); (try clear hi)) | (go_at_call 19; (with_reducible refine (order_Lt.calls kj26 a0 a1 t528 true _ A48.out).mono ?_); rintro e w64 ⟨rfl, hb⟩; replace BK536 := A_ (bb_ BK536.out hb); replace HB := A_ (below_step (hb1_ HB.out GE536.out) hb); (try clear hb); (try clear hb2); (try clear hk); (try clear hi)) | (go_at_call 13; (with_reducible refine (whole_IsWhole.calls kj26 a0 t528 true _ A50.out).mono ?_); rintro e w65 ⟨rfl, hb⟩; replace BK536 := A_ (bb_ BK536.out hb); replace HB := A_ (below_step (hb1_ HB.out GE536.out) hb); (try clear hb); (try clear hb2); (try clear hk); (try clear hi)) | (go_at_call 13; (with_reducible refine (whole_IsWhole.calls kj26 a0 t529 false _ A52.out).mono ?_); rintro e w66 ⟨rfl, hb⟩; replace BK536 := A_ (bb_ BK536.out hb); replace HB := A_ (below_step (hb1_ HB.out GE536.out) hb); (try clear hb); (try clear hb2); (try clear hk); (try clear hi)))
              go_meet
              case rel => exact ⟨_, (true), sm_, H', ⟨by have := HJ4.out; have := HJ26.out; first | omega | exact Nat.le_refl _⟩, ⟨bk_ BK536.out⟩, ⟨hb1_ HB.out GE536.out⟩⟩
            ·replace c51 := Bool.eq_false_iff.mpr c51
             subst c51
             have H1 : (L09_WholeKeeps.j2 kj26 t528 t529 t530 true t532 t533 t534 t535) = some r := by rw [if_neg (show ¬ (false = true) by decide)] at H; exact H
             clear H;have H := H1;clear H1
             have H' := A_ H
             clear H
             go_wp2_with (first | ((with_reducible refine gate_callee (f := 19) rfl ?_); refine gl_ (some 88) Try.func19 #[.int .i64 a0, .int .u64 t529, .int .u64 a1] ?_; (with_reducible refine (order_Lt.calls kj26 a0 t529 a1 true _ A46.out).mono ?_); rintro e w67 ⟨rfl, hb⟩; refine ⟨_, rfl, ?_⟩; replace BK536 := A_ (bb_ BK536.out hb); replace HB := A_ (below_step (hb1_ HB.out GE536.out) hb); (try clear hb); (try clear hb2); (try clear hk); (try clear hi)) | (go_at_call 19; (with_reducible refine (order_Lt.calls kj26 a0 a1 t528 true _ A48.out).mono ?_); rintro e w68 ⟨rfl, hb⟩; replace BK536 := A_ (bb_ BK536.out hb); replace HB := A_ (below_step (hb1_ HB.out GE536.out) hb); (try clear hb); (try clear hb2); (try clear hk); (try clear hi)) | (go_at_call 13; (with_reducible refine (whole_IsWhole.calls kj26 a0 t528 false _ A50.out).mono ?_); rintro e w69 ⟨rfl, hb⟩; replace BK536 := A_ (bb_ BK536.out hb); replace HB := A_ (below_step (hb1_ HB.out GE536.out) hb); (try clear hb); (try clear hb2); (try clear hk); (try clear hi)))
             go_meet
             case rel => exact ⟨_, (true), sm_, H', ⟨by have := HJ4.out; have := HJ26.out; first | omega | exact Nat.le_refl _⟩, ⟨bk_ BK536.out⟩, ⟨hb1_ HB.out GE536.out⟩⟩
           ·replace c49 := Bool.eq_false_iff.mpr c49
            subst c49
            have H1 : (L09_WholeKeeps.j2 kj26 t528 t529 t530 true t532 t533 t534 t535) = some r := by rw [if_neg (show ¬ (false = true) by decide)] at H; exact H
            clear H;have H := H1;clear H1
            have H' := A_ H
            clear H
            go_wp2_with (first | ((with_reducible refine gate_callee (f := 19) rfl ?_); refine gl_ (some 88) Try.func19 #[.int .i64 a0, .int .u64 t529, .int .u64 a1] ?_; (with_reducible refine (order_Lt.calls kj26 a0 t529 a1 true _ A46.out).mono ?_); rintro e w70 ⟨rfl, hb⟩; refine ⟨_, rfl, ?_⟩; replace BK536 := A_ (bb_ BK536.out hb); replace HB := A_ (below_step (hb1_ HB.out GE536.out) hb); (try clear hb); (try clear hb2); (try clear hk); (try clear hi)) | (go_at_call 19; (with_reducible refine (order_Lt.calls kj26 a0 a1 t528 false _ A48.out).mono ?_); rintro e w71 ⟨rfl, hb⟩; replace BK536 := A_ (bb_ BK536.out hb); replace HB := A_ (below_step (hb1_ HB.out GE536.out) hb); (try clear hb); (try clear hb2); (try clear hk); (try clear hi)))
            go_meet
            case rel => exact ⟨_, (true), sm_, H', ⟨by have := HJ4.out; have := HJ26.out; first | omega | exact Nat.le_refl _⟩, ⟨bk_ BK536.out⟩, ⟨hb1_ HB.out GE536.out⟩⟩
          ·replace c47 := Bool.eq_false_iff.mpr c47
           subst c47
           have H1 : (L09_WholeKeeps.j2 kj26 t528 t529 t530 true t532 t533 t534 t535) = some r := by rw [if_neg (show ¬ (false = true) by decide)] at H; exact H
           clear H;have H := H1;clear H1
           have H' := A_ H
           clear H
           go_wp2_with (first | ((with_reducible refine gate_callee (f := 19) rfl ?_); refine gl_ (some 88) Try.func19 #[.int .i64 a0, .int .u64 t529, .int .u64 a1] ?_; (with_reducible refine (order_Lt.calls kj26 a0 t529 a1 false _ A46.out).mono ?_); rintro e w72 ⟨rfl, hb⟩; refine ⟨_, rfl, ?_⟩; replace BK536 := A_ (bb_ BK536.out hb); replace HB := A_ (below_step (hb1_ HB.out GE536.out) hb); (try clear hb); (try clear hb2); (try clear hk); (try clear hi)))
           go_meet
           case rel => exact ⟨_, (true), sm_, H', ⟨by have := HJ4.out; have := HJ26.out; first | omega | exact Nat.le_refl _⟩, ⟨bk_ BK536.out⟩, ⟨hb1_ HB.out GE536.out⟩⟩
         case rest =>
          clear HC45
          try clear c1
          try clear p2
          try clear c3
          try clear c4
          try clear c5
          try clear c6
          try clear c7
          try clear c7b0
          try clear c7b1
          try clear c8
          try clear c9
          try clear c10
          try clear c13
          try clear c14
          try clear c14b0
          try clear c14b1
          try clear c16
          try clear c16b0
          try clear c16b1
          try clear c17
          try clear c17b0
          try clear c17b1
          try clear c18
          try clear c18b0
          try clear c18b1
          try clear c19
          try clear c36
          try clear c40
          try clear c42
          try clear c42b0
          try clear c42b1
          try clear c43
          try clear c43b0
          try clear c43b1
          try clear c44
          try clear c44b0
          try clear c44b1
          try clear c47
          try clear c49
          try clear c51
          try clear c53
          try clear c54
          try clear c54b0
          try clear c54b1
          try clear hcz25_0
          try clear hcz25_1
          try clear hcz25_2
          try clear hcz25_3
          try clear hcz34_0
          try clear hcz34_1
          try clear hcz34_2
          try clear hcz34_3
          try clear hcz39_0
          try clear hcz39_1
          try clear hcz39_2
          try clear hcz39_3
          try clear hfz25_0
          try clear hfz25_1
          try clear hfz25_2
          try clear hfz25_3
          try clear hfz34_0
          try clear hfz34_1
          try clear hfz34_2
          try clear hfz34_3
          try clear hfz39_0
          try clear hfz39_1
          try clear hfz39_2
          try clear hfz39_3
          try clear p2
          obtain ⟨kq, x118_44, rfl, HA, HJ44, BK536, HB⟩ := hcut
          cases kq with
          | zero => exact absurd HA.out (by simp [L09_WholeKeeps.j2])
          | succ kj44 =>
           have H := HA.out
           clear HA
           simp only [L09_WholeKeeps.j2] at H
           by_cases c73 : x118_44 = true
           ·subst c73
            have H1 : (some false) = some r := by rw [if_pos rfl] at H; exact H
            clear H;have H := H1;clear H1
            exact absurd ((Option.some.inj H).trans hr_.out) (by decide)
           ·replace c73 := Bool.eq_false_iff.mpr c73
            subst c73
            have H1 : (if t532 = true then (some (t530 == t528)) else (some (t530 == t529))) = some r := by rw [if_neg (show ¬ (false = true) by decide)] at H; exact H
            clear H;have H := H1;clear H1
            by_cases c74 : t532 = true
            ·subst c74
             have H1 : (some (t530 == t528)) = some r := by rw [if_pos rfl] at H; exact H
             clear H;have H := H1;clear H1
             obtain rfl := Option.some.inj H
             have hcz75_0 := bv_ BK536.out 0
             have hcz75_1 := bv_ BK536.out 1
             have hcz75_2 := bv_ BK536.out 2
             have hcz75_3 := bv_ BK536.out 3
             have hfz75_0 := blk_frozen BK536.out 0
             have hfz75_1 := blk_frozen BK536.out 1
             have hfz75_2 := blk_frozen BK536.out 2
             have hfz75_3 := blk_frozen BK536.out 3
             go_wp2
             go_ret
             exact ⟨er_, hb1_ HB.out GE536.out⟩
            ·replace c74 := Bool.eq_false_iff.mpr c74
             subst c74
             have H1 : (some (t530 == t529)) = some r := by rw [if_neg (show ¬ (false = true) by decide)] at H; exact H
             clear H;have H := H1;clear H1
             obtain rfl := Option.some.inj H
             have hcz76_0 := bv_ BK536.out 0
             have hcz76_1 := bv_ BK536.out 1
             have hcz76_2 := bv_ BK536.out 2
             have hcz76_3 := bv_ BK536.out 3
             have hfz76_0 := blk_frozen BK536.out 0
             have hfz76_1 := blk_frozen BK536.out 1
             have hfz76_2 := blk_frozen BK536.out 2
             have hfz76_3 := blk_frozen BK536.out 3
             go_wp2
             go_ret
             exact ⟨er_, hb1_ HB.out GE536.out⟩
 ·replace c4 := Bool.eq_false_iff.mpr c4
  subst c4
  have H1 : (some false) = some r := by rw [if_neg (show ¬ (false = true) by decide)] at H; exact H
  clear H;have H := H1;clear H1
  exact absurd ((Option.some.inj H).trans hr_.out) (by decide)
def L09_WholeKeeps.Pure : Prop := ∀ (a0 : Int) (a1 : Int), (Lit.int .i64 a0).wf = true → (Lit.int .u64 a1).wf = true → ∃ k, L09_WholeKeeps.f k a0 a1 = some true
theorem L09_WholeKeeps.walk (P : L09_WholeKeeps.Pure) (a0 : Int) (a1 : Int) (w : World) (w0 : (Lit.int .i64 a0).wf = true) (w1 : (Lit.int .u64 a1).wf = true) :
  Calls Try.prog 4 #[.int .i64 a0, .int .u64 a1] w fun e w' => e = .returned (.bool true) ∧ Below w.heap.size w w' := by
 obtain ⟨k, h⟩ := P a0 a1 w0 w1
 refine (L09_WholeKeeps.calls k a0 a1 true w h ⟨rfl⟩).mono ?_
 rintro e w' ⟨rfl, hd⟩
 exact ⟨rfl, hd⟩
end Go.Proofs.Ythdeeoallfbjmaa.PA
section
set_option linter.unusedVariables false
set_option linter.unusedSimpArgs false
namespace Go.Proofs.Ythdeeoallfbjmaa.Th
open Go.RowKit Go.Proofs.YthdeeoallfbjmaaW.PrintWords Go.Proofs.YthdeeoallfbjmaaW.PrintLast Go.Proofs.YthdeeoallfbjmaaW.PrintMore Go.Proofs.Ythdeeoallfbjmaa.PA Bit Flo
theorem shZero (w : Int) (hw : w = 32 ∨ w = 64) (s : Bool) : shape_Zero.f w s = some ((mkN w 0 s : Nat) : Int) := by
  rcases hw with rfl | rfl
  · exact shZero32 s
  · exact shZero64 s
theorem opn_mk (w : Int) (hw : w = 32 ∨ w = 64) (m : Nat) (s : Bool) (h : m < sb w) : opn w (mkN w m s) = if m = 0 then (s, 0, 0, 0) else if m < (fmt w).inf then (s, 1, (fmt w).ex m, ((fmt w).sg m : Int)) else if m = (fmt w).inf then (s, 2, 0, 0) else (false, 3, 0, 0) := by
  unfold opn; simp only [sg_mk w hw m s h, mag_mk w hw m s h]
def nn (w : Int) (a : Nat) : Bool := (opn w a).2.1 == 3
def rk (w : Int) (a : Nat) : Int := if sgB w a then -(magN w a : Int) else magN w a
theorem nn_eq (w : Int) (hw : w = 32 ∨ w = 64) (a : Nat) : nn w a = decide ((fmt w).inf < magN w a) := by
  have h0 : 0 < (fmt w).inf := by rcases hw with rfl | rfl <;> decide
  unfold nn opn
  simp only
  split
  · rename_i h; simp [h]
  · split
    · rename_i h; simp; omega
    · split
      · rename_i h; simp [h]
      · simp; omega
theorem opn_sg (w : Int) (a : Nat) (h : nn w a = false) : (opn w a).1 = sgB w a := by
  revert h; unfold nn opn; simp only
  repeat' split
  all_goals simp
theorem known8 (w : Int) : order_known.f w = some (decide (w = 32 ∨ w = 64)) := by
  unfold order_known.f
  by_cases h : w = 32
  · subst h; rfl
  · by_cases h2 : w = 64
    · subst h2; rfl
    · rw [decide_eq_false (by omega)]; simp [h, h2]
theorem bitsMag (w : Int) (hw : w = 32 ∨ w = 64) (a : Nat) (ha : a < 18446744073709551616) : Go.bits .andNot .u64 ((cutN w a : Nat) : Int) ((mkN w 0 true : Nat) : Int) = ((magN w a : Nat) : Int) := by
  rw [show mkN w 0 true = sb w by simp [mkN]]
  rcases hw with rfl | rfl
  · simp only [cutN, sb, magN, if_true]
    rw [u64_andNot_nat _ _ (by omega) (by decide)]
    have h := andnot_pow (a % 4294967296) 31 (by decide) (by have : a % 4294967296 < 4294967296 := Nat.mod_lt _ (by decide); simpa using this)
    rw [show (2 : Nat) ^ 31 = 2147483648 by decide] at h
    rw [h]; congr 1; omega
  · simp only [cutN, sb, magN, show ¬ ((64 : Int) = 32) by decide, if_false, if_true]
    rw [u64_andNot_nat _ _ ha (by decide)]
    have h := andnot_pow a 63 (by decide) (by simpa using ha)
    rw [show (2 : Nat) ^ 63 = 9223372036854775808 by decide] at h
    rw [h]
theorem mag_63 (w : Int) (hw : w = 32 ∨ w = 64) (a : Nat) : magN w a < 9223372036854775808 := by
  have h := magN_lt w hw a
  have : sb w ≤ 9223372036854775808 := by rcases hw with rfl | rfl <;> decide
  omega
theorem rankS (w : Int) (hw : w = 32 ∨ w = 64) (a : Nat) (ha : a < 18446744073709551616) : Ev (fun k => order_Rank.f k w a) (if nn w a then (0, false) else (rk w a, true)) := by
  unfold order_Rank.f
  refine Ev.bind (openS w hw a ha) (Ev.bs (known8 w) ?_)
  rw [decide_eq_true hw]
  refine Ev.pos rfl ?_
  have hm := mag_63 w hw a
  cases hn : nn w a with
  | true => refine Ev.step (fun _ => order_Rank.j0.eq_2 ..) (Ev.pos (by simpa [nn] using hn) (Ev.out rfl))
  | false =>
    refine Ev.step (fun _ => order_Rank.j0.eq_2 ..) (Ev.neg (by rw [show ((opn w a).2.1 == 3) = false from hn]; decide) (Ev.bs (shCut w a ha) (Ev.bs (shZero w hw true) ?_)))
    rw [bitsMag w hw a ha, opn_sg w a hn, w64_id (n := ((magN w a : Nat) : Int)) (by omega) (by omega), w64_id (n := -((magN w a : Nat) : Int)) (by omega) (by omega)]
    unfold rk
    cases hs : sgB w a with
    | true => exact Ev.pos rfl (Ev.out (by simp))
    | false => exact Ev.neg (by decide) (Ev.out (by simp))
theorem ltS (w : Int) (hw : w = 32 ∨ w = 64) (a b : Nat) (ha : a < 18446744073709551616) (hb : b < 18446744073709551616) : Ev (fun k => order_Lt.f k w a b) (!nn w a && !nn w b && decide (rk w a < rk w b)) := by
  unfold order_Lt.f
  refine Ev.bind (rankS w hw a ha) (Ev.bind (rankS w hw b hb) (Ev.out ?_))
  cases nn w a <;> cases nn w b <;> simp
theorem cut_as_mk (w : Int) (hw : w = 32 ∨ w = 64) (a : Nat) (ha : a < 18446744073709551616) : cutN w a = mkN w (magN w a) (sgB w a) := by
  rw [cutN_eq w hw a ha]; rfl
end Go.Proofs.Ythdeeoallfbjmaa.Th
end
section
set_option linter.unusedVariables false
set_option linter.unusedSimpArgs false
namespace Go.Proofs.Ythdeeoallfbjmaa.Th
open Go.RowKit Go.Proofs.YthdeeoallfbjmaaW.PrintWords Go.Proofs.YthdeeoallfbjmaaW.PrintLast Go.Proofs.YthdeeoallfbjmaaW.PrintMore Go.Proofs.Ythdeeoallfbjmaa.PA Bit Flo Dig
theorem inf_pos (w : Int) (hw : w = 32 ∨ w = 64) : 0 < (fmt w).inf := by rcases hw with rfl | rfl <;> decide
theorem kinds (w : Int) (hw : w = 32 ∨ w = 64) (a : Nat) : (magN w a = 0 ∧ opn w a = (sgB w a, 0, 0, 0)) ∨ (0 < magN w a ∧ magN w a < (fmt w).inf ∧ opn w a = (sgB w a, 1, (fmt w).ex (magN w a), ((fmt w).sg (magN w a) : Int))) ∨ (magN w a = (fmt w).inf ∧ opn w a = (sgB w a, 2, 0, 0)) ∨ ((fmt w).inf < magN w a ∧ opn w a = (false, 3, 0, 0)) := by
  have h0 := inf_pos w hw
  unfold opn; simp only
  by_cases h1 : magN w a = 0
  · left; rw [if_pos h1]; exact ⟨h1, rfl⟩
  · right; rw [if_neg h1]
    by_cases h2 : magN w a < (fmt w).inf
    · left; rw [if_pos h2]; exact ⟨by omega, h2, rfl⟩
    · right; rw [if_neg h2]
      by_cases h3 : magN w a = (fmt w).inf
      · left; rw [if_pos h3]; exact ⟨h3, rfl⟩
      · right; rw [if_neg h3]; exact ⟨by omega, rfl⟩
theorem ex_bd (w : Int) (hw : w = 32 ∨ w = 64) (m : Nat) (h : m < (fmt w).inf) : -1074 ≤ (fmt w).ex m ∧ (fmt w).ex m ≤ 971 := by
  rcases hw with rfl | rfl
  · rw [fmt32, inf32] at h; rw [fmt32, ex32]; split <;> omega
  · rw [fmt64, inf64] at h; rw [fmt64, ex64]; split <;> omega
theorem sg_64 (w : Int) (hw : w = 32 ∨ w = 64) (m : Nat) : (fmt w).sg m < 9007199254740992 := by
  have h := (fmt w).sg_lt m
  rcases hw with rfl | rfl
  · rw [fmt32] at h ⊢; rw [show (2 : Nat) ^ (f32.f + 1) = 16777216 by decide] at h; omega
  · rw [fmt64] at h ⊢; rw [show (2 : Nat) ^ (f64.f + 1) = 9007199254740992 by decide] at h; omega
end Go.Proofs.Ythdeeoallfbjmaa.Th
end
section
set_option linter.unusedVariables false
set_option linter.unusedSimpArgs false
namespace Go.Proofs.Ythdeeoallfbjmaa.Th
open Flo
theorem fmt_bd (w : Int) : (fmt w).f < 100 ∧ (-5000 < (fmt w).low ∧ (fmt w).low < 0) ∧ (fmt w).top < 5000 := by
  unfold fmt; split <;> decide
theorem fmt_f (w : Int) : (fmt w).f ≤ 52 := by unfold fmt; split <;> decide
theorem pk_ex (w : Int) (S : Nat) (e : Int) (hS : S < 340282366920938463463374607431768211456) : pkm (fmt w) S e false = (fmt w).rnd ((S : Rat) * tw e) := by
  have h := fmt_bd w
  rw [← pkx_f, pkm_rnd _ h.1 h.2.1 h.2.2 S e false hS]
end Go.Proofs.Ythdeeoallfbjmaa.Th
end
namespace Go.Proofs.Ythdeeoallfbjmaa.PA
open Go.RowKit Go.Proofs.YthdeeoallfbjmaaW.PrintWords Go.Proofs.YthdeeoallfbjmaaW.PrintLast Go.Proofs.YthdeeoallfbjmaaW.PrintMore
attribute [local go_sem] max2_int min2_int max_two min_two max_three min_three max_four min_four   -- for this text's walks alone
set_option linter.unusedVariables false
set_option linter.unusedSimpArgs false
set_option maxHeartbeats 8000000
set_option maxRecDepth 100000
def r1_Div.l0 : Nat → Int → List Int → List Int → List Int → Option (List Int × List Int)
 | 0, _, _, _, _ => none
 | k + 1, x8, x300000, x303000, x304000 => if x8 ≥ 0 then ((r1_Shl.f k x300000 x8).bind fun t306 => ((r1_Cmp.f k x304000 t306).bind fun t310 => (if t310 ≥ 0 then ((r1_Sub.f k x304000 t306).bind fun t311 => ((r1_Of.f k 1).bind fun t314 => ((r1_Shl.f k t314 x8).bind fun t317 => ((r1_Add.f k x303000 t317).bind fun t320 => (r1_Div.l0 k (wrap64 (x8 - 1)) x300000 t320 t311))))) else (r1_Div.l0 k (wrap64 (x8 - 1)) x300000 x303000 x304000)))) else (some (x303000, x304000))
def r1_Div.f (k : Nat) (l0_0 : List Int) (l1_0 : List Int) : Option (List Int × List Int) := (r1_Len.f k l0_0).bind fun t304 => ((r1_Len.f k l1_0).bind fun t305 => (r1_Div.l0 k (wrap64 (t304 - t305)) l1_0 ([] : List Int) l0_0))
theorem r1_Div.mono_l : ∀ k, (∀ y0 y1 y2 y3, LeO (r1_Div.l0 k y0 y1 y2 y3) (r1_Div.l0 (k + 1) y0 y1 y2 y3))
 | 0 => fun _ _ _ _ r h => by simp [r1_Div.l0] at h
 | k + 1 => by
  have ih0 := r1_Div.mono_l k
  ·intro y0 y1 y2 y3
   unfold r1_Div.l0
   repeat' first
   | (with_reducible exact ih0 _ _ _ _)
   | (with_reducible exact r1_Add.mono _ _ _)
   | (with_reducible exact r1_Cmp.mono _ _ _)
   | (with_reducible exact r1_Len.mono _ _)
   | (with_reducible exact r1_Of.mono _ _)
   | (with_reducible exact r1_Shl.mono _ _ _)
   | (with_reducible exact r1_Sub.mono _ _ _)
   | (with_reducible exact LeO.refl _)
   | (with_reducible exact LeO.none _)
   | (with_reducible refine LeO.ite ?_ ?_)
   | (with_reducible refine LeO.bind ?_ (fun _ => ?_))
   | exact ih0 _ _ _ _
   | exact r1_Add.mono _ _ _
   | exact r1_Cmp.mono _ _ _
   | exact r1_Len.mono _ _
   | exact r1_Of.mono _ _
   | exact r1_Shl.mono _ _ _
   | exact r1_Sub.mono _ _ _
   | exact LeO.none _
   | refine LeO.ite ?_ ?_
   | refine LeO.bind ?_ (fun _ => ?_)
theorem r1_Div.mono : ∀ a0 a1 k, LeO (r1_Div.f k a0 a1) (r1_Div.f (k + 1) a0 a1) := by
 intro a0 a1 k
 have ih0 := r1_Div.mono_l k
 unfold r1_Div.f
 repeat' first
   | (with_reducible exact ih0 _ _ _ _)
   | (with_reducible exact r1_Add.mono _ _ _)
   | (with_reducible exact r1_Cmp.mono _ _ _)
   | (with_reducible exact r1_Len.mono _ _)
   | (with_reducible exact r1_Of.mono _ _)
   | (with_reducible exact r1_Shl.mono _ _ _)
   | (with_reducible exact r1_Sub.mono _ _ _)
   | (with_reducible exact LeO.refl _)
   | (with_reducible exact LeO.none _)
   | (with_reducible refine LeO.ite ?_ ?_)
   | (with_reducible refine LeO.bind ?_ (fun _ => ?_))
   | exact ih0 _ _ _ _
   | exact r1_Add.mono _ _ _
   | exact r1_Cmp.mono _ _ _
   | exact r1_Len.mono _ _
   | exact r1_Of.mono _ _
   | exact r1_Shl.mono _ _ _
   | exact r1_Sub.mono _ _ _
   | exact LeO.none _
   | refine LeO.ite ?_ ?_
   | refine LeO.bind ?_ (fun _ => ?_)
-- IMPORT Derived.Deep.RegionHeld3
-- IMPORT Derived.Test.YthdeeoallfbjmaaNr
theorem Nr.len (k : Nat) (v : Value) (l : List Int) (r : Int) (w : World) (n : Nr.Nr w v l) (h : r1_Len.f k l = some r) : Calls Try.prog 65 #[.agg #[v]] w fun e w' => e = .returned (.int .i64 r) ∧ Below w.heap.size w w' := by
 obtain ⟨A, c, rfl, hc, hC⟩ := n
 exact r1_Len.calls k A c l r w hC hc h
theorem Nr.cmp (k : Nat) (v v1 : Value) (l l1 : List Int) (r : Int) (w : World) (n : Nr.Nr w v l) (n1 : Nr.Nr w v1 l1) (h : r1_Cmp.f k l l1 = some r) : Calls Try.prog 46 #[.agg #[v], .agg #[v1]] w fun e w' => e = .returned (.int .i64 r) ∧ Below w.heap.size w w' := by
 obtain ⟨A, c, rfl, hc, hC⟩ := n
 obtain ⟨A1, c1, rfl, hc1, hC1⟩ := n1
 exact r1_Cmp.calls k A c l A1 c1 l1 r w hC hc hC1 hc1 h
theorem Nr.outR {f : Nat} {xs : Array Value} {w : World} {r : List Int} (h : Calls Try.prog f xs w fun e w' => ∃ v0_ : Value, e = .returned (.agg #[v0_]) ∧ Kd.R (Kd.int .u64) 22 w' w.heap.size (fun _ => True) v0_ r ∧ Below w.heap.size w w') : Calls Try.prog f xs w fun e w' => ∃ A c, e = .returned (.agg #[.slice A r.length c]) ∧ Nr.Ow 22 w.heap.size w' (.slice A r.length c) r ∧ Below w.heap.size w w' := by
 refine h.mono ?_
 rintro e w' ⟨v0, rfl, hR, hb⟩
 obtain ⟨A, c, rfl, _⟩ := Nr.Nr.of_R hR
 exact ⟨A, c, rfl, Nr.Ow.of_R hR (Nat.le_refl _), hb⟩
theorem Nr.shl (k : Nat) (v : Value) (l : List Int) (a : Int) (r : List Int) (w : World) (n : Nr.Nr w v l) (h : r1_Shl.f k l a = some r) : Calls Try.prog 44 #[.agg #[v], .int .i64 a] w fun e w' => ∃ A c, e = .returned (.agg #[.slice A r.length c]) ∧ Nr.Ow 22 w.heap.size w' (.slice A r.length c) r ∧ Below w.heap.size w w' := by
 obtain ⟨A, c, rfl, hc, hC⟩ := n
 exact Nr.outR (r1_Shl.calls k A c l a r w hC hc h)
theorem Nr.sub (k : Nat) (v v1 : Value) (l l1 : List Int) (r : List Int) (w : World) (n : Nr.Nr w v l) (n1 : Nr.Nr w v1 l1) (h : r1_Sub.f k l l1 = some r) : Calls Try.prog 66 #[.agg #[v], .agg #[v1]] w fun e w' => ∃ A c, e = .returned (.agg #[.slice A r.length c]) ∧ Nr.Ow 22 w.heap.size w' (.slice A r.length c) r ∧ Below w.heap.size w w' := by
 obtain ⟨A, c, rfl, hc, hC⟩ := n
 obtain ⟨A1, c1, rfl, hc1, hC1⟩ := n1
 exact Nr.outR (r1_Sub.calls k A c l A1 c1 l1 r w hC hc hC1 hc1 h)
theorem Nr.add (k : Nat) (v v1 : Value) (l l1 : List Int) (r : List Int) (w : World) (n : Nr.Nr w v l) (n1 : Nr.Nr w v1 l1) (h : r1_Add.f k l l1 = some r) : Calls Try.prog 33 #[.agg #[v], .agg #[v1]] w fun e w' => ∃ A c, e = .returned (.agg #[.slice A r.length c]) ∧ Nr.Ow 22 w.heap.size w' (.slice A r.length c) r ∧ Below w.heap.size w w' := by
 obtain ⟨A, c, rfl, hc, hC⟩ := n
 obtain ⟨A1, c1, rfl, hc1, hC1⟩ := n1
 exact Nr.outR (r1_Add.calls k A c l A1 c1 l1 r w hC hc hC1 hc1 h)
theorem Nr.of (k : Nat) (a : Int) (r : List Int) (w : World) (h : r1_Of.f k a = some r) : Calls Try.prog 34 #[.int .u64 a] w fun e w' => ∃ A c, e = .returned (.agg #[.slice A r.length c]) ∧ Nr.Ow 22 w.heap.size w' (.slice A r.length c) r ∧ Below w.heap.size w w' :=
 Nr.outR (r1_Of.calls k a r w h)
theorem Nr.lower {e b b' : Nat} {w : World} {v : Value} {l : List Int} (h : Nr.Ow e b w v l) (hb : b' ≤ b) : Nr.Ow e b' w v l := Nr.Ow.of_R h.out hb
theorem Nr.fresh {P : Nat → Prop} {e e' base : Nat} {w0 w1 : World} {vq vr : Value} {lq lr : List Int} (hq : Nr.Ow e base w0 vq lq) (hr : Nr.Ow e' w0.heap.size w1 vr lr) (hb : base ≤ w0.heap.size) : Nr.At (fun k => (P k ∨ base ≤ k) ∧ some k ≠ vq.ownBlock) vr :=
 (Nr.At.of_R hr.out).mono fun k hk => ⟨Or.inr (Nat.le_trans hb hk.1), fun e => Nat.lt_irrefl _ (Nat.lt_of_lt_of_le (Kd.R_lt hq.out k e.symm) hk.1)⟩
theorem Nr.atlt {w : World} {v : Value} {l : List Int} (h : Nr.Nr w v l) : Nr.At (fun k => k < w.heap.size) v := by
 obtain ⟨A, c, hv, hl, h1, h2, h3⟩ := h
 intro ad n c' e hn
 rw [hv] at e
 injection e with e1 e2 e3
 subst e2
 obtain ⟨ad', e4, h4⟩ := h3 hn
 rw [e1] at e4
 injection e4 with e4
 subst e4
 obtain ⟨x, hx⟩ : ∃ x, l[0]? = some x := ⟨l[0]'hn, List.getElem?_eq_getElem hn⟩
 obtain ⟨cs, k1, k2, k3⟩ := h4 0 x hx
 have k2' : cs = [Value.int .u64 x] := k2
 have := World.block_lt_of_cell? w _ (k3 0 (.int .u64 x) (by rw [k2']; rfl))
 rwa [add_block] at this
theorem Nr.other {P : Nat → Prop} {e' : Nat} {w0 w1 : World} {vq vq' vr : Value} {lq' lr : List Int} (ha : Nr.At (fun k => P k ∧ some k ≠ vq.ownBlock) vr) (hn : Nr.Nr w0 vr lr) (hq : Nr.Ow e' w0.heap.size w1 vq' lq') : Nr.At (fun k => P k ∧ some k ≠ vq'.ownBlock) vr := fun ad n c e hn' =>
 ⟨(ha ad n c e hn').1, fun e2 => Nat.lt_irrefl _ (Nat.lt_of_lt_of_le (Nr.atlt hn ad n c e hn') (Kd.R_base hq.out _ e2.symm))⟩
theorem Nr.undrew {w w1 : World} (h : Below w.drew.heap.size w.drew w1) : Below w.heap.size w w1 := below_step (below_drew1 (Below.refl _ _)) h
theorem Nr.unalloc {w w1 : World} {o : Obj} (h : Below (w.alloc o).heap.size (w.alloc o) w1) : Below w.heap.size w w1 := below_step (below_alloc (Below.refl _ _) o) h
theorem Nr.newlt {w w1 : World} {o : Obj} (h : Below (w.alloc o).heap.size (w.alloc o) w1) : w.heap.size < w1.heap.size := by
 have := h.size
 simp at this
 omega
theorem Nr.newcell {w w1 : World} {v : Value} {ty : Nat} (h : Below (w.alloc (.cells #[v] ty)).heap.size (w.alloc (.cells #[v] ty)) w1) : w1.cell? ⟨w.heap.size, 0, none⟩ = some v := by
 rw [(Nr.bcell h).1 _ _ (by simp)]
 exact (World.cell?_alloc_new _ _ _ _).trans rfl
theorem r1_Div.calls (k : Nat) (P0_0_ : Nat → Prop) (A0_0 : Option Addr) (c0_0 : Nat) (l0_0 : List Int) (A1_0 : Option Addr) (c1_0 : Nat) (l1_0 : List Int) (r1 : List Int) (r2 : List Int) (w : World) (hs0_0 : Kd.V (Kd.int .u64) 22 w w.heap.size (fun k_ => P0_0_ k_) (.slice A0_0 l0_0.length c0_0) l0_0) (hr1_0 : Kd.C (Kd.int .u64) w A1_0 l1_0.length l1_0) (hc1_0 : l1_0.length ≤ c1_0) (h : r1_Div.f k l0_0 l1_0 = some (r1, r2)) :
  Calls Try.prog 45 #[.agg #[.slice A0_0 l0_0.length c0_0], .agg #[.slice A1_0 l1_0.length c1_0]] w fun e w' => ∃ v0_ v1_ : Value, e = .returned (.tuple #[.agg #[v0_], .agg #[v1_]]) ∧ Kd.R (Kd.int .u64) 22 w' w.heap.size (fun k_ => (w.heap.size ≤ k_)) v0_ r1 ∧ Kd.V (Kd.int .u64) 22 w' w.heap.size (fun k_ => (P0_0_ k_ ∨ w.heap.size ≤ k_) ∧ some k_ ≠ (v0_ : Value).ownBlock) v1_ r2 ∧ Below w.heap.size w w' := by
 obtain ⟨t0, A0, H⟩ := ob_ h
 obtain ⟨t1, A1, H⟩ := ob_ H
 have L0 := A_ A0;have L1 := A_ A1;have HL := A_ H;clear h A0 A1 H
 have NA := Nr.Nr.of_V hs0_0
 have AA := A_ (Nr.At.of_V hs0_0)
 have NB := Nr.Nr.of_C hc1_0 hr1_0
 clear hs0_0 hr1_0
 go_enter Try.func45, Try.ntmps45
 go_wp2
 go_region_held3 (fun w' => w'.cell? ⟨w.heap.size, 0, none⟩ = some (.slice A0_0 l0_0.length c0_0) ∧ w'.cell? ⟨w.heap.size + 1, 0, none⟩ = some (.slice A1_0 l1_0.length c1_0) ∧ w'.cell? ⟨w.heap.size + 2, 0, none⟩ = some (.slice none 0 0) ∧ w'.cell? ⟨w.heap.size + 3, 0, none⟩ = some (.slice none 0 0) ∧ w'.cell? ⟨w.heap.size + 4, 0, none⟩ = some (.slice none 0 0) ∧ w'.cell? ⟨w.heap.size + 5, 0, none⟩ = some (.slice A0_0 l0_0.length c0_0) ∧ w'.frozen? ⟨w.heap.size + 2, 0, none⟩ = false ∧ w'.frozen? ⟨w.heap.size + 3, 0, none⟩ = false ∧ w'.frozen? ⟨w.heap.size + 4, 0, none⟩ = false ∧ w'.frozen? ⟨w.heap.size + 5, 0, none⟩ = false ∧ w.heap.size + 5 < w'.heap.size ∧ Nr.Nr w' (.slice A0_0 l0_0.length c0_0) l0_0 ∧ Nr.Nr w' (.slice A1_0 l1_0.length c1_0) l1_0 ∧ Nr.Ow 22 w.heap.size w' (.slice none 0 0) [] ∧ Below w.heap.size w w')
  (((try go_split_ands); (try dsimp only); (repeat' apply And.intro) <;> first | assumption | (rw [hc _ _ (by omega)]; assumption) | (rw [hf _ _ (by omega)]; assumption) | (rw [Nr.al (by omega)]; assumption) | (rw [Nr.alf (by omega)]; assumption) | (apply Nr.lt_al; assumption) | (have := hb.size; omega) | (refine Nr.Nr.below ?_ hb; assumption) | (apply Nr.Nr.drew; (repeat apply Nr.Nr.alloc); assumption) | (apply Nr.Nr.alloc; assumption) | (apply Nr.Nr.drew; assumption) | (exact Nr.Ow.nil _ _ _) | (refine Nr.Ow.below ?_ hb; assumption) | (apply Nr.Ow.alloc; assumption) | (apply Nr.Ow.drew; assumption) | (refine below_step ?_ hb; assumption) | (simp [go_sem, World.cell?_alloc_past]; done) | (repeat (first | assumption | exact Below.refl _ _ | apply below_drew1 | apply below_alloc | (refine below_set ?_ (by omega))))))
  ((first | (go_at_call 65; (try go_split_ands); refine (Nr.len k _ l0_0 t0 _ ?_ L0.out).mono ?_; (assumption); rintro e w1 ⟨rfl, hb⟩; obtain ⟨hc, hf⟩ := Nr.bcell hb) | (go_at_call 65; (try go_split_ands); refine (Nr.len k _ l1_0 t1 _ ?_ L1.out).mono ?_; (assumption); rintro e w2 ⟨rfl, hb⟩; obtain ⟨hc, hf⟩ := Nr.bcell hb)))
 rename_i hH
 obtain ⟨q0, q1, q2, q3, q4, q5, f2, f3, f4, f5, hz, nr, nb, ow, bl⟩ := hH
 (repeat clear hc hf)
 (repeat clear hb)
 go_wp2
 iterate 30 (rename_i left_; clear left_)
 rename_i hK
 clear H
 have at0 : Nr.At (fun k_ => (P0_0_ k_ ∨ w.heap.size ≤ k_) ∧ some k_ ≠ (Value.slice none 0 0).ownBlock) (.slice A0_0 l0_0.length c0_0) := AA.out.mono fun k hk => ⟨Or.inl hk, fun e => by cases e⟩
 go_loopg [8] k (fun kq v8 w' => ∃ (x : Int) (Aq : Option Addr) (cq : Nat) (lq : List Int) (Ar : Option Addr) (cr : Nat) (lr : List Int), v8 = .int .i64 x ∧ Aside0 (r1_Div.l0 kq x l1_0 lq lr = some (r1, r2)) ∧ Aside0 (w'.cell? ⟨w.heap.size + 1, 0, none⟩ = some (.slice A1_0 l1_0.length c1_0) ∧ w'.cell? ⟨w.heap.size + 2, 0, none⟩ = some (.slice none 0 0) ∧ w'.cell? ⟨w.heap.size + 3, 0, none⟩ = some (.slice none 0 0) ∧ w'.cell? ⟨w.heap.size + 4, 0, none⟩ = some (.slice Aq lq.length cq) ∧ w'.cell? ⟨w.heap.size + 5, 0, none⟩ = some (.slice Ar lr.length cr) ∧ w'.frozen? ⟨w.heap.size + 2, 0, none⟩ = false ∧ w'.frozen? ⟨w.heap.size + 3, 0, none⟩ = false ∧ w'.frozen? ⟨w.heap.size + 4, 0, none⟩ = false ∧ w'.frozen? ⟨w.heap.size + 5, 0, none⟩ = false ∧ w.heap.size + 5 < w'.heap.size ∧ Nr.Nr w' (.slice A1_0 l1_0.length c1_0) l1_0 ∧ Nr.Nr w' (.slice Ar lr.length cr) lr ∧ Nr.Ow 22 (w.heap.size + 6) w' (.slice Aq lq.length cq) lq ∧ Nr.At (fun k_ => (P0_0_ k_ ∨ w.heap.size ≤ k_) ∧ some k_ ≠ (Value.slice Aq lq.length cq).ownBlock) (.slice Ar lr.length cr) ∧ Below w.heap.size w w'))
 case atStart => exact ⟨_, none, 0, [], A0_0, c0_0, l0_0, by rw [i64_w], HL, q1, q2, q3, q4, q5, f2, f3, f4, f5, hz, nb, nr, Nr.Ow.nil _ _ _, at0, bl⟩
 case round =>
  (repeat clear q0 q1 q2 q3 q4 q5 f2 f3 f4 f5 hz nr ow bl at0 nb)
  obtain ⟨x, Aq, cq, lq, Ar, cr, lr, rfl, E, F⟩ := hrel
  obtain ⟨q1, q2, q3, q4, q5, f2, f3, f4, f5, hz, nb, nr, ow, at0, bl⟩ := F.out
  clear F HL
  obtain _ | kr := gk
  ·cases E.out
  have E := E.out
  unfold r1_Div.l0 at E
  by_cases hx : x ≥ 0
  ·rw [if_pos hx] at E
   have c0 : decide (0 ≤ x) = true := decide_eq_true hx
   obtain ⟨t, T0, E⟩ := ob_ E
   obtain ⟨u, T1, E⟩ := ob_ E
   replace T0 := A_ T0;replace T1 := A_ T1;replace hx := A_ hx
   by_cases hu : u ≥ 0
   ·rw [if_pos hu] at E
    obtain ⟨s, S0, E⟩ := ob_ E
    obtain ⟨o1, S1, E⟩ := ob_ E
    obtain ⟨o2, S2, E⟩ := ob_ E
    obtain ⟨q', S3, E⟩ := ob_ E
    replace S0 := A_ S0;replace S1 := A_ S1;replace S2 := A_ S2;replace S3 := A_ S3;have EE := A_ E;clear E
    have cu : decide (0 ≤ u) = true := decide_eq_true hu
    clear hu
    go_wp2_with (first | (go_at_call 44; refine (Nr.shl kr _ l1_0 x t _ nb T0.out).mono ?_; rintro e w1 ⟨At, ct, rfl, ot, hb⟩; (try replace hb := Nr.undrew hb); obtain ⟨hc, hf⟩ := Nr.bcell hb; have hs := hb.size; replace q1 := (hc _ _ (by omega)).trans q1; replace q2 := (hc _ _ (by omega)).trans q2; replace q3 := (hc _ _ (by omega)).trans q3; replace q4 := (hc _ _ (by omega)).trans q4; replace q5 := (hc _ _ (by omega)).trans q5; replace f2 := (hf _ _ (by omega)).trans f2; replace f3 := (hf _ _ (by omega)).trans f3; replace f4 := (hf _ _ (by omega)).trans f4; replace f5 := (hf _ _ (by omega)).trans f5; replace nb := Nr.Nr.below nb hb; replace nr := Nr.Nr.below nr hb; replace ow := Nr.Ow.below ow hb; replace bl := below_step bl hb; replace hz := Nat.lt_of_lt_of_le hz hs; clear hc hf hs hb) | (go_at_call 46; refine (Nr.cmp kr _ _ lr t u _ (Nr.Nr.alloc nr _) (Nr.Nr.alloc ot.nr _) T1.out).mono ?_; rintro e w2 ⟨rfl, hb⟩; have tq := Nr.newcell hb; have ht := Nr.newlt hb; replace hb := Nr.unalloc hb; (try replace hb := Nr.undrew hb); obtain ⟨hc, hf⟩ := Nr.bcell hb; have hs := hb.size; replace q1 := (hc _ _ (by omega)).trans q1; replace q2 := (hc _ _ (by omega)).trans q2; replace q3 := (hc _ _ (by omega)).trans q3; replace q4 := (hc _ _ (by omega)).trans q4; replace q5 := (hc _ _ (by omega)).trans q5; replace f2 := (hf _ _ (by omega)).trans f2; replace f3 := (hf _ _ (by omega)).trans f3; replace f4 := (hf _ _ (by omega)).trans f4; replace f5 := (hf _ _ (by omega)).trans f5; replace nb := Nr.Nr.below nb hb; replace nr := Nr.Nr.below nr hb; replace ow := Nr.Ow.below ow hb; replace ot := Nr.Ow.below ot hb; replace bl := below_step bl hb; replace hz := Nat.lt_of_lt_of_le hz hs; clear hc hf hs hb) | (go_at_call 66; refine (Nr.sub kr _ _ lr t s _ nr ot.nr S0.out).mono ?_; rintro e w3 ⟨As, cs, rfl, os, hb⟩; have at1 := Nr.fresh (P := P0_0_) (Nr.lower ow (b' := w.heap.size) (by omega)) os (by omega); replace os := Nr.lower os (b' := w.heap.size + 6) (by omega); (try replace hb := Nr.undrew hb); obtain ⟨hc, hf⟩ := Nr.bcell hb; have hs := hb.size; replace q1 := (hc _ _ (by omega)).trans q1; replace q2 := (hc _ _ (by omega)).trans q2; replace q3 := (hc _ _ (by omega)).trans q3; replace q4 := (hc _ _ (by omega)).trans q4; replace q5 := (hc _ _ (by omega)).trans q5; replace f2 := (hf _ _ (by omega)).trans f2; replace f3 := (hf _ _ (by omega)).trans f3; replace f4 := (hf _ _ (by omega)).trans f4; replace f5 := (hf _ _ (by omega)).trans f5; replace nb := Nr.Nr.below nb hb; replace nr := Nr.Nr.below nr hb; replace ow := Nr.Ow.below ow hb; replace ot := Nr.Ow.below ot hb; replace bl := below_step bl hb; replace hz := Nat.lt_of_lt_of_le hz hs; clear hc hf hs hb))
    generalize hW : World.setCell _ _ _ = w4
    have hz4 : w4.heap.size = w3.heap.size := by rw [← hW]; simp
    have hc : ∀ b, b ≠ w.heap.size + 5 → w4.cell? ⟨b, 0, none⟩ = w3.cell? ⟨b, 0, none⟩ := fun b hb => by rw [← hW]; exact World.cell?_setCell_far _ _ _ _ (fun e => hb e.symm)
    have hf : ∀ b, w4.frozen? ⟨b, 0, none⟩ = w3.frozen? ⟨b, 0, none⟩ := fun b => by rw [← hW]; exact World.frozen?_setCell _ _ _ _
    have hi : Nr.IsRow (w3.cell? ⟨w.heap.size + 5, 0, none⟩) := by rw [q5]; exact Nr.IsRow.slice _ _ _
    replace q5 : w4.cell? ⟨w.heap.size + 5, 0, none⟩ = some (.slice As s.length cs) := by rw [← hW]; exact World.cell?_setCell_same _ _ _ q5
    replace q1 := (hc _ (by omega)).trans q1
    replace q2 := (hc _ (by omega)).trans q2
    replace q3 := (hc _ (by omega)).trans q3
    replace q4 := (hc _ (by omega)).trans q4
    replace f2 := (hf _).trans f2
    replace f3 := (hf _).trans f3
    replace f4 := (hf _).trans f4
    replace f5 := (hf _).trans f5
    replace nb : Nr.Nr w4 (.slice A1_0 l1_0.length c1_0) l1_0 := by rw [← hW]; exact Nr.Nr.set nb _ hi
    replace ow : Nr.Ow 22 (w.heap.size + 6) w4 (.slice Aq lq.length cq) lq := by rw [← hW]; exact Nr.Ow.set ow _ (fun e => by have h6 : _ ≤ w.heap.size + 5 := Kd.R_base ow.out _ e; omega)
    replace os : Nr.Ow 22 (w.heap.size + 6) w4 (.slice As s.length cs) s := by rw [← hW]; exact Nr.Ow.set os _ (fun e => by have h6 : _ ≤ w.heap.size + 5 := Kd.R_base os.out _ e; omega)
    replace bl : Below w.heap.size w w4 := by rw [← hW]; exact below_set bl (by omega)
    replace hz : w.heap.size + 5 < w4.heap.size := by omega
    clear hW hc hf hi hz4
    replace nr := os.nr
    clear os
    go_region_with (first | (go_at_call 34; refine (Nr.of kr 1 o1 _ S1.out).mono ?_; rintro e w5 ⟨Ao, co, rfl, oo, hb⟩; (try replace hb := Nr.undrew hb); obtain ⟨hc, hf⟩ := Nr.bcell hb; have hs := hb.size; replace q1 := (hc _ _ (by omega)).trans q1; replace q2 := (hc _ _ (by omega)).trans q2; replace q3 := (hc _ _ (by omega)).trans q3; replace q4 := (hc _ _ (by omega)).trans q4; replace q5 := (hc _ _ (by omega)).trans q5; replace f2 := (hf _ _ (by omega)).trans f2; replace f3 := (hf _ _ (by omega)).trans f3; replace f4 := (hf _ _ (by omega)).trans f4; replace f5 := (hf _ _ (by omega)).trans f5; replace nb := Nr.Nr.below nb hb; replace nr := Nr.Nr.below nr hb; replace ow := Nr.Ow.below ow hb; replace bl := below_step bl hb; replace hz := Nat.lt_of_lt_of_le hz hs; clear hc hf hs hb) | (go_at_call 44; refine (Nr.shl kr _ o1 x o2 _ oo.nr S2.out).mono ?_; rintro e w6 ⟨Ap, cp, rfl, op, hb⟩; (try replace hb := Nr.undrew hb); obtain ⟨hc, hf⟩ := Nr.bcell hb; have hs := hb.size; replace q1 := (hc _ _ (by omega)).trans q1; replace q2 := (hc _ _ (by omega)).trans q2; replace q3 := (hc _ _ (by omega)).trans q3; replace q4 := (hc _ _ (by omega)).trans q4; replace q5 := (hc _ _ (by omega)).trans q5; replace f2 := (hf _ _ (by omega)).trans f2; replace f3 := (hf _ _ (by omega)).trans f3; replace f4 := (hf _ _ (by omega)).trans f4; replace f5 := (hf _ _ (by omega)).trans f5; replace nb := Nr.Nr.below nb hb; replace nr := Nr.Nr.below nr hb; replace ow := Nr.Ow.below ow hb; replace oo := Nr.Ow.below oo hb; replace bl := below_step bl hb; replace hz := Nat.lt_of_lt_of_le hz hs; clear hc hf hs hb) | (go_at_call 33; refine (Nr.add kr _ _ lq o2 q' _ ow.nr op.nr S3.out).mono ?_; rintro e w7 ⟨Az, cz, rfl, oz, hb⟩; have at2 := Nr.other at1 nr oz; have oz := Nr.lower oz (b' := w.heap.size + 6) (by omega); (try replace hb := Nr.undrew hb); obtain ⟨hc, hf⟩ := Nr.bcell hb; have hs := hb.size; replace q1 := (hc _ _ (by omega)).trans q1; replace q2 := (hc _ _ (by omega)).trans q2; replace q3 := (hc _ _ (by omega)).trans q3; replace q4 := (hc _ _ (by omega)).trans q4; replace q5 := (hc _ _ (by omega)).trans q5; replace f2 := (hf _ _ (by omega)).trans f2; replace f3 := (hf _ _ (by omega)).trans f3; replace f4 := (hf _ _ (by omega)).trans f4; replace f5 := (hf _ _ (by omega)).trans f5; replace nb := Nr.Nr.below nb hb; replace nr := Nr.Nr.below nr hb; replace ow := Nr.Ow.below ow hb; replace bl := below_step bl hb; replace hz := Nat.lt_of_lt_of_le hz hs; clear hc hf hs hb))
    all_goals (
     generalize hW : World.setCell _ _ _ = w8
     have hz4 : w8.heap.size = w7.heap.size := by rw [← hW]; simp
     have hc : ∀ b, b ≠ w.heap.size + 4 → w8.cell? ⟨b, 0, none⟩ = w7.cell? ⟨b, 0, none⟩ := fun b hb => by rw [← hW]; exact World.cell?_setCell_far _ _ _ _ (fun e => hb e.symm)
     have hf : ∀ b, w8.frozen? ⟨b, 0, none⟩ = w7.frozen? ⟨b, 0, none⟩ := fun b => by rw [← hW]; exact World.frozen?_setCell _ _ _ _
     have hi : Nr.IsRow (w7.cell? ⟨w.heap.size + 4, 0, none⟩) := by rw [q4]; exact Nr.IsRow.slice _ _ _
     replace q4 : w8.cell? ⟨w.heap.size + 4, 0, none⟩ = some (.slice Az q'.length cz) := by rw [← hW]; exact World.cell?_setCell_same _ _ _ q4
     replace q1 := (hc _ (by omega)).trans q1
     replace q2 := (hc _ (by omega)).trans q2
     replace q3 := (hc _ (by omega)).trans q3
     replace q5 := (hc _ (by omega)).trans q5
     replace f2 := (hf _).trans f2
     replace f3 := (hf _).trans f3
     replace f4 := (hf _).trans f4
     replace f5 := (hf _).trans f5
     replace nb : Nr.Nr w8 (.slice A1_0 l1_0.length c1_0) l1_0 := by rw [← hW]; exact Nr.Nr.set nb _ hi
     replace nr : Nr.Nr w8 (.slice As s.length cs) s := by rw [← hW]; exact Nr.Nr.set nr _ hi
     replace oz : Nr.Ow 22 (w.heap.size + 6) w8 (.slice Az q'.length cz) q' := by rw [← hW]; exact Nr.Ow.set oz _ (fun e => by have h6 : _ ≤ w.heap.size + 4 := Kd.R_base oz.out _ e; omega)
     replace bl : Below w.heap.size w w8 := by rw [← hW]; exact below_set bl (by omega)
     replace hz : w.heap.size + 5 < w8.heap.size := by omega
     clear hW hc hf hi hz4
     go_wp2
     go_roundg kr
     case measure => omega
     case rel => exact ⟨_, Az, cz, q', As, cs, s, rfl, EE, ⟨q1, q2, q3, q4, q5, f2, f3, f4, f5, hz, nb, nr, oz, at2, bl⟩⟩)
   ·rw [if_neg hu] at E
    have EE := A_ E;clear E
    have cu : decide (0 ≤ u) = false := decide_eq_false hu
    clear hu
    go_wp2_with (first | (go_at_call 44; refine (Nr.shl kr _ l1_0 x t _ nb T0.out).mono ?_; rintro e w1 ⟨At, ct, rfl, ot, hb⟩; (try replace hb := Nr.undrew hb); obtain ⟨hc, hf⟩ := Nr.bcell hb; have hs := hb.size; replace q1 := (hc _ _ (by omega)).trans q1; replace q2 := (hc _ _ (by omega)).trans q2; replace q3 := (hc _ _ (by omega)).trans q3; replace q4 := (hc _ _ (by omega)).trans q4; replace q5 := (hc _ _ (by omega)).trans q5; replace f2 := (hf _ _ (by omega)).trans f2; replace f3 := (hf _ _ (by omega)).trans f3; replace f4 := (hf _ _ (by omega)).trans f4; replace f5 := (hf _ _ (by omega)).trans f5; replace nb := Nr.Nr.below nb hb; replace nr := Nr.Nr.below nr hb; replace ow := Nr.Ow.below ow hb; replace bl := below_step bl hb; replace hz := Nat.lt_of_lt_of_le hz hs; clear hc hf hs hb) | (go_at_call 46; refine (Nr.cmp kr _ _ lr t u _ (Nr.Nr.alloc nr _) (Nr.Nr.alloc ot.nr _) T1.out).mono ?_; rintro e w2 ⟨rfl, hb⟩; have tq := Nr.newcell hb; have ht := Nr.newlt hb; replace hb := Nr.unalloc hb; (try replace hb := Nr.undrew hb); obtain ⟨hc, hf⟩ := Nr.bcell hb; have hs := hb.size; replace q1 := (hc _ _ (by omega)).trans q1; replace q2 := (hc _ _ (by omega)).trans q2; replace q3 := (hc _ _ (by omega)).trans q3; replace q4 := (hc _ _ (by omega)).trans q4; replace q5 := (hc _ _ (by omega)).trans q5; replace f2 := (hf _ _ (by omega)).trans f2; replace f3 := (hf _ _ (by omega)).trans f3; replace f4 := (hf _ _ (by omega)).trans f4; replace f5 := (hf _ _ (by omega)).trans f5; replace nb := Nr.Nr.below nb hb; replace nr := Nr.Nr.below nr hb; replace ow := Nr.Ow.below ow hb; replace ot := Nr.Ow.below ot hb; replace bl := below_step bl hb; replace hz := Nat.lt_of_lt_of_le hz hs; clear hc hf hs hb))
    go_roundg kr
    case measure => omega
    case rel => exact ⟨_, Aq, cq, lq, Ar, cr, lr, rfl, EE, ⟨q1, q2, q3, q4, q5, f2, f3, f4, f5, hz, nb, nr, ow, at0, bl⟩⟩
  ·rw [if_neg hx] at E
   have c0 : decide (0 ≤ x) = false := decide_eq_false hx
   injection E with E
   injection E with E1 E2
   subst E1
   subst E2
   clear hx E
   go_wp2
   go_region
   go_wp2
   have i2 : Nr.IsRow (wr.cell? ⟨w.heap.size + 2, 0, none⟩) := by rw [q2]; exact Nr.IsRow.slice _ _ _
   have e2 := World.cell?_setCell_same _ _ (.slice Aq lq.length cq) q2
   have e3 : (wr.setCell ⟨w.heap.size + 2, 0, none⟩ (.slice Aq lq.length cq)).cell? ⟨w.heap.size + 3, 0, none⟩ = some (.slice none 0 0) := (World.cell?_setCell_far _ _ _ _ (by simp)).trans q3
   have i3 : Nr.IsRow ((wr.setCell ⟨w.heap.size + 2, 0, none⟩ (.slice Aq lq.length cq)).cell? ⟨w.heap.size + 3, 0, none⟩) := by rw [e3]; exact Nr.IsRow.slice _ _ _
   have e4 := World.cell?_setCell_same _ _ (.slice Ar lr.length cr) e3
   have e5 : ((wr.setCell ⟨w.heap.size + 2, 0, none⟩ (.slice Aq lq.length cq)).setCell ⟨w.heap.size + 3, 0, none⟩ (.slice Ar lr.length cr)).cell? ⟨w.heap.size + 2, 0, none⟩ = some (.slice Aq lq.length cq) := (World.cell?_setCell_far _ _ _ _ (by simp)).trans e2
   have ow' := Nr.Ow.drew (Nr.Ow.set (Nr.Ow.set ow (p := ⟨w.heap.size + 2, 0, none⟩) (.slice Aq lq.length cq) (fun e => by have h6 : _ ≤ w.heap.size + 2 := Kd.R_base ow.out _ e; omega)) (p := ⟨w.heap.size + 3, 0, none⟩) (.slice Ar lr.length cr) (fun e => by have h6 : _ ≤ w.heap.size + 3 := Kd.R_base ow.out _ e; omega))
   have nr' := Nr.Nr.drew (Nr.Nr.set (Nr.Nr.set nr (.slice Aq lq.length cq) i2) (.slice Ar lr.length cr) i3)
   exact bodyPost_ret (v := .tuple #[.agg #[.slice Aq lq.length cq], .agg #[.slice Ar lr.length cr]]) (by simp [results, Try.results45, go_sem, e4, e5]) rfl ⟨_, _, rfl, (Nr.lower ow' (by omega)).out, Nr.Nr.toV nr' at0, below_drew1 (below_set (below_set bl (by omega)) (by omega))⟩
end Go.Proofs.Ythdeeoallfbjmaa.PA
section
set_option linter.unusedVariables false
set_option linter.unusedSimpArgs false
namespace Go.Proofs.Ythdeeoallfbjmaa.Th
open Go.RowKit Go.Proofs.YthdeeoallfbjmaaW.PrintWords Go.Proofs.YthdeeoallfbjmaaW.PrintLast Go.Proofs.YthdeeoallfbjmaaW.PrintMore Go.Proofs.Ythdeeoallfbjmaa.PA Bit Flo
theorem packE (w : Int) (hw : w = 32 ∨ w = 64) (s : Bool) (h l : Nat) (hh : h < 18446744073709551616) (hl : l < 18446744073709551616) (e : Int) (m : Bool) : round_Pack.f w s h l e m = some ((mkN w (pkm (fmt w) (wn h l) e m) s : Nat) : Int) := by
  unfold round_Pack.f
  rw [if_pos (by omega), if_pos hw, Int.toNat_natCast, Int.toNat_natCast]
theorem pack1 (w : Int) (hw : w = 32 ∨ w = 64) (s : Bool) (n : Nat) (hn : n < 18446744073709551616) (e : Int) : round_Pack.f w s 0 n e false = some ((mkN w ((fmt w).rnd ((n : Rat) * tw e)) s : Nat) : Int) := by
  have := packE w hw s 0 n (by decide) hn e false
  rw [show wn 0 n = n by unfold wn; omega, pk_ex w n e (by omega)] at this
  exact this
theorem shN (w : Int) (hw : w = 32 ∨ w = 64) : shape_Nan.f w = some ((nanN w : Nat) : Int) := by rcases hw with rfl | rfl; exact shNan32; exact shNan64
end Go.Proofs.Ythdeeoallfbjmaa.Th
end
section
set_option linter.unusedVariables false
set_option linter.unusedSimpArgs false
namespace Go.Proofs.Ythdeeoallfbjmaa.Th
open Go.RowKit Go.Proofs.YthdeeoallfbjmaaW.PrintWords Go.Proofs.YthdeeoallfbjmaaW.PrintLast Go.Proofs.YthdeeoallfbjmaaW.PrintMore Go.Proofs.Ythdeeoallfbjmaa.PA Bit Dig Flo
theorem wOf (g : Nat) (hg : g < 18446744073709551616) : wide_Of.f (g : Int) = some (wH g, wL g) := by
  obtain ⟨e1, e2⟩ := wSmall hg
  rw [e1, e2]; rfl
theorem pow_big {g n : Nat} (hg : g < 9007199254740992) (hn : 53 ≤ n) : g < 2 ^ n := Nat.lt_of_lt_of_le hg (Nat.pow_le_pow_right (n := 2) (by decide) hn)
theorem ofE (s : Bool) (kd : Int) {g n : Nat} {e : Int} (hg : g < 9007199254740992) (hn : e = -(n : Int)) (h0 : 0 < n) (h1 : n < 2000) :
    whole_of.f s kd e g = some (s, ((g / 2 ^ n : Nat) : Int), decide (g / 2 ^ (n - 1) % 2 = 1), decide (g % 2 ^ (n - 1) ≠ 0)) := by
  unfold whole_of.f
  subst hn
  have e1 : wrap64 (mn (wrap64 (-(-(n : Int)))) 128 - 1) = ((min n 128 - 1 : Nat) : Int) := by
    rw [Int.neg_neg, w64_id (n := (n : Int)) (by omega) (by omega)]
    unfold mn
    split <;> rw [w64_id (by omega) (by omega)] <;> omega
  have hq : g / 2 ^ (min n 128 - 1) ≤ g := Nat.div_le_self _ _
  have hq2 : g / 2 ^ (min n 128 - 1) / 2 ^ 1 ≤ g := Nat.le_trans (Nat.div_le_self _ _) hq
  have k1 := wRight (V := g) (by omega) (min n 128 - 1) (by omega)
  have k2 := wRight (V := g / 2 ^ (min n 128 - 1)) (by omega) 1 (by decide)
  rw [e1, wOf g (by omega), Option.bind_some]
  dsimp only
  rw [k1, Option.bind_some]
  dsimp only
  rw [show (1 : Int) = ((1 : Nat) : Int) from rfl, k2, Option.bind_some]
  dsimp only
  have w1 := wAnd1 (g / 2 ^ (min n 128 - 1))
  have k3 : wL (g / 2 ^ (min n 128 - 1) / 2 ^ 1) = ((g / 2 ^ (min n 128 - 1) / 2 ^ 1 : Nat) : Int) := (wSmall (by omega)).2
  rw [show ((1 : Nat) : Int) = 1 from rfl, w1, k3]
  by_cases c : n ≤ 128
  · rw [Nat.min_eq_left c, Nat.div_div_eq_div_mul, ← Nat.pow_add, show n - 1 + 1 = n by omega]
  · rw [Nat.min_eq_right (by omega)]
    have b1 : g < 2 ^ 127 := pow_big hg (by decide)
    have b2 : g < 2 ^ n := pow_big hg (by omega)
    have b3 : g < 2 ^ (n - 1) := pow_big hg (by omega)
    rw [show 128 - 1 = 127 from rfl, Nat.div_eq_of_lt b1, Nat.mod_eq_of_lt b1, Nat.div_eq_of_lt b2, Nat.div_eq_of_lt b3, Nat.mod_eq_of_lt b3, Nat.zero_div]
theorem whHalf (g n : Nat) (h0 : 0 < n) : g % 2 ^ n = g % 2 ^ (n - 1) + 2 ^ (n - 1) * (g / 2 ^ (n - 1) % 2) := by
  obtain ⟨k, rfl⟩ : ∃ k, n = k + 1 := ⟨n - 1, by omega⟩
  rw [Nat.add_sub_cancel, Nat.pow_succ, Nat.mod_mul]
theorem whLost (g n : Nat) (h0 : 0 < n) : (decide (g / 2 ^ (n - 1) % 2 = 1) || decide (g % 2 ^ (n - 1) ≠ 0)) = decide (g % 2 ^ n ≠ 0) := by
  have h := whHalf g n h0
  have hp : 0 < 2 ^ (n - 1) := Nat.pow_pos (by decide)
  rw [h]
  rcases Nat.mod_two_eq_zero_or_one (g / 2 ^ (n - 1)) with e | e
  · rw [e]; simp
  · rw [e]; simp
theorem whNear (g n : Nat) (h0 : 0 < n) : (decide (g / 2 ^ (n - 1) % 2 = 1) && (decide (g % 2 ^ (n - 1) ≠ 0) || decide (g / 2 ^ n % 2 = 1))) =
    (decide (2 ^ n < 2 * (g % 2 ^ n)) || (decide (2 * (g % 2 ^ n) = 2 ^ n) && decide (g / 2 ^ n % 2 = 1))) := by
  have h := whHalf g n h0
  have hp : 0 < 2 ^ (n - 1) := Nat.pow_pos (by decide)
  have hl : g % 2 ^ (n - 1) < 2 ^ (n - 1) := Nat.mod_lt _ hp
  have e2 : 2 ^ n = 2 * 2 ^ (n - 1) := by rw [← Nat.pow_succ', show (n - 1).succ = n by omega]
  rw [h, e2]
  generalize g / (2 * 2 ^ (n - 1)) % 2 = o
  rcases Nat.mod_two_eq_zero_or_one (g / 2 ^ (n - 1)) with e | e
  · rw [e]
    simp
    exact ⟨by omega, fun h => by omega⟩
  · rw [e]
    by_cases c : g % 2 ^ (n - 1) = 0
    · simp [c]
    · simp [c]
      omega
def upB (way : Nat) (s : Bool) (g n : Nat) : Bool :=
  if way = 1 then decide (g % 2 ^ n ≠ 0) && !s else if way = 2 then decide (g % 2 ^ n ≠ 0) && s
  else if way = 4 then (decide (2 ^ n < 2 * (g % 2 ^ n)) || (decide (2 * (g % 2 ^ n) = 2 ^ n) && decide (g / 2 ^ n % 2 = 1))) else false
noncomputable def mkW (way : Nat) (w : Int) (a : Nat) : Nat :=
  if (opn w a).2.1 = 3 then nanN w
  else if (opn w a).2.1 = 1 ∧ (opn w a).2.2.1 < 0 then
    mkN w ((fmt w).rnd (((fmt w).sg (magN w a) / 2 ^ (-(opn w a).2.2.1).toNat + (if upB way (sgB w a) ((fmt w).sg (magN w a)) (-(opn w a).2.2.1).toNat then 1 else 0) : Nat) : Rat)) (sgB w a)
  else cutN w a
def awB (way : Nat) : Bool → Int → Bool → Bool → Bool := if way = 1 then whole_Ceil.aw else if way = 2 then whole_Floor.aw else if way = 4 then whole_Nearest.aw else whole_Trunc.aw
theorem oddI (q : Nat) (h : q < 18446744073709551616) : (Go.bits .and .u64 (q : Int) 1 == 1) = decide (q % 2 = 1) := by
  have := wAnd1 q
  rw [(wSmall h).2] at this
  exact this
theorem awS (way : Nat) (hway : way = 1 ∨ way = 2 ∨ way = 3 ∨ way = 4) (s : Bool) (g n : Nat) (h0 : 0 < n) (hg : g < 9007199254740992) :
    ((decide (g / 2 ^ (n - 1) % 2 = 1) || decide (g % 2 ^ (n - 1) ≠ 0)) && awB way s ((g / 2 ^ n : Nat) : Int) (decide (g / 2 ^ (n - 1) % 2 = 1)) (decide (g % 2 ^ (n - 1) ≠ 0))) = upB way s g n := by
  have hl := whLost g n h0
  rcases hway with rfl | rfl | rfl | rfl
  · rw [hl]; rfl
  · rw [hl]; rfl
  · rw [hl]; exact Bool.and_false _
  · have e : awB 4 s ((g / 2 ^ n : Nat) : Int) (decide (g / 2 ^ (n - 1) % 2 = 1)) (decide (g % 2 ^ (n - 1) ≠ 0)) = (decide (g / 2 ^ (n - 1) % 2 = 1) && (decide (g % 2 ^ (n - 1) ≠ 0) || decide (g / 2 ^ n % 2 = 1))) := by
      show (_ && (_ || (Go.bits .and .u64 ((g / 2 ^ n : Nat) : Int) 1 == 1))) = _
      rw [oddI _ (by have := Nat.div_le_self g (2 ^ n); omega)]
    rw [e]
    show _ = (decide (2 ^ n < 2 * (g % 2 ^ n)) || (decide (2 * (g % 2 ^ n) = 2 ^ n) && decide (g / 2 ^ n % 2 = 1)))
    rw [← whNear g n h0]
    cases decide (g / 2 ^ (n - 1) % 2 = 1) <;> simp
theorem madeE (way : Nat) (hway : way = 1 ∨ way = 2 ∨ way = 3 ∨ way = 4) (w : Int) (hw : w = 32 ∨ w = 64) (a : Nat) (ha : a < 18446744073709551616) :
    Ev (fun k => whole_madeF k (awB way) w a) ((mkW way w a : Nat) : Int) := by
  unfold whole_madeF mkW
  refine Ev.pos hw (Ev.bind (openS w hw a ha) ?_)
  by_cases k3 : (opn w a).2.1 = 3
  · refine Ev.pos k3 ?_
    rw [if_pos k3, shN w hw]
    exact Ev.out rfl
  · refine Ev.neg k3 ?_
    rw [if_neg k3]
    by_cases c : (opn w a).2.1 = 1 ∧ (opn w a).2.2.1 < 0
    · refine Ev.pos c ?_
      rw [if_pos c]
      rcases kinds w hw a with ⟨k1, k2⟩ | ⟨k0, k1, k2⟩ | ⟨k1, k2⟩ | ⟨k1, k2⟩
      · rw [k2] at c; exact absurd c.1 (by simp)
      · have he := ex_bd w hw _ k1
        have hg := sg_64 w hw (magN w a)
        obtain ⟨n, hn⟩ := Int.eq_ofNat_of_zero_le (show 0 ≤ -(opn w a).2.2.1 by omega)
        rw [k2] at c hn ⊢
        dsimp only at c hn ⊢
        rw [hn, Int.toNat_natCast]
        have h0 : 0 < n := by omega
        have hq : (fmt w).sg (magN w a) / 2 ^ n ≤ (fmt w).sg (magN w a) := Nat.div_le_self _ _
        refine Ev.bs (ofE (sgB w a) 1 hg (show _ = -(n : Int) by omega) h0 (by omega)) ?_
        dsimp only
        rw [awS way hway _ _ _ h0 hg]
        generalize (fmt w).sg (magN w a) / 2 ^ n = q at *
        generalize upB way (sgB w a) ((fmt w).sg (magN w a)) n = u
        have e : (if u = true then IntKind.u64.wrap ((q : Int) + 1) else (q : Int)) = ((q + (if u = true then 1 else 0) : Nat) : Int) := by
          cases u
          · simp
          · rw [if_pos rfl, if_pos rfl, u64_id (by omega) (by omega)]; omega
        rw [e]
        have p := pack1 w hw (sgB w a) (q + (if u = true then 1 else 0)) (by split <;> omega) 0
        rw [tw_zero, Rat.mul_one] at p
        rw [p]
        exact Ev.out rfl
      · rw [k2] at c; exact absurd c.1 (by simp)
      · rw [k2] at c; exact absurd c.1 (by simp)
    · refine Ev.neg c ?_
      rw [if_neg c]
      rw [shCut w a ha]
      exact Ev.out rfl
theorem awake09 : Ev (fun k => L09_awake.f k) true := Ev.of (fun k => L09_awake.mono k) (k := 12) (by decide +kernel)
def isWh (w : Int) (a : Nat) : Bool := decide ((opn w a).2.1 = 0) || (decide ((opn w a).2.1 = 1) && (decide (0 ≤ (opn w a).2.2.1) || decide ((fmt w).sg (magN w a) % 2 ^ (-(opn w a).2.2.1).toNat = 0)))
theorem isEh (w : Int) (hw : w = 32 ∨ w = 64) (a : Nat) (ha : a < 18446744073709551616) : Ev (fun k => whole_IsWhole.f k w a) (isWh w a) := by
  have main : Ev (fun k => whole_IsWhole.j0 k w a false) (isWh w a) := by
    refine Ev.step (fun _ => whole_IsWhole.j0.eq_2 ..) (Ev.neg (by decide) (Ev.bind (openS w hw a ha) ?_))
    unfold isWh
    rcases kinds w hw a with ⟨k1, k2⟩ | ⟨k0, k1, k2⟩ | ⟨k1, k2⟩ | ⟨k1, k2⟩
    · rw [k2]; exact Ev.pos rfl (Ev.out rfl)
    · have he := ex_bd w hw _ k1
      have hg := sg_64 w hw (magN w a)
      rw [k2]
      dsimp only
      refine Ev.neg (by decide) (Ev.pos rfl ?_)
      by_cases c : 0 ≤ (fmt w).ex (magN w a)
      · exact Ev.pos c (Ev.out (by simp [c]))
      · obtain ⟨n, hn⟩ := Int.eq_ofNat_of_zero_le (show 0 ≤ -(fmt w).ex (magN w a) by omega)
        refine Ev.neg c (Ev.bs (ofE (sgB w a) 1 hg (show _ = -(n : Int) by omega) (by omega) (by omega)) ?_)
        dsimp only
        rw [hn, Int.toNat_natCast]
        have l := whLost ((fmt w).sg (magN w a)) n (by omega)
        have e : ∀ h r : Bool, whole_cut_exact.f (sgB w a) (((fmt w).sg (magN w a) / 2 ^ n : Nat) : Int) h r = some (!(h || r)) := by intro h r; cases h <;> cases r <;> rfl
        refine Ev.bs (e _ _) ?_
        rw [l]
        refine Ev.out ?_
        simp only [decide_eq_false c, decide_true, Bool.true_and, Bool.false_or]
        by_cases z : (fmt w).sg (magN w a) % 2 ^ n = 0 <;> simp [z]
    · rw [k2]; exact Ev.neg (by simp) (Ev.neg (by simp) (Ev.out rfl))
    · rw [k2]; exact Ev.neg (by simp) (Ev.neg (by simp) (Ev.out rfl))
  unfold whole_IsWhole.f
  rcases hw with rfl | rfl
  · exact Ev.pos rfl main
  · exact Ev.neg (by decide) main
theorem ceilE (w : Int) (hw : w = 32 ∨ w = 64) (a : Nat) (ha : a < 18446744073709551616) : Ev (fun k => whole_Ceil.f k w a) ((mkW 1 w a : Nat) : Int) := madeE 1 (by simp) w hw a ha
theorem floorE (w : Int) (hw : w = 32 ∨ w = 64) (a : Nat) (ha : a < 18446744073709551616) : Ev (fun k => whole_Floor.f k w a) ((mkW 2 w a : Nat) : Int) := madeE 2 (by simp) w hw a ha
theorem truncE (w : Int) (hw : w = 32 ∨ w = 64) (a : Nat) (ha : a < 18446744073709551616) : Ev (fun k => whole_Trunc.f k w a) ((mkW 3 w a : Nat) : Int) := madeE 3 (by simp) w hw a ha
theorem nearE (w : Int) (hw : w = 32 ∨ w = 64) (a : Nat) (ha : a < 18446744073709551616) : Ev (fun k => whole_Nearest.f k w a) ((mkW 4 w a : Nat) : Int) := madeE 4 (by simp) w hw a ha
end Go.Proofs.Ythdeeoallfbjmaa.Th
end
