/- What the Go functions that the statement RadixKeeps reaches compute, and the mathematics on it, in the order in which one leans on the other; for every input. -/
import Derived.Test.YtjjehbedpgdhgaaVRadixKeeps0
import Derived.Test.YtjjehbedpgdhgaaMRadixKeeps0
import Derived.Test.YtjjehbedpgdhgaaMRadixKeeps5
import Derived.Test.YtjjehbedpgdhgaaMRadixKeeps3
import Derived.Test.YtjjehbedpgdhgaaMRadixKeeps4
import Derived.Test.YtjjehbedpgdhgaaMRadixKeeps1
import Derived.Test.YtjjehbedpgdhgaaMRadixKeeps2
import Derived.Deep.RegionHeld3
import Derived.Test.YtjjehbedpgdhgaaRows
import Derived.ProofKit
import Derived.JoinedOf
import Derived.KernelRfl
namespace Go.Proofs.Ytjjehbedpgdhgaa.PA
open Go.RowKit Go.Proofs.YtjjehbedpgdhgaaW.PrintWords Go.Proofs.YtjjehbedpgdhgaaW.PrintLast Go.Proofs.YtjjehbedpgdhgaaW.PrintMore
attribute [local go_sem] max2_int min2_int max_two min_two max_three min_three max_four min_four   -- for this text's walks alone
set_option linter.unusedVariables false
set_option linter.unusedSimpArgs false
set_option maxHeartbeats 8000000
set_option maxRecDepth 100000
def L07_RadixKeeps.j0 : Nat → Int → Int → Int → Bool → Option (Bool)
 | 0, _, _, _, _ => none
 | k + 1, x0, x1, x2, x19 => if x19 = true then (some true) else ((round_Whole.f x0 false (IntKind.u64.wrap ((Int.tmod x1 4096) * (Int.tmod x1 4096)))).bind fun t377 => ((radix_Sqrt.f k x0 t377).bind fun t378 => ((round_Whole.f x0 false (Int.tmod x1 4096)).bind fun t379 => (if t378 = t379 then ((radix_Sqrt.f k x0 x1).bind fun t380 => ((radix_Sqrt.f k x0 x2).bind fun t381 => ((shape_IsNan.f k x0 t380).bind fun t382 => (if t382 = true then ((shape_Nan.f x0).bind fun t383 => (some (t380 == t383))) else ((shape_Open.f k x0 x1).bind fun bt384 => ((shape_Open.f k x0 x2).bind fun bt388 => (if bt384.1 = true then (some true) else (if bt388.1 = true then (some true) else (if bt388.2.1 = 3 then (some true) else ((shape_Cut.f x0 x2).bind fun t394 => ((shape_Cut.f x0 x1).bind fun t395 => (if t394 < t395 then (some true) else (some (decide (t381 ≥ t380))))))))))))))) else (some false)))))
def L07_RadixKeeps.f (k : Nat) (a0 : Int) (a1 : Int) (a2 : Int) : Option (Bool) := (L07_awake.f k).bind fun t376 => (if t376 = true then (if a0 = 32 then (L07_RadixKeeps.j0 k a0 a1 a2 false) else (L07_RadixKeeps.j0 k a0 a1 a2 (a0 != 64))) else (some false))
theorem L07_RadixKeeps.mono_l : ∀ k, (∀ y0 y1 y2 y3, LeO (L07_RadixKeeps.j0 k y0 y1 y2 y3) (L07_RadixKeeps.j0 (k + 1) y0 y1 y2 y3))
 | 0 => fun _ _ _ _ r h => by simp [L07_RadixKeeps.j0] at h
 | k + 1 => by
  have ih0 := L07_RadixKeeps.mono_l k
  ·intro y0 y1 y2 y3
   unfold L07_RadixKeeps.j0
   repeat' first
   | (with_reducible exact ih0 _ _ _ _)
   | (with_reducible exact radix_Sqrt.mono _ _ _)
   | (with_reducible exact shape_IsNan.mono _ _ _)
   | (with_reducible exact shape_Open.mono _ _ _)
   | (with_reducible exact L07_awake.mono _)
   | (with_reducible exact LeO.refl _)
   | (with_reducible exact LeO.none _)
   | (with_reducible refine LeO.ite ?_ ?_)
   | (with_reducible refine LeO.bind ?_ (fun _ => ?_))
   | exact ih0 _ _ _ _
   | exact radix_Sqrt.mono _ _ _
   | exact shape_IsNan.mono _ _ _
   | exact shape_Open.mono _ _ _
   | exact L07_awake.mono _
   | exact LeO.none _
   | refine LeO.ite ?_ ?_
   | refine LeO.bind ?_ (fun _ => ?_)
theorem L07_RadixKeeps.mono : ∀ a0 a1 a2 k, LeO (L07_RadixKeeps.f k a0 a1 a2) (L07_RadixKeeps.f (k + 1) a0 a1 a2) := by
 intro a0 a1 a2 k
 have ih0 := L07_RadixKeeps.mono_l k
 unfold L07_RadixKeeps.f
 repeat' first
   | (with_reducible exact ih0 _ _ _ _)
   | (with_reducible exact radix_Sqrt.mono _ _ _)
   | (with_reducible exact shape_IsNan.mono _ _ _)
   | (with_reducible exact shape_Open.mono _ _ _)
   | (with_reducible exact L07_awake.mono _)
   | (with_reducible exact LeO.refl _)
   | (with_reducible exact LeO.none _)
   | (with_reducible refine LeO.ite ?_ ?_)
   | (with_reducible refine LeO.bind ?_ (fun _ => ?_))
   | exact ih0 _ _ _ _
   | exact radix_Sqrt.mono _ _ _
   | exact shape_IsNan.mono _ _ _
   | exact shape_Open.mono _ _ _
   | exact L07_awake.mono _
   | exact LeO.none _
   | refine LeO.ite ?_ ?_
   | refine LeO.bind ?_ (fun _ => ?_)
theorem L07_RadixKeeps.calls (k : Nat) (a0 : Int) (a1 : Int) (a2 : Int) (r : Bool) (w : World) (h : L07_RadixKeeps.f k a0 a1 a2 = some r) (hr_ : Aside0 (r = true)) :
  Calls Try.prog 4 #[.int .i64 a0, .int .u64 a1, .int .u64 a2] w fun e w' => e = .returned (.bool r) ∧ Below w.heap.size w w' := by
 have hu30 := Try.underlying30
 have HB := A_ (Below.refl w.heap.size w)
 have H : ((L07_awake.f k).bind fun t376 => (if t376 = true then (if a0 = 32 then (L07_RadixKeeps.j0 k a0 a1 a2 false) else (L07_RadixKeeps.j0 k a0 a1 a2 (a0 != 64))) else (some false))) = some r := h
 clear h
 replace H := ob_ H
 obtain ⟨t376, A40, H⟩ := H
 replace H : (if t376 = true then (if a0 = 32 then (L07_RadixKeeps.j0 k a0 a1 a2 false) else (L07_RadixKeeps.j0 k a0 a1 a2 (a0 != 64))) else (some false)) = some r := H
 have A4 := A_ A40;clear A40
 by_cases c5 : t376 = true
 ·subst c5
  have H1 : (if a0 = 32 then (L07_RadixKeeps.j0 k a0 a1 a2 false) else (L07_RadixKeeps.j0 k a0 a1 a2 (a0 != 64))) = some r := by rw [if_pos rfl] at H; exact H
  clear H;have H := H1;clear H1;have HC6 := A_ H;clear H
  go_enter Try.func4, Try.ntmps4
  go_upto_region 3 with (first | ((with_reducible refine gate_callee (f := 8) rfl ?_); refine gl_ (some 12) Try.func8 #[] ?_; (with_reducible refine (L07_awake.calls k  true _ A4.out).mono ?_); rintro e w7 ⟨rfl, hb⟩; refine ⟨_, rfl, ?_⟩; replace HB := A_ (below_step (hb_ HB.out) hb); (try clear hb); (try clear hb2); (try clear hk); (try clear hi)))
  (try simp only [Act.put, lI_, l0_, lS_])
  go_cut [19] (fun v19 wc => ∃ (kq : Nat) (x19_5 : Bool), v19 = .bool x19_5 ∧ Aside0 (L07_RadixKeeps.j0 kq a0 a1 a2 x19_5 = some r) ∧ Aside0 (kq ≤ k) ∧ Aside0 (Below w.heap.size w wc))
  case first =>
   have H := HC6.out
   clear HC6
   by_cases c8 : a0 = 32
   ·rw [if_pos c8] at H
    have c8b0 : (a0 == 32) = true := beq_iff_eq.mpr c8
    have c8b1 : (a0 != 32) = false := bne_eq_false_iff_eq.mpr c8
    clear c8
    (first | rw [c8b0] | (simp only [i64_w, i32_w]; rw [c8b0]) | skip)
    have H' := A_ H
    clear H
    go_wp2
    go_meet
    case rel => exact ⟨_, (false), sm_, H', ⟨by first | omega | exact Nat.le_refl _⟩, ⟨hb_ HB.out⟩⟩
   ·rw [if_neg c8] at H
    have c8b0 : (a0 == 32) = false := beq_eq_false_iff_ne.mpr c8
    have c8b1 : (a0 != 32) = true := bne_iff_ne.mpr c8
    (first | rw [c8b0] | (simp only [i64_w, i32_w]; rw [c8b0]) | skip)
    have H' := A_ H
    clear H
    go_wp2
    go_meet
    case rel => exact ⟨_, ((a0 != 64)), sm_, H', ⟨by first | omega | exact Nat.le_refl _⟩, ⟨hb_ HB.out⟩⟩
  case rest =>
   clear HC6
   try clear p2
   try clear c4
   try clear c5
   try clear c8
   try clear c8b0
   try clear c8b1
   obtain ⟨kq, x19_5, rfl, HA, HJ5, HB⟩ := hcut
   cases kq with
   | zero => exact absurd HA.out (by simp [L07_RadixKeeps.j0])
   | succ kj5 =>
    have H := HA.out
    clear HA
    simp only [L07_RadixKeeps.j0] at H
    by_cases c9 : x19_5 = true
    ·subst c9
     have H1 : (some true) = some r := by rw [if_pos rfl] at H; exact H
     clear H;have H := H1;clear H1
     obtain rfl := Option.some.inj H
     go_wp2
     go_ret
     exact ⟨er_, hb_ HB.out⟩
    ·replace c9 := Bool.eq_false_iff.mpr c9
     subst c9
     have H1 : ((round_Whole.f a0 false (IntKind.u64.wrap ((Int.tmod a1 4096) * (Int.tmod a1 4096)))).bind fun t377 => ((radix_Sqrt.f kj5 a0 t377).bind fun t378 => ((round_Whole.f a0 false (Int.tmod a1 4096)).bind fun t379 => (if t378 = t379 then ((radix_Sqrt.f kj5 a0 a1).bind fun t380 => ((radix_Sqrt.f kj5 a0 a2).bind fun t381 => ((shape_IsNan.f kj5 a0 t380).bind fun t382 => (if t382 = true then ((shape_Nan.f a0).bind fun t383 => (some (t380 == t383))) else ((shape_Open.f kj5 a0 a1).bind fun bt384 => ((shape_Open.f kj5 a0 a2).bind fun bt388 => (if bt384.1 = true then (some true) else (if bt388.1 = true then (some true) else (if bt388.2.1 = 3 then (some true) else ((shape_Cut.f a0 a2).bind fun t394 => ((shape_Cut.f a0 a1).bind fun t395 => (if t394 < t395 then (some true) else (some (decide (t381 ≥ t380))))))))))))))) else (some false))))) = some r := by rw [if_neg (show ¬ (false = true) by decide)] at H; exact H
     clear H;have H := H1;clear H1
     replace H := ob_ H
     obtain ⟨t377, A100, H⟩ := H
     replace H : ((radix_Sqrt.f kj5 a0 t377).bind fun t378 => ((round_Whole.f a0 false (Int.tmod a1 4096)).bind fun t379 => (if t378 = t379 then ((radix_Sqrt.f kj5 a0 a1).bind fun t380 => ((radix_Sqrt.f kj5 a0 a2).bind fun t381 => ((shape_IsNan.f kj5 a0 t380).bind fun t382 => (if t382 = true then ((shape_Nan.f a0).bind fun t383 => (some (t380 == t383))) else ((shape_Open.f kj5 a0 a1).bind fun bt384 => ((shape_Open.f kj5 a0 a2).bind fun bt388 => (if bt384.1 = true then (some true) else (if bt388.1 = true then (some true) else (if bt388.2.1 = 3 then (some true) else ((shape_Cut.f a0 a2).bind fun t394 => ((shape_Cut.f a0 a1).bind fun t395 => (if t394 < t395 then (some true) else (some (decide (t381 ≥ t380))))))))))))))) else (some false)))) = some r := H
     have A10 := A_ A100;clear A100
     replace H := ob_ H
     obtain ⟨t378, A110, H⟩ := H
     replace H : ((round_Whole.f a0 false (Int.tmod a1 4096)).bind fun t379 => (if t378 = t379 then ((radix_Sqrt.f kj5 a0 a1).bind fun t380 => ((radix_Sqrt.f kj5 a0 a2).bind fun t381 => ((shape_IsNan.f kj5 a0 t380).bind fun t382 => (if t382 = true then ((shape_Nan.f a0).bind fun t383 => (some (t380 == t383))) else ((shape_Open.f kj5 a0 a1).bind fun bt384 => ((shape_Open.f kj5 a0 a2).bind fun bt388 => (if bt384.1 = true then (some true) else (if bt388.1 = true then (some true) else (if bt388.2.1 = 3 then (some true) else ((shape_Cut.f a0 a2).bind fun t394 => ((shape_Cut.f a0 a1).bind fun t395 => (if t394 < t395 then (some true) else (some (decide (t381 ≥ t380))))))))))))))) else (some false))) = some r := H
     have A11 := A_ A110;clear A110
     replace H := ob_ H
     obtain ⟨t379, A120, H⟩ := H
     replace H : (if t378 = t379 then ((radix_Sqrt.f kj5 a0 a1).bind fun t380 => ((radix_Sqrt.f kj5 a0 a2).bind fun t381 => ((shape_IsNan.f kj5 a0 t380).bind fun t382 => (if t382 = true then ((shape_Nan.f a0).bind fun t383 => (some (t380 == t383))) else ((shape_Open.f kj5 a0 a1).bind fun bt384 => ((shape_Open.f kj5 a0 a2).bind fun bt388 => (if bt384.1 = true then (some true) else (if bt388.1 = true then (some true) else (if bt388.2.1 = 3 then (some true) else ((shape_Cut.f a0 a2).bind fun t394 => ((shape_Cut.f a0 a1).bind fun t395 => (if t394 < t395 then (some true) else (some (decide (t381 ≥ t380))))))))))))))) else (some false)) = some r := H
     have A12 := A_ A120;clear A120
     by_cases c13 : t378 = t379
     ·rw [if_pos c13] at H
      have c13b0 : (t378 == t379) = true := beq_iff_eq.mpr c13
      have c13b1 : (t378 != t379) = false := bne_eq_false_iff_eq.mpr c13
      clear c13
      replace H := ob_ H
      obtain ⟨t380, A140, H⟩ := H
      replace H : ((radix_Sqrt.f kj5 a0 a2).bind fun t381 => ((shape_IsNan.f kj5 a0 t380).bind fun t382 => (if t382 = true then ((shape_Nan.f a0).bind fun t383 => (some (t380 == t383))) else ((shape_Open.f kj5 a0 a1).bind fun bt384 => ((shape_Open.f kj5 a0 a2).bind fun bt388 => (if bt384.1 = true then (some true) else (if bt388.1 = true then (some true) else (if bt388.2.1 = 3 then (some true) else ((shape_Cut.f a0 a2).bind fun t394 => ((shape_Cut.f a0 a1).bind fun t395 => (if t394 < t395 then (some true) else (some (decide (t381 ≥ t380)))))))))))))) = some r := H
      have A14 := A_ A140;clear A140
      replace H := ob_ H
      obtain ⟨t381, A150, H⟩ := H
      replace H : ((shape_IsNan.f kj5 a0 t380).bind fun t382 => (if t382 = true then ((shape_Nan.f a0).bind fun t383 => (some (t380 == t383))) else ((shape_Open.f kj5 a0 a1).bind fun bt384 => ((shape_Open.f kj5 a0 a2).bind fun bt388 => (if bt384.1 = true then (some true) else (if bt388.1 = true then (some true) else (if bt388.2.1 = 3 then (some true) else ((shape_Cut.f a0 a2).bind fun t394 => ((shape_Cut.f a0 a1).bind fun t395 => (if t394 < t395 then (some true) else (some (decide (t381 ≥ t380))))))))))))) = some r := H
      have A15 := A_ A150;clear A150
      replace H := ob_ H
      obtain ⟨t382, A160, H⟩ := H
      replace H : (if t382 = true then ((shape_Nan.f a0).bind fun t383 => (some (t380 == t383))) else ((shape_Open.f kj5 a0 a1).bind fun bt384 => ((shape_Open.f kj5 a0 a2).bind fun bt388 => (if bt384.1 = true then (some true) else (if bt388.1 = true then (some true) else (if bt388.2.1 = 3 then (some true) else ((shape_Cut.f a0 a2).bind fun t394 => ((shape_Cut.f a0 a1).bind fun t395 => (if t394 < t395 then (some true) else (some (decide (t381 ≥ t380)))))))))))) = some r := H
      have A16 := A_ A160;clear A160
      by_cases c17 : t382 = true
      ·subst c17
       have H1 : ((shape_Nan.f a0).bind fun t383 => (some (t380 == t383))) = some r := by rw [if_pos rfl] at H; exact H
       clear H;have H := H1;clear H1
       replace H := ob_ H
       obtain ⟨t383, A180, H⟩ := H
       replace H : (some (t380 == t383)) = some r := H
       have A18 := A_ A180;clear A180
       obtain rfl := Option.some.inj H
       go_wp2_with (first | ((with_reducible refine gate_callee (f := 12) rfl ?_); refine gl_ (some 27) Try.func12 #[.int .i64 a0, .bool false, .int .u64 (IntKind.u64.wrap ((Int.tmod a1 4096) * (Int.tmod a1 4096)))] ?_; (with_reducible refine (round_Whole.calls a0 false (IntKind.u64.wrap ((Int.tmod a1 4096) * (Int.tmod a1 4096))) t377 _ A10.out).mono ?_); rintro e w19 ⟨rfl, hb⟩; refine ⟨_, rfl, ?_⟩; replace HB := A_ (below_step (hb_ HB.out) hb); (try clear hb); (try clear hb2); (try clear hk); (try clear hi)) | ((with_reducible refine gate_callee (f := 9) rfl ?_); refine gl_ (some 28) Try.func9 #[.int .i64 a0, .int .u64 t377] ?_; (with_reducible refine (radix_Sqrt.calls kj5 a0 t377 t378 _ A11.out).mono ?_); rintro e w20 ⟨rfl, hb⟩; refine ⟨_, rfl, ?_⟩; replace HB := A_ (below_step (hb_ HB.out) hb); (try clear hb); (try clear hb2); (try clear hk); (try clear hi)) | ((with_reducible refine gate_callee (f := 12) rfl ?_); refine gl_ (some 31) Try.func12 #[.int .i64 a0, .bool false, .int .u64 (Int.tmod a1 4096)] ?_; (with_reducible refine (round_Whole.calls a0 false (Int.tmod a1 4096) t379 _ A12.out).mono ?_); rintro e w21 ⟨rfl, hb⟩; refine ⟨_, rfl, ?_⟩; replace HB := A_ (below_step (hb_ HB.out) hb); (try clear hb); (try clear hb2); (try clear hk); (try clear hi)) | ((with_reducible refine gate_callee (f := 9) rfl ?_); refine gl_ (some 35) Try.func9 #[.int .i64 a0, .int .u64 a1] ?_; (with_reducible refine (radix_Sqrt.calls kj5 a0 a1 t380 _ A14.out).mono ?_); rintro e w22 ⟨rfl, hb⟩; refine ⟨_, rfl, ?_⟩; replace HB := A_ (below_step (hb_ HB.out) hb); (try clear hb); (try clear hb2); (try clear hk); (try clear hi)) | ((with_reducible refine gate_callee (f := 9) rfl ?_); refine gl_ (some 38) Try.func9 #[.int .i64 a0, .int .u64 a2] ?_; (with_reducible refine (radix_Sqrt.calls kj5 a0 a2 t381 _ A15.out).mono ?_); rintro e w23 ⟨rfl, hb⟩; refine ⟨_, rfl, ?_⟩; replace HB := A_ (below_step (hb_ HB.out) hb); (try clear hb); (try clear hb2); (try clear hk); (try clear hi)) | ((with_reducible refine gate_callee (f := 13) rfl ?_); refine gl_ (some 41) Try.func13 #[.int .i64 a0, .int .u64 t380] ?_; (with_reducible refine (shape_IsNan.calls kj5 a0 t380 true _ A16.out).mono ?_); rintro e w24 ⟨rfl, hb⟩; refine ⟨_, rfl, ?_⟩; replace HB := A_ (below_step (hb_ HB.out) hb); (try clear hb); (try clear hb2); (try clear hk); (try clear hi)) | ((with_reducible refine gate_callee (f := 14) rfl ?_); refine gl_ (some 44) Try.func14 #[.int .i64 a0] ?_; (with_reducible refine (shape_Nan.calls a0 t383 _ A18.out).mono ?_); rintro e w25 ⟨rfl, hb⟩; refine ⟨_, rfl, ?_⟩; replace HB := A_ (below_step (hb_ HB.out) hb); (try clear hb); (try clear hb2); (try clear hk); (try clear hi)))
       go_ret
       exact ⟨er_, hb_ HB.out⟩
      ·replace c17 := Bool.eq_false_iff.mpr c17
       subst c17
       have H1 : ((shape_Open.f kj5 a0 a1).bind fun bt384 => ((shape_Open.f kj5 a0 a2).bind fun bt388 => (if bt384.1 = true then (some true) else (if bt388.1 = true then (some true) else (if bt388.2.1 = 3 then (some true) else ((shape_Cut.f a0 a2).bind fun t394 => ((shape_Cut.f a0 a1).bind fun t395 => (if t394 < t395 then (some true) else (some (decide (t381 ≥ t380))))))))))) = some r := by rw [if_neg (show ¬ (false = true) by decide)] at H; exact H
       clear H;have H := H1;clear H1
       replace H := ob_ H
       obtain ⟨⟨t384, t385, t386, t387⟩, A260, H⟩ := H
       replace H : ((shape_Open.f kj5 a0 a2).bind fun bt388 => (if t384 = true then (some true) else (if bt388.1 = true then (some true) else (if bt388.2.1 = 3 then (some true) else ((shape_Cut.f a0 a2).bind fun t394 => ((shape_Cut.f a0 a1).bind fun t395 => (if t394 < t395 then (some true) else (some (decide (t381 ≥ t380)))))))))) = some r := H
       have A26 := A_ A260;clear A260
       replace H := ob_ H
       obtain ⟨⟨t388, t389, t390, t391⟩, A270, H⟩ := H
       replace H : (if t384 = true then (some true) else (if t388 = true then (some true) else (if t389 = 3 then (some true) else ((shape_Cut.f a0 a2).bind fun t394 => ((shape_Cut.f a0 a1).bind fun t395 => (if t394 < t395 then (some true) else (some (decide (t381 ≥ t380))))))))) = some r := H
       have A27 := A_ A270;clear A270
       by_cases c28 : t384 = true
       ·subst c28
        have H1 : (some true) = some r := by rw [if_pos rfl] at H; exact H
        clear H;have H := H1;clear H1
        obtain rfl := Option.some.inj H
        go_wp2_with (first | ((with_reducible refine gate_callee (f := 12) rfl ?_); refine gl_ (some 27) Try.func12 #[.int .i64 a0, .bool false, .int .u64 (IntKind.u64.wrap ((Int.tmod a1 4096) * (Int.tmod a1 4096)))] ?_; (with_reducible refine (round_Whole.calls a0 false (IntKind.u64.wrap ((Int.tmod a1 4096) * (Int.tmod a1 4096))) t377 _ A10.out).mono ?_); rintro e w29 ⟨rfl, hb⟩; refine ⟨_, rfl, ?_⟩; replace HB := A_ (below_step (hb_ HB.out) hb); (try clear hb); (try clear hb2); (try clear hk); (try clear hi)) | ((with_reducible refine gate_callee (f := 9) rfl ?_); refine gl_ (some 28) Try.func9 #[.int .i64 a0, .int .u64 t377] ?_; (with_reducible refine (radix_Sqrt.calls kj5 a0 t377 t378 _ A11.out).mono ?_); rintro e w30 ⟨rfl, hb⟩; refine ⟨_, rfl, ?_⟩; replace HB := A_ (below_step (hb_ HB.out) hb); (try clear hb); (try clear hb2); (try clear hk); (try clear hi)) | ((with_reducible refine gate_callee (f := 12) rfl ?_); refine gl_ (some 31) Try.func12 #[.int .i64 a0, .bool false, .int .u64 (Int.tmod a1 4096)] ?_; (with_reducible refine (round_Whole.calls a0 false (Int.tmod a1 4096) t379 _ A12.out).mono ?_); rintro e w31 ⟨rfl, hb⟩; refine ⟨_, rfl, ?_⟩; replace HB := A_ (below_step (hb_ HB.out) hb); (try clear hb); (try clear hb2); (try clear hk); (try clear hi)) | ((with_reducible refine gate_callee (f := 9) rfl ?_); refine gl_ (some 35) Try.func9 #[.int .i64 a0, .int .u64 a1] ?_; (with_reducible refine (radix_Sqrt.calls kj5 a0 a1 t380 _ A14.out).mono ?_); rintro e w32 ⟨rfl, hb⟩; refine ⟨_, rfl, ?_⟩; replace HB := A_ (below_step (hb_ HB.out) hb); (try clear hb); (try clear hb2); (try clear hk); (try clear hi)) | ((with_reducible refine gate_callee (f := 9) rfl ?_); refine gl_ (some 38) Try.func9 #[.int .i64 a0, .int .u64 a2] ?_; (with_reducible refine (radix_Sqrt.calls kj5 a0 a2 t381 _ A15.out).mono ?_); rintro e w33 ⟨rfl, hb⟩; refine ⟨_, rfl, ?_⟩; replace HB := A_ (below_step (hb_ HB.out) hb); (try clear hb); (try clear hb2); (try clear hk); (try clear hi)) | ((with_reducible refine gate_callee (f := 13) rfl ?_); refine gl_ (some 41) Try.func13 #[.int .i64 a0, .int .u64 t380] ?_; (with_reducible refine (shape_IsNan.calls kj5 a0 t380 false _ A16.out).mono ?_); rintro e w34 ⟨rfl, hb⟩; refine ⟨_, rfl, ?_⟩; replace HB := A_ (below_step (hb_ HB.out) hb); (try clear hb); (try clear hb2); (try clear hk); (try clear hi)) | ((with_reducible refine gate_callee (f := 15) rfl ?_); refine gl_ (some 48) Try.func15 #[.int .i64 a0, .int .u64 a1] ?_; (with_reducible refine (shape_Open.calls kj5 a0 a1 true t385 t386 t387 _ A26.out).mono ?_); rintro e w35 ⟨rfl, hb⟩; refine ⟨_, rfl, ?_⟩; replace HB := A_ (below_step (hb_ HB.out) hb); (try clear hb); (try clear hb2); (try clear hk); (try clear hi)) | ((with_reducible refine gate_callee (f := 15) rfl ?_); refine gl_ (some 51) Try.func15 #[.int .i64 a0, .int .u64 a2] ?_; (with_reducible refine (shape_Open.calls kj5 a0 a2 t388 t389 t390 t391 _ A27.out).mono ?_); rintro e w36 ⟨rfl, hb⟩; refine ⟨_, rfl, ?_⟩; replace HB := A_ (below_step (hb_ HB.out) hb); (try clear hb); (try clear hb2); (try clear hk); (try clear hi)) | ((with_reducible refine gate_dst (N := 10) rfl ?_); refine be_ 10 #[.bool false, .int .i64 0, .int .i64 0, .int .u64 0] 30 ?_; intro gb392 hg w37 hbox hb; have BK392 := A_ (hbox); have GW392 := A_ (sz_ hg (hb_ HB.out)); have GE392 := A_ (sz_ hg (hb_ HB.out)); replace HB := A_ (below_step (hb_ HB.out) hb); clear hb hbox hg) | ((with_reducible refine gate_dst (N := 11) rfl ?_); refine be_ 11 #[.bool false, .int .i64 0, .int .i64 0, .int .u64 0] 30 ?_; intro gb393 hg w38 hbox hb; have BK393 := A_ (hbox); have GW393 := A_ (sz_ hg (hb1_ HB.out GE392.out)); have GE393 := A_ (sz_ hg (hb1_ HB.out GE392.out)); have NB392_393 := A_ (nl_ hg BK392.out); have NB393_392 := A_ (ng_ hg BK392.out); replace BK392 := A_ (bb_ BK392.out hb); replace HB := A_ (below_step (hb1_ HB.out GE392.out) hb); clear hb hbox hg; have hnb39 := NB392_393.out; have hnc39 := NB393_392.out; have hcz40_0 := bv_ BK392.out 0; have hcz40_1 := bv_ BK392.out 1; have hcz40_2 := bv_ BK392.out 2; have hcz40_3 := bv_ BK392.out 3; have hfz40_0 := blk_frozen BK392.out 0; have hfz40_1 := blk_frozen BK392.out 1; have hfz40_2 := blk_frozen BK392.out 2; have hfz40_3 := blk_frozen BK392.out 3; have hcz41_0 := bv_ BK393.out 0; have hcz41_1 := bv_ BK393.out 1; have hcz41_2 := bv_ BK393.out 2; have hcz41_3 := bv_ BK393.out 3; have hfz41_0 := blk_frozen BK393.out 0; have hfz41_1 := blk_frozen BK393.out 1; have hfz41_2 := blk_frozen BK393.out 2; have hfz41_3 := blk_frozen BK393.out 3))
        go_ret
        exact ⟨er_, hb2_ HB.out GE392.out GE393.out⟩
       ·replace c28 := Bool.eq_false_iff.mpr c28
        subst c28
        have H1 : (if t388 = true then (some true) else (if t389 = 3 then (some true) else ((shape_Cut.f a0 a2).bind fun t394 => ((shape_Cut.f a0 a1).bind fun t395 => (if t394 < t395 then (some true) else (some (decide (t381 ≥ t380)))))))) = some r := by rw [if_neg (show ¬ (false = true) by decide)] at H; exact H
        clear H;have H := H1;clear H1
        by_cases c42 : t388 = true
        ·subst c42
         have H1 : (some true) = some r := by rw [if_pos rfl] at H; exact H
         clear H;have H := H1;clear H1
         obtain rfl := Option.some.inj H
         go_wp2_with (first | ((with_reducible refine gate_callee (f := 12) rfl ?_); refine gl_ (some 27) Try.func12 #[.int .i64 a0, .bool false, .int .u64 (IntKind.u64.wrap ((Int.tmod a1 4096) * (Int.tmod a1 4096)))] ?_; (with_reducible refine (round_Whole.calls a0 false (IntKind.u64.wrap ((Int.tmod a1 4096) * (Int.tmod a1 4096))) t377 _ A10.out).mono ?_); rintro e w43 ⟨rfl, hb⟩; refine ⟨_, rfl, ?_⟩; replace HB := A_ (below_step (hb_ HB.out) hb); (try clear hb); (try clear hb2); (try clear hk); (try clear hi)) | ((with_reducible refine gate_callee (f := 9) rfl ?_); refine gl_ (some 28) Try.func9 #[.int .i64 a0, .int .u64 t377] ?_; (with_reducible refine (radix_Sqrt.calls kj5 a0 t377 t378 _ A11.out).mono ?_); rintro e w44 ⟨rfl, hb⟩; refine ⟨_, rfl, ?_⟩; replace HB := A_ (below_step (hb_ HB.out) hb); (try clear hb); (try clear hb2); (try clear hk); (try clear hi)) | ((with_reducible refine gate_callee (f := 12) rfl ?_); refine gl_ (some 31) Try.func12 #[.int .i64 a0, .bool false, .int .u64 (Int.tmod a1 4096)] ?_; (with_reducible refine (round_Whole.calls a0 false (Int.tmod a1 4096) t379 _ A12.out).mono ?_); rintro e w45 ⟨rfl, hb⟩; refine ⟨_, rfl, ?_⟩; replace HB := A_ (below_step (hb_ HB.out) hb); (try clear hb); (try clear hb2); (try clear hk); (try clear hi)) | ((with_reducible refine gate_callee (f := 9) rfl ?_); refine gl_ (some 35) Try.func9 #[.int .i64 a0, .int .u64 a1] ?_; (with_reducible refine (radix_Sqrt.calls kj5 a0 a1 t380 _ A14.out).mono ?_); rintro e w46 ⟨rfl, hb⟩; refine ⟨_, rfl, ?_⟩; replace HB := A_ (below_step (hb_ HB.out) hb); (try clear hb); (try clear hb2); (try clear hk); (try clear hi)) | ((with_reducible refine gate_callee (f := 9) rfl ?_); refine gl_ (some 38) Try.func9 #[.int .i64 a0, .int .u64 a2] ?_; (with_reducible refine (radix_Sqrt.calls kj5 a0 a2 t381 _ A15.out).mono ?_); rintro e w47 ⟨rfl, hb⟩; refine ⟨_, rfl, ?_⟩; replace HB := A_ (below_step (hb_ HB.out) hb); (try clear hb); (try clear hb2); (try clear hk); (try clear hi)) | ((with_reducible refine gate_callee (f := 13) rfl ?_); refine gl_ (some 41) Try.func13 #[.int .i64 a0, .int .u64 t380] ?_; (with_reducible refine (shape_IsNan.calls kj5 a0 t380 false _ A16.out).mono ?_); rintro e w48 ⟨rfl, hb⟩; refine ⟨_, rfl, ?_⟩; replace HB := A_ (below_step (hb_ HB.out) hb); (try clear hb); (try clear hb2); (try clear hk); (try clear hi)) | ((with_reducible refine gate_callee (f := 15) rfl ?_); refine gl_ (some 48) Try.func15 #[.int .i64 a0, .int .u64 a1] ?_; (with_reducible refine (shape_Open.calls kj5 a0 a1 false t385 t386 t387 _ A26.out).mono ?_); rintro e w49 ⟨rfl, hb⟩; refine ⟨_, rfl, ?_⟩; replace HB := A_ (below_step (hb_ HB.out) hb); (try clear hb); (try clear hb2); (try clear hk); (try clear hi)) | ((with_reducible refine gate_callee (f := 15) rfl ?_); refine gl_ (some 51) Try.func15 #[.int .i64 a0, .int .u64 a2] ?_; (with_reducible refine (shape_Open.calls kj5 a0 a2 true t389 t390 t391 _ A27.out).mono ?_); rintro e w50 ⟨rfl, hb⟩; refine ⟨_, rfl, ?_⟩; replace HB := A_ (below_step (hb_ HB.out) hb); (try clear hb); (try clear hb2); (try clear hk); (try clear hi)) | ((with_reducible refine gate_dst (N := 10) rfl ?_); refine be_ 10 #[.bool false, .int .i64 0, .int .i64 0, .int .u64 0] 30 ?_; intro gb392 hg w51 hbox hb; have BK392 := A_ (hbox); have GW392 := A_ (sz_ hg (hb_ HB.out)); have GE392 := A_ (sz_ hg (hb_ HB.out)); replace HB := A_ (below_step (hb_ HB.out) hb); clear hb hbox hg) | ((with_reducible refine gate_dst (N := 11) rfl ?_); refine be_ 11 #[.bool false, .int .i64 0, .int .i64 0, .int .u64 0] 30 ?_; intro gb393 hg w52 hbox hb; have BK393 := A_ (hbox); have GW393 := A_ (sz_ hg (hb1_ HB.out GE392.out)); have GE393 := A_ (sz_ hg (hb1_ HB.out GE392.out)); have NB392_393 := A_ (nl_ hg BK392.out); have NB393_392 := A_ (ng_ hg BK392.out); replace BK392 := A_ (bb_ BK392.out hb); replace HB := A_ (below_step (hb1_ HB.out GE392.out) hb); clear hb hbox hg; have hnb53 := NB392_393.out; have hnc53 := NB393_392.out; have hcz54_0 := bv_ BK392.out 0; have hcz54_1 := bv_ BK392.out 1; have hcz54_2 := bv_ BK392.out 2; have hcz54_3 := bv_ BK392.out 3; have hfz54_0 := blk_frozen BK392.out 0; have hfz54_1 := blk_frozen BK392.out 1; have hfz54_2 := blk_frozen BK392.out 2; have hfz54_3 := blk_frozen BK392.out 3; have hcz55_0 := bv_ BK393.out 0; have hcz55_1 := bv_ BK393.out 1; have hcz55_2 := bv_ BK393.out 2; have hcz55_3 := bv_ BK393.out 3; have hfz55_0 := blk_frozen BK393.out 0; have hfz55_1 := blk_frozen BK393.out 1; have hfz55_2 := blk_frozen BK393.out 2; have hfz55_3 := blk_frozen BK393.out 3))
         go_ret
         exact ⟨er_, hb2_ HB.out GE392.out GE393.out⟩
        ·replace c42 := Bool.eq_false_iff.mpr c42
         subst c42
         have H1 : (if t389 = 3 then (some true) else ((shape_Cut.f a0 a2).bind fun t394 => ((shape_Cut.f a0 a1).bind fun t395 => (if t394 < t395 then (some true) else (some (decide (t381 ≥ t380))))))) = some r := by rw [if_neg (show ¬ (false = true) by decide)] at H; exact H
         clear H;have H := H1;clear H1
         by_cases c56 : t389 = 3
         ·rw [if_pos c56] at H
          have c56b0 : (t389 == 3) = true := beq_iff_eq.mpr c56
          have c56b1 : (t389 != 3) = false := bne_eq_false_iff_eq.mpr c56
          clear c56
          obtain rfl := Option.some.inj H
          go_wp2_with (first | ((with_reducible refine gate_callee (f := 12) rfl ?_); refine gl_ (some 27) Try.func12 #[.int .i64 a0, .bool false, .int .u64 (IntKind.u64.wrap ((Int.tmod a1 4096) * (Int.tmod a1 4096)))] ?_; (with_reducible refine (round_Whole.calls a0 false (IntKind.u64.wrap ((Int.tmod a1 4096) * (Int.tmod a1 4096))) t377 _ A10.out).mono ?_); rintro e w57 ⟨rfl, hb⟩; refine ⟨_, rfl, ?_⟩; replace HB := A_ (below_step (hb_ HB.out) hb); (try clear hb); (try clear hb2); (try clear hk); (try clear hi)) | ((with_reducible refine gate_callee (f := 9) rfl ?_); refine gl_ (some 28) Try.func9 #[.int .i64 a0, .int .u64 t377] ?_; (with_reducible refine (radix_Sqrt.calls kj5 a0 t377 t378 _ A11.out).mono ?_); rintro e w58 ⟨rfl, hb⟩; refine ⟨_, rfl, ?_⟩; replace HB := A_ (below_step (hb_ HB.out) hb); (try clear hb); (try clear hb2); (try clear hk); (try clear hi)) | ((with_reducible refine gate_callee (f := 12) rfl ?_); refine gl_ (some 31) Try.func12 #[.int .i64 a0, .bool false, .int .u64 (Int.tmod a1 4096)] ?_; (with_reducible refine (round_Whole.calls a0 false (Int.tmod a1 4096) t379 _ A12.out).mono ?_); rintro e w59 ⟨rfl, hb⟩; refine ⟨_, rfl, ?_⟩; replace HB := A_ (below_step (hb_ HB.out) hb); (try clear hb); (try clear hb2); (try clear hk); (try clear hi)) | ((with_reducible refine gate_callee (f := 9) rfl ?_); refine gl_ (some 35) Try.func9 #[.int .i64 a0, .int .u64 a1] ?_; (with_reducible refine (radix_Sqrt.calls kj5 a0 a1 t380 _ A14.out).mono ?_); rintro e w60 ⟨rfl, hb⟩; refine ⟨_, rfl, ?_⟩; replace HB := A_ (below_step (hb_ HB.out) hb); (try clear hb); (try clear hb2); (try clear hk); (try clear hi)) | ((with_reducible refine gate_callee (f := 9) rfl ?_); refine gl_ (some 38) Try.func9 #[.int .i64 a0, .int .u64 a2] ?_; (with_reducible refine (radix_Sqrt.calls kj5 a0 a2 t381 _ A15.out).mono ?_); rintro e w61 ⟨rfl, hb⟩; refine ⟨_, rfl, ?_⟩; replace HB := A_ (below_step (hb_ HB.out) hb); (try clear hb); (try clear hb2); (try clear hk); (try clear hi)) | ((with_reducible refine gate_callee (f := 13) rfl ?_); refine gl_ (some 41) Try.func13 #[.int .i64 a0, .int .u64 t380] ?_; (with_reducible refine (shape_IsNan.calls kj5 a0 t380 false _ A16.out).mono ?_); rintro e w62 ⟨rfl, hb⟩; refine ⟨_, rfl, ?_⟩; replace HB := A_ (below_step (hb_ HB.out) hb); (try clear hb); (try clear hb2); (try clear hk); (try clear hi)) | ((with_reducible refine gate_callee (f := 15) rfl ?_); refine gl_ (some 48) Try.func15 #[.int .i64 a0, .int .u64 a1] ?_; (with_reducible refine (shape_Open.calls kj5 a0 a1 false t385 t386 t387 _ A26.out).mono ?_); rintro e w63 ⟨rfl, hb⟩; refine ⟨_, rfl, ?_⟩; replace HB := A_ (below_step (hb_ HB.out) hb); (try clear hb); (try clear hb2); (try clear hk); (try clear hi)) | ((with_reducible refine gate_callee (f := 15) rfl ?_); refine gl_ (some 51) Try.func15 #[.int .i64 a0, .int .u64 a2] ?_; (with_reducible refine (shape_Open.calls kj5 a0 a2 false t389 t390 t391 _ A27.out).mono ?_); rintro e w64 ⟨rfl, hb⟩; refine ⟨_, rfl, ?_⟩; replace HB := A_ (below_step (hb_ HB.out) hb); (try clear hb); (try clear hb2); (try clear hk); (try clear hi)) | ((with_reducible refine gate_dst (N := 10) rfl ?_); refine be_ 10 #[.bool false, .int .i64 0, .int .i64 0, .int .u64 0] 30 ?_; intro gb392 hg w65 hbox hb; have BK392 := A_ (hbox); have GW392 := A_ (sz_ hg (hb_ HB.out)); have GE392 := A_ (sz_ hg (hb_ HB.out)); replace HB := A_ (below_step (hb_ HB.out) hb); clear hb hbox hg) | ((with_reducible refine gate_dst (N := 11) rfl ?_); refine be_ 11 #[.bool false, .int .i64 0, .int .i64 0, .int .u64 0] 30 ?_; intro gb393 hg w66 hbox hb; have BK393 := A_ (hbox); have GW393 := A_ (sz_ hg (hb1_ HB.out GE392.out)); have GE393 := A_ (sz_ hg (hb1_ HB.out GE392.out)); have NB392_393 := A_ (nl_ hg BK392.out); have NB393_392 := A_ (ng_ hg BK392.out); replace BK392 := A_ (bb_ BK392.out hb); replace HB := A_ (below_step (hb1_ HB.out GE392.out) hb); clear hb hbox hg; have hnb67 := NB392_393.out; have hnc67 := NB393_392.out; have hcz68_0 := bv_ BK392.out 0; have hcz68_1 := bv_ BK392.out 1; have hcz68_2 := bv_ BK392.out 2; have hcz68_3 := bv_ BK392.out 3; have hfz68_0 := blk_frozen BK392.out 0; have hfz68_1 := blk_frozen BK392.out 1; have hfz68_2 := blk_frozen BK392.out 2; have hfz68_3 := blk_frozen BK392.out 3; have hcz69_0 := bv_ BK393.out 0; have hcz69_1 := bv_ BK393.out 1; have hcz69_2 := bv_ BK393.out 2; have hcz69_3 := bv_ BK393.out 3; have hfz69_0 := blk_frozen BK393.out 0; have hfz69_1 := blk_frozen BK393.out 1; have hfz69_2 := blk_frozen BK393.out 2; have hfz69_3 := blk_frozen BK393.out 3))
          go_ret
          exact ⟨er_, hb2_ HB.out GE392.out GE393.out⟩
         ·rw [if_neg c56] at H
          have c56b0 : (t389 == 3) = false := beq_eq_false_iff_ne.mpr c56
          have c56b1 : (t389 != 3) = true := bne_iff_ne.mpr c56
          replace H := ob_ H
          obtain ⟨t394, A700, H⟩ := H
          replace H : ((shape_Cut.f a0 a1).bind fun t395 => (if t394 < t395 then (some true) else (some (decide (t381 ≥ t380))))) = some r := H
          have A70 := A_ A700;clear A700
          replace H := ob_ H
          obtain ⟨t395, A710, H⟩ := H
          replace H : (if t394 < t395 then (some true) else (some (decide (t381 ≥ t380)))) = some r := H
          have A71 := A_ A710;clear A710
          by_cases c72 : t394 < t395
          ·rw [if_pos c72] at H
           have c72b0 : decide (t394 < t395) = true := decide_eq_true c72
           clear c72
           obtain rfl := Option.some.inj H
           go_wp2_with (first | ((with_reducible refine gate_callee (f := 12) rfl ?_); refine gl_ (some 27) Try.func12 #[.int .i64 a0, .bool false, .int .u64 (IntKind.u64.wrap ((Int.tmod a1 4096) * (Int.tmod a1 4096)))] ?_; (with_reducible refine (round_Whole.calls a0 false (IntKind.u64.wrap ((Int.tmod a1 4096) * (Int.tmod a1 4096))) t377 _ A10.out).mono ?_); rintro e w73 ⟨rfl, hb⟩; refine ⟨_, rfl, ?_⟩; replace HB := A_ (below_step (hb_ HB.out) hb); (try clear hb); (try clear hb2); (try clear hk); (try clear hi)) | ((with_reducible refine gate_callee (f := 9) rfl ?_); refine gl_ (some 28) Try.func9 #[.int .i64 a0, .int .u64 t377] ?_; (with_reducible refine (radix_Sqrt.calls kj5 a0 t377 t378 _ A11.out).mono ?_); rintro e w74 ⟨rfl, hb⟩; refine ⟨_, rfl, ?_⟩; replace HB := A_ (below_step (hb_ HB.out) hb); (try clear hb); (try clear hb2); (try clear hk); (try clear hi)) | ((with_reducible refine gate_callee (f := 12) rfl ?_); refine gl_ (some 31) Try.func12 #[.int .i64 a0, .bool false, .int .u64 (Int.tmod a1 4096)] ?_; (with_reducible refine (round_Whole.calls a0 false (Int.tmod a1 4096) t379 _ A12.out).mono ?_); rintro e w75 ⟨rfl, hb⟩; refine ⟨_, rfl, ?_⟩; replace HB := A_ (below_step (hb_ HB.out) hb); (try clear hb); (try clear hb2); (try clear hk); (try clear hi)) | ((with_reducible refine gate_callee (f := 9) rfl ?_); refine gl_ (some 35) Try.func9 #[.int .i64 a0, .int .u64 a1] ?_; (with_reducible refine (radix_Sqrt.calls kj5 a0 a1 t380 _ A14.out).mono ?_); rintro e w76 ⟨rfl, hb⟩; refine ⟨_, rfl, ?_⟩; replace HB := A_ (below_step (hb_ HB.out) hb); (try clear hb); (try clear hb2); (try clear hk); (try clear hi)) | ((with_reducible refine gate_callee (f := 9) rfl ?_); refine gl_ (some 38) Try.func9 #[.int .i64 a0, .int .u64 a2] ?_; (with_reducible refine (radix_Sqrt.calls kj5 a0 a2 t381 _ A15.out).mono ?_); rintro e w77 ⟨rfl, hb⟩; refine ⟨_, rfl, ?_⟩; replace HB := A_ (below_step (hb_ HB.out) hb); (try clear hb); (try clear hb2); (try clear hk); (try clear hi)) | ((with_reducible refine gate_callee (f := 13) rfl ?_); refine gl_ (some 41) Try.func13 #[.int .i64 a0, .int .u64 t380] ?_; (with_reducible refine (shape_IsNan.calls kj5 a0 t380 false _ A16.out).mono ?_); rintro e w78 ⟨rfl, hb⟩; refine ⟨_, rfl, ?_⟩; replace HB := A_ (below_step (hb_ HB.out) hb); (try clear hb); (try clear hb2); (try clear hk); (try clear hi)) | ((with_reducible refine gate_callee (f := 15) rfl ?_); refine gl_ (some 48) Try.func15 #[.int .i64 a0, .int .u64 a1] ?_; (with_reducible refine (shape_Open.calls kj5 a0 a1 false t385 t386 t387 _ A26.out).mono ?_); rintro e w79 ⟨rfl, hb⟩; refine ⟨_, rfl, ?_⟩; replace HB := A_ (below_step (hb_ HB.out) hb); (try clear hb); (try clear hb2); (try clear hk); (try clear hi)) | ((with_reducible refine gate_callee (f := 15) rfl ?_); refine gl_ (some 51) Try.func15 #[.int .i64 a0, .int .u64 a2] ?_; (with_reducible refine (shape_Open.calls kj5 a0 a2 false t389 t390 t391 _ A27.out).mono ?_); rintro e w80 ⟨rfl, hb⟩; refine ⟨_, rfl, ?_⟩; replace HB := A_ (below_step (hb_ HB.out) hb); (try clear hb); (try clear hb2); (try clear hk); (try clear hi)) | ((with_reducible refine gate_dst (N := 10) rfl ?_); refine be_ 10 #[.bool false, .int .i64 0, .int .i64 0, .int .u64 0] 30 ?_; intro gb392 hg w81 hbox hb; have BK392 := A_ (hbox); have GW392 := A_ (sz_ hg (hb_ HB.out)); have GE392 := A_ (sz_ hg (hb_ HB.out)); replace HB := A_ (below_step (hb_ HB.out) hb); clear hb hbox hg) | ((with_reducible refine gate_dst (N := 11) rfl ?_); refine be_ 11 #[.bool false, .int .i64 0, .int .i64 0, .int .u64 0] 30 ?_; intro gb393 hg w82 hbox hb; have BK393 := A_ (hbox); have GW393 := A_ (sz_ hg (hb1_ HB.out GE392.out)); have GE393 := A_ (sz_ hg (hb1_ HB.out GE392.out)); have NB392_393 := A_ (nl_ hg BK392.out); have NB393_392 := A_ (ng_ hg BK392.out); replace BK392 := A_ (bb_ BK392.out hb); replace HB := A_ (below_step (hb1_ HB.out GE392.out) hb); clear hb hbox hg; have hnb83 := NB392_393.out; have hnc83 := NB393_392.out; have hcz84_0 := bv_ BK392.out 0; have hcz84_1 := bv_ BK392.out 1; have hcz84_2 := bv_ BK392.out 2; have hcz84_3 := bv_ BK392.out 3; have hfz84_0 := blk_frozen BK392.out 0; have hfz84_1 := blk_frozen BK392.out 1; have hfz84_2 := blk_frozen BK392.out 2; have hfz84_3 := blk_frozen BK392.out 3; have hcz85_0 := bv_ BK393.out 0; have hcz85_1 := bv_ BK393.out 1; have hcz85_2 := bv_ BK393.out 2; have hcz85_3 := bv_ BK393.out 3; have hfz85_0 := blk_frozen BK393.out 0; have hfz85_1 := blk_frozen BK393.out 1; have hfz85_2 := blk_frozen BK393.out 2; have hfz85_3 := blk_frozen BK393.out 3) | (go_at_call 16; (with_reducible refine (shape_Cut.calls a0 a2 t394 _ A70.out).mono ?_); rintro e w' ⟨rfl, ⟨nd, rfl⟩⟩) | (go_at_call 16; (with_reducible refine (shape_Cut.calls a0 a1 t395 _ A71.out).mono ?_); rintro e w' ⟨rfl, ⟨nd, rfl⟩⟩))
           go_ret
           exact ⟨er_, hb2_ HB.out GE392.out GE393.out⟩
          ·rw [if_neg c72] at H
           have c72b0 : decide (t394 < t395) = false := decide_eq_false c72
           clear c72
           obtain rfl := Option.some.inj H
           go_wp2_with (first | ((with_reducible refine gate_callee (f := 12) rfl ?_); refine gl_ (some 27) Try.func12 #[.int .i64 a0, .bool false, .int .u64 (IntKind.u64.wrap ((Int.tmod a1 4096) * (Int.tmod a1 4096)))] ?_; (with_reducible refine (round_Whole.calls a0 false (IntKind.u64.wrap ((Int.tmod a1 4096) * (Int.tmod a1 4096))) t377 _ A10.out).mono ?_); rintro e w86 ⟨rfl, hb⟩; refine ⟨_, rfl, ?_⟩; replace HB := A_ (below_step (hb_ HB.out) hb); (try clear hb); (try clear hb2); (try clear hk); (try clear hi)) | ((with_reducible refine gate_callee (f := 9) rfl ?_); refine gl_ (some 28) Try.func9 #[.int .i64 a0, .int .u64 t377] ?_; (with_reducible refine (radix_Sqrt.calls kj5 a0 t377 t378 _ A11.out).mono ?_); rintro e w87 ⟨rfl, hb⟩; refine ⟨_, rfl, ?_⟩; replace HB := A_ (below_step (hb_ HB.out) hb); (try clear hb); (try clear hb2); (try clear hk); (try clear hi)) | ((with_reducible refine gate_callee (f := 12) rfl ?_); refine gl_ (some 31) Try.func12 #[.int .i64 a0, .bool false, .int .u64 (Int.tmod a1 4096)] ?_; (with_reducible refine (round_Whole.calls a0 false (Int.tmod a1 4096) t379 _ A12.out).mono ?_); rintro e w88 ⟨rfl, hb⟩; refine ⟨_, rfl, ?_⟩; replace HB := A_ (below_step (hb_ HB.out) hb); (try clear hb); (try clear hb2); (try clear hk); (try clear hi)) | ((with_reducible refine gate_callee (f := 9) rfl ?_); refine gl_ (some 35) Try.func9 #[.int .i64 a0, .int .u64 a1] ?_; (with_reducible refine (radix_Sqrt.calls kj5 a0 a1 t380 _ A14.out).mono ?_); rintro e w89 ⟨rfl, hb⟩; refine ⟨_, rfl, ?_⟩; replace HB := A_ (below_step (hb_ HB.out) hb); (try clear hb); (try clear hb2); (try clear hk); (try clear hi)) | ((with_reducible refine gate_callee (f := 9) rfl ?_); refine gl_ (some 38) Try.func9 #[.int .i64 a0, .int .u64 a2] ?_; (with_reducible refine (radix_Sqrt.calls kj5 a0 a2 t381 _ A15.out).mono ?_); rintro e w90 ⟨rfl, hb⟩; refine ⟨_, rfl, ?_⟩; replace HB := A_ (below_step (hb_ HB.out) hb); (try clear hb); (try clear hb2); (try clear hk); (try clear hi)) | ((with_reducible refine gate_callee (f := 13) rfl ?_); refine gl_ (some 41) Try.func13 #[.int .i64 a0, .int .u64 t380] ?_; (with_reducible refine (shape_IsNan.calls kj5 a0 t380 false _ A16.out).mono ?_); rintro e w91 ⟨rfl, hb⟩; refine ⟨_, rfl, ?_⟩; replace HB := A_ (below_step (hb_ HB.out) hb); (try clear hb); (try clear hb2); (try clear hk); (try clear hi)) | ((with_reducible refine gate_callee (f := 15) rfl ?_); refine gl_ (some 48) Try.func15 #[.int .i64 a0, .int .u64 a1] ?_; (with_reducible refine (shape_Open.calls kj5 a0 a1 false t385 t386 t387 _ A26.out).mono ?_); rintro e w92 ⟨rfl, hb⟩; refine ⟨_, rfl, ?_⟩; replace HB := A_ (below_step (hb_ HB.out) hb); (try clear hb); (try clear hb2); (try clear hk); (try clear hi)) | ((with_reducible refine gate_callee (f := 15) rfl ?_); refine gl_ (some 51) Try.func15 #[.int .i64 a0, .int .u64 a2] ?_; (with_reducible refine (shape_Open.calls kj5 a0 a2 false t389 t390 t391 _ A27.out).mono ?_); rintro e w93 ⟨rfl, hb⟩; refine ⟨_, rfl, ?_⟩; replace HB := A_ (below_step (hb_ HB.out) hb); (try clear hb); (try clear hb2); (try clear hk); (try clear hi)) | ((with_reducible refine gate_dst (N := 10) rfl ?_); refine be_ 10 #[.bool false, .int .i64 0, .int .i64 0, .int .u64 0] 30 ?_; intro gb392 hg w94 hbox hb; have BK392 := A_ (hbox); have GW392 := A_ (sz_ hg (hb_ HB.out)); have GE392 := A_ (sz_ hg (hb_ HB.out)); replace HB := A_ (below_step (hb_ HB.out) hb); clear hb hbox hg) | ((with_reducible refine gate_dst (N := 11) rfl ?_); refine be_ 11 #[.bool false, .int .i64 0, .int .i64 0, .int .u64 0] 30 ?_; intro gb393 hg w95 hbox hb; have BK393 := A_ (hbox); have GW393 := A_ (sz_ hg (hb1_ HB.out GE392.out)); have GE393 := A_ (sz_ hg (hb1_ HB.out GE392.out)); have NB392_393 := A_ (nl_ hg BK392.out); have NB393_392 := A_ (ng_ hg BK392.out); replace BK392 := A_ (bb_ BK392.out hb); replace HB := A_ (below_step (hb1_ HB.out GE392.out) hb); clear hb hbox hg; have hnb96 := NB392_393.out; have hnc96 := NB393_392.out; have hcz97_0 := bv_ BK392.out 0; have hcz97_1 := bv_ BK392.out 1; have hcz97_2 := bv_ BK392.out 2; have hcz97_3 := bv_ BK392.out 3; have hfz97_0 := blk_frozen BK392.out 0; have hfz97_1 := blk_frozen BK392.out 1; have hfz97_2 := blk_frozen BK392.out 2; have hfz97_3 := blk_frozen BK392.out 3; have hcz98_0 := bv_ BK393.out 0; have hcz98_1 := bv_ BK393.out 1; have hcz98_2 := bv_ BK393.out 2; have hcz98_3 := bv_ BK393.out 3; have hfz98_0 := blk_frozen BK393.out 0; have hfz98_1 := blk_frozen BK393.out 1; have hfz98_2 := blk_frozen BK393.out 2; have hfz98_3 := blk_frozen BK393.out 3) | (go_at_call 16; (with_reducible refine (shape_Cut.calls a0 a2 t394 _ A70.out).mono ?_); rintro e w' ⟨rfl, ⟨nd, rfl⟩⟩) | (go_at_call 16; (with_reducible refine (shape_Cut.calls a0 a1 t395 _ A71.out).mono ?_); rintro e w' ⟨rfl, ⟨nd, rfl⟩⟩))
           go_ret
           exact ⟨er_, hb2_ HB.out GE392.out GE393.out⟩
     ·rw [if_neg c13] at H
      have c13b0 : (t378 == t379) = false := beq_eq_false_iff_ne.mpr c13
      have c13b1 : (t378 != t379) = true := bne_iff_ne.mpr c13
      exact absurd ((Option.some.inj H).trans hr_.out) (by decide)
 ·replace c5 := Bool.eq_false_iff.mpr c5
  subst c5
  have H1 : (some false) = some r := by rw [if_neg (show ¬ (false = true) by decide)] at H; exact H
  clear H;have H := H1;clear H1
  exact absurd ((Option.some.inj H).trans hr_.out) (by decide)
def L07_RadixKeeps.Pure : Prop := ∀ (a0 : Int) (a1 : Int) (a2 : Int), (Lit.int .i64 a0).wf = true → (Lit.int .u64 a1).wf = true → (Lit.int .u64 a2).wf = true → ∃ k, L07_RadixKeeps.f k a0 a1 a2 = some true
theorem L07_RadixKeeps.walk (P : L07_RadixKeeps.Pure) (a0 : Int) (a1 : Int) (a2 : Int) (w : World) (w0 : (Lit.int .i64 a0).wf = true) (w1 : (Lit.int .u64 a1).wf = true) (w2 : (Lit.int .u64 a2).wf = true) :
  Calls Try.prog 4 #[.int .i64 a0, .int .u64 a1, .int .u64 a2] w fun e w' => e = .returned (.bool true) ∧ Below w.heap.size w w' := by
 obtain ⟨k, h⟩ := P a0 a1 a2 w0 w1 w2
 refine (L07_RadixKeeps.calls k a0 a1 a2 true w h ⟨rfl⟩).mono ?_
 rintro e w' ⟨rfl, hd⟩
 exact ⟨rfl, hd⟩
end Go.Proofs.Ytjjehbedpgdhgaa.PA
section
set_option linter.unusedVariables false
set_option linter.unusedSimpArgs false
namespace Go.Proofs.Ytjjehbedpgdhgaa.Th
open Go.RowKit Go.Proofs.YtjjehbedpgdhgaaW.PrintWords Go.Proofs.YtjjehbedpgdhgaaW.PrintLast Go.Proofs.YtjjehbedpgdhgaaW.PrintMore Go.Proofs.Ytjjehbedpgdhgaa.PA Bit Flo
theorem opn_mk (w : Int) (hw : w = 32 ∨ w = 64) (m : Nat) (s : Bool) (h : m < sb w) : opn w (mkN w m s) = if m = 0 then (s, 0, 0, 0) else if m < (fmt w).inf then (s, 1, (fmt w).ex m, ((fmt w).sg m : Int)) else if m = (fmt w).inf then (s, 2, 0, 0) else (false, 3, 0, 0) := by
  unfold opn; simp only [sg_mk w hw m s h, mag_mk w hw m s h]
theorem cut_mk (w : Int) (hw : w = 32 ∨ w = 64) (m : Nat) (s : Bool) (h : m < sb w) : cutN w (mkN w m s) = mkN w m s := by
  rw [cutN_eq w hw _ (mkN_lt w hw m s h), sg_mk w hw m s h, mag_mk w hw m s h]; rfl
theorem cut_as_mk (w : Int) (hw : w = 32 ∨ w = 64) (a : Nat) (ha : a < 18446744073709551616) : cutN w a = mkN w (magN w a) (sgB w a) := by
  rw [cutN_eq w hw a ha]; rfl
end Go.Proofs.Ytjjehbedpgdhgaa.Th
end
section
set_option linter.unusedVariables false
set_option linter.unusedSimpArgs false
namespace Go.Proofs.Ytjjehbedpgdhgaa.Th
open Go.RowKit Go.Proofs.YtjjehbedpgdhgaaW.PrintWords Go.Proofs.YtjjehbedpgdhgaaW.PrintLast Go.Proofs.YtjjehbedpgdhgaaW.PrintMore Go.Proofs.Ytjjehbedpgdhgaa.PA Bit Flo Dig
theorem inf_pos (w : Int) (hw : w = 32 ∨ w = 64) : 0 < (fmt w).inf := by rcases hw with rfl | rfl <;> decide
theorem kinds (w : Int) (hw : w = 32 ∨ w = 64) (a : Nat) : (magN w a = 0 ∧ opn w a = (sgB w a, 0, 0, 0)) ∨ (0 < magN w a ∧ magN w a < (fmt w).inf ∧ opn w a = (sgB w a, 1, (fmt w).ex (magN w a), ((fmt w).sg (magN w a) : Int))) ∨ (magN w a = (fmt w).inf ∧ opn w a = (sgB w a, 2, 0, 0)) ∨ ((fmt w).inf < magN w a ∧ opn w a = (false, 3, 0, 0)) := by
  have h0 := inf_pos w hw
  unfold opn; simp only
  by_cases h1 : magN w a = 0
  · left; rw [if_pos h1]; exact ⟨h1, rfl⟩
  · right; rw [if_neg h1]
    by_cases h2 : magN w a < (fmt w).inf
    · left; rw [if_pos h2]; exact ⟨by omega, h2, rfl⟩
    · right; rw [if_neg h2]
      by_cases h3 : magN w a = (fmt w).inf
      · left; rw [if_pos h3]; exact ⟨h3, rfl⟩
      · right; rw [if_neg h3]; exact ⟨by omega, rfl⟩
theorem ex_bd (w : Int) (hw : w = 32 ∨ w = 64) (m : Nat) (h : m < (fmt w).inf) : -1074 ≤ (fmt w).ex m ∧ (fmt w).ex m ≤ 971 := by
  rcases hw with rfl | rfl
  · rw [fmt32, inf32] at h; rw [fmt32, ex32]; split <;> omega
  · rw [fmt64, inf64] at h; rw [fmt64, ex64]; split <;> omega
theorem sg_64 (w : Int) (hw : w = 32 ∨ w = 64) (m : Nat) : (fmt w).sg m < 9007199254740992 := by
  have h := (fmt w).sg_lt m
  rcases hw with rfl | rfl
  · rw [fmt32] at h ⊢; rw [show (2 : Nat) ^ (f32.f + 1) = 16777216 by decide] at h; omega
  · rw [fmt64] at h ⊢; rw [show (2 : Nat) ^ (f64.f + 1) = 9007199254740992 by decide] at h; omega
end Go.Proofs.Ytjjehbedpgdhgaa.Th
end
section
set_option linter.unusedVariables false
set_option linter.unusedSimpArgs false
namespace Go.Proofs.Ytjjehbedpgdhgaa.Th
open Flo
theorem fmt_bd (w : Int) : (fmt w).f < 100 ∧ (-5000 < (fmt w).low ∧ (fmt w).low < 0) ∧ (fmt w).top < 5000 := by
  unfold fmt; split <;> decide
theorem fmt_f (w : Int) : (fmt w).f ≤ 52 := by unfold fmt; split <;> decide
theorem pk_ex (w : Int) (S : Nat) (e : Int) (hS : S < 340282366920938463463374607431768211456) : pkm (fmt w) S e false = (fmt w).rnd ((S : Rat) * tw e) := by
  have h := fmt_bd w
  rw [← pkx_f, pkm_rnd _ h.1 h.2.1 h.2.2 S e false hS]
abbrev Pt := Bool × Int × Int × Int
noncomputable def pv (p : Pt) : Rat := if p.2.1 = 1 then (if p.1 then -((p.2.2.2.toNat : Rat) * tw p.2.2.1) else (p.2.2.2.toNat : Rat) * tw p.2.2.1) else 0
end Go.Proofs.Ytjjehbedpgdhgaa.Th
end
section
set_option linter.unusedVariables false
set_option linter.unusedSimpArgs false
namespace Go.Proofs.Ytjjehbedpgdhgaa.Th
open Go.RowKit Go.Proofs.YtjjehbedpgdhgaaW.PrintWords Go.Proofs.YtjjehbedpgdhgaaW.PrintLast Go.Proofs.YtjjehbedpgdhgaaW.PrintMore Go.Proofs.Ytjjehbedpgdhgaa.PA Bit Flo
theorem packE (w : Int) (hw : w = 32 ∨ w = 64) (s : Bool) (h l : Nat) (hh : h < 18446744073709551616) (hl : l < 18446744073709551616) (e : Int) (m : Bool) : round_Pack.f w s h l e m = some ((mkN w (pkm (fmt w) (wn h l) e m) s : Nat) : Int) := by
  unfold round_Pack.f
  rw [if_pos (by omega), if_pos hw, Int.toNat_natCast, Int.toNat_natCast]
theorem pack1 (w : Int) (hw : w = 32 ∨ w = 64) (s : Bool) (n : Nat) (hn : n < 18446744073709551616) (e : Int) : round_Pack.f w s 0 n e false = some ((mkN w ((fmt w).rnd ((n : Rat) * tw e)) s : Nat) : Int) := by
  have := packE w hw s 0 n (by decide) hn e false
  rw [show wn 0 n = n by unfold wn; omega, pk_ex w n e (by omega)] at this
  exact this
theorem wholeE (w : Int) (hw : w = 32 ∨ w = 64) (s : Bool) (n : Nat) (hn : n < 18446744073709551616) : round_Whole.f w s n = some ((mkN w ((fmt w).rnd (n : Rat)) (s && decide (0 < n)) : Nat) : Int) := by
  unfold round_Whole.f
  have h := fun t => pack1 w hw t n hn 0
  rw [tw_zero, Rat.mul_one] at h
  rw [ofW n]
  cases s
  · rw [if_neg (by decide), Option.bind_some]
    show (round_Pack.f w false 0 (n : Int) 0 false).bind _ = _
    rw [h false, Option.bind_some]
    simp
  · rw [if_pos rfl, Option.bind_some]
    show (round_Pack.f w (decide ((n : Int) > 0)) 0 (n : Int) 0 false).bind _ = _
    rw [h, Option.bind_some]
    simp
theorem shN (w : Int) (hw : w = 32 ∨ w = 64) : shape_Nan.f w = some ((nanN w : Nat) : Int) := by rcases hw with rfl | rfl; exact shNan32; exact shNan64
theorem pv1 (s : Bool) (e : Int) (g : Nat) : pv (s, 1, e, (g : Int)) = if s then -((g : Rat) * tw e) else (g : Rat) * tw e := by
  unfold pv; rw [if_pos rfl]; simp
def PtOk (p : Pt) : Prop := (p.2.1 = 0 ∨ p.2.1 = 1 ∨ p.2.1 = 2 ∨ p.2.1 = 3) ∧ (p.2.1 = 1 → 0 < p.2.2.2) ∧ (p.2.1 ≠ 1 → p.2.2.2 = 0 ∧ p.2.2.1 = 0) ∧ 0 ≤ p.2.2.2 ∧ p.2.2.2 < 9007199254740992 ∧ -1100 ≤ p.2.2.1 ∧ p.2.2.1 ≤ 1000
theorem opn_ok (w : Int) (hw : w = 32 ∨ w = 64) (a : Nat) : PtOk (opn w a) := by
  rcases kinds w hw a with ⟨_, h⟩ | ⟨h1, h2, h⟩ | ⟨_, h⟩ | ⟨_, h⟩ <;> rw [h]
  · exact ⟨.inl rfl, fun h => absurd h (by simp), fun _ => ⟨rfl, rfl⟩, by simp, by simp, by simp, by simp⟩
  · have h3 := ex_bd w hw _ h2
    have h4 := sg_64 w hw (magN w a)
    refine ⟨.inr (.inl rfl), fun _ => ?_, fun h => absurd rfl h, by simp, by simp; omega, by simp; omega, by simp; omega⟩
    have : 0 < (fmt w).val (magN w a) := (fmt w).val_pos.2 h1
    unfold Fmt.val at this
    rcases Nat.eq_zero_or_pos ((fmt w).sg (magN w a)) with h5 | h5
    · rw [h5] at this; simp at this
    · simp; omega
  · exact ⟨.inr (.inr (.inl rfl)), fun h => absurd h (by simp), fun _ => ⟨rfl, rfl⟩, by simp, by simp, by simp, by simp⟩
  · exact ⟨.inr (.inr (.inr rfl)), fun h => absurd h (by simp), fun _ => ⟨rfl, rfl⟩, by simp, by simp, by simp, by simp⟩
end Go.Proofs.Ytjjehbedpgdhgaa.Th
end
set_option linter.unusedVariables false
set_option linter.unusedSimpArgs false
namespace Flo
theorem sq_lt {a b : Rat} (ha : 0 ≤ a) (h : a < b) : a * a < b * b := by
  have h1 : a * a ≤ a * b := Rat.mul_le_mul_of_nonneg_left (Rat.le_of_lt h) ha
  have h2 : a * b < b * b := mul_lt h (by grind)
  grind
theorem sq_le {a b : Rat} (ha : 0 ≤ a) (h : a ≤ b) : a * a ≤ b * b := by
  have h1 : a * a ≤ a * b := Rat.mul_le_mul_of_nonneg_left h ha
  have h2 : a * b ≤ b * b := Rat.mul_le_mul_of_nonneg_right h (by grind)
  grind
theorem lt_of_sq {a b : Rat} (hb : 0 ≤ b) (h : a * a < b * b) : a < b := by
  have : ¬ b ≤ a := fun h1 => by have := sq_le hb h1; grind
  grind
theorem eq_of_sq {a b : Rat} (ha : 0 ≤ a) (hb : 0 ≤ b) (h : a * a = b * b) : a = b := by
  have h1 : ¬ a < b := fun h1 => by have := sq_lt ha h1; grind
  have h2 : ¬ b < a := fun h1 => by have := sq_lt hb h1; grind
  grind
namespace Fmt
variable (F : Fmt)
theorem mid_pos (m : Nat) : 0 < F.mid m := by
  have h1 := F.lt_mid m
  have h2 := F.val_nonneg m
  grind
def USq (x : Rat) (m : Nat) : Prop := F.mid m * F.mid m < x ∨ F.mid m * F.mid m = x ∧ m % 2 = 1
theorem USq.mono' {x y : Rat} (h : x ≤ y) (m : Nat) (u : F.USq x m) : F.USq y m := by
  rcases u with u | ⟨u, v⟩
  · exact .inl (by grind)
  · rcases (Rat.le_iff_lt_or_eq).1 h with h | h
    · exact .inl (by grind)
    · exact .inr ⟨by grind, v⟩
noncomputable def rsq (x : Rat) : Nat := Classical.choose (Rnd.exists F (F.USq x))
theorem rsq_spec (x : Rat) : F.Rnd (F.USq x) (F.rsq x) := Classical.choose_spec (Rnd.exists F (F.USq x))
theorem rsq_of {x : Rat} {r : Nat} (h : F.Rnd (F.USq x) r) : F.rsq x = r := Rnd.unique F (F.rsq_spec x) h fun _ => Iff.rfl
theorem rsq_mono {x y : Rat} (h : x ≤ y) : F.rsq x ≤ F.rsq y := Rnd.mono' F (F.rsq_spec x) (F.rsq_spec y) (USq.mono' F h)
theorem usq_up {x : Rat} (hx : 0 ≤ x) (m : Nat) : F.USq (x * x) m ↔ F.Up x m := by
  have hm := F.mid_pos m
  constructor
  · rintro (h | ⟨h, k⟩)
    · exact .inl (lt_of_sq hx h)
    · exact .inr ⟨eq_of_sq (Rat.le_of_lt hm) hx h, k⟩
  · rintro (h | ⟨h, k⟩)
    · exact .inl (sq_lt (Rat.le_of_lt hm) h)
    · exact .inr ⟨by rw [h], k⟩
theorem rsq_sq {x : Rat} (hx : 0 ≤ x) : F.rsq (x * x) = F.rnd x := F.rsq_of (Rnd.congr F (F.rnd_spec x) fun m => (F.usq_up hx m).symm)
theorem Rnd.root {n S r : Nat} {h : Int} (k : F.Rnd (F.Up (((2 * S + 1 : Nat) : Rat) * tw (h - 1))) r) (h1 : S * S < n) (h2 : n < (S + 1) * (S + 1)) (hS : 2 ^ (F.f + 1) ≤ S) : F.Rnd (F.USq ((n : Rat) * tw (2 * h))) r := by
  have T := tw_pos h
  have e : tw (2 * h) = tw h * tw h := by rw [← tw_add]; congr 1; omega
  have T2 : 0 < tw h * tw h := by rw [← e]; exact tw_pos _
  refine Rnd.sticky F k (fun m hm => ?_) (fun m hm u => ?_) (.inl hS)
  · left
    have h3 := sq_le (Rat.le_of_lt (F.mid_pos m)) hm
    have h4 : ((S * S : Nat) : Rat) < (n : Rat) := nat_lt.2 h1
    have h5 := mul_lt h4 T2
    rw [e]
    push_cast at h5
    generalize tw h = t at *
    grind
  · have h3 := sq_le (by
      have : (0 : Rat) ≤ ((S + 1 : Nat) : Rat) := by exact_mod_cast Nat.zero_le _
      exact Rat.mul_nonneg this (Rat.le_of_lt T)) hm
    have h4 : (n : Rat) < (((S + 1) * (S + 1) : Nat) : Rat) := nat_lt.2 h2
    have h5 := mul_lt h4 T2
    rw [USq, e] at u
    push_cast at h5 h3
    generalize tw h = t at *
    rcases u with u | ⟨u, _⟩ <;> grind
theorem Rnd.root_exact {S r : Nat} {h : Int} (k : F.Rnd (F.Up ((S : Rat) * tw h)) r) : F.Rnd (F.USq (((S * S : Nat) : Rat) * tw (2 * h))) r := by
  have e : ((S * S : Nat) : Rat) * tw (2 * h) = ((S : Rat) * tw h) * ((S : Rat) * tw h) := by
    rw [show tw (2 * h) = tw h * tw h by rw [← tw_add]; congr 1; omega]
    push_cast; grind
  rw [e]
  refine Rnd.congr F k fun m => (F.usq_up ?_ m).symm
  have : (0 : Rat) ≤ (S : Rat) := by exact_mod_cast Nat.zero_le _
  exact Rat.mul_nonneg this (Rat.le_of_lt (tw_pos h))
end Fmt
end Flo
section
set_option linter.unusedVariables false
set_option linter.unusedSimpArgs false
namespace Go.Proofs.Ytjjehbedpgdhgaa.Th
open Go.RowKit Go.Proofs.YtjjehbedpgdhgaaW.PrintWords Go.Proofs.YtjjehbedpgdhgaaW.PrintLast Go.Proofs.YtjjehbedpgdhgaaW.PrintMore Go.Proofs.Ytjjehbedpgdhgaa.PA Bit Dig Flo
def Can (w : Int) (r : Nat) : Prop := r = nanN w ∨ ∃ m s, m ≤ (fmt w).inf ∧ r = mkN w m s
theorem inf_sb (w : Int) (hw : w = 32 ∨ w = 64) : (fmt w).inf < sb w ∧ nanN w < sb w ∧ (fmt w).inf < nanN w ∧ nanN w = mkN w (nanN w) false := by
  rcases hw with rfl | rfl
  · rw [fmt32, inf32]; exact ⟨by decide, by decide, by decide, by decide⟩
  · rw [fmt64, inf64]; exact ⟨by decide, by decide, by decide, by decide⟩
theorem can_cut {w : Int} (hw : w = 32 ∨ w = 64) {r : Nat} (h : Can w r) : cutN w r = r ∧ r < 18446744073709551616 := by
  have hs := inf_sb w hw
  have h2 : 2 * sb w ≤ 18446744073709551616 := by unfold sb; split <;> decide
  rcases h with rfl | ⟨m, s, hm, rfl⟩
  · rw [hs.2.2.2, cut_mk w hw _ _ hs.2.1, ← hs.2.2.2]; exact ⟨rfl, by omega⟩
  · rw [cut_mk w hw _ _ (by omega)]
    refine ⟨rfl, ?_⟩
    unfold mkN; split <;> omega
theorem can_nan {w : Int} (hw : w = 32 ∨ w = 64) {r : Nat} (h : Can w r) : ((opn w r).2.1 == 3) = decide (r = nanN w) := by
  have hs := inf_sb w hw
  rcases h with rfl | ⟨m, s, hm, rfl⟩
  · rw [hs.2.2.2, opn_mk w hw _ _ hs.2.1, if_neg (by omega), if_neg (by omega), if_neg (by omega)]
    rw [← hs.2.2.2]; simp
  · rw [opn_mk w hw _ _ (by omega)]
    have hne : mkN w m s ≠ nanN w := by unfold mkN; split <;> omega
    rw [decide_eq_false hne]
    by_cases h0 : m = 0
    · rw [if_pos h0]; rfl
    · rw [if_neg h0]
      by_cases h1 : m < (fmt w).inf
      · rw [if_pos h1]; rfl
      · rw [if_neg h1, if_pos (by omega)]; rfl
noncomputable def sqP (w : Int) (p : Pt) : Nat := if p.2.1 = 0 then mkN w 0 p.1 else if p.2.1 = 3 ∨ p.1 = true then nanN w else if p.2.1 = 2 then mkN w (fmt w).inf false else mkN w ((fmt w).rsq (pv p)) false
theorem sqPack (w : Int) {S r : Nat} {e h : Int} (he : e = 2 * h) (h1 : r * r ≤ S) (h2 : S < (r + 1) * (r + 1)) (hr : 9007199254740992 ≤ r) (hlt : r < 18446744073709551616) : pkm (fmt w) r h (decide (r * r ≠ S)) = (fmt w).rsq ((S : Rat) * tw e) := by
  have bd := fmt_bd w
  have hp : 2 ^ ((fmt w).f + 1) ≤ r := by
    have : 2 ^ ((fmt w).f + 1) ≤ 2 ^ 53 := Nat.pow_le_pow_right (by decide) (by have := fmt_f w; omega)
    rw [show (2 : Nat) ^ 53 = 9007199254740992 by decide] at this
    omega
  by_cases c : r * r = S
  · rw [decide_eq_false (fun x => x c), pk_ex w r h (by omega)]
    rw [he, ← c]
    exact ((fmt w).rsq_of (Fmt.Rnd.root_exact _ ((fmt w).rnd_spec _))).symm
  · rw [decide_eq_true c, ← pkm_rnd (fmt w) bd.1 bd.2.1 bd.2.2 r h true (by omega), he]
    refine ((fmt w).rsq_of (Fmt.Rnd.root (fmt w) ?_ (by omega) h2 hp)).symm
    have := (fmt w).rnd_spec (pkx r h true)
    unfold pkx at this ⊢
    simp only [if_true] at this ⊢
    exact this
theorem twx {g : Nat} {e lo : Int} {u : Nat} (h : (u : Int) = e - lo) : (g : Rat) * tw e = ((g * 2 ^ u : Nat) : Rat) * tw lo := by
  rw [show e = (u : Int) + lo by omega, tw_add, tw_nat]
  push_cast
  grind
theorem tmod2 (x : Int) : Int.tmod x 2 = 0 ↔ x % 2 = 0 :=
  ⟨fun h => by have := Int.dvd_of_tmod_eq_zero h; omega, fun h => Int.tmod_eq_zero_of_dvd (Int.dvd_of_emod_eq_zero h)⟩
theorem spreadE (s : Bool) (kd : Int) {e : Int} {g : Nat} (h : 0 < g) (hg : g < 9007199254740992) (he : -1100 ≤ e ∧ e ≤ 1000) :
    ∃ u : Nat, 125 ≤ bl g + u ∧ bl g + u ≤ 126 ∧ (e - u) % 2 = 0 ∧ Ev (fun k => radix_spread.f k s kd e g) (wH (g * 2 ^ u), wL (g * 2 ^ u), e - u) := by
  have hb := bl64 (show g < 18446744073709551616 by omega)
  have h0 := bl_pos.2 h
  have b53 : bl g ≤ 53 := bl_le.2 hg
  have hlen : wide_Len.f 0 (g : Int) = some ((bl g : Nat) : Int) := by
    have := wLen (V := g) (by omega)
    rwa [(wSmall (show g < 18446744073709551616 by omega)).1, (wSmall (show g < 18446744073709551616 by omega)).2] at this
  have hleft : ∀ u : Nat, bl g + u ≤ 126 → wide_Left.f 0 (g : Int) (u : Int) = some (wH (g * 2 ^ u), wL (g * 2 ^ u)) := by
    intro u hu
    have hV : g * 2 ^ u < 340282366920938463463374607431768211456 := by
      have := Nat.mul_lt_mul_of_pos_right (lt_two_bl g) (Nat.pow_pos (n := u) (show 0 < 2 by decide))
      rw [← Nat.pow_add] at this
      have h2 : 2 ^ (bl g + u) ≤ 2 ^ 128 := Nat.pow_le_pow_right (by decide) (by omega)
      rw [show (2 : Nat) ^ 128 = 340282366920938463463374607431768211456 by decide] at h2
      omega
    have := wLeft (V := g) (by omega) u (by omega) hV
    rwa [(wSmall (show g < 18446744073709551616 by omega)).1, (wSmall (show g < 18446744073709551616 by omega)).2] at this
  obtain ⟨u0, hu0⟩ := Int.eq_ofNat_of_zero_le (show 0 ≤ 126 - ((bl g : Nat) : Int) by omega)
  have go : ∀ u : Nat, bl g + u ≤ 126 → Ev (fun k => radix_spread.l0 k e u0) (u : Int) → Ev (fun k => radix_spread.f k s kd e g) (wH (g * 2 ^ u), wL (g * 2 ^ u), e - u) := by
    intro u hu hl
    unfold radix_spread.f
    refine Ev.bs (ofW g) (Ev.bs hlen ?_)
    rw [w64_id (n := 126 - ((bl g : Nat) : Int)) (by omega) (by omega), hu0]
    refine Ev.bind hl (Ev.bs (hleft u hu) (Ev.out ?_))
    rw [w64_id (n := e - (u : Int)) (by omega) (by omega)]
  by_cases c : (e - (u0 : Int)) % 2 = 0
  · refine ⟨u0, by omega, by omega, c, go u0 (by omega) ?_⟩
    refine Ev.step (fun _ => radix_spread.l0.eq_2 ..) ?_
    rw [w64_id (n := e - (u0 : Int)) (by omega) (by omega)]
    exact Ev.pos ((tmod2 _).2 c) (Ev.out rfl)
  · refine ⟨u0 - 1, by omega, by omega, by omega, go (u0 - 1) (by omega) ?_⟩
    refine Ev.step (fun _ => radix_spread.l0.eq_2 ..) ?_
    rw [w64_id (n := e - (u0 : Int)) (by omega) (by omega), w64_id (n := (u0 : Int) - 1) (by omega) (by omega), show (u0 : Int) - 1 = ((u0 - 1 : Nat) : Int) by omega]
    refine Ev.neg (fun x => c ((tmod2 _).1 x)) (Ev.step (fun _ => radix_spread.l0.eq_2 ..) ?_)
    rw [w64_id (n := e - ((u0 - 1 : Nat) : Int)) (by omega) (by omega)]
    exact Ev.pos ((tmod2 _).2 (by omega)) (Ev.out rfl)
theorem big_root {S x : Nat} (hS : 21267647932558653966460912964485513216 ≤ S) (h : S < (x + 1) * (x + 1)) : 9007199254740992 ≤ x := by
  rcases Nat.lt_or_ge x 9007199254740992 with c | c
  · have := Nat.mul_le_mul (show x + 1 ≤ 9007199254740992 by omega) (show x + 1 ≤ 9007199254740992 by omega)
    omega
  · exact c
theorem finiteE (w : Int) (hw : w = 32 ∨ w = 64) (s : Bool) (kd : Int) {e : Int} {g : Nat} (h : 0 < g) (hg : g < 9007199254740992) (he : -1100 ≤ e ∧ e ≤ 1000) :
    Ev (fun k => radix_finite.f k w s kd e g) ((mkN w ((fmt w).rsq ((g : Rat) * tw e)) false : Nat) : Int) := by
  obtain ⟨u, u1, u2, u3, hs⟩ := spreadE s kd h hg he
  have hS1 : g * 2 ^ u < 85070591730234615865843651857942052864 := by
    have := Nat.mul_lt_mul_of_pos_right (lt_two_bl g) (Nat.pow_pos (n := u) (show 0 < 2 by decide))
    rw [← Nat.pow_add] at this
    have h2 : 2 ^ (bl g + u) ≤ 2 ^ 126 := Nat.pow_le_pow_right (by decide) (by omega)
    rw [show (2 : Nat) ^ 126 = 85070591730234615865843651857942052864 by decide] at h2
    omega
  have hS2 : 21267647932558653966460912964485513216 ≤ g * 2 ^ u := by
    have h0 := bl_pos.2 h
    have h1 := Nat.mul_le_mul_right (2 ^ u) (two_bl_le h)
    rw [← Nat.pow_add] at h1
    have h2 : 2 ^ 124 ≤ 2 ^ (bl g - 1 + u) := Nat.pow_le_pow_right (by decide) (by omega)
    rw [show (2 : Nat) ^ 124 = 21267647932558653966460912964485513216 by decide] at h2
    omega
  rw [twx (g := g) (e := e) (lo := e - u) (u := u) (by omega)]
  generalize g * 2 ^ u = S at *
  obtain ⟨h', hh'⟩ : ∃ h' : Int, e - u = 2 * h' := ⟨(e - u) / 2, by omega⟩
  obtain ⟨x, x1, x2, x3, hx⟩ := rootW (S / 18446744073709551616) (S % 18446744073709551616) (hi64 (by omega)) (lo64 S)
  rw [wn_div] at x1 x2 hx
  have hb := big_root hS2 x2
  unfold radix_finite.f
  refine Ev.bind hs (Ev.bind hx (Ev.bs (ofW x) ?_))
  simp only
  have hd : Int.tdiv (e - (u : Int)) 2 = h' := by rw [hh', Int.mul_tdiv_cancel_left h' (by decide)]
  rw [hd, w64_id (n := h') (by omega) (by omega)]
  have p := packE w hw false 0 x (by decide) x3 h' (decide (x * x ≠ S))
  rw [show wn 0 x = x by unfold wn; omega, sqPack w hh' x1 x2 hb x3] at p
  exact Ev.bs p (Ev.out rfl)
theorem sqrtE (w : Int) (hw : w = 32 ∨ w = 64) (a : Nat) (ha : a < 18446744073709551616) : Ev (fun k => radix_Sqrt.f k w a) ((sqP w (opn w a) : Nat) : Int) := by
  have main : Ev (fun k => radix_Sqrt.j0 k w a false) ((sqP w (opn w a) : Nat) : Int) := by
    refine Ev.step (fun _ => radix_Sqrt.j0.eq_2 ..) (Ev.neg (by decide) (Ev.bind (openS w hw a ha) ?_))
    have ok := opn_ok w hw a
    generalize opn w a = p at *
    obtain ⟨s, kd, e, g⟩ := p
    obtain ⟨h1, h2, h0, h3, h4, h5, h6⟩ := ok
    simp only at h1 h2 h0 h3 h4 h5 h6
    obtain ⟨g, rfl⟩ := Int.eq_ofNat_of_zero_le h3
    unfold sqP
    simp only
    by_cases k0 : kd = 0
    · rw [if_pos k0]; exact Ev.pos k0 (Ev.bs (shZ w hw s) (Ev.out rfl))
    · rw [if_neg k0]
      refine Ev.neg k0 ?_
      by_cases k3 : kd = 3
      · rw [if_pos (.inl k3)]
        exact Ev.pos k3 (Ev.step (fun _ => radix_Sqrt.j1.eq_2 ..) (Ev.pos rfl (Ev.bs (shN w hw) (Ev.out rfl))))
      · refine Ev.neg k3 (Ev.step (fun _ => radix_Sqrt.j1.eq_2 ..) ?_)
        by_cases ks : s = true
        · rw [if_pos (.inr ks)]
          exact Ev.pos ks (Ev.bs (shN w hw) (Ev.out rfl))
        · rw [if_neg (by simp [k3, ks])]
          refine Ev.neg ks ?_
          by_cases k2 : kd = 2
          · rw [if_pos k2]; exact Ev.pos k2 (Ev.bs (shI w hw false) (Ev.out rfl))
          · rw [if_neg k2]
            have k1 : kd = 1 := by omega
            subst k1
            have hs : s = false := by cases s; rfl; exact absurd rfl ks
            subst hs
            refine Ev.neg k2 (Ev.bind (finiteE w hw false 1 (by have := h2 rfl; omega) (by omega) ⟨h5, h6⟩) (Ev.out ?_))
            rw [pv1]; simp
  unfold radix_Sqrt.f
  rcases hw with rfl | rfl
  · exact Ev.pos rfl main
  · exact Ev.neg (by decide) main
theorem can_sq (w : Int) (p : Pt) : Can w (sqP w p) := by
  unfold sqP
  split
  · exact .inr ⟨_, _, Nat.zero_le _, rfl⟩
  · split
    · exact .inl rfl
    · split
      · exact .inr ⟨_, _, Nat.le_refl _, rfl⟩
      · exact .inr ⟨_, _, ((fmt w).rsq_spec _).1, rfl⟩
theorem awake07 : Ev (fun k => L07_awake.f k) true := Ev.of (fun k => L07_awake.mono k) (k := 80) (by decide +kernel)
noncomputable def sqm (w : Int) (m : Nat) : Nat := if m < (fmt w).inf then (fmt w).rsq ((fmt w).val m) else (fmt w).inf
theorem rsq_zero (w : Int) : (fmt w).rsq 0 = 0 := by
  have := Fmt.rsq_sq (fmt w) (x := 0) (by exact Rat.le_refl)
  rw [Rat.zero_mul] at this
  rw [this, Fmt.rnd_zero]
theorem sqP_mag (w : Int) (hw : w = 32 ∨ w = 64) (a : Nat) (h3 : (opn w a).2.1 ≠ 3) (hs : (opn w a).1 = false) : sqP w (opn w a) = sqm w (magN w a) ∧ magN w a ≤ (fmt w).inf := by
  have ip := (fmt w).inf_pos
  have z : ∀ n, mkN w n false = n := fun n => by simp [mkN]
  unfold sqP sqm
  rcases kinds w hw a with ⟨h0, hk⟩ | ⟨h1, h2, hk⟩ | ⟨h0, hk⟩ | ⟨_, hk⟩
  · rw [hk] at hs ⊢
    simp only at hs ⊢
    rw [if_pos trivial, h0, if_pos ip, (fmt w).val_zero, rsq_zero, hs, z]
    exact ⟨rfl, by omega⟩
  · rw [hk] at hs ⊢
    simp only at hs ⊢
    rw [if_neg (by decide), if_neg (by simp [hs]), if_neg (by decide), if_pos h2, pv1, hs]
    simp only [Bool.false_eq_true, if_false]
    rw [z]
    exact ⟨rfl, by omega⟩
  · rw [hk] at hs ⊢
    simp only at hs ⊢
    rw [if_neg (by decide), if_neg (by simp [hs]), if_pos trivial, h0, if_neg (Nat.lt_irrefl _), z]
    exact ⟨rfl, Nat.le_refl _⟩
  · rw [hk] at h3; exact absurd rfl h3
theorem sqm_mono (w : Int) {m n : Nat} (h : m ≤ n) : sqm w m ≤ sqm w n := by
  unfold sqm
  by_cases h1 : n < (fmt w).inf
  · rw [if_pos h1, if_pos (by omega)]
    exact (fmt w).rsq_mono ((fmt w).val_mono h)
  · rw [if_neg h1]
    split
    · exact ((fmt w).rsq_spec _).1
    · exact Nat.le_refl _
theorem sq_whole (w : Int) (hw : w = 32 ∨ w = 64) {n : Nat} (hn : n < 4096) : sqP w (opn w ((fmt w).rnd ((n * n : Nat) : Rat))) = (fmt w).rnd (n : Rat) ∧ (fmt w).rnd ((n * n : Nat) : Rat) < 18446744073709551616 := by
  have hi := inf_sb w hw
  have hs2 : 2 * sb w ≤ 18446744073709551616 := by unfold sb; split <;> decide
  have h2 : n * n < 16777216 := by
    have := Nat.mul_le_mul (show n ≤ 4095 by omega) (show n ≤ 4095 by omega)
    omega
  have hf : 16777216 ≤ 2 ^ ((fmt w).f + 1) := by
    rcases hw with rfl | rfl
    · rw [fmt32]; decide
    · rw [fmt64]; decide
  obtain ⟨m, hm⟩ := (fmt w).val_repr (n := n * n) (e := 0) (by omega) (by have := fmt_bd w; omega)
  rw [tw_zero, Rat.mul_one] at hm
  have hlt : m < (fmt w).inf := by
    refine (fmt w).val_lt_iff.1 ?_
    rw [hm]
    have v : ((16777216 : Nat) : Rat) ≤ (fmt w).val (fmt w).inf := by
      rw [(fmt w).val_inf, show ((16777216 : Nat) : Rat) = tw 24 from (tw_nat 24).symm]
      refine tw_le ?_
      rcases hw with rfl | rfl
      · rw [fmt32]; decide
      · rw [fmt64]; decide
    have := nat_lt.2 h2
    grind
  have e1 : (fmt w).rnd ((n * n : Nat) : Rat) = m := by rw [← hm, (fmt w).rnd_val (by omega)]
  rw [e1]
  have hmag : magN w m = m ∧ sgB w m = false := by
    unfold magN sgB
    rw [Nat.mod_eq_of_lt (show m < sb w by omega)]
    refine ⟨rfl, ?_⟩
    rw [Nat.div_eq_of_lt (show m < sb w by omega)]; rfl
  have hk : (opn w m).2.1 ≠ 3 ∧ (opn w m).1 = false := by
    rcases kinds w hw m with ⟨_, hk⟩ | ⟨_, _, hk⟩ | ⟨h0, hk⟩ | ⟨h0, hk⟩
    · rw [hk]; exact ⟨by simp, hmag.2⟩
    · rw [hk]; exact ⟨by simp, hmag.2⟩
    · rw [hmag.1] at h0; omega
    · rw [hmag.1] at h0; omega
  obtain ⟨e2, _⟩ := sqP_mag w hw m hk.1 hk.2
  refine ⟨?_, by omega⟩
  rw [e2, hmag.1]
  unfold sqm
  rw [if_pos hlt, hm]
  have := Fmt.rsq_sq (fmt w) (x := (n : Rat)) (by exact_mod_cast Nat.zero_le n)
  rw [← this]
  congr 1
  push_cast; rfl
theorem RadixKeepsP : L07_RadixKeeps.Pure := by
  intro w a b hw0 ha0 hb0
  obtain ⟨ha1, ha2⟩ := wf_u64 ha0
  obtain ⟨a, rfl⟩ := Int.eq_ofNat_of_zero_le ha1
  have ha : a < 18446744073709551616 := by omega
  obtain ⟨hb1, hb2⟩ := wf_u64 hb0
  obtain ⟨b, rfl⟩ := Int.eq_ofNat_of_zero_le hb1
  have hb : b < 18446744073709551616 := by omega
  refine Ev.rounds ?_
  unfold L07_RadixKeeps.f
  refine Ev.bind awake07 (Ev.pos rfl ?_)
  by_cases hw : w = 32 ∨ w = 64
  · have main : Ev (fun k => L07_RadixKeeps.j0 k w a b false) true := by
      refine Ev.step (fun _ => L07_RadixKeeps.j0.eq_2 ..) (Ev.neg (by decide) ?_)
      have em : Int.tmod (a : Int) 4096 = ((a % 4096 : Nat) : Int) := by rw [Int.tmod_eq_emod_of_nonneg (by omega)]; omega
      rw [em]
      have hn : a % 4096 < 4096 := Nat.mod_lt _ (by decide)
      generalize a % 4096 = n at *
      have hnn : n * n < 16777216 := by
        have := Nat.mul_le_mul (show n ≤ 4095 by omega) (show n ≤ 4095 by omega)
        omega
      rw [← Int.natCast_mul, u64_id (n := ((n * n : Nat) : Int)) (by omega) (by omega)]
      have z : ∀ m, mkN w m false = m := fun m => by simp [mkN]
      have w1 := wholeE w hw false (n * n) (by omega)
      have w2 := wholeE w hw false n (by omega)
      rw [Bool.false_and, z] at w1 w2
      obtain ⟨q1, q2⟩ := sq_whole w hw hn
      have s1 := sqrtE w hw _ q2
      rw [q1] at s1
      refine Ev.bs w1 (Ev.bind s1 (Ev.bs w2 (Ev.pos rfl (Ev.bind (sqrtE w hw a ha) (Ev.bind (sqrtE w hw b hb) ?_)))))
      obtain ⟨x, hx⟩ : ∃ x, sqP w (opn w a) = x := ⟨_, rfl⟩
      have hc : Can w x := hx ▸ can_sq w _
      have hlt := (can_cut hw hc).2
      rw [hx]
      have hN := isnanS w hw x hlt
      rw [can_nan hw hc] at hN
      refine Ev.bind hN ?_
      by_cases hnan : x = nanN w
      · rw [decide_eq_true hnan]
        refine Ev.pos rfl (Ev.bs (shN w hw) (Ev.out ?_))
        rw [hnan]; simp
      · rw [decide_eq_false hnan]
        refine Ev.neg (by decide) (Ev.bind (openS w hw a ha) (Ev.bind (openS w hw b hb) ?_))
        by_cases sa : (opn w a).1 = true
        · exact Ev.pos sa (Ev.out rfl)
        · refine Ev.neg sa ?_
          by_cases sb_ : (opn w b).1 = true
          · exact Ev.pos sb_ (Ev.out rfl)
          · refine Ev.neg sb_ ?_
            by_cases k3 : (opn w b).2.1 = 3
            · exact Ev.pos k3 (Ev.out rfl)
            · refine Ev.neg k3 (Ev.bs (shCut w b hb) (Ev.bs (shCut w a ha) ?_))
              by_cases hlt2 : ((cutN w b : Nat) : Int) < ((cutN w a : Nat) : Int)
              · exact Ev.pos hlt2 (Ev.out rfl)
              · refine Ev.neg hlt2 (Ev.out ?_)
                have a3 : (opn w a).2.1 ≠ 3 := by
                  intro h
                  refine hnan ?_
                  rw [← hx]; unfold sqP
                  rw [if_neg (by omega), if_pos (.inl h)]
                have sa' : (opn w a).1 = false := by cases h : (opn w a).1; rfl; exact absurd h sa
                have sb' : (opn w b).1 = false := by cases h : (opn w b).1; rfl; exact absurd h sb_
                obtain ⟨m1, _⟩ := sqP_mag w hw a a3 sa'
                obtain ⟨m2, _⟩ := sqP_mag w hw b k3 sb'
                have sg : ∀ c, (opn w c).2.1 ≠ 3 → (opn w c).1 = false → sgB w c = false := by
                  intro c hc hs
                  rcases kinds w hw c with ⟨_, hk⟩ | ⟨_, _, hk⟩ | ⟨_, hk⟩ | ⟨_, hk⟩
                  · rw [hk] at hs; exact hs
                  · rw [hk] at hs; exact hs
                  · rw [hk] at hs; exact hs
                  · rw [hk] at hc; exact absurd rfl hc
                rw [cut_as_mk w hw a ha, cut_as_mk w hw b hb, sg a a3 sa', sg b k3 sb', z, z] at hlt2
                have := sqm_mono w (show magN w a ≤ magN w b by omega)
                rw [m2, ← hx, m1]
                exact (decide_eq_true (show ((sqm w (magN w b) : Nat) : Int) ≥ ((sqm w (magN w a) : Nat) : Int) by omega))
    rcases hw with rfl | rfl
    · exact Ev.pos rfl main
    · exact Ev.neg (by decide) main
  · refine Ev.neg (by omega) (Ev.step (fun _ => L07_RadixKeeps.j0.eq_2 ..) (Ev.pos ?_ (Ev.out rfl)))
    rw [bne_iff_ne]; omega
end Go.Proofs.Ytjjehbedpgdhgaa.Th
end
namespace Go.Proofs.Ytjjehbedpgdhgaa.Pure
theorem RadixKeeps : Go.Proofs.Ytjjehbedpgdhgaa.PA.L07_RadixKeeps.Pure := Go.Proofs.Ytjjehbedpgdhgaa.Th.RadixKeepsP
end Go.Proofs.Ytjjehbedpgdhgaa.Pure
namespace Go.Proofs.Ytjjehbedpgdhgaa.Facts
abbrev ch (n : Nat) : Char := Char.ofNat n
theorem words_word (w : List Char) (r : List Char) (h : w.all (fun c => c != ch 32) = true) : wordsSigns (w ++ ch 32 :: r) = w :: wordsSigns r := by
  induction w with
  | nil => rfl
  | cons c w ih =>
    rw [List.all_cons, Bool.and_eq_true] at h
    have hc : c ≠ ch 32 := bne_iff_ne.1 h.1
    rw [List.cons_append]
    rw [wordsSigns.eq_3 c _ (fun e => hc e), ih h.2]
def w1 : List Char := [ch 104, ch 97, ch 114, ch 110, ch 101, ch 115, ch 115]
def w2 : List Char := [ch 51, ch 52, ch 101, ch 53, ch 102, ch 48, ch 55, ch 101, ch 100, ch 56, ch 100, ch 53, ch 49, ch 98, ch 54, ch 101, ch 48, ch 51, ch 57, ch 99, ch 100, ch 54, ch 51, ch 49, ch 100, ch 101, ch 55, ch 50, ch 100, ch 101, ch 48, ch 52, ch 53, ch 100, ch 99, ch 49, ch 49, ch 53, ch 100, ch 98, ch 56, ch 51, ch 51, ch 55, ch 52, ch 57, ch 98, ch 51, ch 101, ch 57, ch 50, ch 51, ch 54, ch 99, ch 56, ch 51, ch 100, ch 101, ch 54, ch 53, ch 57, ch 52, ch 101, ch 97]
def w3 : List Char := [ch 99, ch 117, ch 116]
set_option maxRecDepth 100000 in
def tailSigns : List Char := [ch 97, ch 116, ch 32, ch 116, ch 114, ch 117, ch 110, ch 110, ch 105, ch 111, ch 110, ch 47, ch 116, ch 114, ch 117, ch 110, ch 110, ch 105, ch 111, ch 110, ch 108, ch 97, ch 119, ch 48, ch 55, ch 46, ch 82, ch 97, ch 100, ch 105, ch 120, ch 82, ch 111, ch 111, ch 116, ch 115, ch 32, ch 116, ch 114, ch 117, ch 110, ch 110, ch 105, ch 111, ch 110, ch 47, ch 116, ch 114, ch 117, ch 110, ch 110, ch 105, ch 111, ch 110, ch 108, ch 97, ch 119, ch 48, ch 55, ch 46, ch 82, ch 97, ch 100, ch 105, ch 120, ch 75, ch 101, ch 101, ch 112, ch 115, ch 32, ch 116, ch 114, ch 117, ch 110, ch 110, ch 105, ch 111, ch 110, ch 47, ch 116, ch 114, ch 117, ch 110, ch 110, ch 105, ch 111, ch 110, ch 108, ch 97, ch 119, ch 48, ch 55, ch 46, ch 82, ch 97, ch 100, ch 105, ch 120, ch 83, ch 99, ch 97, ch 108, ch 101, ch 32, ch 116, ch 114, ch 117, ch 110, ch 110, ch 105, ch 111, ch 110, ch 47, ch 116, ch 114, ch 117, ch 110, ch 110, ch 105, ch 111, ch 110, ch 108, ch 97, ch 119, ch 49, ch 50, ch 46, ch 67, ch 104, ch 111, ch 112, ch 84, ch 114, ch 97, ch 112, ch 115, ch 32, ch 116, ch 114, ch 117, ch 110, ch 110, ch 105, ch 111, ch 110, ch 47, ch 116, ch 114, ch 117, ch 110, ch 110, ch 105, ch 111, ch 110, ch 108, ch 97, ch 119, ch 48, ch 49, ch 46, ch 87, ch 105, ch 100, ch 101, ch 83, ch 117, ch 109, ch 115]
set_option maxRecDepth 100000 in
theorem head_list : Try.prog.initOrder.toList = w1 ++ ch 32 :: (w2 ++ ch 32 :: (w3 ++ ch 32 :: tailSigns)) :=
  (congrArg String.toList (show Try.prog.initOrder = String.ofList (w1 ++ ch 32 :: (w2 ++ ch 32 :: (w3 ++ ch 32 :: tailSigns))) from rfl)).trans String.toList_ofList
theorem words : ∃ rest, behindMainWord (wordsSigns Try.prog.initOrder.toList) = w3 :: rest := by
  refine ⟨wordsSigns tailSigns, ?_⟩
  rw [head_list, words_word w1 _ (by kernel_rfl), words_word w2 _ (by kernel_rfl), words_word w3 _ (by kernel_rfl)]
  generalize wordsSigns tailSigns = rest
  have e : ((w1 == "harness".toList || w1 == "ownmain".toList) && isSumSigns w2) = true := by kernel_rfl
  show (if ((w1 == "harness".toList || w1 == "ownmain".toList) && isSumSigns w2) = true then w3 :: rest else w1 :: w2 :: w3 :: rest) = w3 :: rest
  rw [if_pos e]
theorem c3 : (w3 == "gc".toList) = false ∧ (w3 == "spec".toList) = false ∧ (w3 == "cut".toList) = true ∧ (w3 == "carried".toList) = false ∧ (w3 == "finals".toList) = false := ⟨by kernel_rfl, by kernel_rfl, by kernel_rfl, by kernel_rfl, by kernel_rfl⟩
theorem strip (rest : List (List Char)) : stripLifts liftWords (w3 :: rest) = ([], w3 :: rest) := by
  have key : ∀ l : List String, l.all (fun o => !(w3 == o.toList)) = true → stripLifts l (w3 :: rest) = ([], w3 :: rest) := by
    intro l
    induction l with
    | nil => intro _; rfl
    | cons o l ih =>
      intro h
      rw [List.all_cons, Bool.and_eq_true] at h
      unfold stripLifts
      rw [if_neg (fun e => by have h1 := h.1; rw [e] at h1; cases h1)]
      exact ih h.2
  exact key liftWords (by kernel_rfl)
theorem make_of (P : Program) (h : ∃ rest, behindMainWord (wordsSigns P.initOrder.toList) = w3 :: rest) : P.make = some .cut := by
  obtain ⟨rest, h⟩ := h
  unfold Program.make
  rw [h]
  show (if (w3 == "gc".toList || w3 == "spec".toList) = true then some Make.whole else if (w3 == "cut".toList || (w3 == "finals".toList && rest.head? == some "cut".toList)) = true then some Make.cut else _) = some Make.cut
  rw [if_neg (by rw [c3.1, c3.2.1]; decide), if_pos (by rw [c3.2.2.1, Bool.true_or])]
set_option maxRecDepth 100000 in
theorem liftsFact : Try.prog.liftsFinal = false := by
  unfold Program.liftsFinal Program.headLifts
  rw [head_list]
  kernel_rfl
theorem doorFact : (!Try.prog.laysLater && !Try.prog.bearsReflect && Try.prog.doorFits []) = true := by kernel_rfl
theorem makeFact : Try.prog.make = some .cut := make_of _ words
theorem enter_of (P : Program) (h : ∃ rest, behindMainWord (wordsSigns P.initOrder.toList) = w3 :: rest) (d : (!P.laysLater && !P.bearsReflect && P.doorFits []) = true) : P.mayEnter = true := by
  obtain ⟨rest, h⟩ := h
  rw [Bool.and_eq_true, Bool.and_eq_true] at d
  have e : ((some w3 == some "cut".toList) : Bool) = true := by kernel_rfl
  unfold Program.mayEnter
  rw [h]
  show ((_ || _) || ((stripLifts liftWords (w3 :: rest)).2.head? == some "cut".toList && ((stripLifts liftWords (w3 :: rest)).1.contains "finals" || !P.laysLater) && ((stripLifts liftWords (w3 :: rest)).1.contains "reflectrows" || !P.bearsReflect) &&
      ((stripLifts liftWords (w3 :: rest)).1.contains "reflectrows" || !(stripLifts liftWords (w3 :: rest)).1.contains "leanrows") && P.doorFits (stripLifts liftWords (w3 :: rest)).1)) = true
  rw [strip, Bool.or_eq_true]
  refine .inr ?_
  rw [Bool.and_eq_true, Bool.and_eq_true, Bool.and_eq_true, Bool.and_eq_true, Bool.or_eq_true, Bool.or_eq_true]
  exact ⟨⟨⟨⟨e, .inr d.1.1⟩, .inr d.1.2⟩, rfl⟩, d.2⟩
theorem enterFact : Try.prog.mayEnter = true := enter_of _ words doorFact
end Go.Proofs.Ytjjehbedpgdhgaa.Facts
