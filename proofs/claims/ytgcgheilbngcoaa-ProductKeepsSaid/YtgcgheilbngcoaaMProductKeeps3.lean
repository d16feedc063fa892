/- What the Go functions that the statement ProductKeeps reaches compute, and the mathematics on it, in the order in which one leans on the other; for every input. -/
import Derived.Test.YtgcgheilbngcoaaVProductKeeps0
import Derived.Test.YtgcgheilbngcoaaMProductKeeps0
import Derived.Test.YtgcgheilbngcoaaMProductKeeps2
import Derived.Test.YtgcgheilbngcoaaMProductKeeps1
import Derived.Deep.RegionHeld3
import Derived.Test.YtgcgheilbngcoaaRows
import Derived.ProofKit
import Derived.JoinedOf
import Derived.KernelRfl
namespace Go.Proofs.Ytgcgheilbngcoaa.PA
open Go.RowKit Go.Proofs.YtgcgheilbngcoaaW.PrintWords Go.Proofs.YtgcgheilbngcoaaW.PrintLast Go.Proofs.YtgcgheilbngcoaaW.PrintMore
attribute [local go_sem] max2_int min2_int max_two min_two max_three min_three max_four min_four   -- for this text's walks alone
set_option linter.unusedVariables false
set_option linter.unusedSimpArgs false
set_option maxHeartbeats 8000000
set_option maxRecDepth 100000
mutual
def trunnionlaw05_ProductKeeps.j0 : Nat → Int → Int → Int → Bool → Option (Bool)
 | 0, _, _, _, _ => none
 | k + 1, x0, x1, x2, x17 => if x17 = true then (some true) else ((product_Mul.f k x0 x1 x2).bind fun t890 => ((shape_Zero.f x0 true).bind fun t891 => ((product_Mul.f k x0 x2 x1).bind fun t892 => (if t890 = t892 then ((shape_Cut.f x0 t890).bind fun t893 => (trunnionlaw05_ProductKeeps.j1 k x0 x1 x2 t890 t891 (t890 != t893))) else (trunnionlaw05_ProductKeeps.j1 k x0 x1 x2 t890 t891 true)))))
def trunnionlaw05_ProductKeeps.j1 : Nat → Int → Int → Int → Int → Int → Bool → Option (Bool)
 | 0, _, _, _, _, _, _ => none
 | k + 1, x0, x1, x2, x7, x8, x36 => if x36 = true then (some false) else ((shape_IsNan.f k x0 x7).bind fun t894 => (if t894 = true then ((shape_Nan.f x0).bind fun t895 => (if x7 = t895 then ((product_Mul.f k x0 (Go.bits .xor .u64 x1 x8) x2).bind fun t896 => (some (t896 == x7))) else (some false))) else ((product_All.f k x0 ([] : List Int)).bind fun t897 => ((product_Mul.f k x0 (Go.bits .xor .u64 x1 x8) x2).bind fun t898 => (if t898 = (Go.bits .xor .u64 x7 x8) then ((shape_IsNan.f k x0 x1).bind fun t899 => (if t899 = true then (some true) else ((product_Mul.f k x0 x1 t897).bind fun t900 => ((shape_Cut.f x0 x1).bind fun t901 => (if t900 = t901 then ((product_Scale.f k x0 x1 0).bind fun t902 => ((shape_Cut.f x0 x1).bind fun t903 => (some (t902 == t903)))) else (some false)))))) else (some false))))))
end
def trunnionlaw05_ProductKeeps.f (k : Nat) (a0 : Int) (a1 : Int) (a2 : Int) : Option (Bool) := (trunnionlaw05_awake.f k).bind fun t889 => (if t889 = true then (if a0 = 32 then (trunnionlaw05_ProductKeeps.j0 k a0 a1 a2 false) else (trunnionlaw05_ProductKeeps.j0 k a0 a1 a2 (a0 != 64))) else (some false))
theorem trunnionlaw05_ProductKeeps.mono_l : ∀ k, (∀ y0 y1 y2 y3, LeO (trunnionlaw05_ProductKeeps.j0 k y0 y1 y2 y3) (trunnionlaw05_ProductKeeps.j0 (k + 1) y0 y1 y2 y3)) ∧ (∀ y0 y1 y2 y3 y4 y5, LeO (trunnionlaw05_ProductKeeps.j1 k y0 y1 y2 y3 y4 y5) (trunnionlaw05_ProductKeeps.j1 (k + 1) y0 y1 y2 y3 y4 y5))
 | 0 => ⟨fun _ _ _ _ r h => by simp [trunnionlaw05_ProductKeeps.j0] at h, fun _ _ _ _ _ _ r h => by simp [trunnionlaw05_ProductKeeps.j1] at h⟩
 | k + 1 => by
  obtain ⟨ih0, ih1⟩ := trunnionlaw05_ProductKeeps.mono_l k
  refine ⟨?_, ?_⟩
  ·intro y0 y1 y2 y3
   unfold trunnionlaw05_ProductKeeps.j0
   repeat' first
   | (with_reducible exact ih0 _ _ _ _)
   | (with_reducible exact ih1 _ _ _ _ _ _)
   | (with_reducible exact product_All.mono _ _ _)
   | (with_reducible exact product_Mul.mono _ _ _ _)
   | (with_reducible exact product_Scale.mono _ _ _ _)
   | (with_reducible exact shape_IsNan.mono _ _ _)
   | (with_reducible exact trunnionlaw05_awake.mono _)
   | (with_reducible exact LeO.refl _)
   | (with_reducible exact LeO.none _)
   | (with_reducible refine LeO.ite ?_ ?_)
   | (with_reducible refine LeO.bind ?_ (fun _ => ?_))
   | exact ih0 _ _ _ _
   | exact ih1 _ _ _ _ _ _
   | exact product_All.mono _ _ _
   | exact product_Mul.mono _ _ _ _
   | exact product_Scale.mono _ _ _ _
   | exact shape_IsNan.mono _ _ _
   | exact trunnionlaw05_awake.mono _
   | exact LeO.none _
   | refine LeO.ite ?_ ?_
   | refine LeO.bind ?_ (fun _ => ?_)
  ·intro y0 y1 y2 y3 y4 y5
   unfold trunnionlaw05_ProductKeeps.j1
   repeat' first
   | (with_reducible exact ih0 _ _ _ _)
   | (with_reducible exact ih1 _ _ _ _ _ _)
   | (with_reducible exact product_All.mono _ _ _)
   | (with_reducible exact product_Mul.mono _ _ _ _)
   | (with_reducible exact product_Scale.mono _ _ _ _)
   | (with_reducible exact shape_IsNan.mono _ _ _)
   | (with_reducible exact trunnionlaw05_awake.mono _)
   | (with_reducible exact LeO.refl _)
   | (with_reducible exact LeO.none _)
   | (with_reducible refine LeO.ite ?_ ?_)
   | (with_reducible refine LeO.bind ?_ (fun _ => ?_))
   | exact ih0 _ _ _ _
   | exact ih1 _ _ _ _ _ _
   | exact product_All.mono _ _ _
   | exact product_Mul.mono _ _ _ _
   | exact product_Scale.mono _ _ _ _
   | exact shape_IsNan.mono _ _ _
   | exact trunnionlaw05_awake.mono _
   | exact LeO.none _
   | refine LeO.ite ?_ ?_
   | refine LeO.bind ?_ (fun _ => ?_)
theorem trunnionlaw05_ProductKeeps.mono : ∀ a0 a1 a2 k, LeO (trunnionlaw05_ProductKeeps.f k a0 a1 a2) (trunnionlaw05_ProductKeeps.f (k + 1) a0 a1 a2) := by
 intro a0 a1 a2 k
 obtain ⟨ih0, ih1⟩ := trunnionlaw05_ProductKeeps.mono_l k
 unfold trunnionlaw05_ProductKeeps.f
 repeat' first
   | (with_reducible exact ih0 _ _ _ _)
   | (with_reducible exact ih1 _ _ _ _ _ _)
   | (with_reducible exact product_All.mono _ _ _)
   | (with_reducible exact product_Mul.mono _ _ _ _)
   | (with_reducible exact product_Scale.mono _ _ _ _)
   | (with_reducible exact shape_IsNan.mono _ _ _)
   | (with_reducible exact trunnionlaw05_awake.mono _)
   | (with_reducible exact LeO.refl _)
   | (with_reducible exact LeO.none _)
   | (with_reducible refine LeO.ite ?_ ?_)
   | (with_reducible refine LeO.bind ?_ (fun _ => ?_))
   | exact ih0 _ _ _ _
   | exact ih1 _ _ _ _ _ _
   | exact product_All.mono _ _ _
   | exact product_Mul.mono _ _ _ _
   | exact product_Scale.mono _ _ _ _
   | exact shape_IsNan.mono _ _ _
   | exact trunnionlaw05_awake.mono _
   | exact LeO.none _
   | refine LeO.ite ?_ ?_
   | refine LeO.bind ?_ (fun _ => ?_)
theorem trunnionlaw05_ProductKeeps.calls (k : Nat) (a0 : Int) (a1 : Int) (a2 : Int) (r : Bool) (w : World) (h : trunnionlaw05_ProductKeeps.f k a0 a1 a2 = some r) (hr_ : Aside0 (r = true)) :
  Calls Try.prog 16 #[.int .i64 a0, .int .u64 a1, .int .u64 a2] w fun e w' => e = .returned (.bool r) ∧ Below w.heap.size w w' := by
 have HB := A_ (Below.refl w.heap.size w)
 have H : ((trunnionlaw05_awake.f k).bind fun t889 => (if t889 = true then (if a0 = 32 then (trunnionlaw05_ProductKeeps.j0 k a0 a1 a2 false) else (trunnionlaw05_ProductKeeps.j0 k a0 a1 a2 (a0 != 64))) else (some false))) = some r := h
 clear h
 replace H := Option.bind_eq_some_iff.mp H
 obtain ⟨t889, A40, H⟩ := H
 replace H : (if t889 = true then (if a0 = 32 then (trunnionlaw05_ProductKeeps.j0 k a0 a1 a2 false) else (trunnionlaw05_ProductKeeps.j0 k a0 a1 a2 (a0 != 64))) else (some false)) = some r := H
 have A4 := A_ A40;clear A40
 by_cases c5 : t889 = true
 ·subst c5
  have H1 : (if a0 = 32 then (trunnionlaw05_ProductKeeps.j0 k a0 a1 a2 false) else (trunnionlaw05_ProductKeeps.j0 k a0 a1 a2 (a0 != 64))) = some r := by rw [if_pos rfl] at H; exact H
  clear H;have H := H1;clear H1;have HC6 := A_ H;clear H
  go_enter Try.func16, Try.ntmps16
  go_upto_region 3 with (first | ((with_reducible refine gate_callee (f := 53) rfl ?_); refine goesL_ (some 10) rfl rfl Try.func53 (by kernel_rfl) rfl #[] rfl mp_ ?_; (with_reducible refine (trunnionlaw05_awake.calls k  true _ A4.out).mono ?_); rintro e w7 ⟨rfl, hb⟩; refine ⟨_, rfl, ?_⟩; have n0_ := A_ (below_step (hb_ HB.out) hb); clear HB; have HB := n0_; clear n0_; (try clear hb); (try clear hb2); (try clear hk); (try clear hi)))
  (try simp only [Act.put, lI_, l0_, lS_])
  go_cut [17] (fun v17 wc => ∃ (kq : Nat) (x17_5 : Bool), v17 = .bool x17_5 ∧ Aside0 (trunnionlaw05_ProductKeeps.j0 kq a0 a1 a2 x17_5 = some r) ∧ Aside0 (kq ≤ k) ∧ Aside0 (Below w.heap.size w wc))
  case first =>
   have H := HC6.out
   clear HC6
   by_cases c8 : a0 = 32
   ·rw [if_pos c8] at H
    have c8b0 : (a0 == 32) = true := beq_iff_eq.mpr c8
    have c8b1 : (a0 != 32) = false := bne_eq_false_iff_eq.mpr c8
    clear c8
    (first | rw [c8b0] | (simp only [i64_w, i32_w]; rw [c8b0]) | skip)
    have H' := A_ H
    clear H
    go_wp2
    go_meet
    case rel => exact ⟨_, (false), sm_, H', ⟨by first | omega | exact Nat.le_refl _⟩, ⟨hb_ HB.out⟩⟩
   ·rw [if_neg c8] at H
    have c8b0 : (a0 == 32) = false := beq_eq_false_iff_ne.mpr c8
    have c8b1 : (a0 != 32) = true := bne_iff_ne.mpr c8
    (first | rw [c8b0] | (simp only [i64_w, i32_w]; rw [c8b0]) | skip)
    have H' := A_ H
    clear H
    go_wp2
    go_meet
    case rel => exact ⟨_, ((a0 != 64)), sm_, H', ⟨by first | omega | exact Nat.le_refl _⟩, ⟨hb_ HB.out⟩⟩
  case rest =>
   clear HC6
   try clear c1
   try clear p2
   try clear c5
   try clear c8
   try clear c8b0
   try clear c8b1
   obtain ⟨kq, x17_5, rfl, HA, HJ5, HB⟩ := hcut
   cases kq with
   | zero => exact absurd HA.out (by simp [trunnionlaw05_ProductKeeps.j0])
   | succ kj5 =>
    have H := HA.out
    clear HA
    simp only [trunnionlaw05_ProductKeeps.j0] at H
    by_cases c9 : x17_5 = true
    ·subst c9
     have H1 : (some true) = some r := by rw [if_pos rfl] at H; exact H
     clear H;have H := H1;clear H1
     obtain rfl := Option.some.inj H
     go_wp2
     go_ret
     exact ⟨er_, hb_ HB.out⟩
    ·replace c9 := Bool.eq_false_iff.mpr c9
     subst c9
     have H1 : ((product_Mul.f kj5 a0 a1 a2).bind fun t890 => ((shape_Zero.f a0 true).bind fun t891 => ((product_Mul.f kj5 a0 a2 a1).bind fun t892 => (if t890 = t892 then ((shape_Cut.f a0 t890).bind fun t893 => (trunnionlaw05_ProductKeeps.j1 kj5 a0 a1 a2 t890 t891 (t890 != t893))) else (trunnionlaw05_ProductKeeps.j1 kj5 a0 a1 a2 t890 t891 true))))) = some r := by rw [if_neg (show ¬ (false = true) by decide)] at H; exact H
     clear H;have H := H1;clear H1
     replace H := Option.bind_eq_some_iff.mp H
     obtain ⟨t890, A100, H⟩ := H
     replace H : ((shape_Zero.f a0 true).bind fun t891 => ((product_Mul.f kj5 a0 a2 a1).bind fun t892 => (if t890 = t892 then ((shape_Cut.f a0 t890).bind fun t893 => (trunnionlaw05_ProductKeeps.j1 kj5 a0 a1 a2 t890 t891 (t890 != t893))) else (trunnionlaw05_ProductKeeps.j1 kj5 a0 a1 a2 t890 t891 true)))) = some r := H
     have A10 := A_ A100;clear A100
     replace H := Option.bind_eq_some_iff.mp H
     obtain ⟨t891, A110, H⟩ := H
     replace H : ((product_Mul.f kj5 a0 a2 a1).bind fun t892 => (if t890 = t892 then ((shape_Cut.f a0 t890).bind fun t893 => (trunnionlaw05_ProductKeeps.j1 kj5 a0 a1 a2 t890 t891 (t890 != t893))) else (trunnionlaw05_ProductKeeps.j1 kj5 a0 a1 a2 t890 t891 true))) = some r := H
     have A11 := A_ A110;clear A110;have HC12 := A_ H;clear H
     go_upto_region 6 with (first | ((with_reducible refine gate_callee (f := 54) rfl ?_); refine goesL_ (some 21) rfl rfl Try.func54 (by kernel_rfl) rfl #[.int .i64 a0, .int .u64 a1, .int .u64 a2] rfl mp_ ?_; (with_reducible refine (product_Mul.calls kj5 a0 a1 a2 t890 _ A10.out).mono ?_); rintro e w13 ⟨rfl, hb⟩; refine ⟨_, rfl, ?_⟩; have n0_ := A_ (below_step (hb_ HB.out) hb); clear HB; have HB := n0_; clear n0_; (try clear hb); (try clear hb2); (try clear hk); (try clear hi)) | ((with_reducible refine gate_callee (f := 52) rfl ?_); refine goesL_ (some 23) rfl rfl Try.func52 (by kernel_rfl) rfl #[.int .i64 a0, .bool true] rfl mp_ ?_; (with_reducible refine (shape_Zero.calls a0 true t891 _ A11.out).mono ?_); rintro e w14 ⟨rfl, hb⟩; refine ⟨_, rfl, ?_⟩; have n0_ := A_ (below_step (hb_ HB.out) hb); clear HB; have HB := n0_; clear n0_; (try clear hb); (try clear hb2); (try clear hk); (try clear hi)))
     (try simp only [Act.put, lI_, l0_, lS_])
     go_cut [36] (fun v36 wc => ∃ (kq : Nat) (x36_11 : Bool), v36 = .bool x36_11 ∧ Aside0 (trunnionlaw05_ProductKeeps.j1 kq a0 a1 a2 t890 t891 x36_11 = some r) ∧ Aside0 (kq ≤ kj5) ∧ Aside0 (Below w.heap.size w wc))
     case first =>
      have H := HC12.out
      clear HC12
      replace H := Option.bind_eq_some_iff.mp H
      obtain ⟨t892, A150, H⟩ := H
      replace H : (if t890 = t892 then ((shape_Cut.f a0 t890).bind fun t893 => (trunnionlaw05_ProductKeeps.j1 kj5 a0 a1 a2 t890 t891 (t890 != t893))) else (trunnionlaw05_ProductKeeps.j1 kj5 a0 a1 a2 t890 t891 true)) = some r := H
      have A15 := A_ A150;clear A150
      by_cases c16 : t890 = t892
      ·rw [if_pos c16] at H
       have c16b0 : (t890 == t892) = true := beq_iff_eq.mpr c16
       have c16b1 : (t890 != t892) = false := bne_eq_false_iff_eq.mpr c16
       clear c16
       (first | rw [c16b0] | (simp only [i64_w, i32_w]; rw [c16b0]) | skip)
       replace H := Option.bind_eq_some_iff.mp H
       obtain ⟨t893, A170, H⟩ := H
       replace H : (trunnionlaw05_ProductKeeps.j1 kj5 a0 a1 a2 t890 t891 (t890 != t893)) = some r := H
       have A17 := A_ A170;clear A170
       have H' := A_ H
       clear H
       go_wp2_with (first | ((with_reducible refine gate_callee (f := 54) rfl ?_); refine goesL_ (some 28) rfl rfl Try.func54 (by kernel_rfl) rfl #[.int .i64 a0, .int .u64 a2, .int .u64 a1] rfl mp_ ?_; (with_reducible refine (product_Mul.calls kj5 a0 a2 a1 t892 _ A15.out).mono ?_); rintro e w18 ⟨rfl, hb⟩; refine ⟨_, rfl, ?_⟩; have n0_ := A_ (below_step (hb_ HB.out) hb); clear HB; have HB := n0_; clear n0_; (try clear hb); (try clear hb2); (try clear hk); (try clear hi)) | (go_at_call 49; (with_reducible refine (shape_Cut.calls a0 t890 t893 _ A17.out).mono ?_); rintro e w' ⟨rfl, ⟨nd, rfl⟩⟩))
       go_meet
       case rel => exact ⟨_, ((t890 != t893)), sm_, H', ⟨by have := HJ5.out; first | omega | exact Nat.le_refl _⟩, ⟨hb_ HB.out⟩⟩
      ·rw [if_neg c16] at H
       have c16b0 : (t890 == t892) = false := beq_eq_false_iff_ne.mpr c16
       have c16b1 : (t890 != t892) = true := bne_iff_ne.mpr c16
       (first | rw [c16b0] | (simp only [i64_w, i32_w]; rw [c16b0]) | skip)
       have H' := A_ H
       clear H
       go_wp2_with (first | ((with_reducible refine gate_callee (f := 54) rfl ?_); refine goesL_ (some 28) rfl rfl Try.func54 (by kernel_rfl) rfl #[.int .i64 a0, .int .u64 a2, .int .u64 a1] rfl mp_ ?_; (with_reducible refine (product_Mul.calls kj5 a0 a2 a1 t892 _ A15.out).mono ?_); rintro e w19 ⟨rfl, hb⟩; refine ⟨_, rfl, ?_⟩; have n0_ := A_ (below_step (hb_ HB.out) hb); clear HB; have HB := n0_; clear n0_; (try clear hb); (try clear hb2); (try clear hk); (try clear hi)))
       go_meet
       case rel => exact ⟨_, (true), sm_, H', ⟨by have := HJ5.out; first | omega | exact Nat.le_refl _⟩, ⟨hb_ HB.out⟩⟩
     case rest =>
      clear HC12
      try clear c1
      try clear p2
      try clear c5
      try clear c8
      try clear c8b0
      try clear c8b1
      try clear c9
      try clear c16
      try clear c16b0
      try clear c16b1
      try clear p2
      obtain ⟨kq, x36_11, rfl, HA, HJ11, HB⟩ := hcut
      cases kq with
      | zero => exact absurd HA.out (by simp [trunnionlaw05_ProductKeeps.j1])
      | succ kj11 =>
       have H := HA.out
       clear HA
       simp only [trunnionlaw05_ProductKeeps.j1] at H
       by_cases c20 : x36_11 = true
       ·subst c20
        have H1 : (some false) = some r := by rw [if_pos rfl] at H; exact H
        clear H;have H := H1;clear H1
        exact absurd ((Option.some.inj H).trans hr_.out) (by decide)
       ·replace c20 := Bool.eq_false_iff.mpr c20
        subst c20
        have H1 : ((shape_IsNan.f kj11 a0 t890).bind fun t894 => (if t894 = true then ((shape_Nan.f a0).bind fun t895 => (if t890 = t895 then ((product_Mul.f kj11 a0 (Go.bits .xor .u64 a1 t891) a2).bind fun t896 => (some (t896 == t890))) else (some false))) else ((product_All.f kj11 a0 ([] : List Int)).bind fun t897 => ((product_Mul.f kj11 a0 (Go.bits .xor .u64 a1 t891) a2).bind fun t898 => (if t898 = (Go.bits .xor .u64 t890 t891) then ((shape_IsNan.f kj11 a0 a1).bind fun t899 => (if t899 = true then (some true) else ((product_Mul.f kj11 a0 a1 t897).bind fun t900 => ((shape_Cut.f a0 a1).bind fun t901 => (if t900 = t901 then ((product_Scale.f kj11 a0 a1 0).bind fun t902 => ((shape_Cut.f a0 a1).bind fun t903 => (some (t902 == t903)))) else (some false)))))) else (some false)))))) = some r := by rw [if_neg (show ¬ (false = true) by decide)] at H; exact H
        clear H;have H := H1;clear H1
        replace H := Option.bind_eq_some_iff.mp H
        obtain ⟨t894, A210, H⟩ := H
        replace H : (if t894 = true then ((shape_Nan.f a0).bind fun t895 => (if t890 = t895 then ((product_Mul.f kj11 a0 (Go.bits .xor .u64 a1 t891) a2).bind fun t896 => (some (t896 == t890))) else (some false))) else ((product_All.f kj11 a0 ([] : List Int)).bind fun t897 => ((product_Mul.f kj11 a0 (Go.bits .xor .u64 a1 t891) a2).bind fun t898 => (if t898 = (Go.bits .xor .u64 t890 t891) then ((shape_IsNan.f kj11 a0 a1).bind fun t899 => (if t899 = true then (some true) else ((product_Mul.f kj11 a0 a1 t897).bind fun t900 => ((shape_Cut.f a0 a1).bind fun t901 => (if t900 = t901 then ((product_Scale.f kj11 a0 a1 0).bind fun t902 => ((shape_Cut.f a0 a1).bind fun t903 => (some (t902 == t903)))) else (some false)))))) else (some false))))) = some r := H
        have A21 := A_ A210;clear A210
        by_cases c22 : t894 = true
        ·subst c22
         have H1 : ((shape_Nan.f a0).bind fun t895 => (if t890 = t895 then ((product_Mul.f kj11 a0 (Go.bits .xor .u64 a1 t891) a2).bind fun t896 => (some (t896 == t890))) else (some false))) = some r := by rw [if_pos rfl] at H; exact H
         clear H;have H := H1;clear H1
         replace H := Option.bind_eq_some_iff.mp H
         obtain ⟨t895, A230, H⟩ := H
         replace H : (if t890 = t895 then ((product_Mul.f kj11 a0 (Go.bits .xor .u64 a1 t891) a2).bind fun t896 => (some (t896 == t890))) else (some false)) = some r := H
         have A23 := A_ A230;clear A230
         by_cases c24 : t890 = t895
         ·rw [if_pos c24] at H
          have c24b0 : (t890 == t895) = true := beq_iff_eq.mpr c24
          have c24b1 : (t890 != t895) = false := bne_eq_false_iff_eq.mpr c24
          clear c24
          replace H := Option.bind_eq_some_iff.mp H
          obtain ⟨t896, A250, H⟩ := H
          replace H : (some (t896 == t890)) = some r := H
          have A25 := A_ A250;clear A250
          (first | (obtain rfl := Option.some.inj (A10.out.symm.trans A25.out)) | (obtain rfl := Option.some.inj (A11.out.symm.trans A25.out)) | (obtain rfl := Option.some.inj (A15.out.symm.trans A25.out)) | (obtain rfl := Option.some.inj (A17.out.symm.trans A25.out)) | (obtain rfl := Option.some.inj (A21.out.symm.trans A25.out)) | (obtain rfl := Option.some.inj (A23.out.symm.trans A25.out)) | skip)
          obtain rfl := Option.some.inj H
          go_wp2_with (first | ((with_reducible refine gate_callee (f := 78) rfl ?_); refine goesL_ (some 39) rfl rfl Try.func78 (by kernel_rfl) rfl #[.int .i64 a0, .int .u64 t890] rfl mp_ ?_; (with_reducible refine (shape_IsNan.calls kj11 a0 t890 true _ A21.out).mono ?_); rintro e w26 ⟨rfl, hb⟩; refine ⟨_, rfl, ?_⟩; have n0_ := A_ (below_step (hb_ HB.out) hb); clear HB; have HB := n0_; clear n0_; (try clear hb); (try clear hb2); (try clear hk); (try clear hi)) | ((with_reducible refine gate_callee (f := 76) rfl ?_); refine goesL_ (some 42) rfl rfl Try.func76 (by kernel_rfl) rfl #[.int .i64 a0] rfl mp_ ?_; (with_reducible refine (shape_Nan.calls a0 t895 _ A23.out).mono ?_); rintro e w27 ⟨rfl, hb⟩; refine ⟨_, rfl, ?_⟩; have n0_ := A_ (below_step (hb_ HB.out) hb); clear HB; have HB := n0_; clear n0_; (try clear hb); (try clear hb2); (try clear hk); (try clear hi)) | (go_at_call 54; (with_reducible refine (product_Mul.calls kj11 a0 (Go.bits .xor .u64 a1 t891) a2 t896 _ A25.out).mono ?_); rintro e w28 ⟨rfl, hb⟩; have n0_ := A_ (below_step (hb_ HB.out) hb); clear HB; have HB := n0_; clear n0_; (try clear hb); (try clear hb2); (try clear hk); (try clear hi)))
          go_ret
          exact ⟨er_, hb_ HB.out⟩
         ·rw [if_neg c24] at H
          have c24b0 : (t890 == t895) = false := beq_eq_false_iff_ne.mpr c24
          have c24b1 : (t890 != t895) = true := bne_iff_ne.mpr c24
          exact absurd ((Option.some.inj H).trans hr_.out) (by decide)
        ·replace c22 := Bool.eq_false_iff.mpr c22
         subst c22
         have H1 : ((product_All.f kj11 a0 ([] : List Int)).bind fun t897 => ((product_Mul.f kj11 a0 (Go.bits .xor .u64 a1 t891) a2).bind fun t898 => (if t898 = (Go.bits .xor .u64 t890 t891) then ((shape_IsNan.f kj11 a0 a1).bind fun t899 => (if t899 = true then (some true) else ((product_Mul.f kj11 a0 a1 t897).bind fun t900 => ((shape_Cut.f a0 a1).bind fun t901 => (if t900 = t901 then ((product_Scale.f kj11 a0 a1 0).bind fun t902 => ((shape_Cut.f a0 a1).bind fun t903 => (some (t902 == t903)))) else (some false)))))) else (some false)))) = some r := by rw [if_neg (show ¬ (false = true) by decide)] at H; exact H
         clear H;have H := H1;clear H1
         replace H := Option.bind_eq_some_iff.mp H
         obtain ⟨t897, A290, H⟩ := H
         replace H : ((product_Mul.f kj11 a0 (Go.bits .xor .u64 a1 t891) a2).bind fun t898 => (if t898 = (Go.bits .xor .u64 t890 t891) then ((shape_IsNan.f kj11 a0 a1).bind fun t899 => (if t899 = true then (some true) else ((product_Mul.f kj11 a0 a1 t897).bind fun t900 => ((shape_Cut.f a0 a1).bind fun t901 => (if t900 = t901 then ((product_Scale.f kj11 a0 a1 0).bind fun t902 => ((shape_Cut.f a0 a1).bind fun t903 => (some (t902 == t903)))) else (some false)))))) else (some false))) = some r := H
         have A29 := A_ A290;clear A290
         replace H := Option.bind_eq_some_iff.mp H
         obtain ⟨t898, A300, H⟩ := H
         replace H : (if t898 = (Go.bits .xor .u64 t890 t891) then ((shape_IsNan.f kj11 a0 a1).bind fun t899 => (if t899 = true then (some true) else ((product_Mul.f kj11 a0 a1 t897).bind fun t900 => ((shape_Cut.f a0 a1).bind fun t901 => (if t900 = t901 then ((product_Scale.f kj11 a0 a1 0).bind fun t902 => ((shape_Cut.f a0 a1).bind fun t903 => (some (t902 == t903)))) else (some false)))))) else (some false)) = some r := H
         have A30 := A_ A300;clear A300
         by_cases c31 : t898 = (Go.bits .xor .u64 t890 t891)
         ·rw [if_pos c31] at H
          have c31b0 : (t898 == (Go.bits .xor .u64 t890 t891)) = true := beq_iff_eq.mpr c31
          have c31b1 : (t898 != (Go.bits .xor .u64 t890 t891)) = false := bne_eq_false_iff_eq.mpr c31
          clear c31
          replace H := Option.bind_eq_some_iff.mp H
          obtain ⟨t899, A320, H⟩ := H
          replace H : (if t899 = true then (some true) else ((product_Mul.f kj11 a0 a1 t897).bind fun t900 => ((shape_Cut.f a0 a1).bind fun t901 => (if t900 = t901 then ((product_Scale.f kj11 a0 a1 0).bind fun t902 => ((shape_Cut.f a0 a1).bind fun t903 => (some (t902 == t903)))) else (some false))))) = some r := H
          have A32 := A_ A320;clear A320
          by_cases c33 : t899 = true
          ·subst c33
           have H1 : (some true) = some r := by rw [if_pos rfl] at H; exact H
           clear H;have H := H1;clear H1
           obtain rfl := Option.some.inj H
           go_wp2_with (first | ((with_reducible refine gate_callee (f := 78) rfl ?_); refine goesL_ (some 39) rfl rfl Try.func78 (by kernel_rfl) rfl #[.int .i64 a0, .int .u64 t890] rfl mp_ ?_; (with_reducible refine (shape_IsNan.calls kj11 a0 t890 false _ A21.out).mono ?_); rintro e w34 ⟨rfl, hb⟩; refine ⟨_, rfl, ?_⟩; have n0_ := A_ (below_step (hb_ HB.out) hb); clear HB; have HB := n0_; clear n0_; (try clear hb); (try clear hb2); (try clear hk); (try clear hi)) | ((with_reducible refine gate_callee (f := 69) rfl ?_); refine goesL_ (some 55) rfl rfl Try.func69 (by kernel_rfl) rfl #[.int .i64 a0, .slice none 0 0] rfl mp_ ?_; (refine (product_All.calls kj11 a0 _ _ ([] : List Int) t897 _ ?side1 ?side2 A29.out).mono ?_); (case side1 => exact Kd.C_nil _ _); (case side2 => exact Nat.le_refl _); rintro e w35 ⟨rfl, hb⟩; refine ⟨_, rfl, ?_⟩; have n0_ := A_ (below_step (hb_ HB.out) hb); clear HB; have HB := n0_; clear n0_; (try clear hb); (try clear hb2); (try clear hk); (try clear hi)) | ((with_reducible refine gate_callee (f := 54) rfl ?_); refine goesL_ (some 61) rfl rfl Try.func54 (by kernel_rfl) rfl #[.int .i64 a0, .int .u64 (Go.bits .xor .u64 a1 t891), .int .u64 a2] rfl mp_ ?_; (with_reducible refine (product_Mul.calls kj11 a0 (Go.bits .xor .u64 a1 t891) a2 t898 _ A30.out).mono ?_); rintro e w36 ⟨rfl, hb⟩; refine ⟨_, rfl, ?_⟩; have n0_ := A_ (below_step (hb_ HB.out) hb); clear HB; have HB := n0_; clear n0_; (try clear hb); (try clear hb2); (try clear hk); (try clear hi)) | (go_at_call 78; (with_reducible refine (shape_IsNan.calls kj11 a0 a1 true _ A32.out).mono ?_); rintro e w37 ⟨rfl, hb⟩; have n0_ := A_ (below_step (hb_ HB.out) hb); clear HB; have HB := n0_; clear n0_; (try clear hb); (try clear hb2); (try clear hk); (try clear hi)))
           go_ret
           exact ⟨er_, hb_ HB.out⟩
          ·replace c33 := Bool.eq_false_iff.mpr c33
           subst c33
           have H1 : ((product_Mul.f kj11 a0 a1 t897).bind fun t900 => ((shape_Cut.f a0 a1).bind fun t901 => (if t900 = t901 then ((product_Scale.f kj11 a0 a1 0).bind fun t902 => ((shape_Cut.f a0 a1).bind fun t903 => (some (t902 == t903)))) else (some false)))) = some r := by rw [if_neg (show ¬ (false = true) by decide)] at H; exact H
           clear H;have H := H1;clear H1
           replace H := Option.bind_eq_some_iff.mp H
           obtain ⟨t900, A380, H⟩ := H
           replace H : ((shape_Cut.f a0 a1).bind fun t901 => (if t900 = t901 then ((product_Scale.f kj11 a0 a1 0).bind fun t902 => ((shape_Cut.f a0 a1).bind fun t903 => (some (t902 == t903)))) else (some false))) = some r := H
           have A38 := A_ A380;clear A380
           replace H := Option.bind_eq_some_iff.mp H
           obtain ⟨t901, A390, H⟩ := H
           replace H : (if t900 = t901 then ((product_Scale.f kj11 a0 a1 0).bind fun t902 => ((shape_Cut.f a0 a1).bind fun t903 => (some (t902 == t903)))) else (some false)) = some r := H
           have A39 := A_ A390;clear A390
           by_cases c40 : t900 = t901
           ·rw [if_pos c40] at H
            have c40b0 : (t900 == t901) = true := beq_iff_eq.mpr c40
            have c40b1 : (t900 != t901) = false := bne_eq_false_iff_eq.mpr c40
            clear c40
            replace H := Option.bind_eq_some_iff.mp H
            obtain ⟨t902, A410, H⟩ := H
            replace H : ((shape_Cut.f a0 a1).bind fun t903 => (some (t902 == t903))) = some r := H
            have A41 := A_ A410;clear A410
            replace H := Option.bind_eq_some_iff.mp H
            obtain ⟨t903, A420, H⟩ := H
            replace H : (some (t902 == t903)) = some r := H
            have A42 := A_ A420;clear A420
            (first | (obtain rfl := Option.some.inj (A29.out.symm.trans A42.out)) | (obtain rfl := Option.some.inj (A30.out.symm.trans A42.out)) | (obtain rfl := Option.some.inj (A32.out.symm.trans A42.out)) | (obtain rfl := Option.some.inj (A38.out.symm.trans A42.out)) | (obtain rfl := Option.some.inj (A39.out.symm.trans A42.out)) | (obtain rfl := Option.some.inj (A41.out.symm.trans A42.out)) | skip)
            obtain rfl := Option.some.inj H
            go_wp2_with (first | ((with_reducible refine gate_callee (f := 78) rfl ?_); refine goesL_ (some 39) rfl rfl Try.func78 (by kernel_rfl) rfl #[.int .i64 a0, .int .u64 t890] rfl mp_ ?_; (with_reducible refine (shape_IsNan.calls kj11 a0 t890 false _ A21.out).mono ?_); rintro e w43 ⟨rfl, hb⟩; refine ⟨_, rfl, ?_⟩; have n0_ := A_ (below_step (hb_ HB.out) hb); clear HB; have HB := n0_; clear n0_; (try clear hb); (try clear hb2); (try clear hk); (try clear hi)) | ((with_reducible refine gate_callee (f := 69) rfl ?_); refine goesL_ (some 55) rfl rfl Try.func69 (by kernel_rfl) rfl #[.int .i64 a0, .slice none 0 0] rfl mp_ ?_; (refine (product_All.calls kj11 a0 _ _ ([] : List Int) t897 _ ?side1 ?side2 A29.out).mono ?_); (case side1 => exact Kd.C_nil _ _); (case side2 => exact Nat.le_refl _); rintro e w44 ⟨rfl, hb⟩; refine ⟨_, rfl, ?_⟩; have n0_ := A_ (below_step (hb_ HB.out) hb); clear HB; have HB := n0_; clear n0_; (try clear hb); (try clear hb2); (try clear hk); (try clear hi)) | ((with_reducible refine gate_callee (f := 54) rfl ?_); refine goesL_ (some 61) rfl rfl Try.func54 (by kernel_rfl) rfl #[.int .i64 a0, .int .u64 (Go.bits .xor .u64 a1 t891), .int .u64 a2] rfl mp_ ?_; (with_reducible refine (product_Mul.calls kj11 a0 (Go.bits .xor .u64 a1 t891) a2 t898 _ A30.out).mono ?_); rintro e w45 ⟨rfl, hb⟩; refine ⟨_, rfl, ?_⟩; have n0_ := A_ (below_step (hb_ HB.out) hb); clear HB; have HB := n0_; clear n0_; (try clear hb); (try clear hb2); (try clear hk); (try clear hi)) | (go_at_call 78; (with_reducible refine (shape_IsNan.calls kj11 a0 a1 false _ A32.out).mono ?_); rintro e w46 ⟨rfl, hb⟩; have n0_ := A_ (below_step (hb_ HB.out) hb); clear HB; have HB := n0_; clear n0_; (try clear hb); (try clear hb2); (try clear hk); (try clear hi)) | (go_at_call 54; (with_reducible refine (product_Mul.calls kj11 a0 a1 t897 t900 _ A38.out).mono ?_); rintro e w47 ⟨rfl, hb⟩; have n0_ := A_ (below_step (hb_ HB.out) hb); clear HB; have HB := n0_; clear n0_; (try clear hb); (try clear hb2); (try clear hk); (try clear hi)) | (go_at_call 49; (with_reducible refine (shape_Cut.calls a0 a1 t901 _ A39.out).mono ?_); rintro e w' ⟨rfl, ⟨nd, rfl⟩⟩) | (go_at_call 70; (with_reducible refine (product_Scale.calls kj11 a0 a1 0 t902 _ A41.out).mono ?_); rintro e w48 ⟨rfl, hb⟩; have n0_ := A_ (below_step (hb_ HB.out) hb); clear HB; have HB := n0_; clear n0_; (try clear hb); (try clear hb2); (try clear hk); (try clear hi)) | (go_at_call 49; (with_reducible refine (shape_Cut.calls a0 a1 t903 _ A42.out).mono ?_); rintro e w' ⟨rfl, ⟨nd, rfl⟩⟩))
            go_ret
            exact ⟨er_, hb_ HB.out⟩
           ·rw [if_neg c40] at H
            have c40b0 : (t900 == t901) = false := beq_eq_false_iff_ne.mpr c40
            have c40b1 : (t900 != t901) = true := bne_iff_ne.mpr c40
            exact absurd ((Option.some.inj H).trans hr_.out) (by decide)
         ·rw [if_neg c31] at H
          have c31b0 : (t898 == (Go.bits .xor .u64 t890 t891)) = false := beq_eq_false_iff_ne.mpr c31
          have c31b1 : (t898 != (Go.bits .xor .u64 t890 t891)) = true := bne_iff_ne.mpr c31
          exact absurd ((Option.some.inj H).trans hr_.out) (by decide)
 ·replace c5 := Bool.eq_false_iff.mpr c5
  subst c5
  have H1 : (some false) = some r := by rw [if_neg (show ¬ (false = true) by decide)] at H; exact H
  clear H;have H := H1;clear H1
  exact absurd ((Option.some.inj H).trans hr_.out) (by decide)
/-- THE ONE PURE STATEMENT of trunnionlaw05_ProductKeeps: yours. -/
def trunnionlaw05_ProductKeeps.Pure : Prop := ∀ (a0 : Int) (a1 : Int) (a2 : Int), (Lit.int .i64 a0).wf = true → (Lit.int .u64 a1).wf = true → (Lit.int .u64 a2).wf = true → ∃ k, trunnionlaw05_ProductKeeps.f k a0 a1 a2 = some true
theorem trunnionlaw05_ProductKeeps.walk (P : trunnionlaw05_ProductKeeps.Pure) (a0 : Int) (a1 : Int) (a2 : Int) (w : World) (w0 : (Lit.int .i64 a0).wf = true) (w1 : (Lit.int .u64 a1).wf = true) (w2 : (Lit.int .u64 a2).wf = true) :
  Calls Try.prog 16 #[.int .i64 a0, .int .u64 a1, .int .u64 a2] w fun e w' => e = .returned (.bool true) ∧ Below w.heap.size w w' := by
 obtain ⟨k, h⟩ := P a0 a1 a2 w0 w1 w2
 refine (trunnionlaw05_ProductKeeps.calls k a0 a1 a2 true w h ⟨rfl⟩).mono ?_
 rintro e w' ⟨rfl, hd⟩
 exact ⟨rfl, hd⟩
end Go.Proofs.Ytgcgheilbngcoaa.PA
set_option linter.unusedVariables false
set_option linter.unusedSimpArgs false
namespace Go.Proofs.Ytgcgheilbngcoaa.Th
open Go.RowKit Go.Proofs.YtgcgheilbngcoaaW.PrintWords Go.Proofs.YtgcgheilbngcoaaW.PrintLast Go.Proofs.YtgcgheilbngcoaaW.PrintMore Go.Proofs.Ytgcgheilbngcoaa.PA Bit Flo
/-! ### width 32 -/
/-! ### width 64 -/
theorem opn_mk (w : Int) (hw : w = 32 ∨ w = 64) (m : Nat) (s : Bool) (h : m < sb w) : opn w (mkN w m s) = if m = 0 then (s, 0, 0, 0) else if m < (fmt w).inf then (s, 1, (fmt w).ex m, ((fmt w).sg m : Int)) else if m = (fmt w).inf then (s, 2, 0, 0) else (false, 3, 0, 0) := by
  unfold opn; simp only [sg_mk w hw m s h, mag_mk w hw m s h]
theorem cut_mk (w : Int) (hw : w = 32 ∨ w = 64) (m : Nat) (s : Bool) (h : m < sb w) : cutN w (mkN w m s) = mkN w m s := by
  rw [cutN_eq w hw _ (mkN_lt w hw m s h), sg_mk w hw m s h, mag_mk w hw m s h]; rfl
end Go.Proofs.Ytgcgheilbngcoaa.Th
set_option linter.unusedVariables false
set_option linter.unusedSimpArgs false
namespace Go.Proofs.Ytgcgheilbngcoaa.Th
open Go.RowKit Go.Proofs.YtgcgheilbngcoaaW.PrintWords Go.Proofs.YtgcgheilbngcoaaW.PrintLast Go.Proofs.YtgcgheilbngcoaaW.PrintMore Go.Proofs.Ytgcgheilbngcoaa.PA Bit Flo
theorem cut_as_mk (w : Int) (hw : w = 32 ∨ w = 64) (a : Nat) (ha : a < 18446744073709551616) : cutN w a = mkN w (magN w a) (sgB w a) := by
  rw [cutN_eq w hw a ha]; rfl
end Go.Proofs.Ytgcgheilbngcoaa.Th
set_option linter.unusedVariables false
set_option linter.unusedSimpArgs false
namespace Go.Proofs.Ytgcgheilbngcoaa.Th
open Go.RowKit Go.Proofs.YtgcgheilbngcoaaW.PrintWords Go.Proofs.YtgcgheilbngcoaaW.PrintLast Go.Proofs.YtgcgheilbngcoaaW.PrintMore Go.Proofs.Ytgcgheilbngcoaa.PA Bit Flo Dig
theorem inf_pos (w : Int) (hw : w = 32 ∨ w = 64) : 0 < (fmt w).inf := by rcases hw with rfl | rfl <;> decide
theorem kinds (w : Int) (hw : w = 32 ∨ w = 64) (a : Nat) : (magN w a = 0 ∧ opn w a = (sgB w a, 0, 0, 0)) ∨ (0 < magN w a ∧ magN w a < (fmt w).inf ∧ opn w a = (sgB w a, 1, (fmt w).ex (magN w a), ((fmt w).sg (magN w a) : Int))) ∨ (magN w a = (fmt w).inf ∧ opn w a = (sgB w a, 2, 0, 0)) ∨ ((fmt w).inf < magN w a ∧ opn w a = (false, 3, 0, 0)) := by
  have h0 := inf_pos w hw
  unfold opn; simp only
  by_cases h1 : magN w a = 0
  · left; rw [if_pos h1]; exact ⟨h1, rfl⟩
  · right; rw [if_neg h1]
    by_cases h2 : magN w a < (fmt w).inf
    · left; rw [if_pos h2]; exact ⟨by omega, h2, rfl⟩
    · right; rw [if_neg h2]
      by_cases h3 : magN w a = (fmt w).inf
      · left; rw [if_pos h3]; exact ⟨h3, rfl⟩
      · right; rw [if_neg h3]; exact ⟨by omega, rfl⟩
theorem ex_bd (w : Int) (hw : w = 32 ∨ w = 64) (m : Nat) (h : m < (fmt w).inf) : -1074 ≤ (fmt w).ex m ∧ (fmt w).ex m ≤ 971 := by
  rcases hw with rfl | rfl
  · rw [fmt32, inf32] at h; rw [fmt32, ex32]; split <;> omega
  · rw [fmt64, inf64] at h; rw [fmt64, ex64]; split <;> omega
theorem sg_64 (w : Int) (hw : w = 32 ∨ w = 64) (m : Nat) : (fmt w).sg m < 9007199254740992 := by
  have h := (fmt w).sg_lt m
  rcases hw with rfl | rfl
  · rw [fmt32] at h ⊢; rw [show (2 : Nat) ^ (f32.f + 1) = 16777216 by decide] at h; omega
  · rw [fmt64] at h ⊢; rw [show (2 : Nat) ^ (f64.f + 1) = 9007199254740992 by decide] at h; omega
end Go.Proofs.Ytgcgheilbngcoaa.Th
set_option linter.unusedVariables false
set_option linter.unusedSimpArgs false
namespace Go.Proofs.Ytgcgheilbngcoaa.Th
open Flo
/-! ### what sums, products, .. are, as numbers -/
theorem fmt_bd (w : Int) : (fmt w).f < 100 ∧ (-5000 < (fmt w).low ∧ (fmt w).low < 0) ∧ (fmt w).top < 5000 := by
  unfold fmt; split <;> decide
theorem pk_ex (w : Int) (S : Nat) (e : Int) (hS : S < 340282366920938463463374607431768211456) : pkm (fmt w) S e false = (fmt w).rnd ((S : Rat) * tw e) := by
  have h := fmt_bd w
  rw [← pkx_f, pkm_rnd _ h.1 h.2.1 h.2.2 S e false hS]
abbrev Pt := Bool × Int × Int × Int
noncomputable def pv (p : Pt) : Rat := if p.2.1 = 1 then (if p.1 then -((p.2.2.2.toNat : Rat) * tw p.2.2.1) else (p.2.2.2.toNat : Rat) * tw p.2.2.1) else 0
noncomputable def fx (w : Int) (s : Rat) (z : Bool) : Nat := if s = 0 then mkN w 0 z else if s < 0 then mkN w ((fmt w).rnd (-s)) true else mkN w ((fmt w).rnd s) false
noncomputable def mulP (w : Int) (p q : Pt) : Nat :=
  if p.2.1 = 3 ∨ q.2.1 = 3 ∨ p.2.1 = 2 ∧ q.2.1 = 0 ∨ p.2.1 = 0 ∧ q.2.1 = 2 then nanN w else if p.2.1 = 2 ∨ q.2.1 = 2 then mkN w (fmt w).inf (p.1 != q.1)
  else fx w (pv p * pv q) (p.1 != q.1)
theorem fx_pos (w : Int) {s : Rat} (h : 0 < s) (z : Bool) : fx w s z = mkN w ((fmt w).rnd s) false := by
  unfold fx; rw [if_neg (by grind), if_neg (by grind)]
theorem fx_neg (w : Int) {s : Rat} (h : 0 < s) (z : Bool) : fx w (-s) z = mkN w ((fmt w).rnd s) true := by
  unfold fx; rw [if_neg (by grind), if_pos (by grind), Rat.neg_neg]
theorem fx_zero (w : Int) (z : Bool) : fx w 0 z = mkN w 0 z := by unfold fx; rw [if_pos rfl]
theorem fx_sg (w : Int) {s : Rat} (h : 0 < s) (n z : Bool) : fx w (if n then -s else s) z = mkN w ((fmt w).rnd s) n := by
  cases n
  · exact fx_pos w h z
  · exact fx_neg w h z
/-! ### sums -/
end Go.Proofs.Ytgcgheilbngcoaa.Th
namespace Go.Proofs.Ytgcgheilbngcoaa.PA
open Go.RowKit Go.Proofs.YtgcgheilbngcoaaW.PrintWords Go.Proofs.YtgcgheilbngcoaaW.PrintLast Go.Proofs.YtgcgheilbngcoaaW.PrintMore
attribute [local go_sem] max2_int min2_int max_two min_two max_three min_three max_four min_four   -- for this text's walks alone
set_option linter.unusedVariables false
set_option linter.unusedSimpArgs false
set_option maxHeartbeats 8000000
set_option maxRecDepth 100000
def trunnionref01_Div.l0 : Nat → Int → List Int → List Int → List Int → Option (List Int × List Int)
 | 0, _, _, _, _ => none
 | k + 1, x8, x252000, x255000, x256000 => if x8 ≥ 0 then ((trunnionref01_Shl.f k x252000 x8).bind fun t258 => ((trunnionref01_Cmp.f k x256000 t258).bind fun t262 => (if t262 ≥ 0 then ((trunnionref01_Sub.f k x256000 t258).bind fun t263 => ((trunnionref01_Of.f k 1).bind fun t266 => ((trunnionref01_Shl.f k t266 x8).bind fun t269 => ((trunnionref01_Add.f k x255000 t269).bind fun t272 => (trunnionref01_Div.l0 k (wrap64 (x8 - 1)) x252000 t272 t263))))) else (trunnionref01_Div.l0 k (wrap64 (x8 - 1)) x252000 x255000 x256000)))) else (some (x255000, x256000))
def trunnionref01_Div.f (k : Nat) (l0_0 : List Int) (l1_0 : List Int) : Option (List Int × List Int) := (trunnionref01_Len.f k l0_0).bind fun t256 => ((trunnionref01_Len.f k l1_0).bind fun t257 => (trunnionref01_Div.l0 k (wrap64 (t256 - t257)) l1_0 ([] : List Int) l0_0))
theorem trunnionref01_Div.mono_l : ∀ k, (∀ y0 y1 y2 y3, LeO (trunnionref01_Div.l0 k y0 y1 y2 y3) (trunnionref01_Div.l0 (k + 1) y0 y1 y2 y3))
 | 0 => fun _ _ _ _ r h => by simp [trunnionref01_Div.l0] at h
 | k + 1 => by
  have ih0 := trunnionref01_Div.mono_l k
  ·intro y0 y1 y2 y3
   unfold trunnionref01_Div.l0
   repeat' first
   | (with_reducible exact ih0 _ _ _ _)
   | (with_reducible exact trunnionref01_Add.mono _ _ _)
   | (with_reducible exact trunnionref01_Cmp.mono _ _ _)
   | (with_reducible exact trunnionref01_Len.mono _ _)
   | (with_reducible exact trunnionref01_Of.mono _ _)
   | (with_reducible exact trunnionref01_Shl.mono _ _ _)
   | (with_reducible exact trunnionref01_Sub.mono _ _ _)
   | (with_reducible exact LeO.refl _)
   | (with_reducible exact LeO.none _)
   | (with_reducible refine LeO.ite ?_ ?_)
   | (with_reducible refine LeO.bind ?_ (fun _ => ?_))
   | exact ih0 _ _ _ _
   | exact trunnionref01_Add.mono _ _ _
   | exact trunnionref01_Cmp.mono _ _ _
   | exact trunnionref01_Len.mono _ _
   | exact trunnionref01_Of.mono _ _
   | exact trunnionref01_Shl.mono _ _ _
   | exact trunnionref01_Sub.mono _ _ _
   | exact LeO.none _
   | refine LeO.ite ?_ ?_
   | refine LeO.bind ?_ (fun _ => ?_)
theorem trunnionref01_Div.mono : ∀ a0 a1 k, LeO (trunnionref01_Div.f k a0 a1) (trunnionref01_Div.f (k + 1) a0 a1) := by
 intro a0 a1 k
 have ih0 := trunnionref01_Div.mono_l k
 unfold trunnionref01_Div.f
 repeat' first
   | (with_reducible exact ih0 _ _ _ _)
   | (with_reducible exact trunnionref01_Add.mono _ _ _)
   | (with_reducible exact trunnionref01_Cmp.mono _ _ _)
   | (with_reducible exact trunnionref01_Len.mono _ _)
   | (with_reducible exact trunnionref01_Of.mono _ _)
   | (with_reducible exact trunnionref01_Shl.mono _ _ _)
   | (with_reducible exact trunnionref01_Sub.mono _ _ _)
   | (with_reducible exact LeO.refl _)
   | (with_reducible exact LeO.none _)
   | (with_reducible refine LeO.ite ?_ ?_)
   | (with_reducible refine LeO.bind ?_ (fun _ => ?_))
   | exact ih0 _ _ _ _
   | exact trunnionref01_Add.mono _ _ _
   | exact trunnionref01_Cmp.mono _ _ _
   | exact trunnionref01_Len.mono _ _
   | exact trunnionref01_Of.mono _ _
   | exact trunnionref01_Shl.mono _ _ _
   | exact trunnionref01_Sub.mono _ _ _
   | exact LeO.none _
   | refine LeO.ite ?_ ?_
   | refine LeO.bind ?_ (fun _ => ?_)
-- IMPORT Derived.Deep.RegionHeld3
-- IMPORT Derived.Test.YtgcgheilbngcoaaNr
theorem Nr.len (k : Nat) (v : Value) (l : List Int) (r : Int) (w : World) (n : Nr.Nr w v l) (h : trunnionref01_Len.f k l = some r) : Calls Try.prog 156 #[.agg #[v]] w fun e w' => e = .returned (.int .i64 r) ∧ Below w.heap.size w w' := by
 obtain ⟨A, c, rfl, hc, hC⟩ := n
 exact trunnionref01_Len.calls k A c l r w hC hc h
theorem Nr.cmp (k : Nat) (v v1 : Value) (l l1 : List Int) (r : Int) (w : World) (n : Nr.Nr w v l) (n1 : Nr.Nr w v1 l1) (h : trunnionref01_Cmp.f k l l1 = some r) : Calls Try.prog 100 #[.agg #[v], .agg #[v1]] w fun e w' => e = .returned (.int .i64 r) ∧ Below w.heap.size w w' := by
 obtain ⟨A, c, rfl, hc, hC⟩ := n
 obtain ⟨A1, c1, rfl, hc1, hC1⟩ := n1
 exact trunnionref01_Cmp.calls k A c l A1 c1 l1 r w hC hc hC1 hc1 h
theorem Nr.outR {f : Nat} {xs : Array Value} {w : World} {r : List Int} (h : Calls Try.prog f xs w fun e w' => ∃ v0_ : Value, e = .returned (.agg #[v0_]) ∧ Kd.R (Kd.int .u64) 24 w' w.heap.size (fun _ => True) v0_ r ∧ Below w.heap.size w w') : Calls Try.prog f xs w fun e w' => ∃ A c, e = .returned (.agg #[.slice A r.length c]) ∧ Nr.Ow 24 w.heap.size w' (.slice A r.length c) r ∧ Below w.heap.size w w' := by
 refine h.mono ?_
 rintro e w' ⟨v0, rfl, hR, hb⟩
 obtain ⟨A, c, rfl, _⟩ := Nr.Nr.of_R hR
 exact ⟨A, c, rfl, Nr.Ow.of_R hR (Nat.le_refl _), hb⟩
theorem Nr.shl (k : Nat) (v : Value) (l : List Int) (a : Int) (r : List Int) (w : World) (n : Nr.Nr w v l) (h : trunnionref01_Shl.f k l a = some r) : Calls Try.prog 103 #[.agg #[v], .int .i64 a] w fun e w' => ∃ A c, e = .returned (.agg #[.slice A r.length c]) ∧ Nr.Ow 24 w.heap.size w' (.slice A r.length c) r ∧ Below w.heap.size w w' := by
 obtain ⟨A, c, rfl, hc, hC⟩ := n
 exact Nr.outR (trunnionref01_Shl.calls k A c l a r w hC hc h)
theorem Nr.sub (k : Nat) (v v1 : Value) (l l1 : List Int) (r : List Int) (w : World) (n : Nr.Nr w v l) (n1 : Nr.Nr w v1 l1) (h : trunnionref01_Sub.f k l l1 = some r) : Calls Try.prog 165 #[.agg #[v], .agg #[v1]] w fun e w' => ∃ A c, e = .returned (.agg #[.slice A r.length c]) ∧ Nr.Ow 24 w.heap.size w' (.slice A r.length c) r ∧ Below w.heap.size w w' := by
 obtain ⟨A, c, rfl, hc, hC⟩ := n
 obtain ⟨A1, c1, rfl, hc1, hC1⟩ := n1
 exact Nr.outR (trunnionref01_Sub.calls k A c l A1 c1 l1 r w hC hc hC1 hc1 h)
theorem Nr.add (k : Nat) (v v1 : Value) (l l1 : List Int) (r : List Int) (w : World) (n : Nr.Nr w v l) (n1 : Nr.Nr w v1 l1) (h : trunnionref01_Add.f k l l1 = some r) : Calls Try.prog 110 #[.agg #[v], .agg #[v1]] w fun e w' => ∃ A c, e = .returned (.agg #[.slice A r.length c]) ∧ Nr.Ow 24 w.heap.size w' (.slice A r.length c) r ∧ Below w.heap.size w w' := by
 obtain ⟨A, c, rfl, hc, hC⟩ := n
 obtain ⟨A1, c1, rfl, hc1, hC1⟩ := n1
 exact Nr.outR (trunnionref01_Add.calls k A c l A1 c1 l1 r w hC hc hC1 hc1 h)
theorem Nr.of (k : Nat) (a : Int) (r : List Int) (w : World) (h : trunnionref01_Of.f k a = some r) : Calls Try.prog 46 #[.int .u64 a] w fun e w' => ∃ A c, e = .returned (.agg #[.slice A r.length c]) ∧ Nr.Ow 24 w.heap.size w' (.slice A r.length c) r ∧ Below w.heap.size w w' :=
 Nr.outR (trunnionref01_Of.calls k a r w h)
theorem Nr.lower {e b b' : Nat} {w : World} {v : Value} {l : List Int} (h : Nr.Ow e b w v l) (hb : b' ≤ b) : Nr.Ow e b' w v l := Nr.Ow.of_R h.out hb
theorem Nr.fresh {P : Nat → Prop} {e e' base : Nat} {w0 w1 : World} {vq vr : Value} {lq lr : List Int} (hq : Nr.Ow e base w0 vq lq) (hr : Nr.Ow e' w0.heap.size w1 vr lr) (hb : base ≤ w0.heap.size) : Nr.At (fun k => (P k ∨ base ≤ k) ∧ some k ≠ vq.ownBlock) vr :=
 (Nr.At.of_R hr.out).mono fun k hk => ⟨Or.inr (Nat.le_trans hb hk.1), fun e => Nat.lt_irrefl _ (Nat.lt_of_lt_of_le (Kd.R_lt hq.out k e.symm) hk.1)⟩
theorem Nr.atlt {w : World} {v : Value} {l : List Int} (h : Nr.Nr w v l) : Nr.At (fun k => k < w.heap.size) v := by
 obtain ⟨A, c, hv, hl, h1, h2, h3⟩ := h
 intro ad n c' e hn
 rw [hv] at e
 injection e with e1 e2 e3
 subst e2
 obtain ⟨ad', e4, h4⟩ := h3 hn
 rw [e1] at e4
 injection e4 with e4
 subst e4
 obtain ⟨x, hx⟩ : ∃ x, l[0]? = some x := ⟨l[0]'hn, List.getElem?_eq_getElem hn⟩
 obtain ⟨cs, k1, k2, k3⟩ := h4 0 x hx
 have k2' : cs = [Value.int .u64 x] := k2
 have := World.block_lt_of_cell? w _ (k3 0 (.int .u64 x) (by rw [k2']; rfl))
 rwa [add_block] at this
theorem Nr.other {P : Nat → Prop} {e' : Nat} {w0 w1 : World} {vq vq' vr : Value} {lq' lr : List Int} (ha : Nr.At (fun k => P k ∧ some k ≠ vq.ownBlock) vr) (hn : Nr.Nr w0 vr lr) (hq : Nr.Ow e' w0.heap.size w1 vq' lq') : Nr.At (fun k => P k ∧ some k ≠ vq'.ownBlock) vr := fun ad n c e hn' =>
 ⟨(ha ad n c e hn').1, fun e2 => Nat.lt_irrefl _ (Nat.lt_of_lt_of_le (Nr.atlt hn ad n c e hn') (Kd.R_base hq.out _ e2.symm))⟩
theorem Nr.undrew {w w1 : World} (h : Below w.drew.heap.size w.drew w1) : Below w.heap.size w w1 := below_step (below_drew1 (Below.refl _ _)) h
theorem Nr.unalloc {w w1 : World} {o : Obj} (h : Below (w.alloc o).heap.size (w.alloc o) w1) : Below w.heap.size w w1 := below_step (below_alloc (Below.refl _ _) o) h
theorem Nr.newlt {w w1 : World} {o : Obj} (h : Below (w.alloc o).heap.size (w.alloc o) w1) : w.heap.size < w1.heap.size := by
 have := h.size
 simp at this
 omega
theorem Nr.newcell {w w1 : World} {v : Value} {ty : Nat} (h : Below (w.alloc (.cells #[v] ty)).heap.size (w.alloc (.cells #[v] ty)) w1) : w1.cell? ⟨w.heap.size, 0, none⟩ = some v := by
 rw [(Nr.bcell h).1 _ _ (by simp)]
 exact (World.cell?_alloc_new _ _ _ _).trans rfl
theorem trunnionref01_Div.calls (k : Nat) (P0_0_ : Nat → Prop) (A0_0 : Option Addr) (c0_0 : Nat) (l0_0 : List Int) (A1_0 : Option Addr) (c1_0 : Nat) (l1_0 : List Int) (r1 : List Int) (r2 : List Int) (w : World) (hs0_0 : Kd.V (Kd.int .u64) 24 w w.heap.size (fun k_ => P0_0_ k_) (.slice A0_0 l0_0.length c0_0) l0_0) (hr1_0 : Kd.C (Kd.int .u64) w A1_0 l1_0.length l1_0) (hc1_0 : l1_0.length ≤ c1_0) (h : trunnionref01_Div.f k l0_0 l1_0 = some (r1, r2)) :
  Calls Try.prog 138 #[.agg #[.slice A0_0 l0_0.length c0_0], .agg #[.slice A1_0 l1_0.length c1_0]] w fun e w' => ∃ v0_ v1_ : Value, e = .returned (.tuple #[.agg #[v0_], .agg #[v1_]]) ∧ Kd.R (Kd.int .u64) 24 w' w.heap.size (fun k_ => (w.heap.size ≤ k_)) v0_ r1 ∧ Kd.V (Kd.int .u64) 24 w' w.heap.size (fun k_ => (P0_0_ k_ ∨ w.heap.size ≤ k_) ∧ some k_ ≠ (v0_ : Value).ownBlock) v1_ r2 ∧ Below w.heap.size w w' := by
 obtain ⟨t0, A0, H⟩ := Option.bind_eq_some_iff.mp h
 obtain ⟨t1, A1, H⟩ := Option.bind_eq_some_iff.mp H
 have L0 := A_ A0;have L1 := A_ A1;have HL := A_ H;clear h A0 A1 H
 have NA := Nr.Nr.of_V hs0_0
 have AA := A_ (Nr.At.of_V hs0_0)
 have NB := Nr.Nr.of_C hc1_0 hr1_0
 clear hs0_0 hr1_0
 go_enter Try.func138, Try.ntmps138
 go_wp2
 go_region_held3 (fun w' => w'.cell? ⟨w.heap.size, 0, none⟩ = some (.slice A0_0 l0_0.length c0_0) ∧ w'.cell? ⟨w.heap.size + 1, 0, none⟩ = some (.slice A1_0 l1_0.length c1_0) ∧ w'.cell? ⟨w.heap.size + 2, 0, none⟩ = some (.slice none 0 0) ∧ w'.cell? ⟨w.heap.size + 3, 0, none⟩ = some (.slice none 0 0) ∧ w'.cell? ⟨w.heap.size + 4, 0, none⟩ = some (.slice none 0 0) ∧ w'.cell? ⟨w.heap.size + 5, 0, none⟩ = some (.slice A0_0 l0_0.length c0_0) ∧ w'.frozen? ⟨w.heap.size + 2, 0, none⟩ = false ∧ w'.frozen? ⟨w.heap.size + 3, 0, none⟩ = false ∧ w'.frozen? ⟨w.heap.size + 4, 0, none⟩ = false ∧ w'.frozen? ⟨w.heap.size + 5, 0, none⟩ = false ∧ w.heap.size + 5 < w'.heap.size ∧ Nr.Nr w' (.slice A0_0 l0_0.length c0_0) l0_0 ∧ Nr.Nr w' (.slice A1_0 l1_0.length c1_0) l1_0 ∧ Nr.Ow 24 w.heap.size w' (.slice none 0 0) [] ∧ Below w.heap.size w w')
  (((try go_split_ands); (try dsimp only); (repeat' apply And.intro) <;> first | assumption | (rw [hc _ _ (by omega)]; assumption) | (rw [hf _ _ (by omega)]; assumption) | (rw [Nr.al (by omega)]; assumption) | (rw [Nr.alf (by omega)]; assumption) | (apply Nr.lt_al; assumption) | (have := hb.size; omega) | (refine Nr.Nr.below ?_ hb; assumption) | (apply Nr.Nr.drew; (repeat apply Nr.Nr.alloc); assumption) | (apply Nr.Nr.alloc; assumption) | (apply Nr.Nr.drew; assumption) | (exact Nr.Ow.nil _ _ _) | (refine Nr.Ow.below ?_ hb; assumption) | (apply Nr.Ow.alloc; assumption) | (apply Nr.Ow.drew; assumption) | (refine below_step ?_ hb; assumption) | (simp [go_sem, World.cell?_alloc_past]; done) | (repeat (first | assumption | exact Below.refl _ _ | apply below_drew1 | apply below_alloc | (refine below_set ?_ (by omega))))))
  ((first | (go_at_call 156; (try go_split_ands); refine (Nr.len k _ l0_0 t0 _ ?_ L0.out).mono ?_; (assumption); rintro e w1 ⟨rfl, hb⟩; obtain ⟨hc, hf⟩ := Nr.bcell hb) | (go_at_call 156; (try go_split_ands); refine (Nr.len k _ l1_0 t1 _ ?_ L1.out).mono ?_; (assumption); rintro e w2 ⟨rfl, hb⟩; obtain ⟨hc, hf⟩ := Nr.bcell hb)))
 rename_i hH
 obtain ⟨q0, q1, q2, q3, q4, q5, f2, f3, f4, f5, hz, nr, nb, ow, bl⟩ := hH
 (repeat clear hc hf)
 (repeat clear hb)
 go_wp2
 iterate 30 (rename_i left_; clear left_)
 rename_i hK
 clear H
 have at0 : Nr.At (fun k_ => (P0_0_ k_ ∨ w.heap.size ≤ k_) ∧ some k_ ≠ (Value.slice none 0 0).ownBlock) (.slice A0_0 l0_0.length c0_0) := AA.out.mono fun k hk => ⟨Or.inl hk, fun e => by cases e⟩
 go_loopg [8] k (fun kq v8 w' => ∃ (x : Int) (Aq : Option Addr) (cq : Nat) (lq : List Int) (Ar : Option Addr) (cr : Nat) (lr : List Int), v8 = .int .i64 x ∧ Aside0 (trunnionref01_Div.l0 kq x l1_0 lq lr = some (r1, r2)) ∧ Aside0 (w'.cell? ⟨w.heap.size + 1, 0, none⟩ = some (.slice A1_0 l1_0.length c1_0) ∧ w'.cell? ⟨w.heap.size + 2, 0, none⟩ = some (.slice none 0 0) ∧ w'.cell? ⟨w.heap.size + 3, 0, none⟩ = some (.slice none 0 0) ∧ w'.cell? ⟨w.heap.size + 4, 0, none⟩ = some (.slice Aq lq.length cq) ∧ w'.cell? ⟨w.heap.size + 5, 0, none⟩ = some (.slice Ar lr.length cr) ∧ w'.frozen? ⟨w.heap.size + 2, 0, none⟩ = false ∧ w'.frozen? ⟨w.heap.size + 3, 0, none⟩ = false ∧ w'.frozen? ⟨w.heap.size + 4, 0, none⟩ = false ∧ w'.frozen? ⟨w.heap.size + 5, 0, none⟩ = false ∧ w.heap.size + 5 < w'.heap.size ∧ Nr.Nr w' (.slice A1_0 l1_0.length c1_0) l1_0 ∧ Nr.Nr w' (.slice Ar lr.length cr) lr ∧ Nr.Ow 24 (w.heap.size + 6) w' (.slice Aq lq.length cq) lq ∧ Nr.At (fun k_ => (P0_0_ k_ ∨ w.heap.size ≤ k_) ∧ some k_ ≠ (Value.slice Aq lq.length cq).ownBlock) (.slice Ar lr.length cr) ∧ Below w.heap.size w w'))
 case atStart => exact ⟨_, none, 0, [], A0_0, c0_0, l0_0, by rw [i64_w], HL, q1, q2, q3, q4, q5, f2, f3, f4, f5, hz, nb, nr, Nr.Ow.nil _ _ _, at0, bl⟩
 case round =>
  (repeat clear q0 q1 q2 q3 q4 q5 f2 f3 f4 f5 hz nr ow bl at0 nb)
  obtain ⟨x, Aq, cq, lq, Ar, cr, lr, rfl, E, F⟩ := hrel
  obtain ⟨q1, q2, q3, q4, q5, f2, f3, f4, f5, hz, nb, nr, ow, at0, bl⟩ := F.out
  clear F HL
  obtain _ | kr := gk
  ·cases E.out
  have E := E.out
  unfold trunnionref01_Div.l0 at E
  by_cases hx : x ≥ 0
  ·rw [if_pos hx] at E
   have c0 : decide (0 ≤ x) = true := decide_eq_true hx
   obtain ⟨t, T0, E⟩ := Option.bind_eq_some_iff.mp E
   obtain ⟨u, T1, E⟩ := Option.bind_eq_some_iff.mp E
   replace T0 := A_ T0;replace T1 := A_ T1;replace hx := A_ hx
   by_cases hu : u ≥ 0
   ·rw [if_pos hu] at E
    obtain ⟨s, S0, E⟩ := Option.bind_eq_some_iff.mp E
    obtain ⟨o1, S1, E⟩ := Option.bind_eq_some_iff.mp E
    obtain ⟨o2, S2, E⟩ := Option.bind_eq_some_iff.mp E
    obtain ⟨q', S3, E⟩ := Option.bind_eq_some_iff.mp E
    replace S0 := A_ S0;replace S1 := A_ S1;replace S2 := A_ S2;replace S3 := A_ S3;have EE := A_ E;clear E
    have cu : decide (0 ≤ u) = true := decide_eq_true hu
    clear hu
    go_wp2_with (first | (go_at_call 103; refine (Nr.shl kr _ l1_0 x t _ nb T0.out).mono ?_; rintro e w1 ⟨At, ct, rfl, ot, hb⟩; (try replace hb := Nr.undrew hb); obtain ⟨hc, hf⟩ := Nr.bcell hb; have hs := hb.size; replace q1 := (hc _ _ (by omega)).trans q1; replace q2 := (hc _ _ (by omega)).trans q2; replace q3 := (hc _ _ (by omega)).trans q3; replace q4 := (hc _ _ (by omega)).trans q4; replace q5 := (hc _ _ (by omega)).trans q5; replace f2 := (hf _ _ (by omega)).trans f2; replace f3 := (hf _ _ (by omega)).trans f3; replace f4 := (hf _ _ (by omega)).trans f4; replace f5 := (hf _ _ (by omega)).trans f5; replace nb := Nr.Nr.below nb hb; replace nr := Nr.Nr.below nr hb; replace ow := Nr.Ow.below ow hb; replace bl := below_step bl hb; replace hz := Nat.lt_of_lt_of_le hz hs; clear hc hf hs hb) | (go_at_call 100; refine (Nr.cmp kr _ _ lr t u _ (Nr.Nr.alloc nr _) (Nr.Nr.alloc ot.nr _) T1.out).mono ?_; rintro e w2 ⟨rfl, hb⟩; have tq := Nr.newcell hb; have ht := Nr.newlt hb; replace hb := Nr.unalloc hb; (try replace hb := Nr.undrew hb); obtain ⟨hc, hf⟩ := Nr.bcell hb; have hs := hb.size; replace q1 := (hc _ _ (by omega)).trans q1; replace q2 := (hc _ _ (by omega)).trans q2; replace q3 := (hc _ _ (by omega)).trans q3; replace q4 := (hc _ _ (by omega)).trans q4; replace q5 := (hc _ _ (by omega)).trans q5; replace f2 := (hf _ _ (by omega)).trans f2; replace f3 := (hf _ _ (by omega)).trans f3; replace f4 := (hf _ _ (by omega)).trans f4; replace f5 := (hf _ _ (by omega)).trans f5; replace nb := Nr.Nr.below nb hb; replace nr := Nr.Nr.below nr hb; replace ow := Nr.Ow.below ow hb; replace ot := Nr.Ow.below ot hb; replace bl := below_step bl hb; replace hz := Nat.lt_of_lt_of_le hz hs; clear hc hf hs hb) | (go_at_call 165; refine (Nr.sub kr _ _ lr t s _ nr ot.nr S0.out).mono ?_; rintro e w3 ⟨As, cs, rfl, os, hb⟩; have at1 := Nr.fresh (P := P0_0_) (Nr.lower ow (b' := w.heap.size) (by omega)) os (by omega); replace os := Nr.lower os (b' := w.heap.size + 6) (by omega); (try replace hb := Nr.undrew hb); obtain ⟨hc, hf⟩ := Nr.bcell hb; have hs := hb.size; replace q1 := (hc _ _ (by omega)).trans q1; replace q2 := (hc _ _ (by omega)).trans q2; replace q3 := (hc _ _ (by omega)).trans q3; replace q4 := (hc _ _ (by omega)).trans q4; replace q5 := (hc _ _ (by omega)).trans q5; replace f2 := (hf _ _ (by omega)).trans f2; replace f3 := (hf _ _ (by omega)).trans f3; replace f4 := (hf _ _ (by omega)).trans f4; replace f5 := (hf _ _ (by omega)).trans f5; replace nb := Nr.Nr.below nb hb; replace nr := Nr.Nr.below nr hb; replace ow := Nr.Ow.below ow hb; replace ot := Nr.Ow.below ot hb; replace bl := below_step bl hb; replace hz := Nat.lt_of_lt_of_le hz hs; clear hc hf hs hb))
    generalize hW : World.setCell _ _ _ = w4
    have hz4 : w4.heap.size = w3.heap.size := by rw [← hW]; simp
    have hc : ∀ b, b ≠ w.heap.size + 5 → w4.cell? ⟨b, 0, none⟩ = w3.cell? ⟨b, 0, none⟩ := fun b hb => by rw [← hW]; exact World.cell?_setCell_far _ _ _ _ (fun e => hb e.symm)
    have hf : ∀ b, w4.frozen? ⟨b, 0, none⟩ = w3.frozen? ⟨b, 0, none⟩ := fun b => by rw [← hW]; exact World.frozen?_setCell _ _ _ _
    have hi : Nr.IsRow (w3.cell? ⟨w.heap.size + 5, 0, none⟩) := by rw [q5]; exact Nr.IsRow.slice _ _ _
    replace q5 : w4.cell? ⟨w.heap.size + 5, 0, none⟩ = some (.slice As s.length cs) := by rw [← hW]; exact World.cell?_setCell_same _ _ _ q5
    replace q1 := (hc _ (by omega)).trans q1
    replace q2 := (hc _ (by omega)).trans q2
    replace q3 := (hc _ (by omega)).trans q3
    replace q4 := (hc _ (by omega)).trans q4
    replace f2 := (hf _).trans f2
    replace f3 := (hf _).trans f3
    replace f4 := (hf _).trans f4
    replace f5 := (hf _).trans f5
    replace nb : Nr.Nr w4 (.slice A1_0 l1_0.length c1_0) l1_0 := by rw [← hW]; exact Nr.Nr.set nb _ hi
    replace ow : Nr.Ow 24 (w.heap.size + 6) w4 (.slice Aq lq.length cq) lq := by rw [← hW]; exact Nr.Ow.set ow _ (fun e => by have h6 : _ ≤ w.heap.size + 5 := Kd.R_base ow.out _ e; omega)
    replace os : Nr.Ow 24 (w.heap.size + 6) w4 (.slice As s.length cs) s := by rw [← hW]; exact Nr.Ow.set os _ (fun e => by have h6 : _ ≤ w.heap.size + 5 := Kd.R_base os.out _ e; omega)
    replace bl : Below w.heap.size w w4 := by rw [← hW]; exact below_set bl (by omega)
    replace hz : w.heap.size + 5 < w4.heap.size := by omega
    clear hW hc hf hi hz4
    replace nr := os.nr
    clear os
    go_region_with (first | (go_at_call 46; refine (Nr.of kr 1 o1 _ S1.out).mono ?_; rintro e w5 ⟨Ao, co, rfl, oo, hb⟩; (try replace hb := Nr.undrew hb); obtain ⟨hc, hf⟩ := Nr.bcell hb; have hs := hb.size; replace q1 := (hc _ _ (by omega)).trans q1; replace q2 := (hc _ _ (by omega)).trans q2; replace q3 := (hc _ _ (by omega)).trans q3; replace q4 := (hc _ _ (by omega)).trans q4; replace q5 := (hc _ _ (by omega)).trans q5; replace f2 := (hf _ _ (by omega)).trans f2; replace f3 := (hf _ _ (by omega)).trans f3; replace f4 := (hf _ _ (by omega)).trans f4; replace f5 := (hf _ _ (by omega)).trans f5; replace nb := Nr.Nr.below nb hb; replace nr := Nr.Nr.below nr hb; replace ow := Nr.Ow.below ow hb; replace bl := below_step bl hb; replace hz := Nat.lt_of_lt_of_le hz hs; clear hc hf hs hb) | (go_at_call 103; refine (Nr.shl kr _ o1 x o2 _ oo.nr S2.out).mono ?_; rintro e w6 ⟨Ap, cp, rfl, op, hb⟩; (try replace hb := Nr.undrew hb); obtain ⟨hc, hf⟩ := Nr.bcell hb; have hs := hb.size; replace q1 := (hc _ _ (by omega)).trans q1; replace q2 := (hc _ _ (by omega)).trans q2; replace q3 := (hc _ _ (by omega)).trans q3; replace q4 := (hc _ _ (by omega)).trans q4; replace q5 := (hc _ _ (by omega)).trans q5; replace f2 := (hf _ _ (by omega)).trans f2; replace f3 := (hf _ _ (by omega)).trans f3; replace f4 := (hf _ _ (by omega)).trans f4; replace f5 := (hf _ _ (by omega)).trans f5; replace nb := Nr.Nr.below nb hb; replace nr := Nr.Nr.below nr hb; replace ow := Nr.Ow.below ow hb; replace oo := Nr.Ow.below oo hb; replace bl := below_step bl hb; replace hz := Nat.lt_of_lt_of_le hz hs; clear hc hf hs hb) | (go_at_call 110; refine (Nr.add kr _ _ lq o2 q' _ ow.nr op.nr S3.out).mono ?_; rintro e w7 ⟨Az, cz, rfl, oz, hb⟩; have at2 := Nr.other at1 nr oz; have oz := Nr.lower oz (b' := w.heap.size + 6) (by omega); (try replace hb := Nr.undrew hb); obtain ⟨hc, hf⟩ := Nr.bcell hb; have hs := hb.size; replace q1 := (hc _ _ (by omega)).trans q1; replace q2 := (hc _ _ (by omega)).trans q2; replace q3 := (hc _ _ (by omega)).trans q3; replace q4 := (hc _ _ (by omega)).trans q4; replace q5 := (hc _ _ (by omega)).trans q5; replace f2 := (hf _ _ (by omega)).trans f2; replace f3 := (hf _ _ (by omega)).trans f3; replace f4 := (hf _ _ (by omega)).trans f4; replace f5 := (hf _ _ (by omega)).trans f5; replace nb := Nr.Nr.below nb hb; replace nr := Nr.Nr.below nr hb; replace ow := Nr.Ow.below ow hb; replace bl := below_step bl hb; replace hz := Nat.lt_of_lt_of_le hz hs; clear hc hf hs hb))
    all_goals (
     generalize hW : World.setCell _ _ _ = w8
     have hz4 : w8.heap.size = w7.heap.size := by rw [← hW]; simp
     have hc : ∀ b, b ≠ w.heap.size + 4 → w8.cell? ⟨b, 0, none⟩ = w7.cell? ⟨b, 0, none⟩ := fun b hb => by rw [← hW]; exact World.cell?_setCell_far _ _ _ _ (fun e => hb e.symm)
     have hf : ∀ b, w8.frozen? ⟨b, 0, none⟩ = w7.frozen? ⟨b, 0, none⟩ := fun b => by rw [← hW]; exact World.frozen?_setCell _ _ _ _
     have hi : Nr.IsRow (w7.cell? ⟨w.heap.size + 4, 0, none⟩) := by rw [q4]; exact Nr.IsRow.slice _ _ _
     replace q4 : w8.cell? ⟨w.heap.size + 4, 0, none⟩ = some (.slice Az q'.length cz) := by rw [← hW]; exact World.cell?_setCell_same _ _ _ q4
     replace q1 := (hc _ (by omega)).trans q1
     replace q2 := (hc _ (by omega)).trans q2
     replace q3 := (hc _ (by omega)).trans q3
     replace q5 := (hc _ (by omega)).trans q5
     replace f2 := (hf _).trans f2
     replace f3 := (hf _).trans f3
     replace f4 := (hf _).trans f4
     replace f5 := (hf _).trans f5
     replace nb : Nr.Nr w8 (.slice A1_0 l1_0.length c1_0) l1_0 := by rw [← hW]; exact Nr.Nr.set nb _ hi
     replace nr : Nr.Nr w8 (.slice As s.length cs) s := by rw [← hW]; exact Nr.Nr.set nr _ hi
     replace oz : Nr.Ow 24 (w.heap.size + 6) w8 (.slice Az q'.length cz) q' := by rw [← hW]; exact Nr.Ow.set oz _ (fun e => by have h6 : _ ≤ w.heap.size + 4 := Kd.R_base oz.out _ e; omega)
     replace bl : Below w.heap.size w w8 := by rw [← hW]; exact below_set bl (by omega)
     replace hz : w.heap.size + 5 < w8.heap.size := by omega
     clear hW hc hf hi hz4
     go_wp2
     go_roundg kr
     case measure => omega
     case rel => exact ⟨_, Az, cz, q', As, cs, s, rfl, EE, ⟨q1, q2, q3, q4, q5, f2, f3, f4, f5, hz, nb, nr, oz, at2, bl⟩⟩)
   ·rw [if_neg hu] at E
    have EE := A_ E;clear E
    have cu : decide (0 ≤ u) = false := decide_eq_false hu
    clear hu
    go_wp2_with (first | (go_at_call 103; refine (Nr.shl kr _ l1_0 x t _ nb T0.out).mono ?_; rintro e w1 ⟨At, ct, rfl, ot, hb⟩; (try replace hb := Nr.undrew hb); obtain ⟨hc, hf⟩ := Nr.bcell hb; have hs := hb.size; replace q1 := (hc _ _ (by omega)).trans q1; replace q2 := (hc _ _ (by omega)).trans q2; replace q3 := (hc _ _ (by omega)).trans q3; replace q4 := (hc _ _ (by omega)).trans q4; replace q5 := (hc _ _ (by omega)).trans q5; replace f2 := (hf _ _ (by omega)).trans f2; replace f3 := (hf _ _ (by omega)).trans f3; replace f4 := (hf _ _ (by omega)).trans f4; replace f5 := (hf _ _ (by omega)).trans f5; replace nb := Nr.Nr.below nb hb; replace nr := Nr.Nr.below nr hb; replace ow := Nr.Ow.below ow hb; replace bl := below_step bl hb; replace hz := Nat.lt_of_lt_of_le hz hs; clear hc hf hs hb) | (go_at_call 100; refine (Nr.cmp kr _ _ lr t u _ (Nr.Nr.alloc nr _) (Nr.Nr.alloc ot.nr _) T1.out).mono ?_; rintro e w2 ⟨rfl, hb⟩; have tq := Nr.newcell hb; have ht := Nr.newlt hb; replace hb := Nr.unalloc hb; (try replace hb := Nr.undrew hb); obtain ⟨hc, hf⟩ := Nr.bcell hb; have hs := hb.size; replace q1 := (hc _ _ (by omega)).trans q1; replace q2 := (hc _ _ (by omega)).trans q2; replace q3 := (hc _ _ (by omega)).trans q3; replace q4 := (hc _ _ (by omega)).trans q4; replace q5 := (hc _ _ (by omega)).trans q5; replace f2 := (hf _ _ (by omega)).trans f2; replace f3 := (hf _ _ (by omega)).trans f3; replace f4 := (hf _ _ (by omega)).trans f4; replace f5 := (hf _ _ (by omega)).trans f5; replace nb := Nr.Nr.below nb hb; replace nr := Nr.Nr.below nr hb; replace ow := Nr.Ow.below ow hb; replace ot := Nr.Ow.below ot hb; replace bl := below_step bl hb; replace hz := Nat.lt_of_lt_of_le hz hs; clear hc hf hs hb))
    go_roundg kr
    case measure => omega
    case rel => exact ⟨_, Aq, cq, lq, Ar, cr, lr, rfl, EE, ⟨q1, q2, q3, q4, q5, f2, f3, f4, f5, hz, nb, nr, ow, at0, bl⟩⟩
  ·rw [if_neg hx] at E
   have c0 : decide (0 ≤ x) = false := decide_eq_false hx
   injection E with E
   injection E with E1 E2
   subst E1
   subst E2
   clear hx E
   go_wp2
   go_region
   go_wp2
   have i2 : Nr.IsRow (wr.cell? ⟨w.heap.size + 2, 0, none⟩) := by rw [q2]; exact Nr.IsRow.slice _ _ _
   have e2 := World.cell?_setCell_same _ _ (.slice Aq lq.length cq) q2
   have e3 : (wr.setCell ⟨w.heap.size + 2, 0, none⟩ (.slice Aq lq.length cq)).cell? ⟨w.heap.size + 3, 0, none⟩ = some (.slice none 0 0) := (World.cell?_setCell_far _ _ _ _ (by simp)).trans q3
   have i3 : Nr.IsRow ((wr.setCell ⟨w.heap.size + 2, 0, none⟩ (.slice Aq lq.length cq)).cell? ⟨w.heap.size + 3, 0, none⟩) := by rw [e3]; exact Nr.IsRow.slice _ _ _
   have e4 := World.cell?_setCell_same _ _ (.slice Ar lr.length cr) e3
   have e5 : ((wr.setCell ⟨w.heap.size + 2, 0, none⟩ (.slice Aq lq.length cq)).setCell ⟨w.heap.size + 3, 0, none⟩ (.slice Ar lr.length cr)).cell? ⟨w.heap.size + 2, 0, none⟩ = some (.slice Aq lq.length cq) := (World.cell?_setCell_far _ _ _ _ (by simp)).trans e2
   have ow' := Nr.Ow.drew (Nr.Ow.set (Nr.Ow.set ow (p := ⟨w.heap.size + 2, 0, none⟩) (.slice Aq lq.length cq) (fun e => by have h6 : _ ≤ w.heap.size + 2 := Kd.R_base ow.out _ e; omega)) (p := ⟨w.heap.size + 3, 0, none⟩) (.slice Ar lr.length cr) (fun e => by have h6 : _ ≤ w.heap.size + 3 := Kd.R_base ow.out _ e; omega))
   have nr' := Nr.Nr.drew (Nr.Nr.set (Nr.Nr.set nr (.slice Aq lq.length cq) i2) (.slice Ar lr.length cr) i3)
   exact bodyPost_ret (v := .tuple #[.agg #[.slice Aq lq.length cq], .agg #[.slice Ar lr.length cr]]) (by simp [results, Try.results138, go_sem, e4, e5]) rfl ⟨_, _, rfl, (Nr.lower ow' (by omega)).out, Nr.Nr.toV nr' at0, below_drew1 (below_set (below_set bl (by omega)) (by omega))⟩
end Go.Proofs.Ytgcgheilbngcoaa.PA
set_option linter.unusedVariables false
set_option linter.unusedSimpArgs false
namespace Go.Proofs.Ytgcgheilbngcoaa.Th
open Go.RowKit Go.Proofs.YtgcgheilbngcoaaW.PrintWords Go.Proofs.YtgcgheilbngcoaaW.PrintLast Go.Proofs.YtgcgheilbngcoaaW.PrintMore Go.Proofs.Ytgcgheilbngcoaa.PA Bit Flo
/-! ### what round answers -/
theorem packE (w : Int) (hw : w = 32 ∨ w = 64) (s : Bool) (h l : Nat) (hh : h < 18446744073709551616) (hl : l < 18446744073709551616) (e : Int) (m : Bool) : round_Pack.f w s h l e m = some ((mkN w (pkm (fmt w) (wn h l) e m) s : Nat) : Int) := by
  unfold round_Pack.f
  rw [if_pos (by omega), if_pos hw, Int.toNat_natCast, Int.toNat_natCast]
theorem packV (w : Int) (hw : w = 32 ∨ w = 64) (s : Bool) (V : Nat) (hV : V < 340282366920938463463374607431768211456) (e : Int) (m : Bool) : round_Pack.f w s ((V / 18446744073709551616 : Nat) : Int) ((V % 18446744073709551616 : Nat) : Int) e m = some ((mkN w (pkm (fmt w) V e m) s : Nat) : Int) := by
  rw [packE w hw s _ _ (hi64 hV) (lo64 V), wn_div]
theorem pack1 (w : Int) (hw : w = 32 ∨ w = 64) (s : Bool) (n : Nat) (hn : n < 18446744073709551616) (e : Int) : round_Pack.f w s 0 n e false = some ((mkN w ((fmt w).rnd ((n : Rat) * tw e)) s : Nat) : Int) := by
  have := packE w hw s 0 n (by decide) hn e false
  rw [show wn 0 n = n by unfold wn; omega, pk_ex w n e (by omega)] at this
  exact this
theorem wholeE (w : Int) (hw : w = 32 ∨ w = 64) (s : Bool) (n : Nat) (hn : n < 18446744073709551616) : round_Whole.f w s n = some ((mkN w ((fmt w).rnd (n : Rat)) (s && decide (0 < n)) : Nat) : Int) := by
  unfold round_Whole.f
  have h := fun t => pack1 w hw t n hn 0
  rw [tw_zero, Rat.mul_one] at h
  rw [ofW n]
  cases s
  · rw [if_neg (by decide), Option.bind_some]
    show (round_Pack.f w false 0 (n : Int) 0 false).bind _ = _
    rw [h false, Option.bind_some]
    simp
  · rw [if_pos rfl, Option.bind_some]
    show (round_Pack.f w (decide ((n : Int) > 0)) 0 (n : Int) 0 false).bind _ = _
    rw [h, Option.bind_some]
    simp
theorem shN (w : Int) (hw : w = 32 ∨ w = 64) : shape_Nan.f w = some ((nanN w : Nat) : Int) := by rcases hw with rfl | rfl; exact shNan32; exact shNan64
/-- a float of the other width -/
noncomputable def narP (w : Int) (p : Pt) : Nat := if p.2.1 = 3 then nanN w else if p.2.1 = 2 then mkN w (fmt w).inf p.1 else fx w (pv p) p.1
theorem pv0 {p : Pt} (h : p.2.1 ≠ 1) : pv p = 0 := by unfold pv; rw [if_neg h]
theorem pv1 (s : Bool) (e : Int) (g : Nat) : pv (s, 1, e, (g : Int)) = if s then -((g : Rat) * tw e) else (g : Rat) * tw e := by
  unfold pv; rw [if_pos rfl]; simp
theorem pos_tw {g : Nat} (h : 0 < g) (e : Int) : 0 < (g : Rat) * tw e := Rat.mul_pos (by exact_mod_cast h) (tw_pos e)
/-- parts: of a kind, with bits where they are finite -/
def PtOk (p : Pt) : Prop := (p.2.1 = 0 ∨ p.2.1 = 1 ∨ p.2.1 = 2 ∨ p.2.1 = 3) ∧ (p.2.1 = 1 → 0 < p.2.2.2) ∧ (p.2.1 ≠ 1 → p.2.2.2 = 0 ∧ p.2.2.1 = 0) ∧ 0 ≤ p.2.2.2 ∧ p.2.2.2 < 9007199254740992 ∧ -1100 ≤ p.2.2.1 ∧ p.2.2.1 ≤ 1000
theorem opn_ok (w : Int) (hw : w = 32 ∨ w = 64) (a : Nat) : PtOk (opn w a) := by
  rcases kinds w hw a with ⟨_, h⟩ | ⟨h1, h2, h⟩ | ⟨_, h⟩ | ⟨_, h⟩ <;> rw [h]
  · exact ⟨.inl rfl, fun h => absurd h (by simp), fun _ => ⟨rfl, rfl⟩, by simp, by simp, by simp, by simp⟩
  · have h3 := ex_bd w hw _ h2
    have h4 := sg_64 w hw (magN w a)
    refine ⟨.inr (.inl rfl), fun _ => ?_, fun h => absurd rfl h, by simp, by simp; omega, by simp; omega, by simp; omega⟩
    have : 0 < (fmt w).val (magN w a) := (fmt w).val_pos.2 h1
    unfold Fmt.val at this
    rcases Nat.eq_zero_or_pos ((fmt w).sg (magN w a)) with h5 | h5
    · rw [h5] at this; simp at this
    · simp; omega
  · exact ⟨.inr (.inr (.inl rfl)), fun h => absurd h (by simp), fun _ => ⟨rfl, rfl⟩, by simp, by simp, by simp, by simp⟩
  · exact ⟨.inr (.inr (.inr rfl)), fun h => absurd h (by simp), fun _ => ⟨rfl, rfl⟩, by simp, by simp, by simp, by simp⟩
end Go.Proofs.Ytgcgheilbngcoaa.Th
set_option linter.unusedVariables false
set_option linter.unusedSimpArgs false
namespace Go.Proofs.Ytgcgheilbngcoaa.Th
open Go.RowKit Go.Proofs.YtgcgheilbngcoaaW.PrintWords Go.Proofs.YtgcgheilbngcoaaW.PrintLast Go.Proofs.YtgcgheilbngcoaaW.PrintMore Go.Proofs.Ytgcgheilbngcoaa.PA Bit Dig Flo
/-! ### another width -/
/-- what parts are rounded to, whatever they are -/
noncomputable def narG (w : Int) (s : Bool) (kd e : Int) (g : Nat) : Nat := if kd = 0 then mkN w 0 s else if kd = 1 then mkN w ((fmt w).rnd ((g : Rat) * tw e)) s else if kd = 2 then mkN w (fmt w).inf s else if kd = 3 then nanN w else 0
theorem narrowG (w : Int) (hw : w = 32 ∨ w = 64) (s : Bool) (kd e : Int) (g : Nat) (hg : g < 18446744073709551616) : round_Narrow.f w s kd e g = some ((narG w s kd e g : Nat) : Int) := by
  unfold round_Narrow.f narG
  by_cases h0 : kd = 0
  · rw [if_pos h0, if_pos h0, shZ w hw, Option.bind_some]
  · rw [if_neg h0, if_neg h0]
    by_cases h1 : kd = 1
    · rw [if_pos h1, if_pos h1, ofW g, Option.bind_some]
      show (round_Pack.f w s 0 (g : Int) e false).bind _ = _
      rw [pack1 w hw s g hg e, Option.bind_some]
    · rw [if_neg h1, if_neg h1]
      by_cases h2 : kd = 2
      · rw [if_pos h2, if_pos h2, shI w hw, Option.bind_some]
      · rw [if_neg h2, if_neg h2]
        by_cases h3 : kd = 3
        · rw [if_pos h3, if_pos h3, shN w hw, Option.bind_some]
        · rw [if_neg h3, if_neg h3]; rfl
end Go.Proofs.Ytgcgheilbngcoaa.Th
set_option linter.unusedVariables false
set_option linter.unusedSimpArgs false
namespace Go.Proofs.Ytgcgheilbngcoaa.Th
open Go.RowKit Go.Proofs.YtgcgheilbngcoaaW.PrintWords Go.Proofs.YtgcgheilbngcoaaW.PrintLast Go.Proofs.YtgcgheilbngcoaaW.PrintMore Go.Proofs.Ytgcgheilbngcoaa.PA Bit Dig Flo
/-! ### products -/
theorem mul_pv (s t : Bool) (e e2 : Int) (g g2 : Nat) : pv (s, 1, e, (g : Int)) * pv (t, 1, e2, (g2 : Int)) = if (s != t) then -(((g * g2 : Nat) : Rat) * tw (e + e2)) else ((g * g2 : Nat) : Rat) * tw (e + e2) := by
  rw [pv1, pv1, tw_add]
  push_cast
  generalize tw e = x
  generalize tw e2 = y
  cases s <;> cases t <;> simp <;> grind
theorem mul_fx (w : Int) (s t : Bool) (e e2 : Int) {g g2 : Nat} (h : 0 < g) (h2 : 0 < g2) (z : Bool) : fx w (pv (s, 1, e, (g : Int)) * pv (t, 1, e2, (g2 : Int))) z = mkN w ((fmt w).rnd (((g * g2 : Nat) : Rat) * tw (e + e2))) (s != t) := by
  rw [mul_pv]
  exact fx_sg w (pos_tw (Nat.mul_pos h h2) _) _ z
set_option maxRecDepth 20000 in
theorem mulProg (w : Int) (hw : w = 32 ∨ w = 64) (p q : Pt) (hp : PtOk p) (hq : PtOk q) : Ev (fun k => product_parts.f k w p.1 p.2.1 p.2.2.1 p.2.2.2 q.1 q.2.1 q.2.2.1 q.2.2.2) ((mulP w p q : Nat) : Int) := by
  obtain ⟨s, kd, e, g⟩ := p
  obtain ⟨t, kd2, e2, g2⟩ := q
  obtain ⟨h1, h2, h0, h3, h4, h5, h6⟩ := hp
  obtain ⟨k1, k2, k0, k3, k4, k5, k6⟩ := hq
  simp only at h1 h2 h0 h3 h4 h5 h6 k1 k2 k0 k3 k4 k5 k6
  obtain ⟨g, rfl⟩ := Int.eq_ofNat_of_zero_le h3
  obtain ⟨g2, rfl⟩ := Int.eq_ofNat_of_zero_le k3
  simp only
  generalize hR : mulP w (s, kd, e, (g : Int)) (t, kd2, e2, (g2 : Int)) = R
  unfold product_parts.f
  have fin : 0 < g → 0 < g2 → Ev (fun k => (wide_Mul.f (g : Int) (g2 : Int)).bind fun bt => (round_Pack.f w (s != t) bt.1 bt.2 (wrap64 (e + e2)) false).bind fun t => some t) ((mkN w ((fmt w).rnd (((g * g2 : Nat) : Rat) * tw (e + e2))) (s != t) : Nat) : Int) := by
    intro _ _
    have hlt : g * g2 < 340282366920938463463374607431768211456 := by
      have := Nat.mul_lt_mul'' (show g < 9007199254740992 by omega) (show g2 < 9007199254740992 by omega)
      omega
    refine Ev.bs (mulW g g2 (by omega) (by omega)) ?_
    rw [w64_id (n := e + e2) (by omega) (by omega)]
    refine Ev.bs (packV w hw (s != t) (g * g2) hlt (e + e2) false) (Ev.out ?_)
    rw [pk_ex w _ _ hlt]
  rcases h1 with rfl | rfl | rfl | rfl <;> rcases k1 with rfl | rfl | rfl | rfl
  all_goals
    simp [mulP, pv0, fx_zero] at hR
    subst hR
    repeat (first
      | (with_reducible refine Ev.pos (by decide) ?_)
      | (with_reducible refine Ev.neg (by decide) ?_)
      | (with_reducible refine Ev.step (fun _ => product_parts.j0.eq_2 ..) ?_)
      | (with_reducible refine Ev.step (fun _ => product_parts.j1.eq_2 ..) ?_)
      | (with_reducible refine Ev.step (fun _ => product_parts.j2.eq_2 ..) ?_))
  all_goals first
    | (rw [mul_fx w s t e e2 (by have := h2 rfl; omega) (by have := k2 rfl; omega)]
       exact fin (by have := h2 rfl; omega) (by have := k2 rfl; omega))
    | (exact Ev.bs (shN w hw) (Ev.out rfl))
    | (exact Ev.bs (shI w hw _) (Ev.out rfl))
    | (exact Ev.bs (shZ w hw _) (Ev.out rfl))
theorem prodE (w : Int) (hw : w = 32 ∨ w = 64) (a b : Nat) (ha : a < 18446744073709551616) (hb : b < 18446744073709551616) : Ev (fun k => product_Mul.f k w a b) ((mulP w (opn w a) (opn w b) : Nat) : Int) := by
  unfold product_Mul.f
  refine Ev.bs (show product_known.f w = some true by rcases hw with rfl | rfl <;> rfl) (Ev.pos rfl (Ev.bind (openS w hw a ha) (Ev.bind (openS w hw b hb) ?_)))
  exact Ev.bind (mulProg w hw _ _ (opn_ok w hw a) (opn_ok w hw b)) (Ev.out rfl)
theorem awake05 : Ev (fun k => trunnionlaw05_awake.f k) true := Ev.of (fun k => trunnionlaw05_awake.mono k) (k := 12) (by decide +kernel)
end Go.Proofs.Ytgcgheilbngcoaa.Th
set_option linter.unusedVariables false
set_option linter.unusedSimpArgs false
namespace Go.Proofs.Ytgcgheilbngcoaa.Th
open Go.RowKit Go.Proofs.YtgcgheilbngcoaaW.PrintWords Go.Proofs.YtgcgheilbngcoaaW.PrintLast Go.Proofs.YtgcgheilbngcoaaW.PrintMore Go.Proofs.Ytgcgheilbngcoaa.PA Bit Dig Flo
/-! ### what an operation answers: a float of that width, and one Nan alone -/
def Can (w : Int) (r : Nat) : Prop := r = nanN w ∨ ∃ m s, m ≤ (fmt w).inf ∧ r = mkN w m s
theorem inf_sb (w : Int) (hw : w = 32 ∨ w = 64) : (fmt w).inf < sb w ∧ nanN w < sb w ∧ (fmt w).inf < nanN w ∧ nanN w = mkN w (nanN w) false := by
  rcases hw with rfl | rfl
  · rw [fmt32, inf32]; exact ⟨by decide, by decide, by decide, by decide⟩
  · rw [fmt64, inf64]; exact ⟨by decide, by decide, by decide, by decide⟩
theorem can_fx (w : Int) (s : Rat) (z : Bool) : Can w (fx w s z) := by
  unfold fx
  split
  · exact .inr ⟨_, _, Nat.zero_le _, rfl⟩
  · split <;> exact .inr ⟨_, _, (fmt w).rnd_le _, rfl⟩
theorem can_mul (w : Int) (p q : Pt) : Can w (mulP w p q) := by
  unfold mulP
  split
  · exact .inl rfl
  · split
    · exact .inr ⟨_, _, Nat.le_refl _, rfl⟩
    · exact can_fx ..
theorem can_cut {w : Int} (hw : w = 32 ∨ w = 64) {r : Nat} (h : Can w r) : cutN w r = r ∧ r < 18446744073709551616 := by
  have hs := inf_sb w hw
  have h2 : 2 * sb w ≤ 18446744073709551616 := by unfold sb; split <;> decide
  rcases h with rfl | ⟨m, s, hm, rfl⟩
  · rw [hs.2.2.2, cut_mk w hw _ _ hs.2.1, ← hs.2.2.2]; exact ⟨rfl, by omega⟩
  · rw [cut_mk w hw _ _ (by omega)]
    refine ⟨rfl, ?_⟩
    unfold mkN; split <;> omega
theorem can_nan {w : Int} (hw : w = 32 ∨ w = 64) {r : Nat} (h : Can w r) : ((opn w r).2.1 == 3) = decide (r = nanN w) := by
  have hs := inf_sb w hw
  rcases h with rfl | ⟨m, s, hm, rfl⟩
  · rw [hs.2.2.2, opn_mk w hw _ _ hs.2.1, if_neg (by omega), if_neg (by omega), if_neg (by omega)]
    rw [← hs.2.2.2]; simp
  · rw [opn_mk w hw _ _ (by omega)]
    have hne : mkN w m s ≠ nanN w := by unfold mkN; split <;> omega
    rw [decide_eq_false hne]
    by_cases h0 : m = 0
    · rw [if_pos h0]; rfl
    · rw [if_neg h0]
      by_cases h1 : m < (fmt w).inf
      · rw [if_pos h1]; rfl
      · rw [if_neg h1, if_pos (by omega)]; rfl
theorem mul_comm' (w : Int) (p q : Pt) : mulP w p q = mulP w q p := by
  have e : (p.1 != q.1) = (q.1 != p.1) := by cases p.1 <;> cases q.1 <;> rfl
  unfold mulP
  rw [Rat.mul_comm, e]
  by_cases h : p.2.1 = 3 ∨ q.2.1 = 3 ∨ p.2.1 = 2 ∧ q.2.1 = 0 ∨ p.2.1 = 0 ∧ q.2.1 = 2
  · have h' : q.2.1 = 3 ∨ p.2.1 = 3 ∨ q.2.1 = 2 ∧ p.2.1 = 0 ∨ q.2.1 = 0 ∧ p.2.1 = 2 := by omega
    rw [if_pos h, if_pos h']
  · have h' : ¬ (q.2.1 = 3 ∨ p.2.1 = 3 ∨ q.2.1 = 2 ∧ p.2.1 = 0 ∨ q.2.1 = 0 ∧ p.2.1 = 2) := by omega
    rw [if_neg h, if_neg h']
    by_cases g : p.2.1 = 2 ∨ q.2.1 = 2
    · have g' : q.2.1 = 2 ∨ p.2.1 = 2 := by omega
      rw [if_pos g, if_pos g']
    · have g' : ¬ (q.2.1 = 2 ∨ p.2.1 = 2) := by omega
      rw [if_neg g, if_neg g']
/-- the sign turned -/
def tn (r : Nat) (w : Int) : Nat := r ^^^ sb w
theorem sb_pow (w : Int) : ∃ k, sb w = 2 ^ k ∧ k < 64 := by unfold sb; split; exact ⟨31, by decide, by decide⟩; exact ⟨63, by decide, by decide⟩
theorem tn_lt {w : Int} {r : Nat} (h : r < 18446744073709551616) : tn r w < 18446744073709551616 := by
  unfold tn
  exact Nat.xor_lt_two_pow (n := 64) h (by unfold sb; split <;> decide)
theorem tn_parts (w : Int) (r : Nat) : magN w (tn r w) = magN w r ∧ sgB w (tn r w) = !sgB w r := by
  unfold magN sgB tn
  obtain ⟨k, hk, _⟩ := sb_pow w
  rw [hk]
  refine ⟨?_, ?_⟩
  · rw [Nat.xor_mod_two_pow, Nat.mod_self, Nat.xor_zero]
  · rw [← Nat.shiftRight_eq_div_pow, ← Nat.shiftRight_eq_div_pow, Nat.shiftRight_xor_distrib, Nat.shiftRight_eq_div_pow (2 ^ k), Nat.div_self (Nat.pow_pos (by decide))]
    have := @Nat.xor_mod_two_eq_one (r >>> k) 1
    by_cases h : (r >>> k) % 2 = 1 <;> simp [h, this] <;> omega
theorem tn_mk {w : Int} (hw : w = 32 ∨ w = 64) {m : Nat} (s : Bool) (h : m < sb w) : tn (mkN w m s) w = mkN w m (!s) := by
  unfold tn mkN
  obtain ⟨k, hk, _⟩ := sb_pow w
  rw [hk] at h ⊢
  cases s
  · simp only [Bool.false_eq_true, if_false, Nat.add_zero, Bool.not_false, if_true]
    exact xor_pow_lt _ _ h
  · simp only [if_true, Bool.not_true, Bool.false_eq_true, if_false, Nat.add_zero]
    rw [xor_pow_ge _ _ (by omega) (by rw [Nat.pow_succ]; omega)]; omega
/-- a point's sign turned -/
def tp (p : Pt) : Pt := if p.2.1 = 3 then p else (!p.1, p.2)
theorem opn_tn (w : Int) (hw : w = 32 ∨ w = 64) (a : Nat) : opn w (tn a w) = tp (opn w a) := by
  obtain ⟨e1, e2⟩ := tn_parts w a
  unfold opn; simp only [e1, e2]
  split
  · rfl
  · split
    · rfl
    · split <;> rfl
theorem fx_neg' (w : Int) (s : Rat) (hs : s ≠ 0 ∨ True) (z : Bool) : ∃ m t, m ≤ (fmt w).inf ∧ fx w s z = mkN w m t ∧ fx w (-s) (!z) = mkN w m (!t) := by
  by_cases h0 : s = 0
  · subst h0
    rw [Rat.neg_zero, fx_zero, fx_zero]
    exact ⟨0, z, Nat.zero_le _, rfl, rfl⟩
  · by_cases h1 : s < 0
    · have h2 : 0 < -s := by grind
      refine ⟨(fmt w).rnd (-s), true, (fmt w).rnd_le _, ?_, fx_pos w h2 _⟩
      have := fx_neg w h2 z
      rwa [Rat.neg_neg] at this
    · have h2 : 0 < s := by grind
      exact ⟨(fmt w).rnd s, false, (fmt w).rnd_le _, fx_pos w h2 _, fx_neg w h2 _⟩
theorem pv_tp (p : Pt) : pv (tp p) = -pv p := by
  unfold tp pv
  obtain ⟨s, kd, e, g⟩ := p
  simp only
  by_cases h : kd = 3
  · rw [if_pos h]; simp only; rw [if_neg (by omega), Rat.neg_zero]
  · rw [if_neg h]; simp only
    split
    · cases s
      · simp
      · simp [Rat.neg_neg]
    · rw [Rat.neg_zero]
theorem mul_tp (w : Int) (hw : w = 32 ∨ w = 64) (p q : Pt) (h : mulP w p q ≠ nanN w) : mulP w (tp p) q = tn (mulP w p q) w := by
  have hi := inf_sb w hw
  unfold mulP at h ⊢
  by_cases h1 : p.2.1 = 3 ∨ q.2.1 = 3 ∨ p.2.1 = 2 ∧ q.2.1 = 0 ∨ p.2.1 = 0 ∧ q.2.1 = 2
  · rw [if_pos h1] at h; exact absurd rfl h
  · rw [if_neg h1] at h
    have e : (tp p).2 = p.2 ∧ (tp p).1 = !p.1 := by unfold tp; rw [if_neg (by omega)]; exact ⟨rfl, rfl⟩
    have e3 : ((!p.1) != q.1) = !(p.1 != q.1) := by cases p.1 <;> cases q.1 <;> rfl
    rw [e.1, e.2, if_neg h1, if_neg h1, e3]
    by_cases h2 : p.2.1 = 2 ∨ q.2.1 = 2
    · rw [if_pos h2, if_pos h2, tn_mk hw _ hi.1]
    · rw [if_neg h2, if_neg h2, pv_tp]
      obtain ⟨m, t, hm, e1, e2⟩ := fx_neg' w (pv p * pv q) (.inr trivial) (p.1 != q.1)
      rw [show -pv p * pv q = -(pv p * pv q) by rw [Rat.neg_mul], e1, e2, tn_mk hw _ (by omega)]
theorem mul_tp_nan (w : Int) (hw : w = 32 ∨ w = 64) (p q : Pt) (h : mulP w p q = nanN w) : mulP w (tp p) q = nanN w := by
  have hi := inf_sb w hw
  unfold mulP at h ⊢
  have e : (tp p).2 = p.2 := by unfold tp; split <;> rfl
  by_cases h1 : p.2.1 = 3 ∨ q.2.1 = 3 ∨ p.2.1 = 2 ∧ q.2.1 = 0 ∨ p.2.1 = 0 ∧ q.2.1 = 2
  · rw [e, if_pos h1]
  · rw [if_neg h1] at h
    exfalso
    have : ∀ m s, m ≤ (fmt w).inf → mkN w m s ≠ nanN w := fun m s hm => by unfold mkN; split <;> omega
    by_cases h2 : p.2.1 = 2 ∨ q.2.1 = 2
    · rw [if_pos h2] at h; exact this _ _ (Nat.le_refl _) h
    · rw [if_neg h2] at h
      obtain ⟨m, t, hm, e1, _⟩ := fx_neg' w (pv p * pv q) (.inr trivial) (p.1 != q.1)
      exact this _ _ hm (e1 ▸ h)
/-- one -/
def oneN (w : Int) : Nat := if w = 32 then 1065353216 else 4607182418800017408
theorem val_one (w : Int) (hw : w = 32 ∨ w = 64) : (fmt w).val (oneN w) = 1 ∧ oneN w < (fmt w).inf ∧ 0 < oneN w := by
  rcases hw with rfl | rfl
  · refine ⟨?_, by rw [fmt32, inf32]; decide, by decide⟩
    unfold Fmt.val
    rw [fmt32, show oneN 32 = 127 * 2 ^ f32.f + 0 by decide]
    have := Fmt.sg_mk f32 126 (2 ^ f32.f) (by decide) (fun _ => Nat.le_refl _)
    rw [show 127 * 2 ^ f32.f + 0 = 126 * 2 ^ f32.f + 2 ^ f32.f by decide, this.1, this.2]
    rw [show ((2 ^ f32.f : Nat) : Rat) = tw 23 from (tw_nat 23).symm, ← tw_add]
    exact tw_zero
  · refine ⟨?_, by rw [fmt64, inf64]; decide, by decide⟩
    unfold Fmt.val
    rw [fmt64, show oneN 64 = 1022 * 2 ^ f64.f + 2 ^ f64.f by decide]
    have := Fmt.sg_mk f64 1022 (2 ^ f64.f) (by decide) (fun _ => Nat.le_refl _)
    rw [this.1, this.2]
    rw [show ((2 ^ f64.f : Nat) : Rat) = tw 52 from (tw_nat 52).symm, ← tw_add]
    exact tw_zero
theorem oneE (w : Int) (hw : w = 32 ∨ w = 64) : product_one.f w = some ((oneN w : Nat) : Int) := by
  have h := val_one w hw
  unfold product_one.f
  rw [show (1 : Int) = ((1 : Nat) : Int) from rfl, wholeE w hw false 1 (by decide), Option.bind_some]
  rw [show ((1 : Nat) : Rat) = (fmt w).val (oneN w) by rw [h.1]; rfl, (fmt w).rnd_val (by omega)]
  simp [mkN]
theorem opn_one (w : Int) (hw : w = 32 ∨ w = 64) : opn w (oneN w) = (false, 1, (fmt w).ex (oneN w), ((fmt w).sg (oneN w) : Int)) ∧ pv (opn w (oneN w)) = 1 := by
  have h := val_one w hw
  have hi := inf_sb w hw
  have e := opn_mk w hw (oneN w) false (by omega)
  rw [show mkN w (oneN w) false = oneN w by simp [mkN], if_neg (by omega), if_pos h.2.1] at e
  refine ⟨e, ?_⟩
  rw [e, pv1]
  have := h.1
  unfold Fmt.val at this
  simpa using this
theorem mul_one' (w : Int) (hw : w = 32 ∨ w = 64) (a : Nat) (ha : a < 18446744073709551616) (h : (opn w a).2.1 ≠ 3) : mulP w (opn w a) (opn w (oneN w)) = cutN w a := by
  obtain ⟨e1, e2⟩ := opn_one w hw
  rw [cut_as_mk w hw a ha]
  unfold mulP
  rw [e2, Rat.mul_one, e1]
  simp only
  rcases kinds w hw a with ⟨h0, hk⟩ | ⟨h1, h2, hk⟩ | ⟨h0, hk⟩ | ⟨_, hk⟩
  · rw [hk]; simp [pv0, fx_zero, h0]
  · have hsg : 0 < (fmt w).sg (magN w a) := by
      have := (opn_ok w hw a).2.1
      rw [hk] at this
      have := this rfl
      simp only at this
      omega
    rw [hk, pv1]; simp only
    rw [if_neg (by decide), if_neg (by decide), fx_sg w (pos_tw hsg _)]
    rw [show ((fmt w).sg (magN w a) : Rat) * tw ((fmt w).ex (magN w a)) = (fmt w).val (magN w a) from rfl, (fmt w).rnd_val (by omega)]
  · rw [hk]; simp [h0]
  · rw [hk] at h; exact absurd rfl h
theorem scale0 (w : Int) (hw : w = 32 ∨ w = 64) (a : Nat) (ha : a < 18446744073709551616) (h : (opn w a).2.1 ≠ 3) : Ev (fun k => product_Scale.f k w a 0) ((cutN w a : Nat) : Int) := by
  unfold product_Scale.f
  refine Ev.bs (show product_known.f w = some true by rcases hw with rfl | rfl <;> rfl) (Ev.pos rfl (Ev.bind (openS w hw a ha) ?_))
  have hX : round_Narrow.f w (opn w a).1 (opn w a).2.1 (if (opn w a).2.1 = 1 then wrap64 ((opn w a).2.2.1 + mn (mx 0 (-1048576)) 1048576) else (opn w a).2.2.1) (opn w a).2.2.2 = some ((cutN w a : Nat) : Int) := ?_
  · simp only [hX]
    exact Ev.out rfl
  have hb := opn_ok w hw a
  rw [cut_as_mk w hw a ha]
  obtain ⟨_, _, _, b3, b4, b5, b6⟩ := hb
  have hm : mn (mx 0 (-1048576)) 1048576 = 0 := by decide
  rw [hm, Int.add_zero, w64_id (by omega) (by omega)]
  rw [show (if (opn w a).2.1 = 1 then (opn w a).2.2.1 else (opn w a).2.2.1) = (opn w a).2.2.1 by split <;> rfl]
  rcases kinds w hw a with ⟨h0, hk⟩ | ⟨h1, h2, hk⟩ | ⟨h0, hk⟩ | ⟨_, hk⟩
  · rw [hk]; simp only
    rw [show (0 : Int) = ((0 : Nat) : Int) from rfl, narrowG w hw _ _ _ _ (by decide)]; simp [narG, h0]
  · rw [hk]; simp only
    rw [narrowG w hw _ _ _ _ (by have := sg_64 w hw (magN w a); omega)]
    unfold narG
    rw [if_neg (by decide), if_pos rfl]
    rw [show ((fmt w).sg (magN w a) : Rat) * tw ((fmt w).ex (magN w a)) = (fmt w).val (magN w a) from rfl, (fmt w).rnd_val (by omega)]
  · rw [hk]; simp only
    have := narrowG w hw (sgB w a) 2 0 0 (by decide)
    simp only [narG] at this
    rw [show ((0 : Nat) : Int) = 0 from rfl] at this
    rw [this]; simp [h0]
  · rw [hk] at h; exact absurd rfl h
theorem allE (w : Int) (hw : w = 32 ∨ w = 64) : Ev (fun k => product_All.f k w ([] : List Int)) ((oneN w : Nat) : Int) := by
  unfold product_All.f
  refine Ev.bs (oneE w hw) (Ev.step (fun _ => product_All.l0.eq_2 ..) (Ev.neg (by simp) (Ev.out rfl)))
theorem xor_tn (w : Int) (hw : w = 32 ∨ w = 64) {a : Nat} (ha : a < 18446744073709551616) : Go.bits .xor .u64 (a : Int) ((mkN w 0 true : Nat) : Int) = ((tn a w : Nat) : Int) := by
  rw [show mkN w 0 true = sb w by simp [mkN], u64_xor_nat a _ ha (by unfold sb; split <;> decide)]
  rfl
theorem ProductKeepsP : trunnionlaw05_ProductKeeps.Pure := by
  intro w a b hw0 ha0 hb0
  obtain ⟨ha1, ha2⟩ := wf_u64 ha0
  obtain ⟨a, rfl⟩ := Int.eq_ofNat_of_zero_le ha1
  have ha : a < 18446744073709551616 := by omega
  obtain ⟨hb1, hb2⟩ := wf_u64 hb0
  obtain ⟨b, rfl⟩ := Int.eq_ofNat_of_zero_le hb1
  have hb : b < 18446744073709551616 := by omega
  refine Ev.rounds ?_
  unfold trunnionlaw05_ProductKeeps.f
  refine Ev.bind awake05 (Ev.pos rfl ?_)
  by_cases hw : w = 32 ∨ w = 64
  · have main : Ev (fun k => trunnionlaw05_ProductKeeps.j0 k w a b false) true := by
      refine Ev.step (fun _ => trunnionlaw05_ProductKeeps.j0.eq_2 ..) (Ev.neg (by decide) ?_)
      obtain ⟨m, hm⟩ : ∃ m, mulP w (opn w a) (opn w b) = m := ⟨_, rfl⟩
      have hc : Can w m := hm ▸ can_mul w _ _
      obtain ⟨hcut, hlt⟩ := can_cut hw hc
      have e1 := prodE w hw a b ha hb
      have e2 := prodE w hw b a hb ha
      rw [mul_comm', hm] at e2
      rw [hm] at e1
      refine Ev.bind e1 (Ev.bs (shZ w hw true) (Ev.bind e2 (Ev.pos rfl (Ev.bs (shCut w m hlt) ?_))))
      rw [hcut, bne_self_eq_false]
      refine Ev.step (fun _ => trunnionlaw05_ProductKeeps.j1.eq_2 ..) (Ev.neg (by decide) ?_)
      have hN := isnanS w hw m hlt
      rw [can_nan hw hc] at hN
      refine Ev.bind hN ?_
      rw [xor_tn w hw ha]
      have e3 := prodE w hw (tn a w) b (tn_lt ha) hb
      rw [opn_tn w hw] at e3
      by_cases hnan : m = nanN w
      · rw [mul_tp_nan w hw _ _ (hm.trans hnan)] at e3
        rw [decide_eq_true hnan]
        refine Ev.pos rfl (Ev.bs (shN w hw) (Ev.pos (by rw [hnan]) (Ev.bind e3 (Ev.out ?_))))
        rw [hnan]; simp
      · rw [mul_tp w hw _ _ (hm ▸ hnan), hm] at e3
        rw [decide_eq_false hnan, xor_tn w hw hlt]
        refine Ev.neg (by decide) (Ev.bind (allE w hw) (Ev.bind e3 (Ev.pos rfl (Ev.bind (isnanS w hw a ha) ?_))))
        by_cases h3 : (opn w a).2.1 = 3
        · exact Ev.pos (by rw [h3]; rfl) (Ev.out rfl)
        · have e4 := prodE w hw a (oneN w) ha (by unfold oneN; split <;> decide)
          rw [mul_one' w hw a ha h3] at e4
          refine Ev.neg (by simpa using h3) (Ev.bind e4 (Ev.bs (shCut w a ha) (Ev.pos rfl (Ev.bind (scale0 w hw a ha h3) (Ev.bs (shCut w a ha) (Ev.out (by simp)))))))
    rcases hw with rfl | rfl
    · exact Ev.pos rfl main
    · exact Ev.neg (by decide) main
  · refine Ev.neg (by omega) (Ev.step (fun _ => trunnionlaw05_ProductKeeps.j0.eq_2 ..) (Ev.pos ?_ (Ev.out rfl)))
    rw [bne_iff_ne]; omega
end Go.Proofs.Ytgcgheilbngcoaa.Th
namespace Go.Proofs.Ytgcgheilbngcoaa.Pure
theorem ProductKeeps : Go.Proofs.Ytgcgheilbngcoaa.PA.trunnionlaw05_ProductKeeps.Pure := Go.Proofs.Ytgcgheilbngcoaa.Th.ProductKeepsP
end Go.Proofs.Ytgcgheilbngcoaa.Pure
namespace Go.Proofs.Ytgcgheilbngcoaa.Facts
theorem words_word (w : List Char) (r : List Char) (h : w.all (fun c => c != Char.ofNat 32) = true) : wordsSigns (w ++ Char.ofNat 32 :: r) = w :: wordsSigns r := by
  induction w with
  | nil => rfl
  | cons c w ih =>
    rw [List.all_cons, Bool.and_eq_true] at h
    have hc : c ≠ Char.ofNat 32 := bne_iff_ne.1 h.1
    rw [List.cons_append]
    rw [wordsSigns.eq_3 c _ (fun e => hc e), ih h.2]
def w1 : List Char := [Char.ofNat 104, Char.ofNat 97, Char.ofNat 114, Char.ofNat 110, Char.ofNat 101, Char.ofNat 115, Char.ofNat 115]
def w2 : List Char := [Char.ofNat 99, Char.ofNat 52, Char.ofNat 101, Char.ofNat 97, Char.ofNat 51, Char.ofNat 48, Char.ofNat 102, Char.ofNat 56, Char.ofNat 56, Char.ofNat 48, Char.ofNat 57, Char.ofNat 101, Char.ofNat 101, Char.ofNat 98, Char.ofNat 52, Char.ofNat 101, Char.ofNat 99, Char.ofNat 54, Char.ofNat 56, Char.ofNat 57, Char.ofNat 54, Char.ofNat 49, Char.ofNat 101, Char.ofNat 50, Char.ofNat 51, Char.ofNat 53, Char.ofNat 56, Char.ofNat 100, Char.ofNat 101, Char.ofNat 53, Char.ofNat 100, Char.ofNat 56, Char.ofNat 56, Char.ofNat 53, Char.ofNat 102, Char.ofNat 54, Char.ofNat 48, Char.ofNat 50, Char.ofNat 97, Char.ofNat 50, Char.ofNat 101, Char.ofNat 99, Char.ofNat 52, Char.ofNat 98, Char.ofNat 57, Char.ofNat 52, Char.ofNat 98, Char.ofNat 100, Char.ofNat 49, Char.ofNat 54, Char.ofNat 100, Char.ofNat 57, Char.ofNat 97, Char.ofNat 54, Char.ofNat 102, Char.ofNat 57, Char.ofNat 48, Char.ofNat 52, Char.ofNat 98, Char.ofNat 52, Char.ofNat 102, Char.ofNat 56, Char.ofNat 52, Char.ofNat 55]
def w3 : List Char := [Char.ofNat 99, Char.ofNat 117, Char.ofNat 116]
set_option maxRecDepth 100000 in
def tailSigns : List Char := [Char.ofNat 97, Char.ofNat 116, Char.ofNat 32, Char.ofNat 116, Char.ofNat 114, Char.ofNat 117, Char.ofNat 110, Char.ofNat 110, Char.ofNat 105, Char.ofNat 111, Char.ofNat 110, Char.ofNat 47, Char.ofNat 116, Char.ofNat 114, Char.ofNat 117, Char.ofNat 110, Char.ofNat 110, Char.ofNat 105, Char.ofNat 111, Char.ofNat 110, Char.ofNat 108, Char.ofNat 97, Char.ofNat 119, Char.ofNat 49, Char.ofNat 50, Char.ofNat 46, Char.ofNat 67, Char.ofNat 104, Char.ofNat 111, Char.ofNat 112, Char.ofNat 84, Char.ofNat 114, Char.ofNat 97, Char.ofNat 112, Char.ofNat 115, Char.ofNat 32, Char.ofNat 116, Char.ofNat 114, Char.ofNat 117, Char.ofNat 110, Char.ofNat 110, Char.ofNat 105, Char.ofNat 111, Char.ofNat 110, Char.ofNat 47, Char.ofNat 116, Char.ofNat 114, Char.ofNat 117, Char.ofNat 110, Char.ofNat 110, Char.ofNat 105, Char.ofNat 111, Char.ofNat 110, Char.ofNat 108, Char.ofNat 97, Char.ofNat 119, Char.ofNat 49, Char.ofNat 50, Char.ofNat 46, Char.ofNat 67, Char.ofNat 104, Char.ofNat 111, Char.ofNat 112, Char.ofNat 79, Char.ofNat 114, Char.ofNat 100, Char.ofNat 101, Char.ofNat 114, Char.ofNat 32, Char.ofNat 116, Char.ofNat 114, Char.ofNat 117, Char.ofNat 110, Char.ofNat 110, Char.ofNat 105, Char.ofNat 111, Char.ofNat 110, Char.ofNat 47, Char.ofNat 116, Char.ofNat 114, Char.ofNat 117, Char.ofNat 110, Char.ofNat 110, Char.ofNat 105, Char.ofNat 111, Char.ofNat 110, Char.ofNat 108, Char.ofNat 97, Char.ofNat 119, Char.ofNat 48, Char.ofNat 51, Char.ofNat 46, Char.ofNat 82, Char.ofNat 111, Char.ofNat 117, Char.ofNat 110, Char.ofNat 100, Char.ofNat 80, Char.ofNat 97, Char.ofNat 99, Char.ofNat 107, Char.ofNat 115, Char.ofNat 32, Char.ofNat 116, Char.ofNat 114, Char.ofNat 117, Char.ofNat 110, Char.ofNat 110, Char.ofNat 105, Char.ofNat 111, Char.ofNat 110, Char.ofNat 47, Char.ofNat 116, Char.ofNat 114, Char.ofNat 117, Char.ofNat 110, Char.ofNat 110, Char.ofNat 105, Char.ofNat 111, Char.ofNat 110, Char.ofNat 108, Char.ofNat 97, Char.ofNat 119, Char.ofNat 48, Char.ofNat 51, Char.ofNat 46, Char.ofNat 82, Char.ofNat 111, Char.ofNat 117, Char.ofNat 110, Char.ofNat 100, Char.ofNat 82, Char.ofNat 105, Char.ofNat 115, Char.ofNat 101, Char.ofNat 115, Char.ofNat 32, Char.ofNat 116, Char.ofNat 114, Char.ofNat 117, Char.ofNat 110, Char.ofNat 110, Char.ofNat 105, Char.ofNat 111, Char.ofNat 110, Char.ofNat 47, Char.ofNat 116, Char.ofNat 114, Char.ofNat 117, Char.ofNat 110, Char.ofNat 110, Char.ofNat 105, Char.ofNat 111, Char.ofNat 110, Char.ofNat 108, Char.ofNat 97, Char.ofNat 119, Char.ofNat 48, Char.ofNat 51, Char.ofNat 46, Char.ofNat 82, Char.ofNat 111, Char.ofNat 117, Char.ofNat 110, Char.ofNat 100, Char.ofNat 87, Char.ofNat 104, Char.ofNat 111, Char.ofNat 108, Char.ofNat 101, Char.ofNat 115, Char.ofNat 32, Char.ofNat 116, Char.ofNat 114, Char.ofNat 117, Char.ofNat 110, Char.ofNat 110, Char.ofNat 105, Char.ofNat 111, Char.ofNat 110, Char.ofNat 47, Char.ofNat 116, Char.ofNat 114, Char.ofNat 117, Char.ofNat 110, Char.ofNat 110, Char.ofNat 105, Char.ofNat 111, Char.ofNat 110, Char.ofNat 108, Char.ofNat 97, Char.ofNat 119, Char.ofNat 48, Char.ofNat 51, Char.ofNat 46, Char.ofNat 82, Char.ofNat 111, Char.ofNat 117, Char.ofNat 110, Char.ofNat 100, Char.ofNat 75, Char.ofNat 101, Char.ofNat 101, Char.ofNat 112, Char.ofNat 115, Char.ofNat 32, Char.ofNat 116, Char.ofNat 114, Char.ofNat 117, Char.ofNat 110, Char.ofNat 110, Char.ofNat 105, Char.ofNat 111, Char.ofNat 110, Char.ofNat 47, Char.ofNat 116, Char.ofNat 114, Char.ofNat 117, Char.ofNat 110, Char.ofNat 110, Char.ofNat 105, Char.ofNat 111, Char.ofNat 110, Char.ofNat 108, Char.ofNat 97, Char.ofNat 119, Char.ofNat 48, Char.ofNat 53, Char.ofNat 46, Char.ofNat 80, Char.ofNat 114, Char.ofNat 111, Char.ofNat 100, Char.ofNat 117, Char.ofNat 99, Char.ofNat 116, Char.ofNat 77, Char.ofNat 117, Char.ofNat 108, Char.ofNat 115, Char.ofNat 32, Char.ofNat 116, Char.ofNat 114, Char.ofNat 117, Char.ofNat 110, Char.ofNat 110, Char.ofNat 105, Char.ofNat 111, Char.ofNat 110, Char.ofNat 47, Char.ofNat 116, Char.ofNat 114, Char.ofNat 117, Char.ofNat 110, Char.ofNat 110, Char.ofNat 105, Char.ofNat 111, Char.ofNat 110, Char.ofNat 108, Char.ofNat 97, Char.ofNat 119, Char.ofNat 49, Char.ofNat 49, Char.ofNat 46, Char.ofNat 67, Char.ofNat 97, Char.ofNat 115, Char.ofNat 116, Char.ofNat 79, Char.ofNat 114, Char.ofNat 100, Char.ofNat 101, Char.ofNat 114, Char.ofNat 32, Char.ofNat 116, Char.ofNat 114, Char.ofNat 117, Char.ofNat 110, Char.ofNat 110, Char.ofNat 105, Char.ofNat 111, Char.ofNat 110, Char.ofNat 47, Char.ofNat 116, Char.ofNat 114, Char.ofNat 117, Char.ofNat 110, Char.ofNat 110, Char.ofNat 105, Char.ofNat 111, Char.ofNat 110, Char.ofNat 108, Char.ofNat 97, Char.ofNat 119, Char.ofNat 49, Char.ofNat 49, Char.ofNat 46, Char.ofNat 67, Char.ofNat 97, Char.ofNat 115, Char.ofNat 116, Char.ofNat 84, Char.ofNat 117, Char.ofNat 114, Char.ofNat 110, Char.ofNat 115, Char.ofNat 32, Char.ofNat 116, Char.ofNat 114, Char.ofNat 117, Char.ofNat 110, Char.ofNat 110, Char.ofNat 105, Char.ofNat 111, Char.ofNat 110, Char.ofNat 47, Char.ofNat 116, Char.ofNat 114, Char.ofNat 117, Char.ofNat 110, Char.ofNat 110, Char.ofNat 105, Char.ofNat 111, Char.ofNat 110, Char.ofNat 108, Char.ofNat 97, Char.ofNat 119, Char.ofNat 48, Char.ofNat 57, Char.ofNat 46, Char.ofNat 87, Char.ofNat 104, Char.ofNat 111, Char.ofNat 108, Char.ofNat 101, Char.ofNat 77, Char.ofNat 97, Char.ofNat 107, Char.ofNat 101, Char.ofNat 115, Char.ofNat 32, Char.ofNat 116, Char.ofNat 114, Char.ofNat 117, Char.ofNat 110, Char.ofNat 110, Char.ofNat 105, Char.ofNat 111, Char.ofNat 110, Char.ofNat 47, Char.ofNat 116, Char.ofNat 114, Char.ofNat 117, Char.ofNat 110, Char.ofNat 110, Char.ofNat 105, Char.ofNat 111, Char.ofNat 110, Char.ofNat 108, Char.ofNat 97, Char.ofNat 119, Char.ofNat 48, Char.ofNat 53, Char.ofNat 46, Char.ofNat 80, Char.ofNat 114, Char.ofNat 111, Char.ofNat 100, Char.ofNat 117, Char.ofNat 99, Char.ofNat 116, Char.ofNat 83, Char.ofNat 99, Char.ofNat 97, Char.ofNat 108, Char.ofNat 101, Char.ofNat 115, Char.ofNat 32, Char.ofNat 116, Char.ofNat 114, Char.ofNat 117, Char.ofNat 110, Char.ofNat 110, Char.ofNat 105, Char.ofNat 111, Char.ofNat 110, Char.ofNat 47, Char.ofNat 116, Char.ofNat 114, Char.ofNat 117, Char.ofNat 110, Char.ofNat 110, Char.ofNat 105, Char.ofNat 111, Char.ofNat 110, Char.ofNat 108, Char.ofNat 97, Char.ofNat 119, Char.ofNat 48, Char.ofNat 55, Char.ofNat 46, Char.ofNat 82, Char.ofNat 97, Char.ofNat 100, Char.ofNat 105, Char.ofNat 120, Char.ofNat 82, Char.ofNat 111, Char.ofNat 111, Char.ofNat 116, Char.ofNat 115, Char.ofNat 32, Char.ofNat 116, Char.ofNat 114, Char.ofNat 117, Char.ofNat 110, Char.ofNat 110, Char.ofNat 105, Char.ofNat 111, Char.ofNat 110, Char.ofNat 47, Char.ofNat 116, Char.ofNat 114, Char.ofNat 117, Char.ofNat 110, Char.ofNat 110, Char.ofNat 105, Char.ofNat 111, Char.ofNat 110, Char.ofNat 108, Char.ofNat 97, Char.ofNat 119, Char.ofNat 48, Char.ofNat 57, Char.ofNat 46, Char.ofNat 87, Char.ofNat 104, Char.ofNat 111, Char.ofNat 108, Char.ofNat 101, Char.ofNat 75, Char.ofNat 101, Char.ofNat 101, Char.ofNat 112, Char.ofNat 115, Char.ofNat 32, Char.ofNat 116, Char.ofNat 114, Char.ofNat 117, Char.ofNat 110, Char.ofNat 110, Char.ofNat 105, Char.ofNat 111, Char.ofNat 110, Char.ofNat 47, Char.ofNat 116, Char.ofNat 114, Char.ofNat 117, Char.ofNat 110, Char.ofNat 110, Char.ofNat 105, Char.ofNat 111, Char.ofNat 110, Char.ofNat 108, Char.ofNat 97, Char.ofNat 119, Char.ofNat 48, Char.ofNat 53, Char.ofNat 46, Char.ofNat 80, Char.ofNat 114, Char.ofNat 111, Char.ofNat 100, Char.ofNat 117, Char.ofNat 99, Char.ofNat 116, Char.ofNat 75, Char.ofNat 101, Char.ofNat 101, Char.ofNat 112, Char.ofNat 115, Char.ofNat 32, Char.ofNat 116, Char.ofNat 114, Char.ofNat 117, Char.ofNat 110, Char.ofNat 110, Char.ofNat 105, Char.ofNat 111, Char.ofNat 110, Char.ofNat 47, Char.ofNat 116, Char.ofNat 114, Char.ofNat 117, Char.ofNat 110, Char.ofNat 110, Char.ofNat 105, Char.ofNat 111, Char.ofNat 110, Char.ofNat 108, Char.ofNat 97, Char.ofNat 119, Char.ofNat 48, Char.ofNat 55, Char.ofNat 46, Char.ofNat 82, Char.ofNat 97, Char.ofNat 100, Char.ofNat 105, Char.ofNat 120, Char.ofNat 75, Char.ofNat 101, Char.ofNat 101, Char.ofNat 112, Char.ofNat 115, Char.ofNat 32, Char.ofNat 116, Char.ofNat 114, Char.ofNat 117, Char.ofNat 110, Char.ofNat 110, Char.ofNat 105, Char.ofNat 111, Char.ofNat 110, Char.ofNat 47, Char.ofNat 116, Char.ofNat 114, Char.ofNat 117, Char.ofNat 110, Char.ofNat 110, Char.ofNat 105, Char.ofNat 111, Char.ofNat 110, Char.ofNat 108, Char.ofNat 97, Char.ofNat 119, Char.ofNat 48, Char.ofNat 54, Char.ofNat 46, Char.ofNat 81, Char.ofNat 117, Char.ofNat 111, Char.ofNat 116, Char.ofNat 105, Char.ofNat 101, Char.ofNat 110, Char.ofNat 116, Char.ofNat 68, Char.ofNat 105, Char.ofNat 118, Char.ofNat 115, Char.ofNat 32, Char.ofNat 116, Char.ofNat 114, Char.ofNat 117, Char.ofNat 110, Char.ofNat 110, Char.ofNat 105, Char.ofNat 111, Char.ofNat 110, Char.ofNat 47, Char.ofNat 116, Char.ofNat 114, Char.ofNat 117, Char.ofNat 110, Char.ofNat 110, Char.ofNat 105, Char.ofNat 111, Char.ofNat 110, Char.ofNat 108, Char.ofNat 97, Char.ofNat 119, Char.ofNat 48, Char.ofNat 55, Char.ofNat 46, Char.ofNat 82, Char.ofNat 97, Char.ofNat 100, Char.ofNat 105, Char.ofNat 120, Char.ofNat 83, Char.ofNat 99, Char.ofNat 97, Char.ofNat 108, Char.ofNat 101, Char.ofNat 32, Char.ofNat 116, Char.ofNat 114, Char.ofNat 117, Char.ofNat 110, Char.ofNat 110, Char.ofNat 105, Char.ofNat 111, Char.ofNat 110, Char.ofNat 47, Char.ofNat 116, Char.ofNat 114, Char.ofNat 117, Char.ofNat 110, Char.ofNat 110, Char.ofNat 105, Char.ofNat 111, Char.ofNat 110, Char.ofNat 108, Char.ofNat 97, Char.ofNat 119, Char.ofNat 48, Char.ofNat 54, Char.ofNat 46, Char.ofNat 81, Char.ofNat 117, Char.ofNat 111, Char.ofNat 116, Char.ofNat 105, Char.ofNat 101, Char.ofNat 110, Char.ofNat 116, Char.ofNat 75, Char.ofNat 101, Char.ofNat 101, Char.ofNat 112, Char.ofNat 115, Char.ofNat 32, Char.ofNat 116, Char.ofNat 114, Char.ofNat 117, Char.ofNat 110, Char.ofNat 110, Char.ofNat 105, Char.ofNat 111, Char.ofNat 110, Char.ofNat 47, Char.ofNat 116, Char.ofNat 114, Char.ofNat 117, Char.ofNat 110, Char.ofNat 110, Char.ofNat 105, Char.ofNat 111, Char.ofNat 110, Char.ofNat 108, Char.ofNat 97, Char.ofNat 119, Char.ofNat 48, Char.ofNat 52, Char.ofNat 46, Char.ofNat 83, Char.ofNat 117, Char.ofNat 109, Char.ofNat 65, Char.ofNat 100, Char.ofNat 100, Char.ofNat 115, Char.ofNat 32, Char.ofNat 116, Char.ofNat 114, Char.ofNat 117, Char.ofNat 110, Char.ofNat 110, Char.ofNat 105, Char.ofNat 111, Char.ofNat 110, Char.ofNat 47, Char.ofNat 116, Char.ofNat 114, Char.ofNat 117, Char.ofNat 110, Char.ofNat 110, Char.ofNat 105, Char.ofNat 111, Char.ofNat 110, Char.ofNat 108, Char.ofNat 97, Char.ofNat 119, Char.ofNat 48, Char.ofNat 52, Char.ofNat 46, Char.ofNat 83, Char.ofNat 117, Char.ofNat 109, Char.ofNat 79, Char.ofNat 114, Char.ofNat 100, Char.ofNat 101, Char.ofNat 114, Char.ofNat 32, Char.ofNat 116, Char.ofNat 114, Char.ofNat 117, Char.ofNat 110, Char.ofNat 110, Char.ofNat 105, Char.ofNat 111, Char.ofNat 110, Char.ofNat 47, Char.ofNat 116, Char.ofNat 114, Char.ofNat 117, Char.ofNat 110, Char.ofNat 110, Char.ofNat 105, Char.ofNat 111, Char.ofNat 110, Char.ofNat 108, Char.ofNat 97, Char.ofNat 119, Char.ofNat 48, Char.ofNat 52, Char.ofNat 46, Char.ofNat 83, Char.ofNat 117, Char.ofNat 109, Char.ofNat 67, Char.ofNat 108, Char.ofNat 111, Char.ofNat 115, Char.ofNat 101, Char.ofNat 32, Char.ofNat 116, Char.ofNat 114, Char.ofNat 117, Char.ofNat 110, Char.ofNat 110, Char.ofNat 105, Char.ofNat 111, Char.ofNat 110, Char.ofNat 47, Char.ofNat 116, Char.ofNat 114, Char.ofNat 117, Char.ofNat 110, Char.ofNat 110, Char.ofNat 105, Char.ofNat 111, Char.ofNat 110, Char.ofNat 108, Char.ofNat 97, Char.ofNat 119, Char.ofNat 48, Char.ofNat 52, Char.ofNat 46, Char.ofNat 83, Char.ofNat 117, Char.ofNat 109, Char.ofNat 84, Char.ofNat 111, Char.ofNat 116, Char.ofNat 97, Char.ofNat 108, Char.ofNat 115, Char.ofNat 32, Char.ofNat 116, Char.ofNat 114, Char.ofNat 117, Char.ofNat 110, Char.ofNat 110, Char.ofNat 105, Char.ofNat 111, Char.ofNat 110, Char.ofNat 47, Char.ofNat 116, Char.ofNat 114, Char.ofNat 117, Char.ofNat 110, Char.ofNat 110, Char.ofNat 105, Char.ofNat 111, Char.ofNat 110, Char.ofNat 108, Char.ofNat 97, Char.ofNat 119, Char.ofNat 48, Char.ofNat 54, Char.ofNat 46, Char.ofNat 81, Char.ofNat 117, Char.ofNat 111, Char.ofNat 116, Char.ofNat 105, Char.ofNat 101, Char.ofNat 110, Char.ofNat 116, Char.ofNat 83, Char.ofNat 99, Char.ofNat 97, Char.ofNat 108, Char.ofNat 101, Char.ofNat 32, Char.ofNat 116, Char.ofNat 114, Char.ofNat 117, Char.ofNat 110, Char.ofNat 110, Char.ofNat 105, Char.ofNat 111, Char.ofNat 110, Char.ofNat 47, Char.ofNat 116, Char.ofNat 114, Char.ofNat 117, Char.ofNat 110, Char.ofNat 110, Char.ofNat 105, Char.ofNat 111, Char.ofNat 110, Char.ofNat 108, Char.ofNat 97, Char.ofNat 119, Char.ofNat 48, Char.ofNat 52, Char.ofNat 46, Char.ofNat 83, Char.ofNat 117, Char.ofNat 109, Char.ofNat 75, Char.ofNat 101, Char.ofNat 101, Char.ofNat 112, Char.ofNat 115, Char.ofNat 32, Char.ofNat 116, Char.ofNat 114, Char.ofNat 117, Char.ofNat 110, Char.ofNat 110, Char.ofNat 105, Char.ofNat 111, Char.ofNat 110, Char.ofNat 47, Char.ofNat 116, Char.ofNat 114, Char.ofNat 117, Char.ofNat 110, Char.ofNat 110, Char.ofNat 105, Char.ofNat 111, Char.ofNat 110, Char.ofNat 108, Char.ofNat 97, Char.ofNat 119, Char.ofNat 48, Char.ofNat 57, Char.ofNat 46, Char.ofNat 87, Char.ofNat 104, Char.ofNat 111, Char.ofNat 108, Char.ofNat 101, Char.ofNat 72, Char.ofNat 97, Char.ofNat 108, Char.ofNat 102, Char.ofNat 32, Char.ofNat 116, Char.ofNat 114, Char.ofNat 117, Char.ofNat 110, Char.ofNat 110, Char.ofNat 105, Char.ofNat 111, Char.ofNat 110, Char.ofNat 47, Char.ofNat 116, Char.ofNat 114, Char.ofNat 117, Char.ofNat 110, Char.ofNat 110, Char.ofNat 105, Char.ofNat 111, Char.ofNat 110, Char.ofNat 108, Char.ofNat 97, Char.ofNat 119, Char.ofNat 48, Char.ofNat 53, Char.ofNat 46, Char.ofNat 80, Char.ofNat 114, Char.ofNat 111, Char.ofNat 100, Char.ofNat 117, Char.ofNat 99, Char.ofNat 116, Char.ofNat 84, Char.ofNat 119, Char.ofNat 105, Char.ofNat 99, Char.ofNat 101]
set_option maxRecDepth 100000 in
theorem head_list : Try.prog.initOrder.toList = w1 ++ Char.ofNat 32 :: (w2 ++ Char.ofNat 32 :: (w3 ++ Char.ofNat 32 :: tailSigns)) :=
  (congrArg String.toList (show Try.prog.initOrder = String.ofList (w1 ++ Char.ofNat 32 :: (w2 ++ Char.ofNat 32 :: (w3 ++ Char.ofNat 32 :: tailSigns))) from rfl)).trans String.toList_ofList
theorem words : ∃ rest, behindMainWord (wordsSigns Try.prog.initOrder.toList) = w3 :: rest := by
  refine ⟨wordsSigns tailSigns, ?_⟩
  rw [head_list, words_word w1 _ (by kernel_rfl), words_word w2 _ (by kernel_rfl), words_word w3 _ (by kernel_rfl)]
  generalize wordsSigns tailSigns = rest
  have e : ((w1 == "harness".toList || w1 == "ownmain".toList) && isSumSigns w2) = true := by kernel_rfl
  show (if ((w1 == "harness".toList || w1 == "ownmain".toList) && isSumSigns w2) = true then w3 :: rest else w1 :: w2 :: w3 :: rest) = w3 :: rest
  rw [if_pos e]
theorem c3 : (w3 == "gc".toList) = false ∧ (w3 == "spec".toList) = false ∧ (w3 == "cut".toList) = true ∧ (w3 == "carried".toList) = false ∧ (w3 == "finals".toList) = false := ⟨by kernel_rfl, by kernel_rfl, by kernel_rfl, by kernel_rfl, by kernel_rfl⟩
theorem strip (rest : List (List Char)) : stripLifts liftWords (w3 :: rest) = ([], w3 :: rest) := by
  have key : ∀ l : List String, l.all (fun o => !(w3 == o.toList)) = true → stripLifts l (w3 :: rest) = ([], w3 :: rest) := by
    intro l
    induction l with
    | nil => intro _; rfl
    | cons o l ih =>
      intro h
      rw [List.all_cons, Bool.and_eq_true] at h
      unfold stripLifts
      rw [if_neg (fun e => by have h1 := h.1; rw [e] at h1; cases h1)]
      exact ih h.2
  exact key liftWords (by kernel_rfl)
theorem make_of (P : Program) (h : ∃ rest, behindMainWord (wordsSigns P.initOrder.toList) = w3 :: rest) : P.make = some .cut := by
  obtain ⟨rest, h⟩ := h
  unfold Program.make
  rw [h]
  show (if (w3 == "gc".toList || w3 == "spec".toList) = true then some Make.whole else if (w3 == "cut".toList || (w3 == "finals".toList && rest.head? == some "cut".toList)) = true then some Make.cut else _) = some Make.cut
  rw [if_neg (by rw [c3.1, c3.2.1]; decide), if_pos (by rw [c3.2.2.1, Bool.true_or])]
set_option maxRecDepth 100000 in
theorem liftsFact : Try.prog.liftsFinal = false := by
  unfold Program.liftsFinal Program.headLifts
  rw [head_list]
  kernel_rfl
theorem doorFact : (!Try.prog.laysLater && !Try.prog.bearsReflect && Try.prog.doorFits []) = true := by kernel_rfl
theorem makeFact : Try.prog.make = some .cut := make_of _ words
theorem enter_of (P : Program) (h : ∃ rest, behindMainWord (wordsSigns P.initOrder.toList) = w3 :: rest) (d : (!P.laysLater && !P.bearsReflect && P.doorFits []) = true) : P.mayEnter = true := by
  obtain ⟨rest, h⟩ := h
  rw [Bool.and_eq_true, Bool.and_eq_true] at d
  have e : ((some w3 == some "cut".toList) : Bool) = true := by kernel_rfl
  unfold Program.mayEnter
  rw [h]
  show ((_ || _) || ((stripLifts liftWords (w3 :: rest)).2.head? == some "cut".toList && ((stripLifts liftWords (w3 :: rest)).1.contains "finals" || !P.laysLater) && ((stripLifts liftWords (w3 :: rest)).1.contains "reflectrows" || !P.bearsReflect) &&
      ((stripLifts liftWords (w3 :: rest)).1.contains "reflectrows" || !(stripLifts liftWords (w3 :: rest)).1.contains "leanrows") && P.doorFits (stripLifts liftWords (w3 :: rest)).1)) = true
  rw [strip, Bool.or_eq_true]
  refine .inr ?_
  rw [Bool.and_eq_true, Bool.and_eq_true, Bool.and_eq_true, Bool.and_eq_true, Bool.or_eq_true, Bool.or_eq_true]
  exact ⟨⟨⟨⟨e, .inr d.1.1⟩, .inr d.1.2⟩, rfl⟩, d.2⟩
theorem enterFact : Try.prog.mayEnter = true := enter_of _ words doorFact
end Go.Proofs.Ytgcgheilbngcoaa.Facts
