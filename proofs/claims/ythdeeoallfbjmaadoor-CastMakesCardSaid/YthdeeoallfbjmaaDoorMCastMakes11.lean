/- What the Go functions that the statement CastMakes reaches compute, and the mathematics on it, in the order in which one leans on the other; for every input. -/
import Derived.Test.YthdeeoallfbjmaaDoorVCastMakes1
import Derived.Test.YthdeeoallfbjmaaDoorMCastMakes0
import Derived.Test.YthdeeoallfbjmaaDoorMCastMakes7
import Derived.Test.YthdeeoallfbjmaaDoorMCastMakes3
import Derived.Test.YthdeeoallfbjmaaDoorMCastMakes10
import Derived.Test.YthdeeoallfbjmaaDoorMCastMakes5
import Derived.Test.YthdeeoallfbjmaaDoorMCastMakes6
import Derived.Test.YthdeeoallfbjmaaDoorMCastMakes2
import Derived.Test.YthdeeoallfbjmaaDoorMCastMakes1
import Derived.Test.YthdeeoallfbjmaaDoorMCastMakes8
import Derived.Test.YthdeeoallfbjmaaDoorMCastMakes4
import Derived.Test.YthdeeoallfbjmaaDoorMCastMakes9
import Derived.Test.YthdeeoallfbjmaaDoorRows
import Derived.ProofKit
import Derived.JoinedOf
import Derived.KernelRfl
namespace Go.Proofs.YthdeeoallfbjmaaDoor.PA
open Go.RowKit Go.Proofs.YthdeeoallfbjmaaDoorW.PrintWords Go.Proofs.YthdeeoallfbjmaaDoorW.PrintLast Go.Proofs.YthdeeoallfbjmaaDoorW.PrintMore
attribute [local go_sem] max2_int min2_int max_two min_two max_three min_three max_four min_four   -- for this text's walks alone
set_option linter.unusedVariables false
set_option linter.unusedSimpArgs false
set_option maxHeartbeats 8000000
set_option maxRecDepth 100000
def L11_CastMakes.j0 : Nat → Int → Int → Int → Int → Int → Bool → Bool → Bool → Option (Bool)
 | 0, _, _, _, _, _, _, _, _ => none
 | k + 1, x0, x1, x2, x7, x8, x9, x10, x36 => if x36 = true then (if x7 = 0 then (if x8 = 0 then (if x9 = true then (some false) else (some (!x10))) else (some false)) else (some false)) else ((trunnionref11_Make.f k x0 x1 x2 false).bind fun t596 => (if x7 = t596 then ((trunnionref11_Make.f k x0 x1 x2 true).bind fun t597 => (if x8 = t597 then ((trunnionref11_Exact.f k x0 x1 x2 false).bind fun t598 => (if (x9 == t598) = true then ((trunnionref11_Exact.f k x0 x1 x2 true).bind fun t599 => (some (x10 == t599))) else (some false))) else (some false))) else (some false)))
def L11_CastMakes.f (k : Nat) (a0 : Int) (a1 : Int) (a2 : Int) : Option (Bool) := (L11_awake.f k).bind fun t589 => (if t589 = true then ((cast_FromUint.f k a0 a1 a2).bind fun t590 => ((cast_FromInt.f k a0 a1 a2).bind fun t591 => ((cast_Exact.f k a0 a1 a2 false).bind fun t592 => ((cast_Exact.f k a0 a1 a2 true).bind fun t593 => ((r2_Known.f a0).bind fun t594 => (if t594 = true then ((r2_Known.f a1).bind fun t595 => (L11_CastMakes.j0 k a0 a1 a2 t590 t591 t592 t593 (!t595))) else (L11_CastMakes.j0 k a0 a1 a2 t590 t591 t592 t593 true))))))) else (some false))
theorem L11_CastMakes.mono_l : ∀ k, (∀ y0 y1 y2 y3 y4 y5 y6 y7, LeO (L11_CastMakes.j0 k y0 y1 y2 y3 y4 y5 y6 y7) (L11_CastMakes.j0 (k + 1) y0 y1 y2 y3 y4 y5 y6 y7))
 | 0 => fun _ _ _ _ _ _ _ _ r h => by simp [L11_CastMakes.j0] at h
 | k + 1 => by
  have ih0 := L11_CastMakes.mono_l k
  ·intro y0 y1 y2 y3 y4 y5 y6 y7
   unfold L11_CastMakes.j0
   repeat' first
   | (with_reducible exact ih0 _ _ _ _ _ _ _ _)
   | (with_reducible exact cast_Exact.mono _ _ _ _ _)
   | (with_reducible exact cast_FromInt.mono _ _ _ _)
   | (with_reducible exact cast_FromUint.mono _ _ _ _)
   | (with_reducible exact L11_awake.mono _)
   | (with_reducible exact trunnionref11_Exact.mono _ _ _ _ _)
   | (with_reducible exact trunnionref11_Make.mono _ _ _ _ _)
   | (with_reducible exact LeO.refl _)
   | (with_reducible exact LeO.none _)
   | (with_reducible refine LeO.ite ?_ ?_)
   | (with_reducible refine LeO.bind ?_ (fun _ => ?_))
   | exact ih0 _ _ _ _ _ _ _ _
   | exact cast_Exact.mono _ _ _ _ _
   | exact cast_FromInt.mono _ _ _ _
   | exact cast_FromUint.mono _ _ _ _
   | exact L11_awake.mono _
   | exact trunnionref11_Exact.mono _ _ _ _ _
   | exact trunnionref11_Make.mono _ _ _ _ _
   | exact LeO.none _
   | refine LeO.ite ?_ ?_
   | refine LeO.bind ?_ (fun _ => ?_)
theorem L11_CastMakes.mono : ∀ a0 a1 a2 k, LeO (L11_CastMakes.f k a0 a1 a2) (L11_CastMakes.f (k + 1) a0 a1 a2) := by
 intro a0 a1 a2 k
 have ih0 := L11_CastMakes.mono_l k
 unfold L11_CastMakes.f
 repeat' first
   | (with_reducible exact ih0 _ _ _ _ _ _ _ _)
   | (with_reducible exact cast_Exact.mono _ _ _ _ _)
   | (with_reducible exact cast_FromInt.mono _ _ _ _)
   | (with_reducible exact cast_FromUint.mono _ _ _ _)
   | (with_reducible exact L11_awake.mono _)
   | (with_reducible exact trunnionref11_Exact.mono _ _ _ _ _)
   | (with_reducible exact trunnionref11_Make.mono _ _ _ _ _)
   | (with_reducible exact LeO.refl _)
   | (with_reducible exact LeO.none _)
   | (with_reducible refine LeO.ite ?_ ?_)
   | (with_reducible refine LeO.bind ?_ (fun _ => ?_))
   | exact ih0 _ _ _ _ _ _ _ _
   | exact cast_Exact.mono _ _ _ _ _
   | exact cast_FromInt.mono _ _ _ _
   | exact cast_FromUint.mono _ _ _ _
   | exact L11_awake.mono _
   | exact trunnionref11_Exact.mono _ _ _ _ _
   | exact trunnionref11_Make.mono _ _ _ _ _
   | exact LeO.none _
   | refine LeO.ite ?_ ?_
   | refine LeO.bind ?_ (fun _ => ?_)
theorem L11_CastMakes.calls (k : Nat) (a0 : Int) (a1 : Int) (a2 : Int) (r : Bool) (w : World) (h : L11_CastMakes.f k a0 a1 a2 = some r) (hr_ : Aside0 (r = true)) (T_ : Aside0 (TT w)) :
  Calls Tryd.prog 5 #[.int .i64 a0, .int .i64 a1, .int .u64 a2] w fun e w' => e = .returned (.bool r) ∧ Below w.heap.size w w' := by
 have HB := A_ (Below.refl w.heap.size w)
 have H : ((L11_awake.f k).bind fun t589 => (if t589 = true then ((cast_FromUint.f k a0 a1 a2).bind fun t590 => ((cast_FromInt.f k a0 a1 a2).bind fun t591 => ((cast_Exact.f k a0 a1 a2 false).bind fun t592 => ((cast_Exact.f k a0 a1 a2 true).bind fun t593 => ((r2_Known.f a0).bind fun t594 => (if t594 = true then ((r2_Known.f a1).bind fun t595 => (L11_CastMakes.j0 k a0 a1 a2 t590 t591 t592 t593 (!t595))) else (L11_CastMakes.j0 k a0 a1 a2 t590 t591 t592 t593 true))))))) else (some false))) = some r := h
 clear h
 replace H := ob_ H
 obtain ⟨t589, A40, H⟩ := H
 replace H : (if t589 = true then ((cast_FromUint.f k a0 a1 a2).bind fun t590 => ((cast_FromInt.f k a0 a1 a2).bind fun t591 => ((cast_Exact.f k a0 a1 a2 false).bind fun t592 => ((cast_Exact.f k a0 a1 a2 true).bind fun t593 => ((r2_Known.f a0).bind fun t594 => (if t594 = true then ((r2_Known.f a1).bind fun t595 => (L11_CastMakes.j0 k a0 a1 a2 t590 t591 t592 t593 (!t595))) else (L11_CastMakes.j0 k a0 a1 a2 t590 t591 t592 t593 true))))))) else (some false)) = some r := H
 have A4 := A_ A40;clear A40
 by_cases c5 : t589 = true
 ·subst c5
  have H1 : ((cast_FromUint.f k a0 a1 a2).bind fun t590 => ((cast_FromInt.f k a0 a1 a2).bind fun t591 => ((cast_Exact.f k a0 a1 a2 false).bind fun t592 => ((cast_Exact.f k a0 a1 a2 true).bind fun t593 => ((r2_Known.f a0).bind fun t594 => (if t594 = true then ((r2_Known.f a1).bind fun t595 => (L11_CastMakes.j0 k a0 a1 a2 t590 t591 t592 t593 (!t595))) else (L11_CastMakes.j0 k a0 a1 a2 t590 t591 t592 t593 true))))))) = some r := by rw [if_pos rfl] at H; exact H
  clear H;have H := H1;clear H1
  replace H := ob_ H
  obtain ⟨t590, A60, H⟩ := H
  replace H : ((cast_FromInt.f k a0 a1 a2).bind fun t591 => ((cast_Exact.f k a0 a1 a2 false).bind fun t592 => ((cast_Exact.f k a0 a1 a2 true).bind fun t593 => ((r2_Known.f a0).bind fun t594 => (if t594 = true then ((r2_Known.f a1).bind fun t595 => (L11_CastMakes.j0 k a0 a1 a2 t590 t591 t592 t593 (!t595))) else (L11_CastMakes.j0 k a0 a1 a2 t590 t591 t592 t593 true)))))) = some r := H
  have A6 := A_ A60;clear A60
  replace H := ob_ H
  obtain ⟨t591, A70, H⟩ := H
  replace H : ((cast_Exact.f k a0 a1 a2 false).bind fun t592 => ((cast_Exact.f k a0 a1 a2 true).bind fun t593 => ((r2_Known.f a0).bind fun t594 => (if t594 = true then ((r2_Known.f a1).bind fun t595 => (L11_CastMakes.j0 k a0 a1 a2 t590 t591 t592 t593 (!t595))) else (L11_CastMakes.j0 k a0 a1 a2 t590 t591 t592 t593 true))))) = some r := H
  have A7 := A_ A70;clear A70
  replace H := ob_ H
  obtain ⟨t592, A80, H⟩ := H
  replace H : ((cast_Exact.f k a0 a1 a2 true).bind fun t593 => ((r2_Known.f a0).bind fun t594 => (if t594 = true then ((r2_Known.f a1).bind fun t595 => (L11_CastMakes.j0 k a0 a1 a2 t590 t591 t592 t593 (!t595))) else (L11_CastMakes.j0 k a0 a1 a2 t590 t591 t592 t593 true)))) = some r := H
  have A8 := A_ A80;clear A80
  replace H := ob_ H
  obtain ⟨t593, A90, H⟩ := H
  replace H : ((r2_Known.f a0).bind fun t594 => (if t594 = true then ((r2_Known.f a1).bind fun t595 => (L11_CastMakes.j0 k a0 a1 a2 t590 t591 t592 t593 (!t595))) else (L11_CastMakes.j0 k a0 a1 a2 t590 t591 t592 t593 true))) = some r := H
  have A9 := A_ A90;clear A90;have HC10 := A_ H;clear H
  go_enter Tryd.func5, Tryd.ntmps5
  go_upto_region 5 with (first | ((with_reducible refine gate_callee (f := 24) rfl ?_); refine goesL_ (some 11) rfl rfl Tryd.func24 (by kernel_rfl) rfl #[] rfl mp_ ?_; (with_reducible refine (L11_awake.calls k  true _ A4.out).mono ?_); rintro e w11 ⟨rfl, hb⟩; refine ⟨_, rfl, ?_⟩; replace HB := A_ (below_step (hb_ HB.out) hb); (try clear hb); (try clear hb2); (try clear hk); (try clear hi)) | ((with_reducible refine gate_callee (f := 25) rfl ?_); refine goesL_ (some 16) rfl rfl Tryd.func25 (by kernel_rfl) rfl #[.int .i64 a0, .int .i64 a1, .int .u64 a2] rfl mp_ ?_; (with_reducible refine (cast_FromUint.calls k a0 a1 a2 t590 _ A6.out).mono ?_); rintro e w12 ⟨rfl, hb⟩; refine ⟨_, rfl, ?_⟩; replace HB := A_ (below_step (hb_ HB.out) hb); (try clear hb); (try clear hb2); (try clear hk); (try clear hi)) | ((with_reducible refine gate_callee (f := 26) rfl ?_); refine goesL_ (some 20) rfl rfl Tryd.func26 (by kernel_rfl) rfl #[.int .i64 a0, .int .i64 a1, .int .u64 a2] rfl mp_ ?_; (with_reducible refine (cast_FromInt.calls k a0 a1 a2 t591 _ A7.out).mono ?_); rintro e w13 ⟨rfl, hb⟩; refine ⟨_, rfl, ?_⟩; replace HB := A_ (below_step (hb_ HB.out) hb); (try clear hb); (try clear hb2); (try clear hk); (try clear hi)) | ((with_reducible refine gate_callee (f := 27) rfl ?_); refine goesL_ (some 24) rfl rfl Tryd.func27 (by kernel_rfl) rfl #[.int .i64 a0, .int .i64 a1, .int .u64 a2, .bool false] rfl mp_ ?_; (refine (cast_Exact.calls k a0 a1 a2 false t592 _ A8.out (TT.go (hb_ HB.out) T_)).mono ?_); rintro e w14 ⟨rfl, hb⟩; refine ⟨_, rfl, ?_⟩; replace HB := A_ (below_step (hb_ HB.out) hb); (try clear hb); (try clear hb2); (try clear hk); (try clear hi)) | ((with_reducible refine gate_callee (f := 27) rfl ?_); refine goesL_ (some 28) rfl rfl Tryd.func27 (by kernel_rfl) rfl #[.int .i64 a0, .int .i64 a1, .int .u64 a2, .bool true] rfl mp_ ?_; (refine (cast_Exact.calls k a0 a1 a2 true t593 _ A9.out (TT.go (hb_ HB.out) T_)).mono ?_); rintro e w15 ⟨rfl, hb⟩; refine ⟨_, rfl, ?_⟩; replace HB := A_ (below_step (hb_ HB.out) hb); (try clear hb); (try clear hb2); (try clear hk); (try clear hi)))
  (try simp only [Act.put, lI_, l0_, lS_])
  go_cut [36] (fun v36 wc => ∃ (kq : Nat) (x36_9 : Bool), v36 = .bool x36_9 ∧ Aside0 (L11_CastMakes.j0 kq a0 a1 a2 t590 t591 t592 t593 x36_9 = some r) ∧ Aside0 (kq ≤ k) ∧ Aside0 (Below w.heap.size w wc))
  case first =>
   have H := HC10.out
   clear HC10
   replace H := ob_ H
   obtain ⟨t594, A160, H⟩ := H
   replace H : (if t594 = true then ((r2_Known.f a1).bind fun t595 => (L11_CastMakes.j0 k a0 a1 a2 t590 t591 t592 t593 (!t595))) else (L11_CastMakes.j0 k a0 a1 a2 t590 t591 t592 t593 true)) = some r := H
   have A16 := A_ A160;clear A160
   by_cases c17 : t594 = true
   ·subst c17
    have H1 : ((r2_Known.f a1).bind fun t595 => (L11_CastMakes.j0 k a0 a1 a2 t590 t591 t592 t593 (!t595))) = some r := by rw [if_pos rfl] at H; exact H
    clear H;have H := H1;clear H1
    replace H := ob_ H
    obtain ⟨t595, A180, H⟩ := H
    replace H : (L11_CastMakes.j0 k a0 a1 a2 t590 t591 t592 t593 (!t595)) = some r := H
    have A18 := A_ A180;clear A180
    have H' := A_ H
    clear H
    go_wp2_with (first | ((with_reducible refine gate_callee (f := 18) rfl ?_); refine goesL_ (some 30) rfl rfl Tryd.func18 (by kernel_rfl) rfl #[.int .i64 a0] rfl mp_ ?_; (with_reducible refine (r2_Known.calls a0 true _ A16.out).mono ?_); rintro e w' ⟨rfl, ⟨nd, rfl⟩⟩; refine ⟨_, rfl, ?_⟩) | (go_at_call 18; (with_reducible refine (r2_Known.calls a1 t595 _ A18.out).mono ?_); rintro e w' ⟨rfl, ⟨nd, rfl⟩⟩))
    go_meet
    case rel => exact ⟨_, (!t595), sm_, H', ⟨by first | omega | exact Nat.le_refl _⟩, ⟨hb_ HB.out⟩⟩
   ·replace c17 := Bool.eq_false_iff.mpr c17
    subst c17
    have H1 : (L11_CastMakes.j0 k a0 a1 a2 t590 t591 t592 t593 true) = some r := by rw [if_neg (show ¬ (false = true) by decide)] at H; exact H
    clear H;have H := H1;clear H1
    have H' := A_ H
    clear H
    go_wp2_with (first | ((with_reducible refine gate_callee (f := 18) rfl ?_); refine goesL_ (some 30) rfl rfl Tryd.func18 (by kernel_rfl) rfl #[.int .i64 a0] rfl mp_ ?_; (with_reducible refine (r2_Known.calls a0 false _ A16.out).mono ?_); rintro e w' ⟨rfl, ⟨nd, rfl⟩⟩; refine ⟨_, rfl, ?_⟩))
    go_meet
    case rel => exact ⟨_, (true), sm_, H', ⟨by first | omega | exact Nat.le_refl _⟩, ⟨hb_ HB.out⟩⟩
  case rest =>
   clear HC10
   try clear c1
   try clear c2
   try clear p2
   try clear c5
   try clear c17
   try clear c18
   obtain ⟨kq, x36_9, rfl, HA, HJ9, HB⟩ := hcut
   cases kq with
   | zero => exact absurd HA.out (by simp [L11_CastMakes.j0])
   | succ kj9 =>
    have H := HA.out
    clear HA
    simp only [L11_CastMakes.j0] at H
    by_cases c19 : x36_9 = true
    ·subst c19
     have H1 : (if t590 = 0 then (if t591 = 0 then (if t592 = true then (some false) else (some (!t593))) else (some false)) else (some false)) = some r := by rw [if_pos rfl] at H; exact H
     clear H;have H := H1;clear H1
     by_cases c20 : t590 = 0
     ·rw [if_pos c20] at H
      have c20b0 : (t590 == 0) = true := beq_iff_eq.mpr c20
      have c20b1 : (t590 != 0) = false := bne_eq_false_iff_eq.mpr c20
      clear c20
      by_cases c21 : t591 = 0
      ·rw [if_pos c21] at H
       have c21b0 : (t591 == 0) = true := beq_iff_eq.mpr c21
       have c21b1 : (t591 != 0) = false := bne_eq_false_iff_eq.mpr c21
       clear c21
       by_cases c22 : t592 = true
       ·subst c22
        have H1 : (some false) = some r := by rw [if_pos rfl] at H; exact H
        clear H;have H := H1;clear H1
        exact absurd ((Option.some.inj H).trans hr_.out) (by decide)
       ·replace c22 := Bool.eq_false_iff.mpr c22
        subst c22
        have H1 : (some (!t593)) = some r := by rw [if_neg (show ¬ (false = true) by decide)] at H; exact H
        clear H;have H := H1;clear H1
        obtain rfl := Option.some.inj H
        go_wp2
        go_ret
        exact ⟨er_, hb_ HB.out⟩
      ·rw [if_neg c21] at H
       have c21b0 : (t591 == 0) = false := beq_eq_false_iff_ne.mpr c21
       have c21b1 : (t591 != 0) = true := bne_iff_ne.mpr c21
       exact absurd ((Option.some.inj H).trans hr_.out) (by decide)
     ·rw [if_neg c20] at H
      have c20b0 : (t590 == 0) = false := beq_eq_false_iff_ne.mpr c20
      have c20b1 : (t590 != 0) = true := bne_iff_ne.mpr c20
      exact absurd ((Option.some.inj H).trans hr_.out) (by decide)
    ·replace c19 := Bool.eq_false_iff.mpr c19
     subst c19
     have H1 : ((trunnionref11_Make.f kj9 a0 a1 a2 false).bind fun t596 => (if t590 = t596 then ((trunnionref11_Make.f kj9 a0 a1 a2 true).bind fun t597 => (if t591 = t597 then ((trunnionref11_Exact.f kj9 a0 a1 a2 false).bind fun t598 => (if (t592 == t598) = true then ((trunnionref11_Exact.f kj9 a0 a1 a2 true).bind fun t599 => (some (t593 == t599))) else (some false))) else (some false))) else (some false))) = some r := by rw [if_neg (show ¬ (false = true) by decide)] at H; exact H
     clear H;have H := H1;clear H1
     replace H := ob_ H
     obtain ⟨t596, A230, H⟩ := H
     replace H : (if t590 = t596 then ((trunnionref11_Make.f kj9 a0 a1 a2 true).bind fun t597 => (if t591 = t597 then ((trunnionref11_Exact.f kj9 a0 a1 a2 false).bind fun t598 => (if (t592 == t598) = true then ((trunnionref11_Exact.f kj9 a0 a1 a2 true).bind fun t599 => (some (t593 == t599))) else (some false))) else (some false))) else (some false)) = some r := H
     have A23 := A_ A230;clear A230
     by_cases c24 : t590 = t596
     ·rw [if_pos c24] at H
      have c24b0 : (t590 == t596) = true := beq_iff_eq.mpr c24
      have c24b1 : (t590 != t596) = false := bne_eq_false_iff_eq.mpr c24
      clear c24
      replace H := ob_ H
      obtain ⟨t597, A250, H⟩ := H
      replace H : (if t591 = t597 then ((trunnionref11_Exact.f kj9 a0 a1 a2 false).bind fun t598 => (if (t592 == t598) = true then ((trunnionref11_Exact.f kj9 a0 a1 a2 true).bind fun t599 => (some (t593 == t599))) else (some false))) else (some false)) = some r := H
      have A25 := A_ A250;clear A250
      by_cases c26 : t591 = t597
      ·rw [if_pos c26] at H
       have c26b0 : (t591 == t597) = true := beq_iff_eq.mpr c26
       have c26b1 : (t591 != t597) = false := bne_eq_false_iff_eq.mpr c26
       clear c26
       replace H := ob_ H
       obtain ⟨t598, A270, H⟩ := H
       replace H : (if (t592 == t598) = true then ((trunnionref11_Exact.f kj9 a0 a1 a2 true).bind fun t599 => (some (t593 == t599))) else (some false)) = some r := H
       have A27 := A_ A270;clear A270
       by_cases c28 : (t592 == t598) = true
       ·rw [if_pos c28] at H
        have c28b0 : (t592 == t598) = true := c28
        (try (have c28b1 : decide (t592 = t598) = true := by simpa using c28))
        (try (have c28b2 : (t592 == t598) = true := by simpa using c28))
        clear c28
        replace H := ob_ H
        obtain ⟨t599, A290, H⟩ := H
        replace H : (some (t593 == t599)) = some r := H
        have A29 := A_ A290;clear A290
        obtain rfl := Option.some.inj H
        go_wp2_with (first | ((with_reducible refine gate_callee (f := 28) rfl ?_); refine goesL_ (some 55) rfl rfl Tryd.func28 (by kernel_rfl) rfl #[.int .i64 a0, .int .i64 a1, .int .u64 a2, .bool false] rfl mp_ ?_; (with_reducible refine (trunnionref11_Make.calls kj9 a0 a1 a2 false t596 _ A23.out).mono ?_); rintro e w30 ⟨rfl, hb⟩; refine ⟨_, rfl, ?_⟩; replace HB := A_ (below_step (hb_ HB.out) hb); (try clear hb); (try clear hb2); (try clear hk); (try clear hi)) | (go_at_call 28; (with_reducible refine (trunnionref11_Make.calls kj9 a0 a1 a2 true t597 _ A25.out).mono ?_); rintro e w31 ⟨rfl, hb⟩; replace HB := A_ (below_step (hb_ HB.out) hb); (try clear hb); (try clear hb2); (try clear hk); (try clear hi)) | (go_at_call 29; (with_reducible refine (trunnionref11_Exact.calls kj9 a0 a1 a2 false t598 _ A27.out).mono ?_); rintro e w32 ⟨rfl, hb⟩; replace HB := A_ (below_step (hb_ HB.out) hb); (try clear hb); (try clear hb2); (try clear hk); (try clear hi)) | (go_at_call 29; (with_reducible refine (trunnionref11_Exact.calls kj9 a0 a1 a2 true t599 _ A29.out).mono ?_); rintro e w33 ⟨rfl, hb⟩; replace HB := A_ (below_step (hb_ HB.out) hb); (try clear hb); (try clear hb2); (try clear hk); (try clear hi)))
        go_ret
        exact ⟨er_, hb_ HB.out⟩
       ·rw [if_neg c28] at H
        have c28b0 : (t592 == t598) = false := by simpa using c28
        (try (have c28b1 : decide (t592 = t598) = false := by simpa using c28))
        (try (have c28b2 : (t592 == t598) = false := by simpa using c28))
        (try (have c28b3 : ¬ (t592 = t598) := by simpa using c28))
        clear c28
        exact absurd ((Option.some.inj H).trans hr_.out) (by decide)
      ·rw [if_neg c26] at H
       have c26b0 : (t591 == t597) = false := beq_eq_false_iff_ne.mpr c26
       have c26b1 : (t591 != t597) = true := bne_iff_ne.mpr c26
       exact absurd ((Option.some.inj H).trans hr_.out) (by decide)
     ·rw [if_neg c24] at H
      have c24b0 : (t590 == t596) = false := beq_eq_false_iff_ne.mpr c24
      have c24b1 : (t590 != t596) = true := bne_iff_ne.mpr c24
      exact absurd ((Option.some.inj H).trans hr_.out) (by decide)
 ·replace c5 := Bool.eq_false_iff.mpr c5
  subst c5
  have H1 : (some false) = some r := by rw [if_neg (show ¬ (false = true) by decide)] at H; exact H
  clear H;have H := H1;clear H1
  exact absurd ((Option.some.inj H).trans hr_.out) (by decide)
def L11_CastMakes.Pure : Prop := ∀ (a0 : Int) (a1 : Int) (a2 : Int), (Lit.int .i64 a0).wf = true → (Lit.int .i64 a1).wf = true → (Lit.int .u64 a2).wf = true → ∃ k, L11_CastMakes.f k a0 a1 a2 = some true
theorem L11_CastMakes.walk (P : L11_CastMakes.Pure) (a0 : Int) (a1 : Int) (a2 : Int) (w : World) (w0 : (Lit.int .i64 a0).wf = true) (w1 : (Lit.int .i64 a1).wf = true) (w2 : (Lit.int .u64 a2).wf = true) (T_ : Aside0 (TT w)) :
  Calls Tryd.prog 5 #[.int .i64 a0, .int .i64 a1, .int .u64 a2] w fun e w' => e = .returned (.bool true) ∧ Below w.heap.size w w' := by
 obtain ⟨k, h⟩ := P a0 a1 a2 w0 w1 w2
 refine (L11_CastMakes.calls k a0 a1 a2 true w h ⟨rfl⟩ T_).mono ?_
 rintro e w' ⟨rfl, hd⟩
 exact ⟨rfl, hd⟩
def ints_signed.f (a0 : Int) (a1 : Int) : Option (Int) := if a0 = 32 then (some (wrap64 (wrap32 ((a1) % 4294967296)))) else (some (wrap64 (a1)))
theorem ints_signed.calls (a0 : Int) (a1 : Int) (r : Int) (w : World) (h : ints_signed.f a0 a1 = some r) :
  Calls Tryd.prog 48 #[.int .i64 a0, .int .u64 a1] w fun e w' => e = .returned (.int .i64 r) ∧ Drawn0 w w' := by
 have H : (if a0 = 32 then (some (wrap64 (wrap32 ((a1) % 4294967296)))) else (some (wrap64 (a1)))) = some r := h
 clear h
 by_cases c3 : a0 = 32
 ·rw [if_pos c3] at H
  have c3b0 : (a0 == 32) = true := beq_iff_eq.mpr c3
  have c3b1 : (a0 != 32) = false := bne_eq_false_iff_eq.mpr c3
  clear c3
  obtain rfl := Option.some.inj H
  go_enter Tryd.func48, Tryd.ntmps48
  go_wp2
  go_ret
  exact ⟨sm_, by repeat (first | exact Drawn0.refl _ | apply Drawn0.step)⟩
 ·rw [if_neg c3] at H
  have c3b0 : (a0 == 32) = false := beq_eq_false_iff_ne.mpr c3
  have c3b1 : (a0 != 32) = true := bne_iff_ne.mpr c3
  obtain rfl := Option.some.inj H
  go_enter Tryd.func48, Tryd.ntmps48
  go_wp2
  go_ret
  exact ⟨sm_, by repeat (first | exact Drawn0.refl _ | apply Drawn0.step)⟩
end Go.Proofs.YthdeeoallfbjmaaDoor.PA
section
set_option linter.unusedVariables false
set_option linter.unusedSimpArgs false
namespace Go.Proofs.YthdeeoallfbjmaaDoor.Th
open Go.RowKit Go.Proofs.YthdeeoallfbjmaaDoorW.PrintWords Go.Proofs.YthdeeoallfbjmaaDoorW.PrintLast Go.Proofs.YthdeeoallfbjmaaDoorW.PrintMore Go.Proofs.YthdeeoallfbjmaaDoor.PA Bit Dig
def pw (w : Int) : Nat := if w = 32 then 4294967296 else 18446744073709551616
theorem cutP (w : Int) (hw : w = 32 ∨ w = 64) (a : Nat) (ha : a < 18446744073709551616) : cutN w a = a % pw w := by
  unfold cutN pw; rcases hw with rfl | rfl
  · rfl
  · rw [if_neg (by decide), if_pos rfl, if_neg (by decide)]; omega
theorem pw_64 (w : Int) : pw w ≤ 18446744073709551616 := by unfold pw; split <;> omega
theorem pw_0 (w : Int) : 0 < pw w := by unfold pw; split <;> decide
def vb : List Bool → Nat
  | [] => 0
  | b :: l => 2 * vb l + b.toNat
theorem getD_in {α : Type} (d : α) (l : List α) (i : Nat) (h : i < l.length) : l.getD i d = l[i] := by simp [List.getD, h]
def tb (c : Nat) (w n : Int) (rd inn : Bool) (i : Nat) : Bool := if 0 ≤ (i : Int) - n ∧ (i : Int) - n < w then c.testBit ((i : Int) - n).toNat else if rd then c.testBit (((i : Int) - n + w) % w).toNat else inn
def sgn (w : Int) (a : Nat) : Int := (a % pw w : Nat) - (if sgB w a then (pw w : Int) else 0)
theorem signedS (w : Int) (hw : w = 32 ∨ w = 64) (a : Nat) (ha : a < 18446744073709551616) : ints_signed.f w a = some (sgn w a) := by
  unfold ints_signed.f sgn sgB pw sb
  rcases hw with rfl | rfl
  · simp only [if_true, decide_eq_true_eq]
    rw [show wrap32 ((a : Int) % 4294967296) = if a / 2147483648 % 2 = 1 then ((a % 4294967296 : Nat) : Int) - 4294967296 else ((a % 4294967296 : Nat) : Int) by unfold wrap32; split <;> omega]
    congr 1
    split
    · rw [w64_id (by omega) (by omega)]; rfl
    · rw [w64_id (by omega) (by omega)]; omega
  · simp only [show ¬ ((64 : Int) = 32) by decide, if_false, decide_eq_true_eq]
    congr 1
    unfold wrap64
    split <;> omega
end Go.Proofs.YthdeeoallfbjmaaDoor.Th
end
set_option linter.unusedVariables false
namespace Pop
def ds (B : Nat) : Nat → Nat → Nat
  | 0, _ => 0
  | n + 1, x => x % B + ds B n (x / B)
def mk (B : Nat) : Nat → Nat
  | 0 => 0
  | n + 1 => (B - 1) + B * B * mk B n
theorem and_rec (k x m : Nat) : x &&& ((2 ^ k - 1) + 2 ^ k * 2 ^ k * m) = x % 2 ^ k + 2 ^ k * 2 ^ k * (x / (2 ^ k * 2 ^ k) &&& m) := by
  have h1 : 2 ^ k - 1 < 2 ^ (k + k) := by
    have a : 0 < 2 ^ k := Nat.pow_pos (by decide)
    have b : 2 ^ k ≤ 2 ^ (k + k) := Nat.pow_le_pow_right (by decide) (by omega)
    omega
  have h2 : x % 2 ^ k < 2 ^ (k + k) := by
    have a : x % 2 ^ k < 2 ^ k := Nat.mod_lt _ (Nat.pow_pos (by decide))
    have b : 2 ^ k ≤ 2 ^ (k + k) := Nat.pow_le_pow_right (by decide) (by omega)
    omega
  rw [← Nat.pow_add]
  refine Nat.eq_of_testBit_eq fun j => ?_
  rw [Nat.testBit_and, Nat.add_comm (2 ^ k - 1), Nat.add_comm (x % 2 ^ k), Nat.testBit_two_pow_mul_add _ h1, Nat.testBit_two_pow_mul_add _ h2]
  by_cases h : j < k + k
  · rw [if_pos h, if_pos h, Nat.testBit_two_pow_sub_one, Nat.testBit_mod_two_pow, Bool.and_comm]
  · rw [if_neg h, if_neg h, Nat.testBit_and, Nat.testBit_div_two_pow, show j - (k + k) + (k + k) = j by omega]
theorem div2 (B x : Nat) : x / B / B = x / (B * B) := Nat.div_div_eq_div_mul ..
theorem step (k : Nat) (hk : 0 < k) (n : Nat) : ∀ x, ds (2 ^ k * 2 ^ k) n ((x / 2 ^ k &&& mk (2 ^ k) n) + (x &&& mk (2 ^ k) n)) = ds (2 ^ k) (n + n) x := by
  have hB : 2 ≤ 2 ^ k := by
    have : 2 ^ 1 ≤ 2 ^ k := Nat.pow_le_pow_right (by decide) hk
    simpa using this
  induction n with
  | zero => intro x; rfl
  | succ n ih =>
    intro x
    have e1 := and_rec k x (mk (2 ^ k) n)
    have e2 := and_rec k (x / 2 ^ k) (mk (2 ^ k) n)
    have hh := ih (x / (2 ^ k * 2 ^ k))
    generalize hBd : 2 ^ k = B at *
    have e3 : x / B / (B * B) = x / (B * B) / B := by rw [Nat.div_div_eq_div_mul, Nat.div_div_eq_div_mul, Nat.mul_comm]
    rw [e3] at e2
    show (_ + _) % (B * B) + ds (B * B) n ((_ + _) / (B * B)) = _
    rw [show mk B (n + 1) = (B - 1) + B * B * mk B n from rfl, e1, e2]
    have l0 := Nat.mod_lt x (show 0 < B by omega)
    have l1 := Nat.mod_lt (x / B) (show 0 < B by omega)
    have hBB : B * 2 ≤ B * B := Nat.mul_le_mul_left B hB
    generalize (x / (B * B) / B &&& mk B n) = u at *
    generalize (x / (B * B) &&& mk B n) = v at *
    have e4 : x / B % B + B * B * u + (x % B + B * B * v) = B * B * (u + v) + (x / B % B + x % B) := by rw [Nat.mul_add]; omega
    rw [e4, Nat.mul_add_mod, Nat.mul_add_div (by omega), Nat.mod_eq_of_lt (by omega), Nat.div_eq_of_lt (a := x / B % B + x % B) (by omega), Nat.add_zero, hh]
    rw [show n + 1 + (n + 1) = (n + n) + 1 + 1 by omega]
    show _ = x % B + (x / B % B + ds B (n + n) (x / B / B))
    rw [div2]; omega
def le (B c : Nat) : Nat → Nat → Prop
  | 0, _ => True
  | n + 1, x => x % B ≤ c ∧ le B c n (x / B)
end Pop
section
set_option linter.unusedVariables false
set_option linter.unusedSimpArgs false
namespace Go.Proofs.YthdeeoallfbjmaaDoor.Th
open Go.RowKit Go.Proofs.YthdeeoallfbjmaaDoorW.PrintWords Go.Proofs.YthdeeoallfbjmaaDoorW.PrintLast Go.Proofs.YthdeeoallfbjmaaDoorW.PrintMore Go.Proofs.YthdeeoallfbjmaaDoor.PA Bit Dig
theorem ctz_le (c : Nat) (hc : c < 18446744073709551616) : Lib.ctz 64 c ≤ 64 := by
  unfold Lib.ctz
  split
  · exact Nat.le_refl _
  · rename_i h
    obtain ⟨m, _, h2⟩ := Lib.ctzFrom_spec 64 c (by omega) (by simpa using hc)
    omega
theorem ctz_spec (w : Int) (hw : w = 32 ∨ w = 64) (c : Nat) (hc : c < pw w) (h0 : 0 < c) : ∃ m, c = 2 ^ Lib.ctz 64 c * (2 * m + 1) ∧ Lib.ctz 64 c < bl c := by
  have h64 := pw_64 w
  obtain ⟨m, h1, h2⟩ := Lib.ctzFrom_spec 64 c h0 (by have : c < 18446744073709551616 := by omega
                                                     simpa using this)
  have e : Lib.ctz 64 c = Lib.ctzFrom 64 c := by unfold Lib.ctz; rw [if_neg (by omega)]
  refine ⟨m, by rw [e]; exact h1, ?_⟩
  rw [e]
  rcases Nat.lt_or_ge (Lib.ctzFrom 64 c) (bl c) with h | h
  · exact h
  · exfalso
    have k := bl_le.1 h
    have : 2 ^ Lib.ctzFrom 64 c ≤ 2 ^ Lib.ctzFrom 64 c * (2 * m + 1) := Nat.le_mul_of_pos_right _ (by omega)
    omega
def mg (w : Int) (a : Nat) : Nat := if sgB w a then pw w - a % pw w else a % pw w
theorem sgn_mg (w : Int) (a : Nat) : sgn w a = if sgB w a then -((mg w a : Nat) : Int) else ((mg w a : Nat) : Int) := by
  unfold sgn mg
  have := Nat.mod_lt a (pw_0 w)
  cases sgB w a
  · simp
  · simp only [if_true]; omega
theorem mg_bd (w : Int) (hw : w = 32 ∨ w = 64) (a : Nat) : mg w a ≤ sb w ∧ (sgB w a = false → mg w a < sb w) ∧ (sgB w a = true → 0 < mg w a) ∧ pw w = 2 * sb w := by
  rcases hw with rfl | rfl
  · simp only [mg, sgB, pw, sb, if_true]
    by_cases h : a / 2147483648 % 2 = 1
    · simp only [h, decide_true, if_true]; exact ⟨by omega, (fun h => by cases h), (fun _ => by omega), by first | trivial | omega⟩
    · simp only [h, decide_false, if_neg (show ¬ (false = true) by decide)]; exact ⟨by omega, (fun _ => by omega), (fun h => by cases h), by first | trivial | omega⟩
  · simp only [mg, sgB, pw, sb, show ¬ ((64 : Int) = 32) by decide, if_false]
    by_cases h : a / 9223372036854775808 % 2 = 1
    · simp only [h, decide_true, if_true]; exact ⟨by omega, (fun h => by cases h), (fun _ => by omega), by first | trivial | omega⟩
    · simp only [h, decide_false, if_neg (show ¬ (false = true) by decide)]; exact ⟨by omega, (fun _ => by omega), (fun h => by cases h), by first | trivial | omega⟩
theorem signed11 (w : Int) (hw : w = 32 ∨ w = 64) (a : Nat) (ha : a < 18446744073709551616) : Ev (fun k => trunnionref11_Signed.f k w a) (sgB w a, ((mg w a : Nat) : Int)) := by
  unfold trunnionref11_Signed.f
  refine Ev.bs (r2Cut w a hw) (Ev.bind (twoS w hw) ?_)
  rw [cutP w hw a ha]
  rcases hw with rfl | rfl
  · simp only [mg, sgB, pw, sb, if_true]
    by_cases h : a / 2147483648 % 2 = 1
    · refine Ev.neg (by omega) (Ev.out ?_)
      simp only [h, decide_true, if_true]
      rw [u64_id (by omega) (by omega)]
      congr 1; omega
    · refine Ev.pos (by omega) (Ev.out ?_)
      simp only [h, decide_false]; simp
  · simp only [mg, sgB, pw, sb, show ¬ ((64 : Int) = 32) by decide, if_false]
    by_cases h : a / 9223372036854775808 % 2 = 1
    · refine Ev.neg (by omega) (Ev.out ?_)
      simp only [h, decide_true, if_true]
      rw [u64_id (n := 18446744073709551615 - ((a % 18446744073709551616 : Nat) : Int)) (by omega) (by omega), u64_id (by omega) (by omega)]
      congr 1; omega
    · refine Ev.pos (by omega) (Ev.out ?_)
      simp only [h, decide_false]; simp
theorem ctz_bits {c t m : Nat} (h : c = 2 ^ t * (2 * m + 1)) : (∀ i, i < t → c.testBit i = false) ∧ c.testBit t = true := by
  subst h
  constructor
  · intro i hi
    rw [Nat.testBit_eq_decide_div_mod_eq, show 2 ^ t * (2 * m + 1) = 2 ^ i * (2 * (2 ^ (t - i - 1) * (2 * m + 1))) by
      rw [show t = i + (1 + (t - i - 1)) by omega, Nat.pow_add, Nat.pow_add, show i + (1 + (t - i - 1)) - i - 1 = t - i - 1 by omega]; simp [Nat.mul_assoc], Nat.mul_div_cancel_left _ (Nat.pow_pos (by decide))]
    simp
  · rw [Nat.testBit_eq_decide_div_mod_eq, Nat.mul_div_cancel_left _ (Nat.pow_pos (by decide))]
    simp
end Go.Proofs.YthdeeoallfbjmaaDoor.Th
end
section
set_option linter.unusedVariables false
set_option linter.unusedSimpArgs false
namespace Go.Proofs.YthdeeoallfbjmaaDoor.Th
open Go.RowKit Go.Proofs.YthdeeoallfbjmaaDoorW.PrintWords Go.Proofs.YthdeeoallfbjmaaDoorW.PrintLast Go.Proofs.YthdeeoallfbjmaaDoorW.PrintMore Go.Proofs.YthdeeoallfbjmaaDoor.PA Bit Flo
theorem two_i {n : Int} (m : Nat) (h : n = m) (hm : m < 64) : Ev (fun k => r2_Two.f k n) ((2 ^ m : Nat) : Int) := by subst h; exact two_f m hm

theorem r2E32 : r2_E.f 32 = some 8 := by decide +kernel
theorem r2F32 : r2_F.f 32 = some 23 := by decide +kernel
theorem r2B32 : r2_B.f 32 = some 127 := by decide +kernel
theorem r2Tf32 : Ev (fun k => r2_Two.f k 23) ((8388608 : Nat) : Int) := by have h := two_i (n := 23) 23 rfl (by decide); rw [show (2 : Nat) ^ 23 = 8388608 by decide] at h; exact h
theorem r2Te32 : Ev (fun k => r2_Two.f k 8) ((256 : Nat) : Int) := by have h := two_i (n := 8) 8 rfl (by decide); rw [show (2 : Nat) ^ 8 = 256 by decide] at h; exact h
theorem r2Ts32 : Ev (fun k => r2_Two.f k (wrap64 (32 - 1))) ((2147483648 : Nat) : Int) := by have h := two_i (n := wrap64 (32 - 1)) 31 (by decide +kernel) (by decide); rw [show (2 : Nat) ^ 31 = 2147483648 by decide] at h; exact h
theorem r2Exp32 (a : Nat) (ha : a < 18446744073709551616) : Ev (fun k => r2_Exp.f k 32 a) ((a / 8388608 % 256 : Nat) : Int) := by
  unfold r2_Exp.f
  refine Ev.bs (r2Cut 32 a (by decide)) (Ev.bs r2F32 (Ev.bind r2Tf32 (Ev.neg (by decide) (Ev.bs r2E32 (Ev.bind r2Te32 (Ev.neg (by decide) (Ev.out ?_)))))))
  have hc : cutN 32 a = a % 4294967296 := by unfold cutN; rw [if_pos rfl]
  rw [hc, Int.tdiv_eq_ediv_of_nonneg (by omega), u64_id (by omega) (by omega), Int.tmod_eq_emod_of_nonneg (by omega), w64_id (by omega) (by omega)]
  omega
theorem r2Frac32 (a : Nat) (ha : a < 18446744073709551616) : Ev (fun k => r2_Frac.f k 32 a) ((a % 8388608 : Nat) : Int) := by
  unfold r2_Frac.f
  refine Ev.bs r2F32 (Ev.bind r2Tf32 (Ev.neg (by decide) (Ev.out ?_)))
  rw [Int.tmod_eq_emod_of_nonneg (by omega)]; omega
theorem r2Top32 : Ev (fun k => r2_Top.f k 32) ((255 : Nat) : Int) := by
  unfold r2_Top.f
  exact Ev.bs r2E32 (Ev.bind r2Te32 (Ev.out (by decide +kernel)))
theorem r2Make32 (s : Bool) (e fr : Nat) (he : e ≤ 255) (hf : fr < 8388608) : Ev (fun k => r2_Make.f k 32 s e fr) ((mkN 32 (e * 8388608 + fr) s : Nat) : Int) := by
  unfold r2_Make.f
  refine Ev.bs r2F32 (Ev.bind r2Tf32 ?_)
  rw [u64_id (n := (e : Int)) (by omega) (by omega), u64_id (n := (e : Int) * ((8388608 : Nat) : Int)) (by omega) (by omega), u64_id (n := (e : Int) * ((8388608 : Nat) : Int) + fr) (by omega) (by omega)]
  unfold mkN
  rw [show sb 32 = 2147483648 by decide]
  cases s
  · exact Ev.neg (by decide) (Ev.out (by simp))
  · refine Ev.pos rfl (Ev.bind r2Ts32 (Ev.out ?_))
    rw [u64_id (by omega) (by omega)]; simp only [if_true]; omega
theorem r2Inf32 (s : Bool) : Ev (fun k => r2_Inf.f k 32 s) ((mkN 32 f32.inf s : Nat) : Int) := by
  unfold r2_Inf.f
  have h := r2Make32 s 255 0 (by decide) (by decide)
  exact Ev.bind r2Top32 (Ev.bind h (Ev.out (by rw [inf32])))
theorem r2Open32 (a : Nat) (ha : a < 18446744073709551616) : Ev (fun k => r2_Open.f k 32 a) (opn 32 a) := by
  rw [opn32]
  unfold r2_Open.f
  refine Ev.bind (r2Exp32 a ha) (Ev.bind (r2Frac32 a ha) (Ev.bind (r2Neg 32 (by decide) a ha) (Ev.bind r2Top32 ?_)))
  unfold sgB
  rw [show sb 32 = 2147483648 by decide]
  have hP : a % 2147483648 % 8388608 = a % 8388608 := by omega
  have hQ : a % 2147483648 / 8388608 = a / 8388608 % 256 := by omega
  have hT : a / 8388608 % 256 < 256 := Nat.mod_lt _ (by decide)
  have hE : a % 2147483648 = a / 8388608 % 256 * 8388608 + a % 8388608 := by omega
  rw [hP, hQ, hE]
  generalize a / 8388608 % 256 = e at *
  have hF : a % 8388608 < 8388608 := Nat.mod_lt _ (by decide)
  generalize a % 8388608 = fr at *
  generalize decide (a / 2147483648 % 2 = 1) = s
  by_cases h1 : e = 255
  · subst h1
    refine Ev.pos rfl ?_
    by_cases h2 : fr = 0
    · subst h2
      refine Ev.pos rfl (Ev.out ?_)
      rw [if_neg (by omega), if_neg (by omega), if_pos (by omega)]
    · refine Ev.neg (by omega) (Ev.out ?_)
      rw [if_neg (by omega), if_neg (by omega), if_neg (by omega)]
  · refine Ev.neg (by omega) ?_
    by_cases h2 : e = 0
    · subst h2
      refine Ev.pos rfl ?_
      by_cases h3 : fr = 0
      · subst h3
        refine Ev.pos rfl (Ev.out ?_)
        rw [Nat.zero_mul, Nat.zero_add, if_pos rfl]
      · refine Ev.neg (by omega) (Ev.bs r2B32 (Ev.bs r2F32 (Ev.out ?_)))
        rw [if_neg (by omega), if_pos (by omega), if_pos (by omega), if_pos (by omega), show wrap64 (wrap64 (1 - 127) - 23) = (-149 : Int) by decide +kernel]
        simp
    · refine Ev.neg (by omega) (Ev.bs r2B32 (Ev.bs r2F32 (Ev.bs r2F32 (Ev.bind r2Tf32 (Ev.out ?_)))))
      rw [if_neg (by omega), if_pos (by omega), if_neg (by omega), if_neg (by omega)]
      rw [w64_id (n := ((e : Nat) : Int) - 127) (by omega) (by omega), w64_id (by omega) (by omega), u64_id (by omega) (by omega)]
      congr 2
      congr 1
      omega

theorem r2E64 : r2_E.f 64 = some 11 := by decide +kernel
theorem r2F64 : r2_F.f 64 = some 52 := by decide +kernel
theorem r2B64 : r2_B.f 64 = some 1023 := by decide +kernel
theorem r2Tf64 : Ev (fun k => r2_Two.f k 52) ((4503599627370496 : Nat) : Int) := by have h := two_i (n := 52) 52 rfl (by decide); rw [show (2 : Nat) ^ 52 = 4503599627370496 by decide] at h; exact h
theorem r2Te64 : Ev (fun k => r2_Two.f k 11) ((2048 : Nat) : Int) := by have h := two_i (n := 11) 11 rfl (by decide); rw [show (2 : Nat) ^ 11 = 2048 by decide] at h; exact h
theorem r2Ts64 : Ev (fun k => r2_Two.f k (wrap64 (64 - 1))) ((9223372036854775808 : Nat) : Int) := by have h := two_i (n := wrap64 (64 - 1)) 63 (by decide +kernel) (by decide); rw [show (2 : Nat) ^ 63 = 9223372036854775808 by decide] at h; exact h
theorem r2Exp64 (a : Nat) (ha : a < 18446744073709551616) : Ev (fun k => r2_Exp.f k 64 a) ((a / 4503599627370496 % 2048 : Nat) : Int) := by
  unfold r2_Exp.f
  refine Ev.bs (r2Cut 64 a (by decide)) (Ev.bs r2F64 (Ev.bind r2Tf64 (Ev.neg (by decide) (Ev.bs r2E64 (Ev.bind r2Te64 (Ev.neg (by decide) (Ev.out ?_)))))))
  have hc : cutN 64 a = a % 18446744073709551616 := by unfold cutN; rw [if_neg (by decide), if_pos rfl]; omega
  rw [hc, Int.tdiv_eq_ediv_of_nonneg (by omega), u64_id (by omega) (by omega), Int.tmod_eq_emod_of_nonneg (by omega), w64_id (by omega) (by omega)]
  omega
theorem r2Frac64 (a : Nat) (ha : a < 18446744073709551616) : Ev (fun k => r2_Frac.f k 64 a) ((a % 4503599627370496 : Nat) : Int) := by
  unfold r2_Frac.f
  refine Ev.bs r2F64 (Ev.bind r2Tf64 (Ev.neg (by decide) (Ev.out ?_)))
  rw [Int.tmod_eq_emod_of_nonneg (by omega)]; omega
theorem r2Top64 : Ev (fun k => r2_Top.f k 64) ((2047 : Nat) : Int) := by
  unfold r2_Top.f
  exact Ev.bs r2E64 (Ev.bind r2Te64 (Ev.out (by decide +kernel)))
theorem r2Make64 (s : Bool) (e fr : Nat) (he : e ≤ 2047) (hf : fr < 4503599627370496) : Ev (fun k => r2_Make.f k 64 s e fr) ((mkN 64 (e * 4503599627370496 + fr) s : Nat) : Int) := by
  unfold r2_Make.f
  refine Ev.bs r2F64 (Ev.bind r2Tf64 ?_)
  rw [u64_id (n := (e : Int)) (by omega) (by omega), u64_id (n := (e : Int) * ((4503599627370496 : Nat) : Int)) (by omega) (by omega), u64_id (n := (e : Int) * ((4503599627370496 : Nat) : Int) + fr) (by omega) (by omega)]
  unfold mkN
  rw [show sb 64 = 9223372036854775808 by decide]
  cases s
  · exact Ev.neg (by decide) (Ev.out (by simp))
  · refine Ev.pos rfl (Ev.bind r2Ts64 (Ev.out ?_))
    rw [u64_id (by omega) (by omega)]; simp only [if_true]; omega
theorem r2Inf64 (s : Bool) : Ev (fun k => r2_Inf.f k 64 s) ((mkN 64 f64.inf s : Nat) : Int) := by
  unfold r2_Inf.f
  have h := r2Make64 s 2047 0 (by decide) (by decide)
  exact Ev.bind r2Top64 (Ev.bind h (Ev.out (by rw [inf64])))
theorem r2Open64 (a : Nat) (ha : a < 18446744073709551616) : Ev (fun k => r2_Open.f k 64 a) (opn 64 a) := by
  rw [opn64]
  unfold r2_Open.f
  refine Ev.bind (r2Exp64 a ha) (Ev.bind (r2Frac64 a ha) (Ev.bind (r2Neg 64 (by decide) a ha) (Ev.bind r2Top64 ?_)))
  unfold sgB
  rw [show sb 64 = 9223372036854775808 by decide]
  have hP : a % 9223372036854775808 % 4503599627370496 = a % 4503599627370496 := by omega
  have hQ : a % 9223372036854775808 / 4503599627370496 = a / 4503599627370496 % 2048 := by omega
  have hT : a / 4503599627370496 % 2048 < 2048 := Nat.mod_lt _ (by decide)
  have hE : a % 9223372036854775808 = a / 4503599627370496 % 2048 * 4503599627370496 + a % 4503599627370496 := by omega
  rw [hP, hQ, hE]
  generalize a / 4503599627370496 % 2048 = e at *
  have hF : a % 4503599627370496 < 4503599627370496 := Nat.mod_lt _ (by decide)
  generalize a % 4503599627370496 = fr at *
  generalize decide (a / 9223372036854775808 % 2 = 1) = s
  by_cases h1 : e = 2047
  · subst h1
    refine Ev.pos rfl ?_
    by_cases h2 : fr = 0
    · subst h2
      refine Ev.pos rfl (Ev.out ?_)
      rw [if_neg (by omega), if_neg (by omega), if_pos (by omega)]
    · refine Ev.neg (by omega) (Ev.out ?_)
      rw [if_neg (by omega), if_neg (by omega), if_neg (by omega)]
  · refine Ev.neg (by omega) ?_
    by_cases h2 : e = 0
    · subst h2
      refine Ev.pos rfl ?_
      by_cases h3 : fr = 0
      · subst h3
        refine Ev.pos rfl (Ev.out ?_)
        rw [Nat.zero_mul, Nat.zero_add, if_pos rfl]
      · refine Ev.neg (by omega) (Ev.bs r2B64 (Ev.bs r2F64 (Ev.out ?_)))
        rw [if_neg (by omega), if_pos (by omega), if_pos (by omega), if_pos (by omega), show wrap64 (wrap64 (1 - 1023) - 52) = (-1074 : Int) by decide +kernel]
        simp
    · refine Ev.neg (by omega) (Ev.bs r2B64 (Ev.bs r2F64 (Ev.bs r2F64 (Ev.bind r2Tf64 (Ev.out ?_)))))
      rw [if_neg (by omega), if_pos (by omega), if_neg (by omega), if_neg (by omega)]
      rw [w64_id (n := ((e : Nat) : Int) - 1023) (by omega) (by omega), w64_id (by omega) (by omega), u64_id (by omega) (by omega)]
      congr 2
      congr 1
      omega
theorem r2Open (w : Int) (hw : w = 32 ∨ w = 64) (a : Nat) (ha : a < 18446744073709551616) : Ev (fun k => r2_Open.f k w a) (opn w a) := by
  rcases hw with rfl | rfl
  · exact r2Open32 a ha
  · exact r2Open64 a ha
theorem opn_mk (w : Int) (hw : w = 32 ∨ w = 64) (m : Nat) (s : Bool) (h : m < sb w) : opn w (mkN w m s) = if m = 0 then (s, 0, 0, 0) else if m < (fmt w).inf then (s, 1, (fmt w).ex m, ((fmt w).sg m : Int)) else if m = (fmt w).inf then (s, 2, 0, 0) else (false, 3, 0, 0) := by
  unfold opn; simp only [sg_mk w hw m s h, mag_mk w hw m s h]
end Go.Proofs.YthdeeoallfbjmaaDoor.Th
end
section
set_option linter.unusedVariables false
set_option linter.unusedSimpArgs false
namespace Go.Proofs.YthdeeoallfbjmaaDoor.Th
open Go.RowKit Go.Proofs.YthdeeoallfbjmaaDoorW.PrintWords Go.Proofs.YthdeeoallfbjmaaDoorW.PrintLast Go.Proofs.YthdeeoallfbjmaaDoorW.PrintMore Go.Proofs.YthdeeoallfbjmaaDoor.PA Bit Flo Dig
theorem inf_pos (w : Int) (hw : w = 32 ∨ w = 64) : 0 < (fmt w).inf := by rcases hw with rfl | rfl <;> decide
theorem kinds (w : Int) (hw : w = 32 ∨ w = 64) (a : Nat) : (magN w a = 0 ∧ opn w a = (sgB w a, 0, 0, 0)) ∨ (0 < magN w a ∧ magN w a < (fmt w).inf ∧ opn w a = (sgB w a, 1, (fmt w).ex (magN w a), ((fmt w).sg (magN w a) : Int))) ∨ (magN w a = (fmt w).inf ∧ opn w a = (sgB w a, 2, 0, 0)) ∨ ((fmt w).inf < magN w a ∧ opn w a = (false, 3, 0, 0)) := by
  have h0 := inf_pos w hw
  unfold opn; simp only
  by_cases h1 : magN w a = 0
  · left; rw [if_pos h1]; exact ⟨h1, rfl⟩
  · right; rw [if_neg h1]
    by_cases h2 : magN w a < (fmt w).inf
    · left; rw [if_pos h2]; exact ⟨by omega, h2, rfl⟩
    · right; rw [if_neg h2]
      by_cases h3 : magN w a = (fmt w).inf
      · left; rw [if_pos h3]; exact ⟨h3, rfl⟩
      · right; rw [if_neg h3]; exact ⟨by omega, rfl⟩
theorem ex_bd (w : Int) (hw : w = 32 ∨ w = 64) (m : Nat) (h : m < (fmt w).inf) : -1074 ≤ (fmt w).ex m ∧ (fmt w).ex m ≤ 971 := by
  rcases hw with rfl | rfl
  · rw [fmt32, inf32] at h; rw [fmt32, ex32]; split <;> omega
  · rw [fmt64, inf64] at h; rw [fmt64, ex64]; split <;> omega
theorem sg_64 (w : Int) (hw : w = 32 ∨ w = 64) (m : Nat) : (fmt w).sg m < 9007199254740992 := by
  have h := (fmt w).sg_lt m
  rcases hw with rfl | rfl
  · rw [fmt32] at h ⊢; rw [show (2 : Nat) ^ (f32.f + 1) = 16777216 by decide] at h; omega
  · rw [fmt64] at h ⊢; rw [show (2 : Nat) ^ (f64.f + 1) = 9007199254740992 by decide] at h; omega
end Go.Proofs.YthdeeoallfbjmaaDoor.Th
end
section
set_option linter.unusedVariables false
set_option linter.unusedSimpArgs false
namespace Go.Proofs.YthdeeoallfbjmaaDoor.Th
open Flo
theorem fmt_bd (w : Int) : (fmt w).f < 100 ∧ (-5000 < (fmt w).low ∧ (fmt w).low < 0) ∧ (fmt w).top < 5000 := by
  unfold fmt; split <;> decide
theorem fmt_f (w : Int) : (fmt w).f ≤ 52 := by unfold fmt; split <;> decide
theorem pk_ex (w : Int) (S : Nat) (e : Int) (hS : S < 340282366920938463463374607431768211456) : pkm (fmt w) S e false = (fmt w).rnd ((S : Rat) * tw e) := by
  have h := fmt_bd w
  rw [← pkx_f, pkm_rnd _ h.1 h.2.1 h.2.2 S e false hS]
end Go.Proofs.YthdeeoallfbjmaaDoor.Th
end
section
set_option linter.unusedVariables false
set_option linter.unusedSimpArgs false
namespace Go.Proofs.YthdeeoallfbjmaaDoor.Th
open Go.RowKit Go.Proofs.YthdeeoallfbjmaaDoorW.PrintWords Go.Proofs.YthdeeoallfbjmaaDoorW.PrintLast Go.Proofs.YthdeeoallfbjmaaDoorW.PrintMore Go.Proofs.YthdeeoallfbjmaaDoor.PA Dig

theorem one_dg : Ev (fun k => r1_Of.f k 1) (dg 1) := of_dg 1 (by decide)
theorem cmp_nonneg (m n : Nat) : cmpN m n ≥ 0 ↔ n ≤ m := by unfold cmpN; split <;> (try split) <;> omega
theorem div_loop (A n : Nat) (hn0 : 0 < n) (hA : bl A < 100000000) (hn : bl n < 100000000) (s : Nat) : ∀ (q m : Nat), s < 100000000 → q * n + m = A → m < n * 2 ^ s →
    Ev (fun k => r1_Div.l0 k ((s : Int) - 1) (dg n) (dg q) (dg m)) (dg (A / n), dg (A % n)) := by
  induction s with
  | zero =>
    intro q m _ he hm
    refine Ev.step (fun _ => r1_Div.l0.eq_2 ..) ?_
    refine Ev.neg (by omega) (Ev.out ?_)
    rw [Nat.pow_zero, Nat.mul_one] at hm
    have h1 : A / n = q := by rw [← he, Nat.mul_comm, Nat.mul_add_div hn0, Nat.div_eq_of_lt hm, Nat.add_zero]
    have h2 : A % n = m := by rw [← he, Nat.mul_comm, Nat.mul_add_mod, Nat.mod_eq_of_lt hm]
    rw [h1, h2]
  | succ s ih =>
    intro q m hs he hm
    have e1 : (((s + 1 : Nat) : Int) - 1) = ((s : Nat) : Int) := by omega
    rw [e1]
    have hm2 : m ≤ A := by omega
    have hq2 : q ≤ A := Nat.le_trans (Nat.le_mul_of_pos_right q hn0) (by omega)
    have b1 := bl_mono hm2
    have b2 := bl_mono hq2
    have b3 := bl_shl n s
    have hw : wrap64 ((s : Int) - 1) = (s : Int) - 1 := w64_id (by omega) (by omega)
    refine Ev.step (fun _ => r1_Div.l0.eq_2 ..) ?_
    rw [hw]
    refine Ev.pos (by omega) (Ev.bind (shl_bl n s (by omega) (by omega)) (Ev.bind (cmp_bl m (n * 2 ^ s) (by omega) (by omega)) ?_))
    by_cases h : n * 2 ^ s ≤ m
    · refine Ev.pos ((cmp_nonneg _ _).2 h) (Ev.bind (sub_bl m (n * 2 ^ s) h (by omega)) (Ev.bind one_dg (Ev.bind (shl_bl 1 s (by omega) (by decide)) ?_)))
      have h3 : 2 ^ s ≤ A := Nat.le_trans (Nat.le_mul_of_pos_left _ hn0) (Nat.le_trans h hm2)
      have b4 := bl_mono h3
      rw [Nat.one_mul]
      refine Ev.bind (add_bl q (2 ^ s) (by omega) (by omega)) (ih (q + 2 ^ s) (m - n * 2 ^ s) (by omega) ?_ ?_)
      · rw [Nat.add_mul, Nat.mul_comm (2 ^ s) n]; omega
      · rw [Nat.pow_succ, ← Nat.mul_assoc] at hm; omega
    · exact Ev.neg (fun h' => h ((cmp_nonneg _ _).1 h')) (ih q m (by omega) he (by omega))
theorem div_dg (a b : Nat) (hb : 0 < b) (ha1 : bl a < 100000000) (hb1 : bl b < 100000000) : Ev (fun k => r1_Div.f k (dg a) (dg b)) (dg (a / b), dg (a % b)) := by
  unfold r1_Div.f
  refine Ev.bind (len_dg a (by omega)) (Ev.bind (len_dg b (by omega)) ?_)
  rw [w64_id (by omega) (by omega)]
  by_cases h : bl b ≤ bl a
  · rw [show ((bl a : Nat) : Int) - ((bl b : Nat) : Int) = (((bl a - bl b + 1 : Nat) : Int) - 1) by omega, ← dg_zero]
    have h4 := bl_pos.2 hb
    refine div_loop a b hb ha1 hb1 (bl a - bl b + 1) 0 a (by omega) (by simp) ?_
    have h1 := lt_two_bl a
    have h2 := two_bl_le hb
    have h3 : 2 ^ (bl b - 1) * 2 ^ (bl a - bl b + 1) ≤ b * 2 ^ (bl a - bl b + 1) := Nat.mul_le_mul_right _ h2
    rw [← Nat.pow_add, show bl b - 1 + (bl a - bl b + 1) = bl a by omega] at h3
    omega
  · refine Ev.step (fun _ => r1_Div.l0.eq_2 ..) ?_
    have h1 : a < b := by
      rcases Nat.lt_or_ge a b with h1 | h1
      · exact h1
      · exact absurd (bl_mono h1) h
    refine Ev.neg (by omega) (Ev.out ?_)
    rw [Nat.div_eq_of_lt h1, Nat.mod_eq_of_lt h1, dg_zero]
theorem dg_len_pos (n : Nat) : decide (((dg n).length : Int) > 0) = decide (0 < n) := by
  have := len_pos (n := n)
  by_cases h : 0 < n
  · rw [decide_eq_true h, decide_eq_true (by omega)]
  · rw [decide_eq_false h, decide_eq_false (by omega)]
theorem half_dg (a n : Nat) (ha : bl a < 100000000) (hn : n < 90000000) : Ev (fun k => r1_Half.f k (dg a) n) (dg (a / 2 ^ n), decide (0 < a % 2 ^ n)) := by
  unfold r1_Half.f
  have h1 := bl_two n
  refine Ev.bind one_dg (Ev.bind (shl_bl 1 n (by omega) (by decide)) ?_)
  rw [Nat.one_mul]
  refine Ev.bind (div_dg a (2 ^ n) (Nat.pow_pos (by decide)) ha (by omega)) (Ev.out ?_)
  rw [dg_len_pos]
end Go.Proofs.YthdeeoallfbjmaaDoor.Th
end
section
set_option linter.unusedVariables false
set_option linter.unusedSimpArgs false
namespace Go.Proofs.YthdeeoallfbjmaaDoor.Th
open Go.RowKit Go.Proofs.YthdeeoallfbjmaaDoorW.PrintWords Go.Proofs.YthdeeoallfbjmaaDoorW.PrintLast Go.Proofs.YthdeeoallfbjmaaDoorW.PrintMore Go.Proofs.YthdeeoallfbjmaaDoor.PA Bit Dig Flo
theorem r2Fw (w : Int) (hw : w = 32 ∨ w = 64) : r2_F.f w = some (((fmt w).f : Nat) : Int) := by rcases hw with rfl | rfl <;> decide +kernel
theorem r3Low (w : Int) (hw : w = 32 ∨ w = 64) : r3_Low.f w = some (fmt w).low := by rcases hw with rfl | rfl <;> decide +kernel
theorem r2Topw (w : Int) (hw : w = 32 ∨ w = 64) : Ev (fun k => r2_Top.f k w) (((fmt w).top : Nat) : Int) := by rcases hw with rfl | rfl; exact r2Top32; exact r2Top64
theorem r2Tfw (w : Int) (hw : w = 32 ∨ w = 64) : Ev (fun k => r2_Two.f k (((fmt w).f : Nat) : Int)) ((2 ^ (fmt w).f : Nat) : Int) := two_f _ (by have := (fmt_f w); omega)
theorem r2Infw (w : Int) (hw : w = 32 ∨ w = 64) (s : Bool) : Ev (fun k => r2_Inf.f k w s) ((mkN w (fmt w).inf s : Nat) : Int) := by rcases hw with rfl | rfl; exact r2Inf32 s; exact r2Inf64 s
theorem r2Makew (w : Int) (hw : w = 32 ∨ w = 64) (s : Bool) (e fr : Nat) (he : e ≤ (fmt w).top) (hf : fr < 2 ^ (fmt w).f) : Ev (fun k => r2_Make.f k w s e fr) ((mkN w (e * 2 ^ (fmt w).f + fr) s : Nat) : Int) := by
  rcases hw with rfl | rfl
  · exact r2Make32 s e fr he hf
  · exact r2Make64 s e fr he hf
theorem len_zero (n : Nat) : ((dg n).length : Int) = 0 ↔ n = 0 := by
  have := @len_pos n
  omega
theorem quotS (a b : Nat) (hb : 0 < b) (ha1 : bl a < 10000000) (hb1 : bl b < 10000000) : Ev (fun k => r3_Quotient.f k (dg a) (dg b)) (dg (rne a b)) := by
  unfold r3_Quotient.f
  have hm : bl (a % b) ≤ bl a := bl_mono (Nat.mod_le _ _)
  have hq : bl (a / b) ≤ bl a := bl_mono (Nat.div_le_self _ _)
  have hs := bl_shl (a % b) 1
  refine Ev.bind (div_dg a b hb (by omega) (by omega)) (Ev.bind (shl_bl (a % b) 1 (by decide) (by omega)) ?_)
  rw [show a % b * 2 ^ 1 = 2 * (a % b) by omega] at *
  refine Ev.bind (cmp_bl _ b (by omega) (by omega)) ?_
  have yes : Ev (fun k => r3_Quotient.j0 k true (dg (a / b))) (dg (a / b + 1)) :=
    Ev.step (fun _ => r3_Quotient.j0.eq_2 ..) (Ev.pos rfl (Ev.bind (of_dg 1 (by decide)) (Ev.bind (add_bl (a / b) 1 (by omega) (by decide)) (Ev.out rfl))))
  have no : Ev (fun k => r3_Quotient.j0 k false (dg (a / b))) (dg (a / b)) :=
    Ev.step (fun _ => r3_Quotient.j0.eq_2 ..) (Ev.neg (by decide) (Ev.out rfl))
  unfold cmpN rne
  by_cases h1 : b < 2 * (a % b)
  · rw [if_neg (show ¬ 2 * (a % b) < b by omega), if_pos h1, if_pos (.inl h1)]
    exact Ev.pos (by decide) yes
  · by_cases h2 : 2 * (a % b) = b
    · rw [if_neg (show ¬ 2 * (a % b) < b by omega), if_neg h1]
      refine Ev.neg (by decide) (Ev.pos rfl (Ev.bs (uint_dg _) ?_))
      have e : (Int.tmod ((a / b % 18446744073709551616 : Nat) : Int) 2 == 1) = decide (a / b % 2 = 1) := by
        rw [Int.tmod_eq_emod_of_nonneg (by omega), Bool.eq_iff_iff]; simp; omega
      rw [e]
      by_cases h3 : a / b % 2 = 1
      · rw [decide_eq_true h3, if_pos (.inr ⟨h2, h3⟩)]; exact yes
      · rw [decide_eq_false h3, if_neg (by omega)]; exact no
    · rw [if_pos (show 2 * (a % b) < b by omega), if_neg (by omega)]
      exact Ev.neg (by decide) (Ev.neg (by decide) no)
theorem underS (a b : Nat) (s : Int) (ha1 : bl a < 1000000) (hb1 : bl b < 1000000) (hs : -1000000 < s ∧ s < 1000000) : Ev (fun k => r3_under.f k (dg a) (dg b) s) (decide ((a : Rat) * tw s < (b : Rat))) := by
  unfold r3_under.f
  have hc : ∀ m n : Nat, decide (cmpN m n < 0) = decide (m < n) := fun m n => by
    unfold cmpN
    by_cases h : m < n
    · rw [if_pos h, decide_eq_true h]; rfl
    · rw [if_neg h, decide_eq_false h]; split <;> rfl
  by_cases h : s ≥ 0
  · obtain ⟨n, rfl⟩ := Int.eq_ofNat_of_zero_le h
    have h2 := bl_shl a n
    refine Ev.pos h (Ev.bind (shl_bl a n (by omega) (by omega)) (Ev.bind (cmp_bl _ b (by omega) (by omega)) (Ev.out ?_)))
    rw [hc]
    refine decide_eq_decide.2 ?_
    rw [tw_nat, ← nat_lt]; push_cast; rfl
  · obtain ⟨n, hn⟩ := Int.eq_ofNat_of_zero_le (show 0 ≤ -s by omega)
    have h2 := bl_shl b n
    obtain rfl : s = -(n : Int) := by omega
    refine Ev.neg h ?_
    rw [w64_id (by omega) (by omega), Int.neg_neg]
    refine Ev.bind (shl_bl b n (by omega) (by omega)) (Ev.bind (cmp_bl a _ (by omega) (by omega)) (Ev.out ?_))
    rw [hc]
    refine decide_eq_decide.2 ?_
    have T := tw_pos (n : Int)
    have e1 : tw (-(n : Int)) * tw n = 1 := by rw [← tw_add, Int.add_left_neg, tw_zero]
    have e2 : ((b * 2 ^ n : Nat) : Rat) = (b : Rat) * tw n := by rw [tw_nat]; push_cast; rfl
    rw [← nat_lt, e2]
    constructor
    · intro h3
      refine lt_of_mul (t := tw n) ?_ T
      rw [Rat.mul_assoc, e1, Rat.mul_one]; exact h3
    · intro h3
      have := mul_lt h3 T
      rwa [Rat.mul_assoc, e1, Rat.mul_one] at this
theorem grainS (a b : Nat) (s : Int) (hb : 0 < b) (ha1 : bl a < 1000000) (hb1 : bl b < 1000000) (hs : -1000000 < s ∧ s < 1000000) : ∃ A B : Nat, 0 < B ∧ (∀ x : Rat, x * (b : Rat) = (a : Rat) * tw s → x * (B : Rat) = (A : Rat)) ∧ Ev (fun k => r3_grain.f k (dg a) (dg b) s) (dg (rne A B)) := by
  unfold r3_grain.f
  by_cases h : s ≥ 0
  · obtain ⟨n, rfl⟩ := Int.eq_ofNat_of_zero_le h
    have h2 := bl_shl a n
    refine ⟨a * 2 ^ n, b, hb, fun x hx => ?_, Ev.pos h (Ev.bind (shl_bl a n (by omega) (by omega)) (Ev.bind (quotS _ b hb (by omega) (by omega)) (Ev.out rfl)))⟩
    rw [hx, tw_nat]; push_cast; rfl
  · obtain ⟨n, hn⟩ := Int.eq_ofNat_of_zero_le (show 0 ≤ -s by omega)
    have h2 := bl_shl b n
    obtain rfl : s = -(n : Int) := by omega
    refine ⟨a, b * 2 ^ n, Nat.mul_pos hb (Nat.pow_pos (by decide)), fun x hx => ?_, ?_⟩
    · have e1 : tw (-(n : Int)) * tw n = 1 := by rw [← tw_add, Int.add_left_neg, tw_zero]
      have e2 : ((b * 2 ^ n : Nat) : Rat) = (b : Rat) * tw n := by rw [tw_nat]; push_cast; rfl
      rw [e2, ← Rat.mul_assoc, hx, Rat.mul_assoc, e1, Rat.mul_one]
    · refine Ev.neg h ?_
      rw [w64_id (by omega) (by omega), Int.neg_neg]
      exact Ev.bind (shl_bl b n (by omega) (by omega)) (Ev.bind (quotS a _ (Nat.mul_pos hb (Nat.pow_pos (by decide))) (by omega) (by omega)) (Ev.out rfl))
theorem finS (w : Int) (hw : w = 32 ∨ w = 64) (s : Bool) (q n : Nat) (hn : n < 2 ^ (fmt w).f * 2) (hl : 0 < q → 2 ^ (fmt w).f ≤ n) (hq : q < 1000000) :
    Ev (fun k => r3_Near.j2 k w s (((fmt w).f : Nat) : Int) ((q : Int) + (fmt w).low) (dg n)) ((mkN w (if (fmt w).top < q + 2 then (fmt w).inf else if n < 2 ^ (fmt w).f then n else (q + 1) * 2 ^ (fmt w).f + (n - 2 ^ (fmt w).f)) s : Nat) : Int) := by
  have hb := fmt_bd w
  have hp : 2 ^ (fmt w).f ≤ 4503599627370496 := by
    rw [show (4503599627370496 : Nat) = 2 ^ 52 by decide]; exact Nat.pow_le_pow_right (by decide) (fmt_f w)
  have ht := (fmt w).ht
  refine Ev.step (fun _ => r3_Near.j2.eq_2 ..) (Ev.bs (r3Low w hw) (Ev.bind (r2Topw w hw) ?_))
  rw [w64_id (n := (fmt w).low + ((fmt w).top : Int)) (by omega) (by omega), w64_id (by omega) (by omega)]
  by_cases c1 : (fmt w).top < q + 2
  · rw [if_pos c1]
    exact Ev.pos (by omega) (Ev.bind (r2Infw w hw s) (Ev.out rfl))
  · rw [if_neg c1]
    refine Ev.neg (by omega) (Ev.bs (uint_dg n) (Ev.bind (r2Tfw w hw) ?_))
    rw [Nat.mod_eq_of_lt (by omega)]
    by_cases c2 : n < 2 ^ (fmt w).f
    · rw [if_pos c2]
      have := r2Makew w hw s 0 n (Nat.zero_le _) c2
      rw [Nat.zero_mul, Nat.zero_add] at this
      exact Ev.pos (by exact_mod_cast c2) (Ev.bind this (Ev.out rfl))
    · rw [if_neg c2]
      have := r2Makew w hw s (q + 1) (n - 2 ^ (fmt w).f) (by omega) (by omega)
      refine Ev.neg (by intro k; exact c2 (by exact_mod_cast k)) (Ev.bs (r3Low w hw) (Ev.bind (r2Tfw w hw) ?_))
      rw [show (q : Int) + (fmt w).low - (fmt w).low = q by omega, w64_id (n := (q : Int)) (by omega) (by omega), w64_id (by omega) (by omega), u64_id (by omega) (by omega), show (n : Int) - ((2 ^ (fmt w).f : Nat) : Int) = ((n - 2 ^ (fmt w).f : Nat) : Int) by omega]
      exact Ev.bind this (Ev.out rfl)
theorem nearS (w : Int) (hw : w = 32 ∨ w = 64) (s : Bool) (a b : Nat) (kk : Int) (ha : 0 < a) (hb : 0 < b) (ha1 : bl a < 100000) (hb1 : bl b < 100000) (hk : -10000 < kk ∧ kk < 10000) (x : Rat) (hx : x * (b : Rat) = (a : Rat) * tw kk) :
    Ev (fun k => r3_Near.f k w s (dg a) (dg b) kk) ((mkN w ((fmt w).rnd x) s : Nat) : Int) := by
  have bd := fmt_bd w
  have hff := fmt_f w
  have h3 : ∀ n : Nat, 0 < n → 2 ^ bl n ≤ 2 * n := fun n h => by
    have h1 := two_bl_le h
    have h0 := bl_pos.2 h
    have : 2 ^ bl n = 2 ^ (bl n - 1) * 2 := by rw [← Nat.pow_succ]; congr 1; omega
    omega
  have mx_ : ∀ a b : Int, mx a b = max a b := fun a b => by unfold mx; split <;> omega
  unfold r3_Near.f
  refine Ev.bs (r2Fw w hw) (Ev.bind (len_dg a (by omega)) (Ev.bind (len_dg b (by omega)) (Ev.bs (r3Low w hw) (Ev.bs (r3Low w hw) ?_))))
  rw [w64_id (n := ((bl a : Nat) : Int) - ((bl b : Nat) : Int)) (by omega) (by omega), w64_id (n := ((bl a : Nat) : Int) - ((bl b : Nat) : Int) + kk) (by omega) (by omega), w64_id (by omega) (by omega), mx_]
  obtain ⟨q0, hq0⟩ : ∃ q0, max ((bl a : Int) - bl b + kk - (fmt w).f) (fmt w).low = q0 := ⟨_, rfl⟩
  rw [hq0]
  have hqb : (fmt w).low ≤ q0 ∧ q0 < 200000 := by omega
  have hB' : (0 : Rat) < (b : Rat) := by exact_mod_cast hb
  -- the test
  have hunder : Ev (fun k => r3_under.f k (dg a) (dg b) (kk - q0 - (fmt w).f)) (decide (x < tw (q0 + (fmt w).f))) := by
    have := underS a b (kk - q0 - (fmt w).f) (by omega) (by omega) (by omega)
    have e : decide ((a : Rat) * tw (kk - q0 - (fmt w).f) < (b : Rat)) = decide (x < tw (q0 + (fmt w).f)) := by
      refine decide_eq_decide.2 ?_
      have T := tw_pos (q0 + (fmt w).f)
      have e1 : tw kk = tw (kk - q0 - (fmt w).f) * tw (q0 + (fmt w).f) := by rw [← tw_add]; congr 1; omega
      constructor
      · intro h
        have := mul_lt h T
        rw [Rat.mul_assoc, ← e1, ← hx] at this
        exact lt_of_mul (t := (b : Rat)) (by grind) hB'
      · intro h
        have := mul_lt h hB'
        rw [hx, e1, ← Rat.mul_assoc] at this
        exact lt_of_mul (t := tw (q0 + (fmt w).f)) (by grind) T
    rw [e] at this
    exact this
  obtain ⟨q1, hq1⟩ : ∃ q1, (if (fmt w).low < q0 ∧ x < tw (q0 + (fmt w).f) then q0 - 1 else q0) = q1 := ⟨_, rfl⟩
  obtain ⟨d1, d2, d3⟩ := Fmt.Rnd.doc (fmt w) (h3 a ha) (lt_two_bl a) hb (h3 b hb) (lt_two_bl b) hx hq0.symm hq1.symm
  obtain ⟨q, hq⟩ := Int.eq_ofNat_of_zero_le (show 0 ≤ q1 - (fmt w).low by omega)
  have hqq : q1 = (q : Int) + (fmt w).low := by omega
  have hqn : q < 100000000 := by
    have : q1 ≤ q0 := by rw [← hq1]; split <;> omega
    omega
  obtain ⟨A, B, hBp, hAB, hg⟩ := grainS a b (kk - q1) hb (by omega) (by omega) (by omega)
  have hxe : x * (B : Rat) = (A : Rat) * tw (q + (fmt w).low) := by
    have T := tw_pos (-q1)
    have e1 : tw (-q1) * tw q1 = 1 := by rw [← tw_add, Int.add_left_neg, tw_zero]
    have e2 : tw (kk - q1) = tw kk * tw (-q1) := by rw [← tw_add]; congr 1
    have := hAB (x * tw (-q1)) (by rw [e2, ← Rat.mul_assoc, ← hx]; grind)
    rw [← this, ← hqq]
    grind
  have hx2 : x < tw (q + (fmt w).low + (fmt w).f + 1) := by rw [← hqq]; exact d2
  have hl2 : 0 < q → tw (q + (fmt w).low + (fmt w).f) ≤ x := fun h => by rw [← hqq]; exact d3 (by omega)
  obtain ⟨n1, n2⟩ := (fmt w).make_bd hx2 hl2 (fun h => (fmt w).near_lo hBp hxe h) ((fmt w).near_hi hBp hxe)
  have R := Fmt.Rnd.near (fmt w) hBp hxe hx2 hl2
  rw [(fmt w).rnd_of R, ← (fmt w).fin_eq n1 n2]
  have p2 : 2 ^ ((fmt w).f + 1) = 2 ^ (fmt w).f * 2 := Nat.pow_succ ..
  have pp := (fmt w).pow_pos
  generalize hN : rne A B = n at *
  have ln : bl n ≤ (fmt w).f + 2 := bl_le.2 (by rw [Nat.pow_succ]; omega)
  have hqs : q < 1000000 := by
    have : q1 ≤ q0 := by rw [← hq1]; split <;> omega
    omega
  have tail : Ev (fun k => r3_Near.j1 k w s kk (((fmt w).f : Nat) : Int) q1 (dg a) (dg b)) ((mkN w ((fmt w).fin q n) s : Nat) : Int) := by
    refine Ev.step (fun _ => r3_Near.j1.eq_2 ..) ?_
    rw [w64_id (n := kk - q1) (by omega) (by omega), w64_id (n := (((fmt w).f : Nat) : Int) + 1) (by omega) (by omega)]
    refine Ev.bind hg (Ev.bind (len_dg n (by omega)) ?_)
    by_cases c : n = 2 ^ ((fmt w).f + 1)
    · have hbn : bl n = (fmt w).f + 2 := by rw [c, bl_two]
      have hh := half_dg n 1 (by omega) (by decide)
      have e5 : n / 2 ^ 1 = 2 ^ (fmt w).f := by rw [c, Nat.pow_succ, Nat.pow_one]; omega
      rw [e5] at hh
      refine Ev.pos (by omega) (Ev.bind hh ?_)
      rw [w64_id (by omega) (by omega)]
      have := finS w hw s (q + 1) (2 ^ (fmt w).f) (by omega) (fun _ => Nat.le_refl _) (by omega)
      rw [show (((q + 1 : Nat) : Int) + (fmt w).low) = q1 + 1 by omega] at this
      have e6 : (fmt w).fin q n = (if (fmt w).top < q + 1 + 2 then (fmt w).inf else if 2 ^ (fmt w).f < 2 ^ (fmt w).f then 2 ^ (fmt w).f else (q + 1 + 1) * 2 ^ (fmt w).f + (2 ^ (fmt w).f - 2 ^ (fmt w).f)) := by
        unfold Fmt.fin
        rw [if_pos c, if_neg (Nat.lt_irrefl _), Nat.sub_self]
        rfl
      rw [e6]; exact this
    · have hbn : bl n ≤ (fmt w).f + 1 := bl_le.2 (by omega)
      refine Ev.neg (by omega) ?_
      have := finS w hw s q n (by omega) n2 hqs
      rw [← hqq] at this
      have e6 : (fmt w).fin q n = (if (fmt w).top < q + 2 then (fmt w).inf else if n < 2 ^ (fmt w).f then n else (q + 1) * 2 ^ (fmt w).f + (n - 2 ^ (fmt w).f)) := by
        unfold Fmt.fin
        rw [if_neg c]
      rw [e6]; exact this
  by_cases c : (fmt w).low < q0
  · refine Ev.pos c ?_
    rw [w64_id (n := kk - q0) (by omega) (by omega), w64_id (n := kk - q0 - ((fmt w).f : Int)) (by omega) (by omega)]
    refine Ev.bind hunder (Ev.step (fun _ => r3_Near.j0.eq_2 ..) ?_)
    by_cases c2 : x < tw (q0 + (fmt w).f)
    · rw [decide_eq_true c2]
      rw [if_pos ⟨c, c2⟩] at hq1
      refine Ev.pos rfl ?_
      rw [w64_id (by omega) (by omega), hq1]; exact tail
    · rw [decide_eq_false c2]
      rw [if_neg (fun h => c2 h.2)] at hq1
      refine Ev.neg (by decide) ?_
      rw [hq1]; exact tail
  · rw [if_neg (fun h => c h.1)] at hq1
    refine Ev.neg c (Ev.step (fun _ => r3_Near.j0.eq_2 ..) (Ev.neg (by decide) ?_))
    rw [hq1]; exact tail
theorem zero_mul' (w : Int) (hw : w = 32 ∨ w = 64) (s : Bool) : Ev (fun k => r2_Make.f k w s 0 0) ((mkN w 0 s : Nat) : Int) := by
  have := r2Makew w hw s 0 0 (Nat.zero_le _) ((fmt w).pow_pos)
  rwa [Nat.zero_mul] at this
theorem exactS (w : Int) (hw : w = 32 ∨ w = 64) (s : Bool) (n : Nat) (e : Int) (hn : bl n < 2900) : Ev (fun k => r3_Exact.f k w s (dg n) e) ((mkN w ((fmt w).rnd ((n : Rat) * tw e)) s : Nat) : Int) := by
  have bd := fmt_bd w
  have hff := fmt_f w
  have ht := (fmt w).ht
  unfold r3_Exact.f
  have z := zero_mul' w hw s
  by_cases h0 : n = 0
  · subst h0
    rw [show ((0 : Nat) : Rat) * tw e = 0 by simp, Fmt.rnd_zero]
    exact Ev.pos ((len_zero 0).2 rfl) (Ev.step (fun _ => r3_Exact.j0.eq_2 ..) (Ev.pos rfl (Ev.bind z (Ev.out rfl))))
  · refine Ev.neg (fun k => h0 ((len_zero n).1 k)) (Ev.step (fun _ => r3_Exact.j0.eq_2 ..) ?_)
    have hlt := lt_two_bl n
    by_cases c1 : e < -4000
    · have : (fmt w).rnd ((n : Rat) * tw e) = 0 := by
        refine (fmt w).rnd_of (Fmt.Rnd.tiny _ ?_)
        have h4 := mul_lt (nat_lt.2 hlt) (tw_pos e)
        rw [← tw_nat, ← tw_add] at h4
        have h5 : tw ((bl n : Nat) + e) ≤ tw ((fmt w).low - 1) := tw_le (by
          have : -1100 ≤ (fmt w).low := by unfold fmt; split <;> decide
          omega)
        grind
      rw [this]
      exact Ev.pos (decide_eq_true c1) (Ev.bind z (Ev.out rfl))
    · refine Ev.neg (fun k => c1 (of_decide_eq_true k)) ?_
      by_cases c2 : e > 4000
      · have : (fmt w).rnd ((n : Rat) * tw e) = (fmt w).inf := by
          refine (fmt w).rnd_inf ?_
          rw [(fmt w).val_inf]
          have h2 : ((1 : Nat) : Rat) ≤ (n : Rat) := nat_le.2 (by omega)
          have h3 := mul_le h2 (tw_pos e)
          have h4 : tw ((fmt w).top - 1 + (fmt w).low + (fmt w).f) ≤ tw e := tw_le (by
            have : ((fmt w).top : Int) - 1 + (fmt w).low + (fmt w).f ≤ 1100 := by unfold fmt; split <;> decide
            omega)
          have h5 : ((1 : Nat) : Rat) * tw e = tw e := by simp
          rw [h5] at h3
          exact Rat.le_trans h4 h3
        rw [this]
        exact Ev.pos c2 (Ev.bind (r2Infw w hw s) (Ev.out rfl))
      · refine Ev.neg c2 (Ev.bind (of_dg 1 (by decide)) (Ev.bind (nearS w hw s n 1 e (by omega) (by decide) (by omega) (by decide) (by omega) _ ?_) (Ev.out rfl)))
        simp
end Go.Proofs.YthdeeoallfbjmaaDoor.Th
end
section
set_option linter.unusedVariables false
set_option linter.unusedSimpArgs false
namespace Go.Proofs.YthdeeoallfbjmaaDoor.Th
open Go.RowKit Go.Proofs.YthdeeoallfbjmaaDoorW.PrintWords Go.Proofs.YthdeeoallfbjmaaDoorW.PrintLast Go.Proofs.YthdeeoallfbjmaaDoorW.PrintMore Go.Proofs.YthdeeoallfbjmaaDoor.PA Bit Flo
theorem packE (w : Int) (hw : w = 32 ∨ w = 64) (s : Bool) (h l : Nat) (hh : h < 18446744073709551616) (hl : l < 18446744073709551616) (e : Int) (m : Bool) : round_Pack.f w s h l e m = some ((mkN w (pkm (fmt w) (wn h l) e m) s : Nat) : Int) := by
  unfold round_Pack.f
  rw [if_pos (by omega), if_pos hw, Int.toNat_natCast, Int.toNat_natCast]
theorem pack1 (w : Int) (hw : w = 32 ∨ w = 64) (s : Bool) (n : Nat) (hn : n < 18446744073709551616) (e : Int) : round_Pack.f w s 0 n e false = some ((mkN w ((fmt w).rnd ((n : Rat) * tw e)) s : Nat) : Int) := by
  have := packE w hw s 0 n (by decide) hn e false
  rw [show wn 0 n = n by unfold wn; omega, pk_ex w n e (by omega)] at this
  exact this
theorem wholeE (w : Int) (hw : w = 32 ∨ w = 64) (s : Bool) (n : Nat) (hn : n < 18446744073709551616) : round_Whole.f w s n = some ((mkN w ((fmt w).rnd (n : Rat)) (s && decide (0 < n)) : Nat) : Int) := by
  unfold round_Whole.f
  have h := fun t => pack1 w hw t n hn 0
  rw [tw_zero, Rat.mul_one] at h
  rw [ofW n]
  cases s
  · rw [if_neg (by decide), Option.bind_some]
    show (round_Pack.f w false 0 (n : Int) 0 false).bind _ = _
    rw [h false, Option.bind_some]
    simp
  · rw [if_pos rfl, Option.bind_some]
    show (round_Pack.f w (decide ((n : Int) > 0)) 0 (n : Int) 0 false).bind _ = _
    rw [h, Option.bind_some]
    simp
end Go.Proofs.YthdeeoallfbjmaaDoor.Th
end
section
set_option linter.unusedVariables false
set_option linter.unusedSimpArgs false
namespace Go.Proofs.YthdeeoallfbjmaaDoor.Th
open Go.RowKit Go.Proofs.YthdeeoallfbjmaaDoorW.PrintWords Go.Proofs.YthdeeoallfbjmaaDoorW.PrintLast Go.Proofs.YthdeeoallfbjmaaDoorW.PrintMore Go.Proofs.YthdeeoallfbjmaaDoor.PA Bit Dig Flo
theorem castKnown (w : Int) (hw : w = 32 ∨ w = 64) : cast_known.f w = some true := by rcases hw with rfl | rfl <;> rfl
theorem inf_sb (w : Int) (hw : w = 32 ∨ w = 64) : (fmt w).inf < sb w ∧ nanN w < sb w ∧ (fmt w).inf < nanN w ∧ nanN w = mkN w (nanN w) false := by
  rcases hw with rfl | rfl
  · rw [fmt32, inf32]; exact ⟨by decide, by decide, by decide, by decide⟩
  · rw [fmt64, inf64]; exact ⟨by decide, by decide, by decide, by decide⟩
def rdM (fr : Int) (n : Nat) (sd : Bool) : Nat := if sd then mg fr n else cutN fr n
def rdS (fr : Int) (n : Nat) (sd : Bool) : Bool := sd && sgB fr n
theorem awake11M : Ev (fun k => L11_awake.f k) true := Ev.of (fun k => L11_awake.mono k) (k := 12) (by decide +kernel)
theorem rdM_lt (fr : Int) (hf : fr = 32 ∨ fr = 64) (n : Nat) (hn : n < 18446744073709551616) (sd : Bool) : rdM fr n sd < 18446744073709551616 := by
  unfold rdM
  have h := mg_bd fr hf n
  have h2 := cutN_lt fr n hn
  have h3 : sb fr ≤ 9223372036854775808 := by unfold sb; split <;> omega
  cases sd
  · simpa using h2
  · simp only [if_true]; omega
theorem castSigned (fr : Int) (hf : fr = 32 ∨ fr = 64) (n : Nat) (hn : n < 18446744073709551616) : cast_signed.f fr n = some (((mg fr n : Nat) : Int), sgB fr n) := by
  have h := signedS fr hf n hn
  have g := sgn_mg fr n
  have b := mg_bd fr hf n
  have h3 : sb fr ≤ 9223372036854775808 := by unfold sb; split <;> omega
  have key : ∀ x : Int, x = sgn fr n → (if x < 0 then (some (IntKind.u64.wrap (-(IntKind.u64.wrap x)), true)) else (some (IntKind.u64.wrap x, false))) = some (((mg fr n : Nat) : Int), sgB fr n) := by
    intro x hx
    rw [hx, g]
    rw [IntKind.wrap_u64]
    cases s : sgB fr n
    · rw [if_neg (show ¬ (false = true) by decide), if_neg (by omega), IntKind.wrap_u64]; congr 2; omega
    · have := b.2.2.1 s
      rw [if_pos (rfl : true = true), if_pos (by omega)]
      congr 2
      rw [IntKind.wrap_u64]; omega
  unfold ints_signed.f at h
  unfold cast_signed.f cast_amount_int32.f cast_amount_int64.f
  rcases hf with rfl | rfl
  · rw [if_pos rfl] at h ⊢
    have e : wrap32 ((n : Int) % 4294967296) = sgn 32 n := by
      rw [← Option.some.inj h, w64_id] <;> unfold wrap32 <;> omega
    rw [key _ e]; rfl
  · rw [if_neg (by decide)] at h ⊢
    have e : wrap64 (n : Int) = sgn 64 n := Option.some.inj h
    rw [key _ e]; rfl
theorem readE (fr : Int) (hf : fr = 32 ∨ fr = 64) (n : Nat) (hn : n < 18446744073709551616) (sd : Bool) : cast_read.f fr n sd = some (((rdM fr n sd : Nat) : Int), rdS fr n sd) := by
  unfold cast_read.f
  cases sd
  · rw [if_neg (by decide), shCut fr n hn]; rfl
  · rw [if_pos rfl, castSigned fr hf n hn]; simp [rdM, rdS]
theorem rd_pos (fr : Int) (hf : fr = 32 ∨ fr = 64) (n : Nat) (sd : Bool) (h : rdS fr n sd = true) : 0 < rdM fr n sd := by
  unfold rdS at h
  unfold rdM
  rw [Bool.and_eq_true] at h
  rw [h.1, if_pos rfl]
  exact (mg_bd fr hf n).2.2.1 h.2
noncomputable def cfN (w fr : Int) (n : Nat) (sd : Bool) : Nat := mkN w ((fmt w).rnd ((rdM fr n sd : Nat) : Rat)) (rdS fr n sd)
theorem castMade (w : Int) (hw : w = 32 ∨ w = 64) (fr : Int) (hf : fr = 32 ∨ fr = 64) (n : Nat) (hn : n < 18446744073709551616) (sd : Bool) : Ev (fun k => cast_made.f k w fr n sd) ((cfN w fr n sd : Nat) : Int) := by
  unfold cast_made.f
  have e : (rdS fr n sd && decide (0 < rdM fr n sd)) = rdS fr n sd := by
    cases s : rdS fr n sd
    · rfl
    · rw [decide_eq_true (rd_pos fr hf n sd s)]; rfl
  refine Ev.bs (castKnown w hw) (Ev.pos rfl (Ev.bs (castKnown fr hf) (Ev.step (fun _ => cast_made.j0.eq_2 ..) (Ev.neg (by decide) (Ev.bs (readE fr hf n hn sd) (Ev.bs (wholeE w hw _ _ (rdM_lt fr hf n hn sd)) (Ev.out ?_)))))))
  rw [e]; rfl
theorem fromU (w : Int) (hw : w = 32 ∨ w = 64) (fr : Int) (hf : fr = 32 ∨ fr = 64) (n : Nat) (hn : n < 18446744073709551616) : Ev (fun k => cast_FromUint.f k w fr n) ((cfN w fr n false : Nat) : Int) := by
  unfold cast_FromUint.f
  exact Ev.bind (castMade w hw fr hf n hn false) (Ev.out rfl)
theorem fromI (w : Int) (hw : w = 32 ∨ w = 64) (fr : Int) (hf : fr = 32 ∨ fr = 64) (n : Nat) (hn : n < 18446744073709551616) : Ev (fun k => cast_FromInt.f k w fr n) ((cfN w fr n true : Nat) : Int) := by
  unfold cast_FromInt.f
  exact Ev.bind (castMade w hw fr hf n hn true) (Ev.out rfl)
theorem rnd64_lt (w : Int) (hw : w = 32 ∨ w = 64) {M : Nat} (hM : M ≤ 18446744073709551616) : (fmt w).rnd (M : Rat) < (fmt w).inf := by
  obtain ⟨m, hm⟩ := (fmt w).val_repr (n := 1) (e := 64) (by have := (fmt w).pow_pos; rw [Nat.pow_succ]; omega) (by rcases hw with rfl | rfl <;> decide)
  have h1 : m < (fmt w).inf := by
    rw [← (fmt w).val_lt_iff, hm, (fmt w).val_inf]
    have : ((1 : Nat) : Rat) * tw 64 = tw 64 := by grind
    rw [this]
    exact tw_lt (by rcases hw with rfl | rfl <;> decide)
  have h2 : (M : Rat) ≤ (fmt w).val m := by
    rw [hm]
    have e : tw 64 = ((18446744073709551616 : Nat) : Rat) := by rw [show (64 : Int) = ((64 : Nat) : Int) from rfl, tw_nat]
    rw [e]
    have := nat_le.2 hM
    grind
  exact Nat.lt_of_le_of_lt ((fmt w).rnd_lt_inf h2 h1) h1
theorem bl_odd {M t o : Nat} (h : M = 2 ^ t * o) (ho : 0 < o) : bl M = bl o + t := by
  rw [h, Nat.mul_comm, bl_shift _ _ ho]
theorem sg_lt' (w : Int) (m : Nat) : (fmt w).sg m < 2 ^ ((fmt w).f + 1) := by
  obtain ⟨q, n, _, h2, _, h4, _⟩ := (fmt w).sg_ex m
  rw [h4]; exact h2
theorem repr_iff (w : Int) (hw : w = 32 ∨ w = 64) {M t o : Nat} (h : M = 2 ^ t * (2 * o + 1)) (hM : M < 18446744073709551616) : (fmt w).val ((fmt w).rnd (M : Rat)) = (M : Rat) ↔ bl M ≤ t + ((fmt w).f + 1) := by
  have hb := bl_odd h (show 0 < 2 * o + 1 by omega)
  constructor
  · intro e
    obtain ⟨m, hm⟩ : ∃ m, (fmt w).rnd (M : Rat) = m := ⟨_, rfl⟩
    rw [hm] at e
    unfold Fmt.val at e
    have hs := sg_lt' w m
    have key : bl (2 * o + 1) ≤ (fmt w).f + 1 := by
      rw [bl_le]
      refine Nat.lt_of_le_of_lt ?_ hs
      rcases Int.le_total 0 ((fmt w).ex m) with x | x
      · obtain ⟨n, hn⟩ := Int.eq_ofNat_of_zero_le x
        rw [hn, tw_nat] at e
        have e2 : (fmt w).sg m * 2 ^ n = 2 ^ t * (2 * o + 1) := by rw [← h]; exact_mod_cast e
        rcases Nat.le_total n t with y | y
        · have e3 : (fmt w).sg m = 2 ^ (t - n) * (2 * o + 1) := by
            have : (fmt w).sg m * 2 ^ n = 2 ^ (t - n) * (2 * o + 1) * 2 ^ n := by
              rw [e2, Nat.mul_right_comm, ← Nat.pow_add, show t - n + n = t by omega]
            exact Nat.eq_of_mul_eq_mul_right (Nat.pow_pos (by decide)) this
          rw [e3]
          exact Nat.le_mul_of_pos_left _ (Nat.pow_pos (by decide))
        · have e3 : (fmt w).sg m * 2 ^ (n - t) = 2 * o + 1 := by
            have : 2 ^ t * ((fmt w).sg m * 2 ^ (n - t)) = 2 ^ t * (2 * o + 1) := by
              rw [← e2, Nat.mul_left_comm, ← Nat.pow_add, show t + (n - t) = n by omega]
            exact Nat.eq_of_mul_eq_mul_left (Nat.pow_pos (by decide)) this
          rcases Nat.eq_zero_or_pos (n - t) with z | z
          · rw [z, Nat.pow_zero, Nat.mul_one] at e3; omega
          · obtain ⟨d, hd⟩ : ∃ d, n - t = d + 1 := ⟨n - t - 1, by omega⟩
            rw [hd, Nat.pow_succ, ← Nat.mul_assoc] at e3
            omega
      · obtain ⟨n, hn⟩ := Int.eq_ofNat_of_zero_le (show 0 ≤ -(fmt w).ex m by omega)
        have e2 : ((fmt w).sg m : Rat) = ((M * 2 ^ n : Nat) : Rat) := by
          have q : tw ((fmt w).ex m) * tw n = 1 := by rw [← tw_add, show (fmt w).ex m + (n : Int) = 0 by omega, tw_zero]
          push_cast
          have q2 := tw_nat n
          push_cast at q2
          rw [← q2, ← e, Rat.mul_assoc, q, Rat.mul_one]
        have e3 : (fmt w).sg m = M * 2 ^ n := by exact_mod_cast e2
        rw [e3, h]
        have p1 : 0 < 2 ^ t := Nat.pow_pos (by decide)
        have p2 : 0 < 2 ^ n := Nat.pow_pos (by decide)
        exact Nat.le_trans (Nat.le_mul_of_pos_left _ p1) (Nat.le_mul_of_pos_right _ p2)
    omega
  · intro e
    have ho : 2 * o + 1 ≤ 2 ^ ((fmt w).f + 1) := Nat.le_of_lt (bl_le.1 (by omega))
    obtain ⟨m, hm⟩ := (fmt w).val_repr (e := (t : Int)) ho (by have := (fmt_bd w).2.1; omega)
    have e2 : (fmt w).val m = (M : Rat) := by
      rw [hm, tw_nat, h]; push_cast; grind
    have l := rnd64_lt w hw (Nat.le_of_lt hM)
    have h1 : m ≤ (fmt w).inf := by
      rcases Nat.lt_or_ge (fmt w).inf m with y | y
      rotate_left
      · exact y
      · exfalso
        have z := (fmt w).rnd_inf (x := (M : Rat)) (by rw [← e2]; exact Rat.le_of_lt ((fmt w).val_lt_iff.2 y))
        omega
    rw [← e2, (fmt w).rnd_val h1]
theorem tz63 (M : Nat) (h0 : 0 < M) (hM : M < 18446744073709551616) : bits_TrailingZeros64.f (Go.bits .or .u64 (M : Int) 9223372036854775808) = some ((Lib.ctz 64 M : Nat) : Int) := by
  rw [show (9223372036854775808 : Int) = ((9223372036854775808 : Nat) : Int) from rfl, u64_or_nat _ _ hM (by decide)]
  have l : M ||| 9223372036854775808 < 18446744073709551616 := Nat.or_lt_two_pow (n := 64) hM (by decide)
  unfold bits_TrailingZeros64.f
  rw [if_pos (by omega), Int.toNat_natCast]
  congr 2
  obtain ⟨m, h1, h2⟩ := ctz_spec 64 (.inr rfl) M (by simpa [pw] using hM) h0
  have p0 : 0 < M ||| 9223372036854775808 := Nat.lt_of_lt_of_le (by decide) Nat.right_le_or
  obtain ⟨m', h1', h2'⟩ := ctz_spec 64 (.inr rfl) (M ||| 9223372036854775808) (by simpa [pw] using l) p0
  obtain ⟨a1, a2⟩ := ctz_bits h1
  obtain ⟨b1, b2⟩ := ctz_bits h1'
  have b64 := bl64 hM
  have ob : ∀ i, (M ||| 9223372036854775808).testBit i = (M.testBit i || decide (i = 63)) := fun i => by
    rw [Nat.testBit_or, show (9223372036854775808 : Nat) = 2 ^ 63 by decide, Nat.testBit_two_pow]
    congr 1
    rw [decide_eq_decide]; omega
  rcases Nat.lt_trichotomy (Lib.ctz 64 (M ||| 9223372036854775808)) (Lib.ctz 64 M) with x | x | x
  · exfalso
    rw [ob, a1 _ x, Bool.false_or, decide_eq_true_eq] at b2
    omega
  · exact x
  · exfalso
    have := b1 _ x
    rw [ob, a2, Bool.true_or] at this
    cases this
theorem fieldsE (w : Int) (hw : w = 32 ∨ w = 64) : ∃ x, shape_Fields.f w = some (x, ((fmt w).f : Int)) := by
  rcases hw with rfl | rfl
  · exact ⟨_, rfl⟩
  · exact ⟨_, rfl⟩
def exB (w : Int) (M : Nat) : Bool := decide (bl M ≤ Lib.ctz 64 M + ((fmt w).f + 1))
theorem exB_iff (w : Int) (hw : w = 32 ∨ w = 64) {M : Nat} (hM : M < 18446744073709551616) : exB w M = true ↔ (fmt w).val ((fmt w).rnd (M : Rat)) = (M : Rat) := by
  unfold exB
  rw [decide_eq_true_iff]
  rcases Nat.eq_zero_or_pos M with z | z
  · subst z
    have e : (fmt w).rnd ((0 : Nat) : Rat) = 0 := (fmt w).rnd_zero
    rw [e, (fmt w).val_zero]
    exact ⟨fun _ => rfl, fun _ => by rw [bl_zero]; omega⟩
  · obtain ⟨m, h1, h2⟩ := ctz_spec 64 (.inr rfl) M (by simpa [pw] using hM) z
    exact (repr_iff w hw h1 hM).symm
theorem exactC (w : Int) (hw : w = 32 ∨ w = 64) (fr : Int) (hf : fr = 32 ∨ fr = 64) (n : Nat) (hn : n < 18446744073709551616) (sd : Bool) : Ev (fun k => cast_Exact.f k w fr n sd) (exB w (rdM fr n sd)) := by
  unfold cast_Exact.f
  have hM := rdM_lt fr hf n hn sd
  have f52 := fmt_f w
  obtain ⟨x, hx⟩ := fieldsE w hw
  refine Ev.bs (castKnown w hw) (Ev.pos rfl (Ev.bs (castKnown fr hf) (Ev.step (fun _ => cast_Exact.j0.eq_2 ..) (Ev.neg (by decide) (Ev.bs (readE fr hf n hn sd) (Ev.bs hx ?_))))))
  generalize rdM fr n sd = M at *
  have b64 := bl64 hM
  refine Ev.bs (a := ((bl M : Nat) : Int)) (by unfold bits_Len64.f; rw [if_pos (by omega), Int.toNat_natCast, bitLen_bl (by omega)]) ?_
  rw [w64_id (n := ((fmt w).f : Int) + 1) (by omega) (by omega)]
  rcases Nat.eq_zero_or_pos M with z | z
  · subst z
    refine Ev.bs (a := 63) (show bits_TrailingZeros64.f (Go.bits .or .u64 ((0 : Nat) : Int) 9223372036854775808) = some 63 by decide +kernel) ?_
    rw [bl_zero]
    exact Ev.pos (by rw [w64_id (by omega) (by omega)]; omega) (Ev.out (by unfold exB; rw [bl_zero]; simp))
  · refine Ev.bs (tz63 M z hM) ?_
    have hz := ctz_le M hM
    rw [w64_id (by omega) (by omega)]
    unfold exB
    by_cases c : bl M ≤ Lib.ctz 64 M + ((fmt w).f + 1)
    · exact Ev.pos (by omega) (Ev.out (by simp [c]))
    · refine Ev.neg (by omega) (Ev.out ?_)
      rw [decide_eq_false c, beq_eq_false_iff_ne]; omega
theorem exact0 (w : Int) (hw : w = 32 ∨ w = 64) (s : Bool) (n : Nat) (hn : n < 18446744073709551616) : Ev (fun k => r3_Exact.f k w s (dg n) 0) ((mkN w ((fmt w).rnd (n : Rat)) s : Nat) : Int) := by
  have := exactS w hw s n 0 (by have := bl64 hn; omega)
  rwa [tw_zero, Rat.mul_one] at this
theorem make11 (w : Int) (hw : w = 32 ∨ w = 64) (fr : Int) (hf : fr = 32 ∨ fr = 64) (n : Nat) (hn : n < 18446744073709551616) (sd : Bool) : Ev (fun k => trunnionref11_Make.f k w fr n sd) ((cfN w fr n sd : Nat) : Int) := by
  unfold trunnionref11_Make.f
  have hM := rdM_lt fr hf n hn sd
  refine Ev.bs (r2Cut fr n hf) ?_
  cases sd
  · exact Ev.neg (by decide) (Ev.bind (of_dg _ (cutN_lt fr n hn)) (Ev.bind (exact0 w hw false _ (cutN_lt fr n hn)) (Ev.out rfl)))
  · refine Ev.pos rfl (Ev.bind (signed11 fr hf n hn) ?_)
    have hm : mg fr n < 18446744073709551616 := by simpa [rdM] using hM
    exact Ev.bind (of_dg _ hm) (Ev.bind (exact0 w hw _ _ hm) (Ev.out (by simp [cfN, rdM, rdS])))
theorem cmp0 (a b : Nat) : (cmpN a b == 0) = decide (a = b) := by
  unfold cmpN
  by_cases h1 : a < b
  · rw [if_pos h1, decide_eq_false (by omega)]; rfl
  · rw [if_neg h1]
    by_cases h2 : b < a
    · rw [if_pos h2, decide_eq_false (by omega)]; rfl
    · rw [if_neg h2, decide_eq_true (by omega)]; rfl
theorem exact11j (w : Int) (hw : w = 32 ∨ w = 64) (M : Nat) (hM : M < 18446744073709551616) : Ev (fun k => trunnionref11_Exact.j0 k w M) (exB w M) := by
  have hl := rnd64_lt w hw (Nat.le_of_lt hM)
  have hi := inf_pos w hw
  have hib := inf_sb w hw
  obtain ⟨m, hm⟩ : ∃ m, (fmt w).rnd (M : Rat) = m := ⟨_, rfl⟩
  have iff := exB_iff w hw hM
  have ex := exact0 w hw false M hM
  rw [hm] at ex hl iff
  have ms : m < sb w := by omega
  have op := r2Open w hw (mkN w m false) (mkN_lt w hw m false ms)
  rw [opn_mk w hw m false ms] at op
  refine Ev.step (fun _ => trunnionref11_Exact.j0.eq_2 ..) (Ev.bind (of_dg M hM) (Ev.bind ex (Ev.bind op ?_)))
  by_cases z : m = 0
  · rw [if_pos z]
    refine Ev.pos rfl (Ev.out ?_)
    rw [z, (fmt w).val_zero] at iff
    rw [Bool.eq_iff_iff, iff, beq_iff_eq]
    constructor
    · intro h
      have : M = 0 := by omega
      rw [this]; rfl
    · intro h
      have : ((0 : Nat) : Rat) = (M : Rat) := h
      have := Rat.natCast_inj.1 this
      omega
  · rw [if_neg z, if_pos hl]
    have he := ex_bd w hw m hl
    have hg := sg_64 w hw m
    refine Ev.neg (show ¬ ((1 : Int) = 0) by decide) ?_
    dsimp only
    have e1 : wrap64 ((fmt w).ex m - mn ((fmt w).ex m) 0) = ((((fmt w).ex m - mn ((fmt w).ex m) 0).toNat : Nat) : Int) := by
      unfold mn; split <;> rw [w64_id (by omega) (by omega)] <;> omega
    have e2 : wrap64 (-(mn ((fmt w).ex m) 0)) = (((-(mn ((fmt w).ex m) 0)).toNat : Nat) : Int) := by
      unfold mn; split <;> rw [w64_id (by omega) (by omega)] <;> omega
    rw [e1, e2]
    have b1 : bl ((fmt w).sg m) ≤ 53 := bl_le.2 hg
    have b2 := bl64 hM
    have l1 : ((fmt w).ex m - mn ((fmt w).ex m) 0).toNat ≤ 2100 := by unfold mn; split <;> omega
    have l2 : (-(mn ((fmt w).ex m) 0)).toNat ≤ 2100 := by unfold mn; split <;> omega
    have c1 := bl_shl ((fmt w).sg m) ((fmt w).ex m - mn ((fmt w).ex m) 0).toNat
    have c2 := bl_shl M (-(mn ((fmt w).ex m) 0)).toNat
    refine Ev.bind (of_dg _ (by omega)) (Ev.bind (shl_bl _ _ (by omega) (by omega)) (Ev.bind (of_dg _ hM) (Ev.bind (shl_bl _ _ (by omega) (by omega)) (Ev.bind (cmp_bl _ _ (by omega) (by omega)) (Ev.out ?_)))))
    rw [cmp0, Bool.eq_iff_iff, iff, decide_eq_true_iff]
    unfold Fmt.val
    rcases Int.le_total 0 ((fmt w).ex m) with x | x
    · have q : mn ((fmt w).ex m) 0 = 0 := by unfold mn; split <;> omega
      obtain ⟨n, hn⟩ := Int.eq_ofNat_of_zero_le x
      rw [q, hn, tw_nat, Int.sub_zero, Int.toNat_natCast]
      simp only [Int.neg_zero, Int.toNat_zero, Nat.pow_zero, Nat.mul_one]
      constructor
      · intro h; rw [← h]; push_cast; rfl
      · intro h; exact_mod_cast h
    · have q : mn ((fmt w).ex m) 0 = (fmt w).ex m := by unfold mn; split <;> omega
      obtain ⟨n, hn⟩ := Int.eq_ofNat_of_zero_le (show 0 ≤ -(fmt w).ex m by omega)
      have t1 : tw ((fmt w).ex m) * tw n = 1 := by rw [← tw_add, show (fmt w).ex m + (n : Int) = 0 by omega, tw_zero]
      rw [q, Int.sub_self, hn, Int.toNat_natCast]
      simp only [Int.toNat_zero, Nat.pow_zero, Nat.mul_one]
      have t2 := tw_nat n
      constructor
      · intro h
        rw [h]
        push_cast
        push_cast at t2
        rw [← t2, Rat.mul_assoc, Rat.mul_comm (tw n), t1, Rat.mul_one]
      · intro h
        have : ((fmt w).sg m : Rat) = ((M * 2 ^ n : Nat) : Rat) := by
          push_cast
          push_cast at t2
          rw [← t2, ← h, Rat.mul_assoc, t1, Rat.mul_one]
        exact Rat.natCast_inj.1 this
theorem exact11 (w : Int) (hw : w = 32 ∨ w = 64) (fr : Int) (hf : fr = 32 ∨ fr = 64) (n : Nat) (hn : n < 18446744073709551616) (sd : Bool) : Ev (fun k => trunnionref11_Exact.f k w fr n sd) (exB w (rdM fr n sd)) := by
  unfold trunnionref11_Exact.f
  have hM := rdM_lt fr hf n hn sd
  refine Ev.bs (r2Cut fr n hf) ?_
  cases sd
  · exact Ev.neg (by decide) (exact11j w hw _ (by simpa [rdM] using hM))
  · exact Ev.pos rfl (Ev.bind (signed11 fr hf n hn) (exact11j w hw _ (by simpa [rdM] using hM)))
theorem castKnown_no {w : Int} (hw : ¬ (w = 32 ∨ w = 64)) : cast_known.f w = some false := by
  unfold cast_known.f
  rw [if_neg (by omega)]
  congr 1
  rw [beq_eq_false_iff_ne]; omega
theorem cast_no {w fr : Int} (h : ¬ ((w = 32 ∨ w = 64) ∧ (fr = 32 ∨ fr = 64))) (n : Int) (sd : Bool) : Ev (fun k => cast_made.f k w fr n sd) 0 ∧ Ev (fun k => cast_Exact.f k w fr n sd) false := by
  have z1 : Ev (fun k => cast_made.j0 k w fr n sd true) 0 := Ev.step (fun _ => cast_made.j0.eq_2 ..) (Ev.pos rfl (Ev.out rfl))
  have z2 : Ev (fun k => cast_Exact.j0 k w fr n sd true) false := Ev.step (fun _ => cast_Exact.j0.eq_2 ..) (Ev.pos rfl (Ev.out rfl))
  unfold cast_made.f cast_Exact.f
  by_cases hw : w = 32 ∨ w = 64
  · have ht : ¬ (fr = 32 ∨ fr = 64) := fun x => h ⟨hw, x⟩
    exact ⟨Ev.bs (castKnown w hw) (Ev.pos rfl (Ev.bs (castKnown_no ht) z1)), Ev.bs (castKnown w hw) (Ev.pos rfl (Ev.bs (castKnown_no ht) z2))⟩
  · exact ⟨Ev.bs (castKnown_no hw) (Ev.neg (by decide) z1), Ev.bs (castKnown_no hw) (Ev.neg (by decide) z2)⟩
theorem CastMakesP : L11_CastMakes.Pure := by
  intro w fr n hw0 hf0 hn0
  obtain ⟨hn1, hn2⟩ := wf_u64 hn0
  obtain ⟨n, rfl⟩ := Int.eq_ofNat_of_zero_le hn1
  have hn : n < 18446744073709551616 := by omega
  refine Ev.rounds ?_
  unfold L11_CastMakes.f
  refine Ev.bind awake11M (Ev.pos rfl ?_)
  by_cases h : (w = 32 ∨ w = 64) ∧ (fr = 32 ∨ fr = 64)
  · obtain ⟨hw, hf⟩ := h
    refine Ev.bind (fromU w hw fr hf n hn) (Ev.bind (fromI w hw fr hf n hn) (Ev.bind (exactC w hw fr hf n hn false) (Ev.bind (exactC w hw fr hf n hn true) (Ev.bs (known_f w) ?_))))
    rw [decide_eq_true hw]
    refine Ev.pos rfl (Ev.bs (known_f fr) ?_)
    rw [decide_eq_true hf]
    refine Ev.step (fun _ => L11_CastMakes.j0.eq_2 ..) (Ev.neg (by decide) ?_)
    exact Ev.bind (make11 w hw fr hf n hn false) (Ev.pos rfl (Ev.bind (make11 w hw fr hf n hn true) (Ev.pos rfl (Ev.bind (exact11 w hw fr hf n hn false) (Ev.pos (by simp) (Ev.bind (exact11 w hw fr hf n hn true) (Ev.out (by simp))))))))
  · have c := cast_no h (n : Int)
    have u : Ev (fun k => cast_FromUint.f k w fr n) 0 := by unfold cast_FromUint.f; exact Ev.bind (c false).1 (Ev.out rfl)
    have i : Ev (fun k => cast_FromInt.f k w fr n) 0 := by unfold cast_FromInt.f; exact Ev.bind (c true).1 (Ev.out rfl)
    have j : Ev (fun k => L11_CastMakes.j0 k w fr n 0 0 false false true) true :=
      Ev.step (fun _ => L11_CastMakes.j0.eq_2 ..) (Ev.pos rfl (Ev.pos rfl (Ev.pos rfl (Ev.neg (by decide) (Ev.out rfl)))))
    refine Ev.bind u (Ev.bind i (Ev.bind (c false).2 (Ev.bind (c true).2 (Ev.bs (known_f w) ?_))))
    by_cases hw : w = 32 ∨ w = 64
    · rw [decide_eq_true hw]
      refine Ev.pos rfl (Ev.bs (known_f fr) ?_)
      rw [decide_eq_false (fun x => h ⟨hw, x⟩)]
      exact j
    · rw [decide_eq_false hw]
      exact Ev.neg (by decide) j
end Go.Proofs.YthdeeoallfbjmaaDoor.Th
end
namespace Go.Proofs.YthdeeoallfbjmaaDoor.Pure
theorem CastMakes : Go.Proofs.YthdeeoallfbjmaaDoor.PA.L11_CastMakes.Pure := Go.Proofs.YthdeeoallfbjmaaDoor.Th.CastMakesP
end Go.Proofs.YthdeeoallfbjmaaDoor.Pure
namespace Go.Proofs.YthdeeoallfbjmaaDoor.Facts
abbrev ch (n : Nat) : Char := Char.ofNat n
theorem words_word (w : List Char) (r : List Char) (h : w.all (fun c => c != ch 32) = true) : wordsSigns (w ++ ch 32 :: r) = w :: wordsSigns r := by
  induction w with
  | nil => rfl
  | cons c w ih =>
    rw [List.all_cons, Bool.and_eq_true] at h
    have hc : c ≠ ch 32 := bne_iff_ne.1 h.1
    rw [List.cons_append]
    rw [wordsSigns.eq_3 c _ (fun e => hc e), ih h.2]
def w1 : List Char := [ch 104, ch 97, ch 114, ch 110, ch 101, ch 115, ch 115]
def w2 : List Char := [ch 98, ch 57, ch 54, ch 51, ch 49, ch 48, ch 49, ch 55, ch 56, ch 57, ch 57, ch 48, ch 102, ch 51, ch 56, ch 101, ch 50, ch 100, ch 48, ch 100, ch 54, ch 53, ch 99, ch 52, ch 55, ch 101, ch 100, ch 50, ch 53, ch 102, ch 54, ch 98, ch 98, ch 52, ch 57, ch 102, ch 54, ch 48, ch 55, ch 48, ch 52, ch 51, ch 99, ch 50, ch 101, ch 56, ch 100, ch 98, ch 55, ch 102, ch 56, ch 97, ch 102, ch 48, ch 55, ch 97, ch 55, ch 49, ch 100, ch 56, ch 50, ch 54, ch 99, ch 48]
def w3 : List Char := [ch 99, ch 117, ch 116]
set_option maxRecDepth 100000 in
def tailSigns : List Char := [ch 97, ch 116, ch 32, ch 116, ch 114, ch 117, ch 110, ch 110, ch 105, ch 111, ch 110, ch 47, ch 116, ch 114, ch 117, ch 110, ch 110, ch 105, ch 111, ch 110, ch 108, ch 97, ch 119, ch 49, ch 51, ch 46, ch 73, ch 110, ch 116, ch 115, ch 82, ch 117, ch 110, ch 115, ch 32, ch 116, ch 114, ch 117, ch 110, ch 110, ch 105, ch 111, ch 110, ch 47, ch 116, ch 114, ch 117, ch 110, ch 110, ch 105, ch 111, ch 110, ch 108, ch 97, ch 119, ch 49, ch 51, ch 46, ch 73, ch 110, ch 116, ch 115, ch 67, ch 111, ch 117, ch 110, ch 116, ch 115, ch 32, ch 116, ch 114, ch 117, ch 110, ch 110, ch 105, ch 111, ch 110, ch 47, ch 116, ch 114, ch 117, ch 110, ch 110, ch 105, ch 111, ch 110, ch 108, ch 97, ch 119, ch 49, ch 49, ch 46, ch 67, ch 97, ch 115, ch 116, ch 77, ch 97, ch 107, ch 101, ch 115, ch 32, ch 116, ch 114, ch 117, ch 110, ch 110, ch 105, ch 111, ch 110, ch 47, ch 116, ch 114, ch 117, ch 110, ch 110, ch 105, ch 111, ch 110, ch 108, ch 97, ch 119, ch 49, ch 49, ch 46, ch 67, ch 97, ch 115, ch 116, ch 66, ch 97, ch 99, ch 107, ch 32, ch 116, ch 114, ch 117, ch 110, ch 110, ch 105, ch 111, ch 110, ch 47, ch 116, ch 114, ch 117, ch 110, ch 110, ch 105, ch 111, ch 110, ch 108, ch 97, ch 119, ch 49, ch 50, ch 46, ch 67, ch 104, ch 111, ch 112, ch 66, ch 97, ch 99, ch 107]
set_option maxRecDepth 100000 in
theorem head_list : Tryd.prog.initOrder.toList = w1 ++ ch 32 :: (w2 ++ ch 32 :: (w3 ++ ch 32 :: tailSigns)) :=
  (congrArg String.toList (show Tryd.prog.initOrder = String.ofList (w1 ++ ch 32 :: (w2 ++ ch 32 :: (w3 ++ ch 32 :: tailSigns))) from rfl)).trans String.toList_ofList
theorem words : ∃ rest, behindMainWord (wordsSigns Tryd.prog.initOrder.toList) = w3 :: rest := by
  refine ⟨wordsSigns tailSigns, ?_⟩
  rw [head_list, words_word w1 _ (by kernel_rfl), words_word w2 _ (by kernel_rfl), words_word w3 _ (by kernel_rfl)]
  generalize wordsSigns tailSigns = rest
  have e : ((w1 == "harness".toList || w1 == "ownmain".toList) && isSumSigns w2) = true := by kernel_rfl
  show (if ((w1 == "harness".toList || w1 == "ownmain".toList) && isSumSigns w2) = true then w3 :: rest else w1 :: w2 :: w3 :: rest) = w3 :: rest
  rw [if_pos e]
theorem c3 : (w3 == "gc".toList) = false ∧ (w3 == "spec".toList) = false ∧ (w3 == "cut".toList) = true ∧ (w3 == "carried".toList) = false ∧ (w3 == "finals".toList) = false := ⟨by kernel_rfl, by kernel_rfl, by kernel_rfl, by kernel_rfl, by kernel_rfl⟩
theorem strip (rest : List (List Char)) : stripLifts liftWords (w3 :: rest) = ([], w3 :: rest) := by
  have key : ∀ l : List String, l.all (fun o => !(w3 == o.toList)) = true → stripLifts l (w3 :: rest) = ([], w3 :: rest) := by
    intro l
    induction l with
    | nil => intro _; rfl
    | cons o l ih =>
      intro h
      rw [List.all_cons, Bool.and_eq_true] at h
      unfold stripLifts
      rw [if_neg (fun e => by have h1 := h.1; rw [e] at h1; cases h1)]
      exact ih h.2
  exact key liftWords (by kernel_rfl)
theorem make_of (P : Program) (h : ∃ rest, behindMainWord (wordsSigns P.initOrder.toList) = w3 :: rest) : P.make = some .cut := by
  obtain ⟨rest, h⟩ := h
  unfold Program.make
  rw [h]
  show (if (w3 == "gc".toList || w3 == "spec".toList) = true then some Make.whole else if (w3 == "cut".toList || (w3 == "finals".toList && rest.head? == some "cut".toList)) = true then some Make.cut else _) = some Make.cut
  rw [if_neg (by rw [c3.1, c3.2.1]; decide), if_pos (by rw [c3.2.2.1, Bool.true_or])]
set_option maxRecDepth 100000 in
theorem liftsFact : Tryd.prog.liftsFinal = false := by
  unfold Program.liftsFinal Program.headLifts
  rw [head_list]
  kernel_rfl
theorem doorFact : (!Tryd.prog.laysLater && !Tryd.prog.bearsReflect && Tryd.prog.doorFits []) = true := by kernel_rfl
theorem makeFact : Tryd.prog.make = some .cut := make_of _ words
theorem enter_of (P : Program) (h : ∃ rest, behindMainWord (wordsSigns P.initOrder.toList) = w3 :: rest) (d : (!P.laysLater && !P.bearsReflect && P.doorFits []) = true) : P.mayEnter = true := by
  obtain ⟨rest, h⟩ := h
  rw [Bool.and_eq_true, Bool.and_eq_true] at d
  have e : ((some w3 == some "cut".toList) : Bool) = true := by kernel_rfl
  unfold Program.mayEnter
  rw [h]
  show ((_ || _) || ((stripLifts liftWords (w3 :: rest)).2.head? == some "cut".toList && ((stripLifts liftWords (w3 :: rest)).1.contains "finals" || !P.laysLater) && ((stripLifts liftWords (w3 :: rest)).1.contains "reflectrows" || !P.bearsReflect) &&
      ((stripLifts liftWords (w3 :: rest)).1.contains "reflectrows" || !(stripLifts liftWords (w3 :: rest)).1.contains "leanrows") && P.doorFits (stripLifts liftWords (w3 :: rest)).1)) = true
  rw [strip, Bool.or_eq_true]
  refine .inr ?_
  rw [Bool.and_eq_true, Bool.and_eq_true, Bool.and_eq_true, Bool.and_eq_true, Bool.or_eq_true, Bool.or_eq_true]
  exact ⟨⟨⟨⟨e, .inr d.1.1⟩, .inr d.1.2⟩, rfl⟩, d.2⟩
theorem enterFact : Tryd.prog.mayEnter = true := enter_of _ words doorFact
end Go.Proofs.YthdeeoallfbjmaaDoor.Facts
