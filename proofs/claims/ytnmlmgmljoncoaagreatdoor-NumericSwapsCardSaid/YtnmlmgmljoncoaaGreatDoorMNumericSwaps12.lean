/- What the Go functions that the statement NumericSwaps reaches compute, and the mathematics on it, in the order in which one leans on the other; for every input. -/
import Derived.Test.YtnmlmgmljoncoaaGreatDoorVNumericSwaps0
import Derived.Test.YtnmlmgmljoncoaaGreatDoorMNumericSwaps0
import Derived.Test.YtnmlmgmljoncoaaGreatDoorMNumericSwaps1
import Derived.Test.YtnmlmgmljoncoaaGreatDoorMNumericSwaps3
import Derived.Test.YtnmlmgmljoncoaaGreatDoorMNumericSwaps10
import Derived.Test.YtnmlmgmljoncoaaGreatDoorMNumericSwaps11
import Derived.Test.YtnmlmgmljoncoaaGreatDoorMNumericSwaps6
import Derived.Test.YtnmlmgmljoncoaaGreatDoorMNumericSwaps5
import Derived.Test.YtnmlmgmljoncoaaGreatDoorMNumericSwaps4
import Derived.Test.YtnmlmgmljoncoaaGreatDoorMNumericSwaps2
namespace Go.Proofs.YtnmlmgmljoncoaaGreatDoor.PA
open Go.RowKit Go.Proofs.YtnmlmgmljoncoaaGreatDoorW.PrintWords Go.Proofs.YtnmlmgmljoncoaaGreatDoorW.PrintLast Go.Proofs.YtnmlmgmljoncoaaGreatDoorW.PrintMore
attribute [local go_sem] max2_int min2_int max_two min_two max_three min_three max_four min_four   -- for this text's walks alone
set_option linter.unusedVariables false
set_option linter.unusedSimpArgs false
set_option maxHeartbeats 8000000
set_option maxRecDepth 100000
def numeric_Apply.f (k : Nat) (a0 : Int) (a1 : Int) (a2 : Int) : Option (Int × Int) := (numeric_Kind.f k a0).bind fun bt601 => (if bt601.2.2.2 = true then ((numeric_width.f bt601.1).bind fun t605 => ((shape_Cut.f t605 a1).bind fun t606 => ((numeric_width.f bt601.1).bind fun t607 => ((shape_Cut.f t607 a2).bind fun t608 => ((numeric_find.f k a0).bind fun bt609 => (if bt609.1 = 1 then ((numeric_truth.f (t606 == 0)).bind fun t613 => (some (t613, 0))) else (if bt609.1 = 2 then ((numeric_related.f bt609.2.1 bt609.2.2 t606 t608).bind fun t614 => ((numeric_truth.f t614).bind fun t615 => (some (t615, 0)))) else (if bt609.1 = 3 then ((numeric_compared.f k bt609.2.1 bt609.2.2 t606 t608).bind fun t616 => ((numeric_truth.f t616).bind fun t617 => (some (t617, 0)))) else (if bt609.1 = 4 then ((numeric_counted.f bt609.2.1 bt609.2.2 t606).bind fun t618 => (some (t618, 0))) else (if bt609.1 = 5 then ((numeric_reckoned.f bt609.2.1 bt609.2.2 t606 t608).bind fun bt619 => (some (bt619.1, bt619.2))) else (if bt609.1 = 6 then ((numeric_rounded.f k bt609.2.1 bt609.2.2 t606).bind fun t621 => (some (t621, 0))) else (if bt609.1 = 7 then ((numeric_floated.f k bt609.2.1 bt609.2.2 t606 t608).bind fun t622 => (some (t622, 0))) else (if bt609.1 = 9 then ((numeric_stopped.f k bt609.2.1 t606).bind fun t623 => (some (t623, 0))) else ((numeric_turn.f k bt609.2.1 t606).bind fun bt624 => (some (bt624.1, bt624.2)))))))))))))))) else (some (0, 0)))
theorem numeric_Apply.mono : ∀ a0 a1 a2 k, LeO (numeric_Apply.f k a0 a1 a2) (numeric_Apply.f (k + 1) a0 a1 a2) := by
 intro a0 a1 a2 k
 unfold numeric_Apply.f
 repeat' first
   | (with_reducible exact numeric_Kind.mono _ _)
   | (with_reducible exact numeric_compared.mono _ _ _ _ _)
   | (with_reducible exact numeric_find.mono _ _)
   | (with_reducible exact numeric_floated.mono _ _ _ _ _)
   | (with_reducible exact numeric_rounded.mono _ _ _ _)
   | (with_reducible exact numeric_stopped.mono _ _ _)
   | (with_reducible exact numeric_turn.mono _ _ _)
   | (with_reducible exact LeO.refl _)
   | (with_reducible exact LeO.none _)
   | (with_reducible refine LeO.ite ?_ ?_)
   | (with_reducible refine LeO.bind ?_ (fun _ => ?_))
   | exact numeric_Kind.mono _ _
   | exact numeric_compared.mono _ _ _ _ _
   | exact numeric_find.mono _ _
   | exact numeric_floated.mono _ _ _ _ _
   | exact numeric_rounded.mono _ _ _ _
   | exact numeric_stopped.mono _ _ _
   | exact numeric_turn.mono _ _ _
   | exact LeO.none _
   | refine LeO.ite ?_ ?_
   | refine LeO.bind ?_ (fun _ => ?_)
theorem numeric_Apply.calls (k : Nat) (a0 : Int) (a1 : Int) (a2 : Int) (r1 : Int) (r2 : Int) (w : World) (h : numeric_Apply.f k a0 a1 a2 = some (r1, r2)) :
  Calls Tryz.prog 9 #[.int .i64 a0, .int .u64 a1, .int .u64 a2] w fun e w' => e = .returned (.tuple #[.int .u64 r1, .int .i64 r2]) ∧ Below w.heap.size w w' := by
 have hu56 := Tryz.underlying56
 have HB := A_ (Below.refl w.heap.size w)
 have H : ((numeric_Kind.f k a0).bind fun bt601 => (if bt601.2.2.2 = true then ((numeric_width.f bt601.1).bind fun t605 => ((shape_Cut.f t605 a1).bind fun t606 => ((numeric_width.f bt601.1).bind fun t607 => ((shape_Cut.f t607 a2).bind fun t608 => ((numeric_find.f k a0).bind fun bt609 => (if bt609.1 = 1 then ((numeric_truth.f (t606 == 0)).bind fun t613 => (some (t613, 0))) else (if bt609.1 = 2 then ((numeric_related.f bt609.2.1 bt609.2.2 t606 t608).bind fun t614 => ((numeric_truth.f t614).bind fun t615 => (some (t615, 0)))) else (if bt609.1 = 3 then ((numeric_compared.f k bt609.2.1 bt609.2.2 t606 t608).bind fun t616 => ((numeric_truth.f t616).bind fun t617 => (some (t617, 0)))) else (if bt609.1 = 4 then ((numeric_counted.f bt609.2.1 bt609.2.2 t606).bind fun t618 => (some (t618, 0))) else (if bt609.1 = 5 then ((numeric_reckoned.f bt609.2.1 bt609.2.2 t606 t608).bind fun bt619 => (some (bt619.1, bt619.2))) else (if bt609.1 = 6 then ((numeric_rounded.f k bt609.2.1 bt609.2.2 t606).bind fun t621 => (some (t621, 0))) else (if bt609.1 = 7 then ((numeric_floated.f k bt609.2.1 bt609.2.2 t606 t608).bind fun t622 => (some (t622, 0))) else (if bt609.1 = 9 then ((numeric_stopped.f k bt609.2.1 t606).bind fun t623 => (some (t623, 0))) else ((numeric_turn.f k bt609.2.1 t606).bind fun bt624 => (some (bt624.1, bt624.2)))))))))))))))) else (some (0, 0)))) = some (r1, r2) := h
 clear h
 replace H := ob_ H
 obtain ⟨⟨t601, t602, t603, t604⟩, A40, H⟩ := H
 replace H : (if t604 = true then ((numeric_width.f t601).bind fun t605 => ((shape_Cut.f t605 a1).bind fun t606 => ((numeric_width.f t601).bind fun t607 => ((shape_Cut.f t607 a2).bind fun t608 => ((numeric_find.f k a0).bind fun bt609 => (if bt609.1 = 1 then ((numeric_truth.f (t606 == 0)).bind fun t613 => (some (t613, 0))) else (if bt609.1 = 2 then ((numeric_related.f bt609.2.1 bt609.2.2 t606 t608).bind fun t614 => ((numeric_truth.f t614).bind fun t615 => (some (t615, 0)))) else (if bt609.1 = 3 then ((numeric_compared.f k bt609.2.1 bt609.2.2 t606 t608).bind fun t616 => ((numeric_truth.f t616).bind fun t617 => (some (t617, 0)))) else (if bt609.1 = 4 then ((numeric_counted.f bt609.2.1 bt609.2.2 t606).bind fun t618 => (some (t618, 0))) else (if bt609.1 = 5 then ((numeric_reckoned.f bt609.2.1 bt609.2.2 t606 t608).bind fun bt619 => (some (bt619.1, bt619.2))) else (if bt609.1 = 6 then ((numeric_rounded.f k bt609.2.1 bt609.2.2 t606).bind fun t621 => (some (t621, 0))) else (if bt609.1 = 7 then ((numeric_floated.f k bt609.2.1 bt609.2.2 t606 t608).bind fun t622 => (some (t622, 0))) else (if bt609.1 = 9 then ((numeric_stopped.f k bt609.2.1 t606).bind fun t623 => (some (t623, 0))) else ((numeric_turn.f k bt609.2.1 t606).bind fun bt624 => (some (bt624.1, bt624.2)))))))))))))))) else (some (0, 0))) = some (r1, r2) := H
 have A4 := A_ A40;clear A40
 by_cases c5 : t604 = true
 ·subst c5
  have H1 : ((numeric_width.f t601).bind fun t605 => ((shape_Cut.f t605 a1).bind fun t606 => ((numeric_width.f t601).bind fun t607 => ((shape_Cut.f t607 a2).bind fun t608 => ((numeric_find.f k a0).bind fun bt609 => (if bt609.1 = 1 then ((numeric_truth.f (t606 == 0)).bind fun t613 => (some (t613, 0))) else (if bt609.1 = 2 then ((numeric_related.f bt609.2.1 bt609.2.2 t606 t608).bind fun t614 => ((numeric_truth.f t614).bind fun t615 => (some (t615, 0)))) else (if bt609.1 = 3 then ((numeric_compared.f k bt609.2.1 bt609.2.2 t606 t608).bind fun t616 => ((numeric_truth.f t616).bind fun t617 => (some (t617, 0)))) else (if bt609.1 = 4 then ((numeric_counted.f bt609.2.1 bt609.2.2 t606).bind fun t618 => (some (t618, 0))) else (if bt609.1 = 5 then ((numeric_reckoned.f bt609.2.1 bt609.2.2 t606 t608).bind fun bt619 => (some (bt619.1, bt619.2))) else (if bt609.1 = 6 then ((numeric_rounded.f k bt609.2.1 bt609.2.2 t606).bind fun t621 => (some (t621, 0))) else (if bt609.1 = 7 then ((numeric_floated.f k bt609.2.1 bt609.2.2 t606 t608).bind fun t622 => (some (t622, 0))) else (if bt609.1 = 9 then ((numeric_stopped.f k bt609.2.1 t606).bind fun t623 => (some (t623, 0))) else ((numeric_turn.f k bt609.2.1 t606).bind fun bt624 => (some (bt624.1, bt624.2)))))))))))))))) = some (r1, r2) := by rw [if_pos rfl] at H; exact H
  clear H;have H := H1;clear H1
  replace H := ob_ H
  obtain ⟨t605, A60, H⟩ := H
  replace H : ((shape_Cut.f t605 a1).bind fun t606 => ((numeric_width.f t601).bind fun t607 => ((shape_Cut.f t607 a2).bind fun t608 => ((numeric_find.f k a0).bind fun bt609 => (if bt609.1 = 1 then ((numeric_truth.f (t606 == 0)).bind fun t613 => (some (t613, 0))) else (if bt609.1 = 2 then ((numeric_related.f bt609.2.1 bt609.2.2 t606 t608).bind fun t614 => ((numeric_truth.f t614).bind fun t615 => (some (t615, 0)))) else (if bt609.1 = 3 then ((numeric_compared.f k bt609.2.1 bt609.2.2 t606 t608).bind fun t616 => ((numeric_truth.f t616).bind fun t617 => (some (t617, 0)))) else (if bt609.1 = 4 then ((numeric_counted.f bt609.2.1 bt609.2.2 t606).bind fun t618 => (some (t618, 0))) else (if bt609.1 = 5 then ((numeric_reckoned.f bt609.2.1 bt609.2.2 t606 t608).bind fun bt619 => (some (bt619.1, bt619.2))) else (if bt609.1 = 6 then ((numeric_rounded.f k bt609.2.1 bt609.2.2 t606).bind fun t621 => (some (t621, 0))) else (if bt609.1 = 7 then ((numeric_floated.f k bt609.2.1 bt609.2.2 t606 t608).bind fun t622 => (some (t622, 0))) else (if bt609.1 = 9 then ((numeric_stopped.f k bt609.2.1 t606).bind fun t623 => (some (t623, 0))) else ((numeric_turn.f k bt609.2.1 t606).bind fun bt624 => (some (bt624.1, bt624.2))))))))))))))) = some (r1, r2) := H
  have A6 := A_ A60;clear A60
  replace H := ob_ H
  obtain ⟨t606, A70, H⟩ := H
  replace H : ((numeric_width.f t601).bind fun t607 => ((shape_Cut.f t607 a2).bind fun t608 => ((numeric_find.f k a0).bind fun bt609 => (if bt609.1 = 1 then ((numeric_truth.f (t606 == 0)).bind fun t613 => (some (t613, 0))) else (if bt609.1 = 2 then ((numeric_related.f bt609.2.1 bt609.2.2 t606 t608).bind fun t614 => ((numeric_truth.f t614).bind fun t615 => (some (t615, 0)))) else (if bt609.1 = 3 then ((numeric_compared.f k bt609.2.1 bt609.2.2 t606 t608).bind fun t616 => ((numeric_truth.f t616).bind fun t617 => (some (t617, 0)))) else (if bt609.1 = 4 then ((numeric_counted.f bt609.2.1 bt609.2.2 t606).bind fun t618 => (some (t618, 0))) else (if bt609.1 = 5 then ((numeric_reckoned.f bt609.2.1 bt609.2.2 t606 t608).bind fun bt619 => (some (bt619.1, bt619.2))) else (if bt609.1 = 6 then ((numeric_rounded.f k bt609.2.1 bt609.2.2 t606).bind fun t621 => (some (t621, 0))) else (if bt609.1 = 7 then ((numeric_floated.f k bt609.2.1 bt609.2.2 t606 t608).bind fun t622 => (some (t622, 0))) else (if bt609.1 = 9 then ((numeric_stopped.f k bt609.2.1 t606).bind fun t623 => (some (t623, 0))) else ((numeric_turn.f k bt609.2.1 t606).bind fun bt624 => (some (bt624.1, bt624.2)))))))))))))) = some (r1, r2) := H
  have A7 := A_ A70;clear A70
  replace H := ob_ H
  obtain ⟨t607, A80, H⟩ := H
  replace H : ((shape_Cut.f t607 a2).bind fun t608 => ((numeric_find.f k a0).bind fun bt609 => (if bt609.1 = 1 then ((numeric_truth.f (t606 == 0)).bind fun t613 => (some (t613, 0))) else (if bt609.1 = 2 then ((numeric_related.f bt609.2.1 bt609.2.2 t606 t608).bind fun t614 => ((numeric_truth.f t614).bind fun t615 => (some (t615, 0)))) else (if bt609.1 = 3 then ((numeric_compared.f k bt609.2.1 bt609.2.2 t606 t608).bind fun t616 => ((numeric_truth.f t616).bind fun t617 => (some (t617, 0)))) else (if bt609.1 = 4 then ((numeric_counted.f bt609.2.1 bt609.2.2 t606).bind fun t618 => (some (t618, 0))) else (if bt609.1 = 5 then ((numeric_reckoned.f bt609.2.1 bt609.2.2 t606 t608).bind fun bt619 => (some (bt619.1, bt619.2))) else (if bt609.1 = 6 then ((numeric_rounded.f k bt609.2.1 bt609.2.2 t606).bind fun t621 => (some (t621, 0))) else (if bt609.1 = 7 then ((numeric_floated.f k bt609.2.1 bt609.2.2 t606 t608).bind fun t622 => (some (t622, 0))) else (if bt609.1 = 9 then ((numeric_stopped.f k bt609.2.1 t606).bind fun t623 => (some (t623, 0))) else ((numeric_turn.f k bt609.2.1 t606).bind fun bt624 => (some (bt624.1, bt624.2))))))))))))) = some (r1, r2) := H
  have A8 := A_ A80;clear A80
  have E2_ := Option.some.inj (A6.out.symm.trans A8.out)
  (try rw [← E2_] at H)
  clear A8 E2_
  replace H := ob_ H
  obtain ⟨t608, A90, H⟩ := H
  replace H : ((numeric_find.f k a0).bind fun bt609 => (if bt609.1 = 1 then ((numeric_truth.f (t606 == 0)).bind fun t613 => (some (t613, 0))) else (if bt609.1 = 2 then ((numeric_related.f bt609.2.1 bt609.2.2 t606 t608).bind fun t614 => ((numeric_truth.f t614).bind fun t615 => (some (t615, 0)))) else (if bt609.1 = 3 then ((numeric_compared.f k bt609.2.1 bt609.2.2 t606 t608).bind fun t616 => ((numeric_truth.f t616).bind fun t617 => (some (t617, 0)))) else (if bt609.1 = 4 then ((numeric_counted.f bt609.2.1 bt609.2.2 t606).bind fun t618 => (some (t618, 0))) else (if bt609.1 = 5 then ((numeric_reckoned.f bt609.2.1 bt609.2.2 t606 t608).bind fun bt619 => (some (bt619.1, bt619.2))) else (if bt609.1 = 6 then ((numeric_rounded.f k bt609.2.1 bt609.2.2 t606).bind fun t621 => (some (t621, 0))) else (if bt609.1 = 7 then ((numeric_floated.f k bt609.2.1 bt609.2.2 t606 t608).bind fun t622 => (some (t622, 0))) else (if bt609.1 = 9 then ((numeric_stopped.f k bt609.2.1 t606).bind fun t623 => (some (t623, 0))) else ((numeric_turn.f k bt609.2.1 t606).bind fun bt624 => (some (bt624.1, bt624.2)))))))))))) = some (r1, r2) := H
  have A9 := A_ A90;clear A90
  replace H := ob_ H
  obtain ⟨⟨t609, t610, t611⟩, A100, H⟩ := H
  replace H : (if t609 = 1 then ((numeric_truth.f (t606 == 0)).bind fun t613 => (some (t613, 0))) else (if t609 = 2 then ((numeric_related.f t610 t611 t606 t608).bind fun t614 => ((numeric_truth.f t614).bind fun t615 => (some (t615, 0)))) else (if t609 = 3 then ((numeric_compared.f k t610 t611 t606 t608).bind fun t616 => ((numeric_truth.f t616).bind fun t617 => (some (t617, 0)))) else (if t609 = 4 then ((numeric_counted.f t610 t611 t606).bind fun t618 => (some (t618, 0))) else (if t609 = 5 then ((numeric_reckoned.f t610 t611 t606 t608).bind fun bt619 => (some (bt619.1, bt619.2))) else (if t609 = 6 then ((numeric_rounded.f k t610 t611 t606).bind fun t621 => (some (t621, 0))) else (if t609 = 7 then ((numeric_floated.f k t610 t611 t606 t608).bind fun t622 => (some (t622, 0))) else (if t609 = 9 then ((numeric_stopped.f k t610 t606).bind fun t623 => (some (t623, 0))) else ((numeric_turn.f k t610 t606).bind fun bt624 => (some (bt624.1, bt624.2))))))))))) = some (r1, r2) := H
  have A10 := A_ A100;clear A100
  by_cases c11 : t609 = 1
  ·rw [if_pos c11] at H
   have c11b0 : (t609 == 1) = true := beq_iff_eq.mpr c11
   have c11b1 : (t609 != 1) = false := bne_eq_false_iff_eq.mpr c11
   clear c11
   replace H := ob_ H
   obtain ⟨t613, A120, H⟩ := H
   replace H : (some (t613, 0)) = some (r1, r2) := H
   have A12 := A_ A120;clear A120
   simp only [Option.some.injEq, Prod.mk.injEq] at H
   obtain ⟨rfl, rfl⟩ := H
   go_enter Tryz.func9, Tryz.ntmps9
   go_wp2_with (first | ((with_reducible refine gate_callee (f := 21) rfl ?_); refine goesL_ (some 15) rfl rfl Tryz.func21 (by kernel_rfl) rfl #[.int .i64 a0] rfl mp_ ?_; (with_reducible refine (numeric_Kind.calls k a0 t601 t602 t603 true _ A4.out).mono ?_); rintro e w13 ⟨rfl, hb⟩; refine ⟨_, rfl, ?_⟩; replace HB := A_ (below_step (hb_ HB.out) hb); (try clear hb); (try clear hb2); (try clear hk); (try clear hi)) | ((with_reducible refine gate_callee (f := 24) rfl ?_); refine goesL_ (some 23) rfl rfl Tryz.func24 (by kernel_rfl) rfl #[.int .u8 t601] rfl mp_ ?_; (with_reducible refine (numeric_width.calls t601 t605 _ A6.out).mono ?_); rintro e w' ⟨rfl, ⟨nd, rfl⟩⟩; refine ⟨_, rfl, ?_⟩; (try (rw [drewN_self w13]; generalize hq_ : World.drewN w13 _ = w13; have n0_ : Aside0 (Below w.heap.size w w13) := ⟨by rw [← hq_]; exact (hb_ HB.out)⟩; clear HB hq_; have HB := n0_; clear n0_))) | ((with_reducible refine gate_callee (f := 17) rfl ?_); refine goesL_ (some 25) rfl rfl Tryz.func17 (by kernel_rfl) rfl #[.int .i64 t605, .int .u64 a1] rfl mp_ ?_; (with_reducible refine (shape_Cut.calls t605 a1 t606 _ A7.out).mono ?_); rintro e w' ⟨rfl, ⟨nd, rfl⟩⟩; refine ⟨_, rfl, ?_⟩; (try (rw [drewN_self w13]; generalize hq_ : World.drewN w13 _ = w13; have n0_ : Aside0 (Below w.heap.size w w13) := ⟨by rw [← hq_]; exact (hb_ HB.out)⟩; clear HB hq_; have HB := n0_; clear n0_))) | ((with_reducible refine gate_callee (f := 24) rfl ?_); refine goesL_ (some 27) rfl rfl Tryz.func24 (by kernel_rfl) rfl #[.int .u8 t601] rfl mp_ ?_; (with_reducible refine (numeric_width.calls t601 t605 _ A6.out).mono ?_); rintro e w' ⟨rfl, ⟨nd, rfl⟩⟩; refine ⟨_, rfl, ?_⟩; (try (rw [drewN_self w13]; generalize hq_ : World.drewN w13 _ = w13; have n0_ : Aside0 (Below w.heap.size w w13) := ⟨by rw [← hq_]; exact (hb_ HB.out)⟩; clear HB hq_; have HB := n0_; clear n0_))) | ((with_reducible refine gate_callee (f := 17) rfl ?_); refine goesL_ (some 29) rfl rfl Tryz.func17 (by kernel_rfl) rfl #[.int .i64 t605, .int .u64 a2] rfl mp_ ?_; (with_reducible refine (shape_Cut.calls t605 a2 t608 _ A9.out).mono ?_); rintro e w' ⟨rfl, ⟨nd, rfl⟩⟩; refine ⟨_, rfl, ?_⟩; (try (rw [drewN_self w13]; generalize hq_ : World.drewN w13 _ = w13; have n0_ : Aside0 (Below w.heap.size w w13) := ⟨by rw [← hq_]; exact (hb_ HB.out)⟩; clear HB hq_; have HB := n0_; clear n0_))) | ((with_reducible refine gate_callee (f := 25) rfl ?_); refine goesL_ (some 31) rfl rfl Tryz.func25 (by kernel_rfl) rfl #[.int .i64 a0] rfl mp_ ?_; (with_reducible refine (numeric_find.calls k a0 t609 t610 t611 _ A10.out).mono ?_); rintro e w14 ⟨rfl, hb⟩; refine ⟨_, rfl, ?_⟩; replace HB := A_ (below_step (hb_ HB.out) hb); (try clear hb); (try clear hb2); (try clear hk); (try clear hi)) | ((with_reducible refine gate_dst (N := 12) rfl ?_); refine be_ 12 #[.int .i64 0, .int .i64 0, .int .i64 0] 56 ?_; intro gb612 hg w15 hbox hb; have BK612 := A_ (hbox); have GW612 := A_ (sz_ hg (hb_ HB.out)); have GE612 := A_ (sz_ hg (hb_ HB.out)); replace HB := A_ (below_step (hb_ HB.out) hb); clear hb hbox hg; have hcz16_0 := bv_ BK612.out 0; have hcz16_1 := bv_ BK612.out 1; have hcz16_2 := bv_ BK612.out 2; have hfz16_0 := blk_frozen BK612.out 0; have hfz16_1 := blk_frozen BK612.out 1; have hfz16_2 := blk_frozen BK612.out 2) | ((with_reducible refine gate_callee (f := 26) rfl ?_); refine goesL_ (some 38) rfl rfl Tryz.func26 (by kernel_rfl) rfl #[.bool (t606 == 0)] rfl mp_ ?_; (with_reducible refine (numeric_truth.calls (t606 == 0) t613 _ A12.out).mono ?_); rintro e w' ⟨rfl, ⟨nd, rfl⟩⟩; refine ⟨_, rfl, ?_⟩))
   go_ret2
   exact ⟨er_, hb1_ HB.out GE612.out⟩
  ·rw [if_neg c11] at H
   have c11b0 : (t609 == 1) = false := beq_eq_false_iff_ne.mpr c11
   have c11b1 : (t609 != 1) = true := bne_iff_ne.mpr c11
   by_cases c17 : t609 = 2
   ·rw [if_pos c17] at H
    have c17b0 : (t609 == 2) = true := beq_iff_eq.mpr c17
    have c17b1 : (t609 != 2) = false := bne_eq_false_iff_eq.mpr c17
    clear c17
    replace H := ob_ H
    obtain ⟨t614, A180, H⟩ := H
    replace H : ((numeric_truth.f t614).bind fun t615 => (some (t615, 0))) = some (r1, r2) := H
    have A18 := A_ A180;clear A180
    replace H := ob_ H
    obtain ⟨t615, A190, H⟩ := H
    replace H : (some (t615, 0)) = some (r1, r2) := H
    have A19 := A_ A190;clear A190
    simp only [Option.some.injEq, Prod.mk.injEq] at H
    obtain ⟨rfl, rfl⟩ := H
    go_enter Tryz.func9, Tryz.ntmps9
    go_wp2_with (first | ((with_reducible refine gate_callee (f := 21) rfl ?_); refine goesL_ (some 15) rfl rfl Tryz.func21 (by kernel_rfl) rfl #[.int .i64 a0] rfl mp_ ?_; (with_reducible refine (numeric_Kind.calls k a0 t601 t602 t603 true _ A4.out).mono ?_); rintro e w20 ⟨rfl, hb⟩; refine ⟨_, rfl, ?_⟩; replace HB := A_ (below_step (hb_ HB.out) hb); (try clear hb); (try clear hb2); (try clear hk); (try clear hi)) | ((with_reducible refine gate_callee (f := 24) rfl ?_); refine goesL_ (some 23) rfl rfl Tryz.func24 (by kernel_rfl) rfl #[.int .u8 t601] rfl mp_ ?_; (with_reducible refine (numeric_width.calls t601 t605 _ A6.out).mono ?_); rintro e w' ⟨rfl, ⟨nd, rfl⟩⟩; refine ⟨_, rfl, ?_⟩; (try (rw [drewN_self w20]; generalize hq_ : World.drewN w20 _ = w20; have n0_ : Aside0 (Below w.heap.size w w20) := ⟨by rw [← hq_]; exact (hb_ HB.out)⟩; clear HB hq_; have HB := n0_; clear n0_))) | ((with_reducible refine gate_callee (f := 17) rfl ?_); refine goesL_ (some 25) rfl rfl Tryz.func17 (by kernel_rfl) rfl #[.int .i64 t605, .int .u64 a1] rfl mp_ ?_; (with_reducible refine (shape_Cut.calls t605 a1 t606 _ A7.out).mono ?_); rintro e w' ⟨rfl, ⟨nd, rfl⟩⟩; refine ⟨_, rfl, ?_⟩; (try (rw [drewN_self w20]; generalize hq_ : World.drewN w20 _ = w20; have n0_ : Aside0 (Below w.heap.size w w20) := ⟨by rw [← hq_]; exact (hb_ HB.out)⟩; clear HB hq_; have HB := n0_; clear n0_))) | ((with_reducible refine gate_callee (f := 24) rfl ?_); refine goesL_ (some 27) rfl rfl Tryz.func24 (by kernel_rfl) rfl #[.int .u8 t601] rfl mp_ ?_; (with_reducible refine (numeric_width.calls t601 t605 _ A6.out).mono ?_); rintro e w' ⟨rfl, ⟨nd, rfl⟩⟩; refine ⟨_, rfl, ?_⟩; (try (rw [drewN_self w20]; generalize hq_ : World.drewN w20 _ = w20; have n0_ : Aside0 (Below w.heap.size w w20) := ⟨by rw [← hq_]; exact (hb_ HB.out)⟩; clear HB hq_; have HB := n0_; clear n0_))) | ((with_reducible refine gate_callee (f := 17) rfl ?_); refine goesL_ (some 29) rfl rfl Tryz.func17 (by kernel_rfl) rfl #[.int .i64 t605, .int .u64 a2] rfl mp_ ?_; (with_reducible refine (shape_Cut.calls t605 a2 t608 _ A9.out).mono ?_); rintro e w' ⟨rfl, ⟨nd, rfl⟩⟩; refine ⟨_, rfl, ?_⟩; (try (rw [drewN_self w20]; generalize hq_ : World.drewN w20 _ = w20; have n0_ : Aside0 (Below w.heap.size w w20) := ⟨by rw [← hq_]; exact (hb_ HB.out)⟩; clear HB hq_; have HB := n0_; clear n0_))) | ((with_reducible refine gate_callee (f := 25) rfl ?_); refine goesL_ (some 31) rfl rfl Tryz.func25 (by kernel_rfl) rfl #[.int .i64 a0] rfl mp_ ?_; (with_reducible refine (numeric_find.calls k a0 t609 t610 t611 _ A10.out).mono ?_); rintro e w21 ⟨rfl, hb⟩; refine ⟨_, rfl, ?_⟩; replace HB := A_ (below_step (hb_ HB.out) hb); (try clear hb); (try clear hb2); (try clear hk); (try clear hi)) | ((with_reducible refine gate_dst (N := 12) rfl ?_); refine be_ 12 #[.int .i64 0, .int .i64 0, .int .i64 0] 56 ?_; intro gb612 hg w22 hbox hb; have BK612 := A_ (hbox); have GW612 := A_ (sz_ hg (hb_ HB.out)); have GE612 := A_ (sz_ hg (hb_ HB.out)); replace HB := A_ (below_step (hb_ HB.out) hb); clear hb hbox hg; have hcz23_0 := bv_ BK612.out 0; have hcz23_1 := bv_ BK612.out 1; have hcz23_2 := bv_ BK612.out 2; have hfz23_0 := blk_frozen BK612.out 0; have hfz23_1 := blk_frozen BK612.out 1; have hfz23_2 := blk_frozen BK612.out 2) | ((with_reducible refine gate_callee (f := 27) rfl ?_); refine goesL_ (some 47) rfl rfl Tryz.func27 (by kernel_rfl) rfl #[.int .i64 t610, .int .i64 t611, .int .u64 t606, .int .u64 t608] rfl mp_ ?_; (with_reducible refine (numeric_related.calls t610 t611 t606 t608 t614 _ A18.out).mono ?_); rintro e w' ⟨rfl, ⟨nd, rfl⟩⟩; refine ⟨_, rfl, ?_⟩) | ((with_reducible refine gate_callee (f := 26) rfl ?_); refine goesL_ (some 48) rfl rfl Tryz.func26 (by kernel_rfl) rfl #[.bool t614] rfl mp_ ?_; (with_reducible refine (numeric_truth.calls t614 t615 _ A19.out).mono ?_); rintro e w' ⟨rfl, ⟨nd, rfl⟩⟩; refine ⟨_, rfl, ?_⟩))
    go_ret2
    exact ⟨er_, hb1_ HB.out GE612.out⟩
   ·rw [if_neg c17] at H
    have c17b0 : (t609 == 2) = false := beq_eq_false_iff_ne.mpr c17
    have c17b1 : (t609 != 2) = true := bne_iff_ne.mpr c17
    by_cases c24 : t609 = 3
    ·rw [if_pos c24] at H
     have c24b0 : (t609 == 3) = true := beq_iff_eq.mpr c24
     have c24b1 : (t609 != 3) = false := bne_eq_false_iff_eq.mpr c24
     clear c24
     replace H := ob_ H
     obtain ⟨t616, A250, H⟩ := H
     replace H : ((numeric_truth.f t616).bind fun t617 => (some (t617, 0))) = some (r1, r2) := H
     have A25 := A_ A250;clear A250
     replace H := ob_ H
     obtain ⟨t617, A260, H⟩ := H
     replace H : (some (t617, 0)) = some (r1, r2) := H
     have A26 := A_ A260;clear A260
     simp only [Option.some.injEq, Prod.mk.injEq] at H
     obtain ⟨rfl, rfl⟩ := H
     go_enter Tryz.func9, Tryz.ntmps9
     go_wp2_with (first | ((with_reducible refine gate_callee (f := 21) rfl ?_); refine goesL_ (some 15) rfl rfl Tryz.func21 (by kernel_rfl) rfl #[.int .i64 a0] rfl mp_ ?_; (with_reducible refine (numeric_Kind.calls k a0 t601 t602 t603 true _ A4.out).mono ?_); rintro e w27 ⟨rfl, hb⟩; refine ⟨_, rfl, ?_⟩; replace HB := A_ (below_step (hb_ HB.out) hb); (try clear hb); (try clear hb2); (try clear hk); (try clear hi)) | ((with_reducible refine gate_callee (f := 24) rfl ?_); refine goesL_ (some 23) rfl rfl Tryz.func24 (by kernel_rfl) rfl #[.int .u8 t601] rfl mp_ ?_; (with_reducible refine (numeric_width.calls t601 t605 _ A6.out).mono ?_); rintro e w' ⟨rfl, ⟨nd, rfl⟩⟩; refine ⟨_, rfl, ?_⟩; (try (rw [drewN_self w27]; generalize hq_ : World.drewN w27 _ = w27; have n0_ : Aside0 (Below w.heap.size w w27) := ⟨by rw [← hq_]; exact (hb_ HB.out)⟩; clear HB hq_; have HB := n0_; clear n0_))) | ((with_reducible refine gate_callee (f := 17) rfl ?_); refine goesL_ (some 25) rfl rfl Tryz.func17 (by kernel_rfl) rfl #[.int .i64 t605, .int .u64 a1] rfl mp_ ?_; (with_reducible refine (shape_Cut.calls t605 a1 t606 _ A7.out).mono ?_); rintro e w' ⟨rfl, ⟨nd, rfl⟩⟩; refine ⟨_, rfl, ?_⟩; (try (rw [drewN_self w27]; generalize hq_ : World.drewN w27 _ = w27; have n0_ : Aside0 (Below w.heap.size w w27) := ⟨by rw [← hq_]; exact (hb_ HB.out)⟩; clear HB hq_; have HB := n0_; clear n0_))) | ((with_reducible refine gate_callee (f := 24) rfl ?_); refine goesL_ (some 27) rfl rfl Tryz.func24 (by kernel_rfl) rfl #[.int .u8 t601] rfl mp_ ?_; (with_reducible refine (numeric_width.calls t601 t605 _ A6.out).mono ?_); rintro e w' ⟨rfl, ⟨nd, rfl⟩⟩; refine ⟨_, rfl, ?_⟩; (try (rw [drewN_self w27]; generalize hq_ : World.drewN w27 _ = w27; have n0_ : Aside0 (Below w.heap.size w w27) := ⟨by rw [← hq_]; exact (hb_ HB.out)⟩; clear HB hq_; have HB := n0_; clear n0_))) | ((with_reducible refine gate_callee (f := 17) rfl ?_); refine goesL_ (some 29) rfl rfl Tryz.func17 (by kernel_rfl) rfl #[.int .i64 t605, .int .u64 a2] rfl mp_ ?_; (with_reducible refine (shape_Cut.calls t605 a2 t608 _ A9.out).mono ?_); rintro e w' ⟨rfl, ⟨nd, rfl⟩⟩; refine ⟨_, rfl, ?_⟩; (try (rw [drewN_self w27]; generalize hq_ : World.drewN w27 _ = w27; have n0_ : Aside0 (Below w.heap.size w w27) := ⟨by rw [← hq_]; exact (hb_ HB.out)⟩; clear HB hq_; have HB := n0_; clear n0_))) | ((with_reducible refine gate_callee (f := 25) rfl ?_); refine goesL_ (some 31) rfl rfl Tryz.func25 (by kernel_rfl) rfl #[.int .i64 a0] rfl mp_ ?_; (with_reducible refine (numeric_find.calls k a0 t609 t610 t611 _ A10.out).mono ?_); rintro e w28 ⟨rfl, hb⟩; refine ⟨_, rfl, ?_⟩; replace HB := A_ (below_step (hb_ HB.out) hb); (try clear hb); (try clear hb2); (try clear hk); (try clear hi)) | ((with_reducible refine gate_dst (N := 12) rfl ?_); refine be_ 12 #[.int .i64 0, .int .i64 0, .int .i64 0] 56 ?_; intro gb612 hg w29 hbox hb; have BK612 := A_ (hbox); have GW612 := A_ (sz_ hg (hb_ HB.out)); have GE612 := A_ (sz_ hg (hb_ HB.out)); replace HB := A_ (below_step (hb_ HB.out) hb); clear hb hbox hg; have hcz30_0 := bv_ BK612.out 0; have hcz30_1 := bv_ BK612.out 1; have hcz30_2 := bv_ BK612.out 2; have hfz30_0 := blk_frozen BK612.out 0; have hfz30_1 := blk_frozen BK612.out 1; have hfz30_2 := blk_frozen BK612.out 2) | ((with_reducible refine gate_callee (f := 28) rfl ?_); refine goesL_ (some 57) rfl rfl Tryz.func28 (by kernel_rfl) rfl #[.int .i64 t610, .int .i64 t611, .int .u64 t606, .int .u64 t608] rfl mp_ ?_; (with_reducible refine (numeric_compared.calls k t610 t611 t606 t608 t616 _ A25.out).mono ?_); rintro e w31 ⟨rfl, hb⟩; refine ⟨_, rfl, ?_⟩; replace BK612 := A_ (blk_below (g := gb612) (o := .cells #[.int .i64 t609, .int .i64 t610, .int .i64 t611] 56 (0, 0)) (by (with_reducible repeat (first | refine blk_drewN ?_ _ | refine blk_drew ?_ | refine blk_alloc ?_ _)); refine blk_put (cs := #[.int .i64 t609, .int .i64 t610, .int .i64 0]) ?_ 2 _ rfl; (with_reducible repeat (first | refine blk_drewN ?_ _ | refine blk_drew ?_ | refine blk_alloc ?_ _)); refine blk_put (cs := #[.int .i64 t609, .int .i64 0, .int .i64 0]) ?_ 1 _ rfl; (with_reducible repeat (first | refine blk_drewN ?_ _ | refine blk_drew ?_ | refine blk_alloc ?_ _)); refine blk_put (cs := #[.int .i64 0, .int .i64 0, .int .i64 0]) ?_ 0 _ rfl; (with_reducible repeat (first | refine blk_drewN ?_ _ | refine blk_drew ?_ | refine blk_alloc ?_ _)); exact BK612.out) hb); replace HB := A_ (below_step (hb1_ HB.out GE612.out) hb); (try clear hb); (try clear hb2); (try clear hk); (try clear hi)) | ((with_reducible refine gate_callee (f := 26) rfl ?_); refine goesL_ (some 58) rfl rfl Tryz.func26 (by kernel_rfl) rfl #[.bool t616] rfl mp_ ?_; (with_reducible refine (numeric_truth.calls t616 t617 _ A26.out).mono ?_); rintro e w' ⟨rfl, ⟨nd, rfl⟩⟩; refine ⟨_, rfl, ?_⟩))
     go_ret2
     exact ⟨er_, hb1_ HB.out GE612.out⟩
    ·rw [if_neg c24] at H
     have c24b0 : (t609 == 3) = false := beq_eq_false_iff_ne.mpr c24
     have c24b1 : (t609 != 3) = true := bne_iff_ne.mpr c24
     by_cases c32 : t609 = 4
     ·rw [if_pos c32] at H
      have c32b0 : (t609 == 4) = true := beq_iff_eq.mpr c32
      have c32b1 : (t609 != 4) = false := bne_eq_false_iff_eq.mpr c32
      clear c32
      replace H := ob_ H
      obtain ⟨t618, A330, H⟩ := H
      replace H : (some (t618, 0)) = some (r1, r2) := H
      have A33 := A_ A330;clear A330
      simp only [Option.some.injEq, Prod.mk.injEq] at H
      obtain ⟨rfl, rfl⟩ := H
      go_enter Tryz.func9, Tryz.ntmps9
      go_wp2_with (first | ((with_reducible refine gate_callee (f := 21) rfl ?_); refine goesL_ (some 15) rfl rfl Tryz.func21 (by kernel_rfl) rfl #[.int .i64 a0] rfl mp_ ?_; (with_reducible refine (numeric_Kind.calls k a0 t601 t602 t603 true _ A4.out).mono ?_); rintro e w34 ⟨rfl, hb⟩; refine ⟨_, rfl, ?_⟩; replace HB := A_ (below_step (hb_ HB.out) hb); (try clear hb); (try clear hb2); (try clear hk); (try clear hi)) | ((with_reducible refine gate_callee (f := 24) rfl ?_); refine goesL_ (some 23) rfl rfl Tryz.func24 (by kernel_rfl) rfl #[.int .u8 t601] rfl mp_ ?_; (with_reducible refine (numeric_width.calls t601 t605 _ A6.out).mono ?_); rintro e w' ⟨rfl, ⟨nd, rfl⟩⟩; refine ⟨_, rfl, ?_⟩; (try (rw [drewN_self w34]; generalize hq_ : World.drewN w34 _ = w34; have n0_ : Aside0 (Below w.heap.size w w34) := ⟨by rw [← hq_]; exact (hb_ HB.out)⟩; clear HB hq_; have HB := n0_; clear n0_))) | ((with_reducible refine gate_callee (f := 17) rfl ?_); refine goesL_ (some 25) rfl rfl Tryz.func17 (by kernel_rfl) rfl #[.int .i64 t605, .int .u64 a1] rfl mp_ ?_; (with_reducible refine (shape_Cut.calls t605 a1 t606 _ A7.out).mono ?_); rintro e w' ⟨rfl, ⟨nd, rfl⟩⟩; refine ⟨_, rfl, ?_⟩; (try (rw [drewN_self w34]; generalize hq_ : World.drewN w34 _ = w34; have n0_ : Aside0 (Below w.heap.size w w34) := ⟨by rw [← hq_]; exact (hb_ HB.out)⟩; clear HB hq_; have HB := n0_; clear n0_))) | ((with_reducible refine gate_callee (f := 24) rfl ?_); refine goesL_ (some 27) rfl rfl Tryz.func24 (by kernel_rfl) rfl #[.int .u8 t601] rfl mp_ ?_; (with_reducible refine (numeric_width.calls t601 t605 _ A6.out).mono ?_); rintro e w' ⟨rfl, ⟨nd, rfl⟩⟩; refine ⟨_, rfl, ?_⟩; (try (rw [drewN_self w34]; generalize hq_ : World.drewN w34 _ = w34; have n0_ : Aside0 (Below w.heap.size w w34) := ⟨by rw [← hq_]; exact (hb_ HB.out)⟩; clear HB hq_; have HB := n0_; clear n0_))) | ((with_reducible refine gate_callee (f := 17) rfl ?_); refine goesL_ (some 29) rfl rfl Tryz.func17 (by kernel_rfl) rfl #[.int .i64 t605, .int .u64 a2] rfl mp_ ?_; (with_reducible refine (shape_Cut.calls t605 a2 t608 _ A9.out).mono ?_); rintro e w' ⟨rfl, ⟨nd, rfl⟩⟩; refine ⟨_, rfl, ?_⟩; (try (rw [drewN_self w34]; generalize hq_ : World.drewN w34 _ = w34; have n0_ : Aside0 (Below w.heap.size w w34) := ⟨by rw [← hq_]; exact (hb_ HB.out)⟩; clear HB hq_; have HB := n0_; clear n0_))) | ((with_reducible refine gate_callee (f := 25) rfl ?_); refine goesL_ (some 31) rfl rfl Tryz.func25 (by kernel_rfl) rfl #[.int .i64 a0] rfl mp_ ?_; (with_reducible refine (numeric_find.calls k a0 t609 t610 t611 _ A10.out).mono ?_); rintro e w35 ⟨rfl, hb⟩; refine ⟨_, rfl, ?_⟩; replace HB := A_ (below_step (hb_ HB.out) hb); (try clear hb); (try clear hb2); (try clear hk); (try clear hi)) | ((with_reducible refine gate_dst (N := 12) rfl ?_); refine be_ 12 #[.int .i64 0, .int .i64 0, .int .i64 0] 56 ?_; intro gb612 hg w36 hbox hb; have BK612 := A_ (hbox); have GW612 := A_ (sz_ hg (hb_ HB.out)); have GE612 := A_ (sz_ hg (hb_ HB.out)); replace HB := A_ (below_step (hb_ HB.out) hb); clear hb hbox hg; have hcz37_0 := bv_ BK612.out 0; have hcz37_1 := bv_ BK612.out 1; have hcz37_2 := bv_ BK612.out 2; have hfz37_0 := blk_frozen BK612.out 0; have hfz37_1 := blk_frozen BK612.out 1; have hfz37_2 := blk_frozen BK612.out 2) | ((with_reducible refine gate_callee (f := 29) rfl ?_); refine goesL_ (some 66) rfl rfl Tryz.func29 (by kernel_rfl) rfl #[.int .i64 t610, .int .i64 t611, .int .u64 t606] rfl mp_ ?_; (with_reducible refine (numeric_counted.calls t610 t611 t606 t618 _ A33.out).mono ?_); rintro e w38 ⟨rfl, hb⟩; refine ⟨_, rfl, ?_⟩; replace BK612 := A_ (blk_below (g := gb612) (o := .cells #[.int .i64 t609, .int .i64 t610, .int .i64 t611] 56 (0, 0)) (by (with_reducible repeat (first | refine blk_drewN ?_ _ | refine blk_drew ?_ | refine blk_alloc ?_ _)); refine blk_put (cs := #[.int .i64 t609, .int .i64 t610, .int .i64 0]) ?_ 2 _ rfl; (with_reducible repeat (first | refine blk_drewN ?_ _ | refine blk_drew ?_ | refine blk_alloc ?_ _)); refine blk_put (cs := #[.int .i64 t609, .int .i64 0, .int .i64 0]) ?_ 1 _ rfl; (with_reducible repeat (first | refine blk_drewN ?_ _ | refine blk_drew ?_ | refine blk_alloc ?_ _)); refine blk_put (cs := #[.int .i64 0, .int .i64 0, .int .i64 0]) ?_ 0 _ rfl; (with_reducible repeat (first | refine blk_drewN ?_ _ | refine blk_drew ?_ | refine blk_alloc ?_ _)); exact BK612.out) hb); replace HB := A_ (below_step (hb1_ HB.out GE612.out) hb); (try clear hb); (try clear hb2); (try clear hk); (try clear hi)))
      go_ret2
      exact ⟨er_, hb1_ HB.out GE612.out⟩
     ·rw [if_neg c32] at H
      have c32b0 : (t609 == 4) = false := beq_eq_false_iff_ne.mpr c32
      have c32b1 : (t609 != 4) = true := bne_iff_ne.mpr c32
      by_cases c39 : t609 = 5
      ·rw [if_pos c39] at H
       have c39b0 : (t609 == 5) = true := beq_iff_eq.mpr c39
       have c39b1 : (t609 != 5) = false := bne_eq_false_iff_eq.mpr c39
       clear c39
       replace H := ob_ H
       obtain ⟨⟨t619, t620⟩, A400, H⟩ := H
       replace H : (some (t619, t620)) = some (r1, r2) := H
       have A40 := A_ A400;clear A400
       simp only [Option.some.injEq, Prod.mk.injEq] at H
       obtain ⟨rfl, rfl⟩ := H
       go_enter Tryz.func9, Tryz.ntmps9
       go_wp2_with (first | ((with_reducible refine gate_callee (f := 21) rfl ?_); refine goesL_ (some 15) rfl rfl Tryz.func21 (by kernel_rfl) rfl #[.int .i64 a0] rfl mp_ ?_; (with_reducible refine (numeric_Kind.calls k a0 t601 t602 t603 true _ A4.out).mono ?_); rintro e w41 ⟨rfl, hb⟩; refine ⟨_, rfl, ?_⟩; replace HB := A_ (below_step (hb_ HB.out) hb); (try clear hb); (try clear hb2); (try clear hk); (try clear hi)) | ((with_reducible refine gate_callee (f := 24) rfl ?_); refine goesL_ (some 23) rfl rfl Tryz.func24 (by kernel_rfl) rfl #[.int .u8 t601] rfl mp_ ?_; (with_reducible refine (numeric_width.calls t601 t605 _ A6.out).mono ?_); rintro e w' ⟨rfl, ⟨nd, rfl⟩⟩; refine ⟨_, rfl, ?_⟩; (try (rw [drewN_self w41]; generalize hq_ : World.drewN w41 _ = w41; have n0_ : Aside0 (Below w.heap.size w w41) := ⟨by rw [← hq_]; exact (hb_ HB.out)⟩; clear HB hq_; have HB := n0_; clear n0_))) | ((with_reducible refine gate_callee (f := 17) rfl ?_); refine goesL_ (some 25) rfl rfl Tryz.func17 (by kernel_rfl) rfl #[.int .i64 t605, .int .u64 a1] rfl mp_ ?_; (with_reducible refine (shape_Cut.calls t605 a1 t606 _ A7.out).mono ?_); rintro e w' ⟨rfl, ⟨nd, rfl⟩⟩; refine ⟨_, rfl, ?_⟩; (try (rw [drewN_self w41]; generalize hq_ : World.drewN w41 _ = w41; have n0_ : Aside0 (Below w.heap.size w w41) := ⟨by rw [← hq_]; exact (hb_ HB.out)⟩; clear HB hq_; have HB := n0_; clear n0_))) | ((with_reducible refine gate_callee (f := 24) rfl ?_); refine goesL_ (some 27) rfl rfl Tryz.func24 (by kernel_rfl) rfl #[.int .u8 t601] rfl mp_ ?_; (with_reducible refine (numeric_width.calls t601 t605 _ A6.out).mono ?_); rintro e w' ⟨rfl, ⟨nd, rfl⟩⟩; refine ⟨_, rfl, ?_⟩; (try (rw [drewN_self w41]; generalize hq_ : World.drewN w41 _ = w41; have n0_ : Aside0 (Below w.heap.size w w41) := ⟨by rw [← hq_]; exact (hb_ HB.out)⟩; clear HB hq_; have HB := n0_; clear n0_))) | ((with_reducible refine gate_callee (f := 17) rfl ?_); refine goesL_ (some 29) rfl rfl Tryz.func17 (by kernel_rfl) rfl #[.int .i64 t605, .int .u64 a2] rfl mp_ ?_; (with_reducible refine (shape_Cut.calls t605 a2 t608 _ A9.out).mono ?_); rintro e w' ⟨rfl, ⟨nd, rfl⟩⟩; refine ⟨_, rfl, ?_⟩; (try (rw [drewN_self w41]; generalize hq_ : World.drewN w41 _ = w41; have n0_ : Aside0 (Below w.heap.size w w41) := ⟨by rw [← hq_]; exact (hb_ HB.out)⟩; clear HB hq_; have HB := n0_; clear n0_))) | ((with_reducible refine gate_callee (f := 25) rfl ?_); refine goesL_ (some 31) rfl rfl Tryz.func25 (by kernel_rfl) rfl #[.int .i64 a0] rfl mp_ ?_; (with_reducible refine (numeric_find.calls k a0 t609 t610 t611 _ A10.out).mono ?_); rintro e w42 ⟨rfl, hb⟩; refine ⟨_, rfl, ?_⟩; replace HB := A_ (below_step (hb_ HB.out) hb); (try clear hb); (try clear hb2); (try clear hk); (try clear hi)) | ((with_reducible refine gate_dst (N := 12) rfl ?_); refine be_ 12 #[.int .i64 0, .int .i64 0, .int .i64 0] 56 ?_; intro gb612 hg w43 hbox hb; have BK612 := A_ (hbox); have GW612 := A_ (sz_ hg (hb_ HB.out)); have GE612 := A_ (sz_ hg (hb_ HB.out)); replace HB := A_ (below_step (hb_ HB.out) hb); clear hb hbox hg; have hcz44_0 := bv_ BK612.out 0; have hcz44_1 := bv_ BK612.out 1; have hcz44_2 := bv_ BK612.out 2; have hfz44_0 := blk_frozen BK612.out 0; have hfz44_1 := blk_frozen BK612.out 1; have hfz44_2 := blk_frozen BK612.out 2) | ((with_reducible refine gate_callee (f := 30) rfl ?_); refine goesL_ (some 75) rfl rfl Tryz.func30 (by kernel_rfl) rfl #[.int .i64 t610, .int .i64 t611, .int .u64 t606, .int .u64 t608] rfl mp_ ?_; (with_reducible refine (numeric_reckoned.calls t610 t611 t606 t608 t619 t620 _ A40.out).mono ?_); rintro e w45 ⟨rfl, hb⟩; refine ⟨_, rfl, ?_⟩; replace BK612 := A_ (blk_below (g := gb612) (o := .cells #[.int .i64 t609, .int .i64 t610, .int .i64 t611] 56 (0, 0)) (by (with_reducible repeat (first | refine blk_drewN ?_ _ | refine blk_drew ?_ | refine blk_alloc ?_ _)); refine blk_put (cs := #[.int .i64 t609, .int .i64 t610, .int .i64 0]) ?_ 2 _ rfl; (with_reducible repeat (first | refine blk_drewN ?_ _ | refine blk_drew ?_ | refine blk_alloc ?_ _)); refine blk_put (cs := #[.int .i64 t609, .int .i64 0, .int .i64 0]) ?_ 1 _ rfl; (with_reducible repeat (first | refine blk_drewN ?_ _ | refine blk_drew ?_ | refine blk_alloc ?_ _)); refine blk_put (cs := #[.int .i64 0, .int .i64 0, .int .i64 0]) ?_ 0 _ rfl; (with_reducible repeat (first | refine blk_drewN ?_ _ | refine blk_drew ?_ | refine blk_alloc ?_ _)); exact BK612.out) hb); replace HB := A_ (below_step (hb1_ HB.out GE612.out) hb); (try clear hb); (try clear hb2); (try clear hk); (try clear hi)))
       go_ret2
       exact ⟨er_, hb1_ HB.out GE612.out⟩
      ·rw [if_neg c39] at H
       have c39b0 : (t609 == 5) = false := beq_eq_false_iff_ne.mpr c39
       have c39b1 : (t609 != 5) = true := bne_iff_ne.mpr c39
       by_cases c46 : t609 = 6
       ·rw [if_pos c46] at H
        have c46b0 : (t609 == 6) = true := beq_iff_eq.mpr c46
        have c46b1 : (t609 != 6) = false := bne_eq_false_iff_eq.mpr c46
        clear c46
        replace H := ob_ H
        obtain ⟨t621, A470, H⟩ := H
        replace H : (some (t621, 0)) = some (r1, r2) := H
        have A47 := A_ A470;clear A470
        simp only [Option.some.injEq, Prod.mk.injEq] at H
        obtain ⟨rfl, rfl⟩ := H
        go_enter Tryz.func9, Tryz.ntmps9
        go_wp2_with (first | ((with_reducible refine gate_callee (f := 21) rfl ?_); refine goesL_ (some 15) rfl rfl Tryz.func21 (by kernel_rfl) rfl #[.int .i64 a0] rfl mp_ ?_; (with_reducible refine (numeric_Kind.calls k a0 t601 t602 t603 true _ A4.out).mono ?_); rintro e w48 ⟨rfl, hb⟩; refine ⟨_, rfl, ?_⟩; replace HB := A_ (below_step (hb_ HB.out) hb); (try clear hb); (try clear hb2); (try clear hk); (try clear hi)) | ((with_reducible refine gate_callee (f := 24) rfl ?_); refine goesL_ (some 23) rfl rfl Tryz.func24 (by kernel_rfl) rfl #[.int .u8 t601] rfl mp_ ?_; (with_reducible refine (numeric_width.calls t601 t605 _ A6.out).mono ?_); rintro e w' ⟨rfl, ⟨nd, rfl⟩⟩; refine ⟨_, rfl, ?_⟩; (try (rw [drewN_self w48]; generalize hq_ : World.drewN w48 _ = w48; have n0_ : Aside0 (Below w.heap.size w w48) := ⟨by rw [← hq_]; exact (hb_ HB.out)⟩; clear HB hq_; have HB := n0_; clear n0_))) | ((with_reducible refine gate_callee (f := 17) rfl ?_); refine goesL_ (some 25) rfl rfl Tryz.func17 (by kernel_rfl) rfl #[.int .i64 t605, .int .u64 a1] rfl mp_ ?_; (with_reducible refine (shape_Cut.calls t605 a1 t606 _ A7.out).mono ?_); rintro e w' ⟨rfl, ⟨nd, rfl⟩⟩; refine ⟨_, rfl, ?_⟩; (try (rw [drewN_self w48]; generalize hq_ : World.drewN w48 _ = w48; have n0_ : Aside0 (Below w.heap.size w w48) := ⟨by rw [← hq_]; exact (hb_ HB.out)⟩; clear HB hq_; have HB := n0_; clear n0_))) | ((with_reducible refine gate_callee (f := 24) rfl ?_); refine goesL_ (some 27) rfl rfl Tryz.func24 (by kernel_rfl) rfl #[.int .u8 t601] rfl mp_ ?_; (with_reducible refine (numeric_width.calls t601 t605 _ A6.out).mono ?_); rintro e w' ⟨rfl, ⟨nd, rfl⟩⟩; refine ⟨_, rfl, ?_⟩; (try (rw [drewN_self w48]; generalize hq_ : World.drewN w48 _ = w48; have n0_ : Aside0 (Below w.heap.size w w48) := ⟨by rw [← hq_]; exact (hb_ HB.out)⟩; clear HB hq_; have HB := n0_; clear n0_))) | ((with_reducible refine gate_callee (f := 17) rfl ?_); refine goesL_ (some 29) rfl rfl Tryz.func17 (by kernel_rfl) rfl #[.int .i64 t605, .int .u64 a2] rfl mp_ ?_; (with_reducible refine (shape_Cut.calls t605 a2 t608 _ A9.out).mono ?_); rintro e w' ⟨rfl, ⟨nd, rfl⟩⟩; refine ⟨_, rfl, ?_⟩; (try (rw [drewN_self w48]; generalize hq_ : World.drewN w48 _ = w48; have n0_ : Aside0 (Below w.heap.size w w48) := ⟨by rw [← hq_]; exact (hb_ HB.out)⟩; clear HB hq_; have HB := n0_; clear n0_))) | ((with_reducible refine gate_callee (f := 25) rfl ?_); refine goesL_ (some 31) rfl rfl Tryz.func25 (by kernel_rfl) rfl #[.int .i64 a0] rfl mp_ ?_; (with_reducible refine (numeric_find.calls k a0 t609 t610 t611 _ A10.out).mono ?_); rintro e w49 ⟨rfl, hb⟩; refine ⟨_, rfl, ?_⟩; replace HB := A_ (below_step (hb_ HB.out) hb); (try clear hb); (try clear hb2); (try clear hk); (try clear hi)) | ((with_reducible refine gate_dst (N := 12) rfl ?_); refine be_ 12 #[.int .i64 0, .int .i64 0, .int .i64 0] 56 ?_; intro gb612 hg w50 hbox hb; have BK612 := A_ (hbox); have GW612 := A_ (sz_ hg (hb_ HB.out)); have GE612 := A_ (sz_ hg (hb_ HB.out)); replace HB := A_ (below_step (hb_ HB.out) hb); clear hb hbox hg; have hcz51_0 := bv_ BK612.out 0; have hcz51_1 := bv_ BK612.out 1; have hcz51_2 := bv_ BK612.out 2; have hfz51_0 := blk_frozen BK612.out 0; have hfz51_1 := blk_frozen BK612.out 1; have hfz51_2 := blk_frozen BK612.out 2) | ((with_reducible refine gate_callee (f := 31) rfl ?_); refine goesL_ (some 85) rfl rfl Tryz.func31 (by kernel_rfl) rfl #[.int .i64 t610, .int .i64 t611, .int .u64 t606] rfl mp_ ?_; (with_reducible refine (numeric_rounded.calls k t610 t611 t606 t621 _ A47.out).mono ?_); rintro e w52 ⟨rfl, hb⟩; refine ⟨_, rfl, ?_⟩; replace BK612 := A_ (blk_below (g := gb612) (o := .cells #[.int .i64 t609, .int .i64 t610, .int .i64 t611] 56 (0, 0)) (by (with_reducible repeat (first | refine blk_drewN ?_ _ | refine blk_drew ?_ | refine blk_alloc ?_ _)); refine blk_put (cs := #[.int .i64 t609, .int .i64 t610, .int .i64 0]) ?_ 2 _ rfl; (with_reducible repeat (first | refine blk_drewN ?_ _ | refine blk_drew ?_ | refine blk_alloc ?_ _)); refine blk_put (cs := #[.int .i64 t609, .int .i64 0, .int .i64 0]) ?_ 1 _ rfl; (with_reducible repeat (first | refine blk_drewN ?_ _ | refine blk_drew ?_ | refine blk_alloc ?_ _)); refine blk_put (cs := #[.int .i64 0, .int .i64 0, .int .i64 0]) ?_ 0 _ rfl; (with_reducible repeat (first | refine blk_drewN ?_ _ | refine blk_drew ?_ | refine blk_alloc ?_ _)); exact BK612.out) hb); replace HB := A_ (below_step (hb1_ HB.out GE612.out) hb); (try clear hb); (try clear hb2); (try clear hk); (try clear hi)))
        go_ret2
        exact ⟨er_, hb1_ HB.out GE612.out⟩
       ·rw [if_neg c46] at H
        have c46b0 : (t609 == 6) = false := beq_eq_false_iff_ne.mpr c46
        have c46b1 : (t609 != 6) = true := bne_iff_ne.mpr c46
        by_cases c53 : t609 = 7
        ·rw [if_pos c53] at H
         have c53b0 : (t609 == 7) = true := beq_iff_eq.mpr c53
         have c53b1 : (t609 != 7) = false := bne_eq_false_iff_eq.mpr c53
         clear c53
         replace H := ob_ H
         obtain ⟨t622, A540, H⟩ := H
         replace H : (some (t622, 0)) = some (r1, r2) := H
         have A54 := A_ A540;clear A540
         simp only [Option.some.injEq, Prod.mk.injEq] at H
         obtain ⟨rfl, rfl⟩ := H
         go_enter Tryz.func9, Tryz.ntmps9
         go_wp2_with (first | ((with_reducible refine gate_callee (f := 21) rfl ?_); refine goesL_ (some 15) rfl rfl Tryz.func21 (by kernel_rfl) rfl #[.int .i64 a0] rfl mp_ ?_; (with_reducible refine (numeric_Kind.calls k a0 t601 t602 t603 true _ A4.out).mono ?_); rintro e w55 ⟨rfl, hb⟩; refine ⟨_, rfl, ?_⟩; replace HB := A_ (below_step (hb_ HB.out) hb); (try clear hb); (try clear hb2); (try clear hk); (try clear hi)) | ((with_reducible refine gate_callee (f := 24) rfl ?_); refine goesL_ (some 23) rfl rfl Tryz.func24 (by kernel_rfl) rfl #[.int .u8 t601] rfl mp_ ?_; (with_reducible refine (numeric_width.calls t601 t605 _ A6.out).mono ?_); rintro e w' ⟨rfl, ⟨nd, rfl⟩⟩; refine ⟨_, rfl, ?_⟩; (try (rw [drewN_self w55]; generalize hq_ : World.drewN w55 _ = w55; have n0_ : Aside0 (Below w.heap.size w w55) := ⟨by rw [← hq_]; exact (hb_ HB.out)⟩; clear HB hq_; have HB := n0_; clear n0_))) | ((with_reducible refine gate_callee (f := 17) rfl ?_); refine goesL_ (some 25) rfl rfl Tryz.func17 (by kernel_rfl) rfl #[.int .i64 t605, .int .u64 a1] rfl mp_ ?_; (with_reducible refine (shape_Cut.calls t605 a1 t606 _ A7.out).mono ?_); rintro e w' ⟨rfl, ⟨nd, rfl⟩⟩; refine ⟨_, rfl, ?_⟩; (try (rw [drewN_self w55]; generalize hq_ : World.drewN w55 _ = w55; have n0_ : Aside0 (Below w.heap.size w w55) := ⟨by rw [← hq_]; exact (hb_ HB.out)⟩; clear HB hq_; have HB := n0_; clear n0_))) | ((with_reducible refine gate_callee (f := 24) rfl ?_); refine goesL_ (some 27) rfl rfl Tryz.func24 (by kernel_rfl) rfl #[.int .u8 t601] rfl mp_ ?_; (with_reducible refine (numeric_width.calls t601 t605 _ A6.out).mono ?_); rintro e w' ⟨rfl, ⟨nd, rfl⟩⟩; refine ⟨_, rfl, ?_⟩; (try (rw [drewN_self w55]; generalize hq_ : World.drewN w55 _ = w55; have n0_ : Aside0 (Below w.heap.size w w55) := ⟨by rw [← hq_]; exact (hb_ HB.out)⟩; clear HB hq_; have HB := n0_; clear n0_))) | ((with_reducible refine gate_callee (f := 17) rfl ?_); refine goesL_ (some 29) rfl rfl Tryz.func17 (by kernel_rfl) rfl #[.int .i64 t605, .int .u64 a2] rfl mp_ ?_; (with_reducible refine (shape_Cut.calls t605 a2 t608 _ A9.out).mono ?_); rintro e w' ⟨rfl, ⟨nd, rfl⟩⟩; refine ⟨_, rfl, ?_⟩; (try (rw [drewN_self w55]; generalize hq_ : World.drewN w55 _ = w55; have n0_ : Aside0 (Below w.heap.size w w55) := ⟨by rw [← hq_]; exact (hb_ HB.out)⟩; clear HB hq_; have HB := n0_; clear n0_))) | ((with_reducible refine gate_callee (f := 25) rfl ?_); refine goesL_ (some 31) rfl rfl Tryz.func25 (by kernel_rfl) rfl #[.int .i64 a0] rfl mp_ ?_; (with_reducible refine (numeric_find.calls k a0 t609 t610 t611 _ A10.out).mono ?_); rintro e w56 ⟨rfl, hb⟩; refine ⟨_, rfl, ?_⟩; replace HB := A_ (below_step (hb_ HB.out) hb); (try clear hb); (try clear hb2); (try clear hk); (try clear hi)) | ((with_reducible refine gate_dst (N := 12) rfl ?_); refine be_ 12 #[.int .i64 0, .int .i64 0, .int .i64 0] 56 ?_; intro gb612 hg w57 hbox hb; have BK612 := A_ (hbox); have GW612 := A_ (sz_ hg (hb_ HB.out)); have GE612 := A_ (sz_ hg (hb_ HB.out)); replace HB := A_ (below_step (hb_ HB.out) hb); clear hb hbox hg; have hcz58_0 := bv_ BK612.out 0; have hcz58_1 := bv_ BK612.out 1; have hcz58_2 := bv_ BK612.out 2; have hfz58_0 := blk_frozen BK612.out 0; have hfz58_1 := blk_frozen BK612.out 1; have hfz58_2 := blk_frozen BK612.out 2) | ((with_reducible refine gate_callee (f := 32) rfl ?_); refine goesL_ (some 94) rfl rfl Tryz.func32 (by kernel_rfl) rfl #[.int .i64 t610, .int .i64 t611, .int .u64 t606, .int .u64 t608] rfl mp_ ?_; (with_reducible refine (numeric_floated.calls k t610 t611 t606 t608 t622 _ A54.out).mono ?_); rintro e w59 ⟨rfl, hb⟩; refine ⟨_, rfl, ?_⟩; replace BK612 := A_ (blk_below (g := gb612) (o := .cells #[.int .i64 t609, .int .i64 t610, .int .i64 t611] 56 (0, 0)) (by (with_reducible repeat (first | refine blk_drewN ?_ _ | refine blk_drew ?_ | refine blk_alloc ?_ _)); refine blk_put (cs := #[.int .i64 t609, .int .i64 t610, .int .i64 0]) ?_ 2 _ rfl; (with_reducible repeat (first | refine blk_drewN ?_ _ | refine blk_drew ?_ | refine blk_alloc ?_ _)); refine blk_put (cs := #[.int .i64 t609, .int .i64 0, .int .i64 0]) ?_ 1 _ rfl; (with_reducible repeat (first | refine blk_drewN ?_ _ | refine blk_drew ?_ | refine blk_alloc ?_ _)); refine blk_put (cs := #[.int .i64 0, .int .i64 0, .int .i64 0]) ?_ 0 _ rfl; (with_reducible repeat (first | refine blk_drewN ?_ _ | refine blk_drew ?_ | refine blk_alloc ?_ _)); exact BK612.out) hb); replace HB := A_ (below_step (hb1_ HB.out GE612.out) hb); (try clear hb); (try clear hb2); (try clear hk); (try clear hi)))
         go_ret2
         exact ⟨er_, hb1_ HB.out GE612.out⟩
        ·rw [if_neg c53] at H
         have c53b0 : (t609 == 7) = false := beq_eq_false_iff_ne.mpr c53
         have c53b1 : (t609 != 7) = true := bne_iff_ne.mpr c53
         by_cases c60 : t609 = 9
         ·rw [if_pos c60] at H
          have c60b0 : (t609 == 9) = true := beq_iff_eq.mpr c60
          have c60b1 : (t609 != 9) = false := bne_eq_false_iff_eq.mpr c60
          clear c60
          replace H := ob_ H
          obtain ⟨t623, A610, H⟩ := H
          replace H : (some (t623, 0)) = some (r1, r2) := H
          have A61 := A_ A610;clear A610
          simp only [Option.some.injEq, Prod.mk.injEq] at H
          obtain ⟨rfl, rfl⟩ := H
          go_enter Tryz.func9, Tryz.ntmps9
          go_wp2_with (first | ((with_reducible refine gate_callee (f := 21) rfl ?_); refine goesL_ (some 15) rfl rfl Tryz.func21 (by kernel_rfl) rfl #[.int .i64 a0] rfl mp_ ?_; (with_reducible refine (numeric_Kind.calls k a0 t601 t602 t603 true _ A4.out).mono ?_); rintro e w62 ⟨rfl, hb⟩; refine ⟨_, rfl, ?_⟩; replace HB := A_ (below_step (hb_ HB.out) hb); (try clear hb); (try clear hb2); (try clear hk); (try clear hi)) | ((with_reducible refine gate_callee (f := 24) rfl ?_); refine goesL_ (some 23) rfl rfl Tryz.func24 (by kernel_rfl) rfl #[.int .u8 t601] rfl mp_ ?_; (with_reducible refine (numeric_width.calls t601 t605 _ A6.out).mono ?_); rintro e w' ⟨rfl, ⟨nd, rfl⟩⟩; refine ⟨_, rfl, ?_⟩; (try (rw [drewN_self w62]; generalize hq_ : World.drewN w62 _ = w62; have n0_ : Aside0 (Below w.heap.size w w62) := ⟨by rw [← hq_]; exact (hb_ HB.out)⟩; clear HB hq_; have HB := n0_; clear n0_))) | ((with_reducible refine gate_callee (f := 17) rfl ?_); refine goesL_ (some 25) rfl rfl Tryz.func17 (by kernel_rfl) rfl #[.int .i64 t605, .int .u64 a1] rfl mp_ ?_; (with_reducible refine (shape_Cut.calls t605 a1 t606 _ A7.out).mono ?_); rintro e w' ⟨rfl, ⟨nd, rfl⟩⟩; refine ⟨_, rfl, ?_⟩; (try (rw [drewN_self w62]; generalize hq_ : World.drewN w62 _ = w62; have n0_ : Aside0 (Below w.heap.size w w62) := ⟨by rw [← hq_]; exact (hb_ HB.out)⟩; clear HB hq_; have HB := n0_; clear n0_))) | ((with_reducible refine gate_callee (f := 24) rfl ?_); refine goesL_ (some 27) rfl rfl Tryz.func24 (by kernel_rfl) rfl #[.int .u8 t601] rfl mp_ ?_; (with_reducible refine (numeric_width.calls t601 t605 _ A6.out).mono ?_); rintro e w' ⟨rfl, ⟨nd, rfl⟩⟩; refine ⟨_, rfl, ?_⟩; (try (rw [drewN_self w62]; generalize hq_ : World.drewN w62 _ = w62; have n0_ : Aside0 (Below w.heap.size w w62) := ⟨by rw [← hq_]; exact (hb_ HB.out)⟩; clear HB hq_; have HB := n0_; clear n0_))) | ((with_reducible refine gate_callee (f := 17) rfl ?_); refine goesL_ (some 29) rfl rfl Tryz.func17 (by kernel_rfl) rfl #[.int .i64 t605, .int .u64 a2] rfl mp_ ?_; (with_reducible refine (shape_Cut.calls t605 a2 t608 _ A9.out).mono ?_); rintro e w' ⟨rfl, ⟨nd, rfl⟩⟩; refine ⟨_, rfl, ?_⟩; (try (rw [drewN_self w62]; generalize hq_ : World.drewN w62 _ = w62; have n0_ : Aside0 (Below w.heap.size w w62) := ⟨by rw [← hq_]; exact (hb_ HB.out)⟩; clear HB hq_; have HB := n0_; clear n0_))) | ((with_reducible refine gate_callee (f := 25) rfl ?_); refine goesL_ (some 31) rfl rfl Tryz.func25 (by kernel_rfl) rfl #[.int .i64 a0] rfl mp_ ?_; (with_reducible refine (numeric_find.calls k a0 t609 t610 t611 _ A10.out).mono ?_); rintro e w63 ⟨rfl, hb⟩; refine ⟨_, rfl, ?_⟩; replace HB := A_ (below_step (hb_ HB.out) hb); (try clear hb); (try clear hb2); (try clear hk); (try clear hi)) | ((with_reducible refine gate_dst (N := 12) rfl ?_); refine be_ 12 #[.int .i64 0, .int .i64 0, .int .i64 0] 56 ?_; intro gb612 hg w64 hbox hb; have BK612 := A_ (hbox); have GW612 := A_ (sz_ hg (hb_ HB.out)); have GE612 := A_ (sz_ hg (hb_ HB.out)); replace HB := A_ (below_step (hb_ HB.out) hb); clear hb hbox hg; have hcz65_0 := bv_ BK612.out 0; have hcz65_1 := bv_ BK612.out 1; have hcz65_2 := bv_ BK612.out 2; have hfz65_0 := blk_frozen BK612.out 0; have hfz65_1 := blk_frozen BK612.out 1; have hfz65_2 := blk_frozen BK612.out 2) | ((with_reducible refine gate_callee (f := 33) rfl ?_); refine goesL_ (some 100) rfl rfl Tryz.func33 (by kernel_rfl) rfl #[.int .i64 t610, .int .u64 t606] rfl mp_ ?_; (with_reducible refine (numeric_stopped.calls k t610 t606 t623 _ A61.out).mono ?_); rintro e w66 ⟨rfl, hb⟩; refine ⟨_, rfl, ?_⟩; replace BK612 := A_ (blk_below (g := gb612) (o := .cells #[.int .i64 t609, .int .i64 t610, .int .i64 t611] 56 (0, 0)) (by (with_reducible repeat (first | refine blk_drewN ?_ _ | refine blk_drew ?_ | refine blk_alloc ?_ _)); refine blk_put (cs := #[.int .i64 t609, .int .i64 t610, .int .i64 0]) ?_ 2 _ rfl; (with_reducible repeat (first | refine blk_drewN ?_ _ | refine blk_drew ?_ | refine blk_alloc ?_ _)); refine blk_put (cs := #[.int .i64 t609, .int .i64 0, .int .i64 0]) ?_ 1 _ rfl; (with_reducible repeat (first | refine blk_drewN ?_ _ | refine blk_drew ?_ | refine blk_alloc ?_ _)); refine blk_put (cs := #[.int .i64 0, .int .i64 0, .int .i64 0]) ?_ 0 _ rfl; (with_reducible repeat (first | refine blk_drewN ?_ _ | refine blk_drew ?_ | refine blk_alloc ?_ _)); exact BK612.out) hb); replace HB := A_ (below_step (hb1_ HB.out GE612.out) hb); (try clear hb); (try clear hb2); (try clear hk); (try clear hi)))
          go_ret2
          exact ⟨er_, hb1_ HB.out GE612.out⟩
         ·rw [if_neg c60] at H
          have c60b0 : (t609 == 9) = false := beq_eq_false_iff_ne.mpr c60
          have c60b1 : (t609 != 9) = true := bne_iff_ne.mpr c60
          replace H := ob_ H
          obtain ⟨⟨t624, t625⟩, A670, H⟩ := H
          replace H : (some (t624, t625)) = some (r1, r2) := H
          have A67 := A_ A670;clear A670
          simp only [Option.some.injEq, Prod.mk.injEq] at H
          obtain ⟨rfl, rfl⟩ := H
          go_enter Tryz.func9, Tryz.ntmps9
          go_wp2_with (first | ((with_reducible refine gate_callee (f := 21) rfl ?_); refine goesL_ (some 15) rfl rfl Tryz.func21 (by kernel_rfl) rfl #[.int .i64 a0] rfl mp_ ?_; (with_reducible refine (numeric_Kind.calls k a0 t601 t602 t603 true _ A4.out).mono ?_); rintro e w68 ⟨rfl, hb⟩; refine ⟨_, rfl, ?_⟩; replace HB := A_ (below_step (hb_ HB.out) hb); (try clear hb); (try clear hb2); (try clear hk); (try clear hi)) | ((with_reducible refine gate_callee (f := 24) rfl ?_); refine goesL_ (some 23) rfl rfl Tryz.func24 (by kernel_rfl) rfl #[.int .u8 t601] rfl mp_ ?_; (with_reducible refine (numeric_width.calls t601 t605 _ A6.out).mono ?_); rintro e w' ⟨rfl, ⟨nd, rfl⟩⟩; refine ⟨_, rfl, ?_⟩; (try (rw [drewN_self w68]; generalize hq_ : World.drewN w68 _ = w68; have n0_ : Aside0 (Below w.heap.size w w68) := ⟨by rw [← hq_]; exact (hb_ HB.out)⟩; clear HB hq_; have HB := n0_; clear n0_))) | ((with_reducible refine gate_callee (f := 17) rfl ?_); refine goesL_ (some 25) rfl rfl Tryz.func17 (by kernel_rfl) rfl #[.int .i64 t605, .int .u64 a1] rfl mp_ ?_; (with_reducible refine (shape_Cut.calls t605 a1 t606 _ A7.out).mono ?_); rintro e w' ⟨rfl, ⟨nd, rfl⟩⟩; refine ⟨_, rfl, ?_⟩; (try (rw [drewN_self w68]; generalize hq_ : World.drewN w68 _ = w68; have n0_ : Aside0 (Below w.heap.size w w68) := ⟨by rw [← hq_]; exact (hb_ HB.out)⟩; clear HB hq_; have HB := n0_; clear n0_))) | ((with_reducible refine gate_callee (f := 24) rfl ?_); refine goesL_ (some 27) rfl rfl Tryz.func24 (by kernel_rfl) rfl #[.int .u8 t601] rfl mp_ ?_; (with_reducible refine (numeric_width.calls t601 t605 _ A6.out).mono ?_); rintro e w' ⟨rfl, ⟨nd, rfl⟩⟩; refine ⟨_, rfl, ?_⟩; (try (rw [drewN_self w68]; generalize hq_ : World.drewN w68 _ = w68; have n0_ : Aside0 (Below w.heap.size w w68) := ⟨by rw [← hq_]; exact (hb_ HB.out)⟩; clear HB hq_; have HB := n0_; clear n0_))) | ((with_reducible refine gate_callee (f := 17) rfl ?_); refine goesL_ (some 29) rfl rfl Tryz.func17 (by kernel_rfl) rfl #[.int .i64 t605, .int .u64 a2] rfl mp_ ?_; (with_reducible refine (shape_Cut.calls t605 a2 t608 _ A9.out).mono ?_); rintro e w' ⟨rfl, ⟨nd, rfl⟩⟩; refine ⟨_, rfl, ?_⟩; (try (rw [drewN_self w68]; generalize hq_ : World.drewN w68 _ = w68; have n0_ : Aside0 (Below w.heap.size w w68) := ⟨by rw [← hq_]; exact (hb_ HB.out)⟩; clear HB hq_; have HB := n0_; clear n0_))) | ((with_reducible refine gate_callee (f := 25) rfl ?_); refine goesL_ (some 31) rfl rfl Tryz.func25 (by kernel_rfl) rfl #[.int .i64 a0] rfl mp_ ?_; (with_reducible refine (numeric_find.calls k a0 t609 t610 t611 _ A10.out).mono ?_); rintro e w69 ⟨rfl, hb⟩; refine ⟨_, rfl, ?_⟩; replace HB := A_ (below_step (hb_ HB.out) hb); (try clear hb); (try clear hb2); (try clear hk); (try clear hi)) | ((with_reducible refine gate_dst (N := 12) rfl ?_); refine be_ 12 #[.int .i64 0, .int .i64 0, .int .i64 0] 56 ?_; intro gb612 hg w70 hbox hb; have BK612 := A_ (hbox); have GW612 := A_ (sz_ hg (hb_ HB.out)); have GE612 := A_ (sz_ hg (hb_ HB.out)); replace HB := A_ (below_step (hb_ HB.out) hb); clear hb hbox hg; have hcz71_0 := bv_ BK612.out 0; have hcz71_1 := bv_ BK612.out 1; have hcz71_2 := bv_ BK612.out 2; have hfz71_0 := blk_frozen BK612.out 0; have hfz71_1 := blk_frozen BK612.out 1; have hfz71_2 := blk_frozen BK612.out 2) | ((with_reducible refine gate_callee (f := 34) rfl ?_); refine goesL_ (some 104) rfl rfl Tryz.func34 (by kernel_rfl) rfl #[.int .i64 t610, .int .u64 t606] rfl mp_ ?_; (with_reducible refine (numeric_turn.calls k t610 t606 t624 t625 _ A67.out).mono ?_); rintro e w72 ⟨rfl, hb⟩; refine ⟨_, rfl, ?_⟩; replace BK612 := A_ (blk_below (g := gb612) (o := .cells #[.int .i64 t609, .int .i64 t610, .int .i64 t611] 56 (0, 0)) (by (with_reducible repeat (first | refine blk_drewN ?_ _ | refine blk_drew ?_ | refine blk_alloc ?_ _)); refine blk_put (cs := #[.int .i64 t609, .int .i64 t610, .int .i64 0]) ?_ 2 _ rfl; (with_reducible repeat (first | refine blk_drewN ?_ _ | refine blk_drew ?_ | refine blk_alloc ?_ _)); refine blk_put (cs := #[.int .i64 t609, .int .i64 0, .int .i64 0]) ?_ 1 _ rfl; (with_reducible repeat (first | refine blk_drewN ?_ _ | refine blk_drew ?_ | refine blk_alloc ?_ _)); refine blk_put (cs := #[.int .i64 0, .int .i64 0, .int .i64 0]) ?_ 0 _ rfl; (with_reducible repeat (first | refine blk_drewN ?_ _ | refine blk_drew ?_ | refine blk_alloc ?_ _)); exact BK612.out) hb); replace HB := A_ (below_step (hb1_ HB.out GE612.out) hb); (try clear hb); (try clear hb2); (try clear hk); (try clear hi)))
          go_ret2
          exact ⟨er_, hb1_ HB.out GE612.out⟩
 ·replace c5 := Bool.eq_false_iff.mpr c5
  subst c5
  have H1 : (some (0, 0)) = some (r1, r2) := by rw [if_neg (show ¬ (false = true) by decide)] at H; exact H
  clear H;have H := H1;clear H1
  simp only [Option.some.injEq, Prod.mk.injEq] at H
  obtain ⟨rfl, rfl⟩ := H
  go_enter Tryz.func9, Tryz.ntmps9
  go_wp2_with (first | ((with_reducible refine gate_callee (f := 21) rfl ?_); refine goesL_ (some 15) rfl rfl Tryz.func21 (by kernel_rfl) rfl #[.int .i64 a0] rfl mp_ ?_; (with_reducible refine (numeric_Kind.calls k a0 t601 t602 t603 false _ A4.out).mono ?_); rintro e w73 ⟨rfl, hb⟩; refine ⟨_, rfl, ?_⟩; replace HB := A_ (below_step (hb_ HB.out) hb); (try clear hb); (try clear hb2); (try clear hk); (try clear hi)))
  go_ret2
  exact ⟨er_, hb_ HB.out⟩
def L14_awake.f (k : Nat)  : Option (Bool) := (numeric_Apply.f k 106 4294967295 1).bind fun bt626 => ((numeric_Apply.f k 110 5 0).bind fun bt628 => ((numeric_Apply.f k 146 1065353216 1065353216).bind fun bt630 => (if bt626.1 = 0 then (if bt626.2 = 0 then (if bt628.2 = 2 then (if bt630.1 = 1073741824 then (some (bt630.2 == 0)) else (some false)) else (some false)) else (some false)) else (some false))))
theorem L14_awake.mono : ∀ k, LeO (L14_awake.f k ) (L14_awake.f (k + 1) ) := by
 intro  k
 unfold L14_awake.f
 repeat' first
   | (with_reducible exact numeric_Apply.mono _ _ _ _)
   | (with_reducible exact LeO.refl _)
   | (with_reducible exact LeO.none _)
   | (with_reducible refine LeO.ite ?_ ?_)
   | (with_reducible refine LeO.bind ?_ (fun _ => ?_))
   | exact numeric_Apply.mono _ _ _ _
   | exact LeO.none _
   | refine LeO.ite ?_ ?_
   | refine LeO.bind ?_ (fun _ => ?_)
theorem L14_awake.calls (k : Nat)  (r : Bool) (w : World) (h : L14_awake.f k  = some r) :
  Calls Tryz.prog 19 #[] w fun e w' => e = .returned (.bool r) ∧ Below w.heap.size w w' := by
 have HB := A_ (Below.refl w.heap.size w)
 have H : ((numeric_Apply.f k 106 4294967295 1).bind fun bt626 => ((numeric_Apply.f k 110 5 0).bind fun bt628 => ((numeric_Apply.f k 146 1065353216 1065353216).bind fun bt630 => (if bt626.1 = 0 then (if bt626.2 = 0 then (if bt628.2 = 2 then (if bt630.1 = 1073741824 then (some (bt630.2 == 0)) else (some false)) else (some false)) else (some false)) else (some false))))) = some r := h
 clear h
 replace H := ob_ H
 obtain ⟨⟨t626, t627⟩, A10, H⟩ := H
 replace H : ((numeric_Apply.f k 110 5 0).bind fun bt628 => ((numeric_Apply.f k 146 1065353216 1065353216).bind fun bt630 => (if t626 = 0 then (if t627 = 0 then (if bt628.2 = 2 then (if bt630.1 = 1073741824 then (some (bt630.2 == 0)) else (some false)) else (some false)) else (some false)) else (some false)))) = some r := H
 have A1 := A_ A10;clear A10
 replace H := ob_ H
 obtain ⟨⟨t628, t629⟩, A20, H⟩ := H
 replace H : ((numeric_Apply.f k 146 1065353216 1065353216).bind fun bt630 => (if t626 = 0 then (if t627 = 0 then (if t629 = 2 then (if bt630.1 = 1073741824 then (some (bt630.2 == 0)) else (some false)) else (some false)) else (some false)) else (some false))) = some r := H
 have A2 := A_ A20;clear A20
 replace H := ob_ H
 obtain ⟨⟨t630, t631⟩, A30, H⟩ := H
 replace H : (if t626 = 0 then (if t627 = 0 then (if t629 = 2 then (if t630 = 1073741824 then (some (t631 == 0)) else (some false)) else (some false)) else (some false)) else (some false)) = some r := H
 have A3 := A_ A30;clear A30
 by_cases c4 : t626 = 0
 ·rw [if_pos c4] at H
  have c4b0 : (t626 == 0) = true := beq_iff_eq.mpr c4
  have c4b1 : (t626 != 0) = false := bne_eq_false_iff_eq.mpr c4
  clear c4
  by_cases c5 : t627 = 0
  ·rw [if_pos c5] at H
   have c5b0 : (t627 == 0) = true := beq_iff_eq.mpr c5
   have c5b1 : (t627 != 0) = false := bne_eq_false_iff_eq.mpr c5
   clear c5
   by_cases c6 : t629 = 2
   ·rw [if_pos c6] at H
    have c6b0 : (t629 == 2) = true := beq_iff_eq.mpr c6
    have c6b1 : (t629 != 2) = false := bne_eq_false_iff_eq.mpr c6
    clear c6
    by_cases c7 : t630 = 1073741824
    ·rw [if_pos c7] at H
     have c7b0 : (t630 == 1073741824) = true := beq_iff_eq.mpr c7
     have c7b1 : (t630 != 1073741824) = false := bne_eq_false_iff_eq.mpr c7
     clear c7
     obtain rfl := Option.some.inj H
     go_enter Tryz.func19, Tryz.ntmps19
     go_wp2_with (first | ((with_reducible refine gate_callee (f := 9) rfl ?_); refine goesL_ (some 8) rfl rfl Tryz.func9 (by kernel_rfl) rfl #[.int .i64 106, .int .u64 4294967295, .int .u64 1] rfl mp_ ?_; (with_reducible refine (numeric_Apply.calls k 106 4294967295 1 t626 t627 _ A1.out).mono ?_); rintro e w8 ⟨rfl, hb⟩; refine ⟨_, rfl, ?_⟩; replace HB := A_ (below_step (hb_ HB.out) hb); (try clear hb); (try clear hb2); (try clear hk); (try clear hi)) | ((with_reducible refine gate_callee (f := 9) rfl ?_); refine goesL_ (some 12) rfl rfl Tryz.func9 (by kernel_rfl) rfl #[.int .i64 110, .int .u64 5, .int .u64 0] rfl mp_ ?_; (with_reducible refine (numeric_Apply.calls k 110 5 0 t628 t629 _ A2.out).mono ?_); rintro e w9 ⟨rfl, hb⟩; refine ⟨_, rfl, ?_⟩; replace HB := A_ (below_step (hb_ HB.out) hb); (try clear hb); (try clear hb2); (try clear hk); (try clear hi)) | ((with_reducible refine gate_callee (f := 9) rfl ?_); refine goesL_ (some 16) rfl rfl Tryz.func9 (by kernel_rfl) rfl #[.int .i64 146, .int .u64 1065353216, .int .u64 1065353216] rfl mp_ ?_; (with_reducible refine (numeric_Apply.calls k 146 1065353216 1065353216 t630 t631 _ A3.out).mono ?_); rintro e w10 ⟨rfl, hb⟩; refine ⟨_, rfl, ?_⟩; replace HB := A_ (below_step (hb_ HB.out) hb); (try clear hb); (try clear hb2); (try clear hk); (try clear hi)))
     go_ret
     exact ⟨er_, hb_ HB.out⟩
    ·rw [if_neg c7] at H
     have c7b0 : (t630 == 1073741824) = false := beq_eq_false_iff_ne.mpr c7
     have c7b1 : (t630 != 1073741824) = true := bne_iff_ne.mpr c7
     obtain rfl := Option.some.inj H
     go_enter Tryz.func19, Tryz.ntmps19
     go_wp2_with (first | ((with_reducible refine gate_callee (f := 9) rfl ?_); refine goesL_ (some 8) rfl rfl Tryz.func9 (by kernel_rfl) rfl #[.int .i64 106, .int .u64 4294967295, .int .u64 1] rfl mp_ ?_; (with_reducible refine (numeric_Apply.calls k 106 4294967295 1 t626 t627 _ A1.out).mono ?_); rintro e w11 ⟨rfl, hb⟩; refine ⟨_, rfl, ?_⟩; replace HB := A_ (below_step (hb_ HB.out) hb); (try clear hb); (try clear hb2); (try clear hk); (try clear hi)) | ((with_reducible refine gate_callee (f := 9) rfl ?_); refine goesL_ (some 12) rfl rfl Tryz.func9 (by kernel_rfl) rfl #[.int .i64 110, .int .u64 5, .int .u64 0] rfl mp_ ?_; (with_reducible refine (numeric_Apply.calls k 110 5 0 t628 t629 _ A2.out).mono ?_); rintro e w12 ⟨rfl, hb⟩; refine ⟨_, rfl, ?_⟩; replace HB := A_ (below_step (hb_ HB.out) hb); (try clear hb); (try clear hb2); (try clear hk); (try clear hi)) | ((with_reducible refine gate_callee (f := 9) rfl ?_); refine goesL_ (some 16) rfl rfl Tryz.func9 (by kernel_rfl) rfl #[.int .i64 146, .int .u64 1065353216, .int .u64 1065353216] rfl mp_ ?_; (with_reducible refine (numeric_Apply.calls k 146 1065353216 1065353216 t630 t631 _ A3.out).mono ?_); rintro e w13 ⟨rfl, hb⟩; refine ⟨_, rfl, ?_⟩; replace HB := A_ (below_step (hb_ HB.out) hb); (try clear hb); (try clear hb2); (try clear hk); (try clear hi)))
     go_ret
     exact ⟨er_, hb_ HB.out⟩
   ·rw [if_neg c6] at H
    have c6b0 : (t629 == 2) = false := beq_eq_false_iff_ne.mpr c6
    have c6b1 : (t629 != 2) = true := bne_iff_ne.mpr c6
    obtain rfl := Option.some.inj H
    go_enter Tryz.func19, Tryz.ntmps19
    go_wp2_with (first | ((with_reducible refine gate_callee (f := 9) rfl ?_); refine goesL_ (some 8) rfl rfl Tryz.func9 (by kernel_rfl) rfl #[.int .i64 106, .int .u64 4294967295, .int .u64 1] rfl mp_ ?_; (with_reducible refine (numeric_Apply.calls k 106 4294967295 1 t626 t627 _ A1.out).mono ?_); rintro e w14 ⟨rfl, hb⟩; refine ⟨_, rfl, ?_⟩; replace HB := A_ (below_step (hb_ HB.out) hb); (try clear hb); (try clear hb2); (try clear hk); (try clear hi)) | ((with_reducible refine gate_callee (f := 9) rfl ?_); refine goesL_ (some 12) rfl rfl Tryz.func9 (by kernel_rfl) rfl #[.int .i64 110, .int .u64 5, .int .u64 0] rfl mp_ ?_; (with_reducible refine (numeric_Apply.calls k 110 5 0 t628 t629 _ A2.out).mono ?_); rintro e w15 ⟨rfl, hb⟩; refine ⟨_, rfl, ?_⟩; replace HB := A_ (below_step (hb_ HB.out) hb); (try clear hb); (try clear hb2); (try clear hk); (try clear hi)) | ((with_reducible refine gate_callee (f := 9) rfl ?_); refine goesL_ (some 16) rfl rfl Tryz.func9 (by kernel_rfl) rfl #[.int .i64 146, .int .u64 1065353216, .int .u64 1065353216] rfl mp_ ?_; (with_reducible refine (numeric_Apply.calls k 146 1065353216 1065353216 t630 t631 _ A3.out).mono ?_); rintro e w16 ⟨rfl, hb⟩; refine ⟨_, rfl, ?_⟩; replace HB := A_ (below_step (hb_ HB.out) hb); (try clear hb); (try clear hb2); (try clear hk); (try clear hi)))
    go_ret
    exact ⟨er_, hb_ HB.out⟩
  ·rw [if_neg c5] at H
   have c5b0 : (t627 == 0) = false := beq_eq_false_iff_ne.mpr c5
   have c5b1 : (t627 != 0) = true := bne_iff_ne.mpr c5
   obtain rfl := Option.some.inj H
   go_enter Tryz.func19, Tryz.ntmps19
   go_wp2_with (first | ((with_reducible refine gate_callee (f := 9) rfl ?_); refine goesL_ (some 8) rfl rfl Tryz.func9 (by kernel_rfl) rfl #[.int .i64 106, .int .u64 4294967295, .int .u64 1] rfl mp_ ?_; (with_reducible refine (numeric_Apply.calls k 106 4294967295 1 t626 t627 _ A1.out).mono ?_); rintro e w17 ⟨rfl, hb⟩; refine ⟨_, rfl, ?_⟩; replace HB := A_ (below_step (hb_ HB.out) hb); (try clear hb); (try clear hb2); (try clear hk); (try clear hi)) | ((with_reducible refine gate_callee (f := 9) rfl ?_); refine goesL_ (some 12) rfl rfl Tryz.func9 (by kernel_rfl) rfl #[.int .i64 110, .int .u64 5, .int .u64 0] rfl mp_ ?_; (with_reducible refine (numeric_Apply.calls k 110 5 0 t628 t629 _ A2.out).mono ?_); rintro e w18 ⟨rfl, hb⟩; refine ⟨_, rfl, ?_⟩; replace HB := A_ (below_step (hb_ HB.out) hb); (try clear hb); (try clear hb2); (try clear hk); (try clear hi)) | ((with_reducible refine gate_callee (f := 9) rfl ?_); refine goesL_ (some 16) rfl rfl Tryz.func9 (by kernel_rfl) rfl #[.int .i64 146, .int .u64 1065353216, .int .u64 1065353216] rfl mp_ ?_; (with_reducible refine (numeric_Apply.calls k 146 1065353216 1065353216 t630 t631 _ A3.out).mono ?_); rintro e w19 ⟨rfl, hb⟩; refine ⟨_, rfl, ?_⟩; replace HB := A_ (below_step (hb_ HB.out) hb); (try clear hb); (try clear hb2); (try clear hk); (try clear hi)))
   go_ret
   exact ⟨er_, hb_ HB.out⟩
 ·rw [if_neg c4] at H
  have c4b0 : (t626 == 0) = false := beq_eq_false_iff_ne.mpr c4
  have c4b1 : (t626 != 0) = true := bne_iff_ne.mpr c4
  obtain rfl := Option.some.inj H
  go_enter Tryz.func19, Tryz.ntmps19
  go_wp2_with (first | ((with_reducible refine gate_callee (f := 9) rfl ?_); refine goesL_ (some 8) rfl rfl Tryz.func9 (by kernel_rfl) rfl #[.int .i64 106, .int .u64 4294967295, .int .u64 1] rfl mp_ ?_; (with_reducible refine (numeric_Apply.calls k 106 4294967295 1 t626 t627 _ A1.out).mono ?_); rintro e w20 ⟨rfl, hb⟩; refine ⟨_, rfl, ?_⟩; replace HB := A_ (below_step (hb_ HB.out) hb); (try clear hb); (try clear hb2); (try clear hk); (try clear hi)) | ((with_reducible refine gate_callee (f := 9) rfl ?_); refine goesL_ (some 12) rfl rfl Tryz.func9 (by kernel_rfl) rfl #[.int .i64 110, .int .u64 5, .int .u64 0] rfl mp_ ?_; (with_reducible refine (numeric_Apply.calls k 110 5 0 t628 t629 _ A2.out).mono ?_); rintro e w21 ⟨rfl, hb⟩; refine ⟨_, rfl, ?_⟩; replace HB := A_ (below_step (hb_ HB.out) hb); (try clear hb); (try clear hb2); (try clear hk); (try clear hi)) | ((with_reducible refine gate_callee (f := 9) rfl ?_); refine goesL_ (some 16) rfl rfl Tryz.func9 (by kernel_rfl) rfl #[.int .i64 146, .int .u64 1065353216, .int .u64 1065353216] rfl mp_ ?_; (with_reducible refine (numeric_Apply.calls k 146 1065353216 1065353216 t630 t631 _ A3.out).mono ?_); rintro e w22 ⟨rfl, hb⟩; refine ⟨_, rfl, ?_⟩; replace HB := A_ (below_step (hb_ HB.out) hb); (try clear hb); (try clear hb2); (try clear hk); (try clear hi)))
  go_ret
  exact ⟨er_, hb_ HB.out⟩
def L14_NumericSwaps.j0 : Nat → Int → Int → Int → Bool → Option (Bool)
 | 0, _, _, _, _ => none
 | k + 1, x0, x1, x2, x14 => if x14 = true then ((numeric_Apply.f k x0 x1 x2).bind fun bt633 => ((numeric_Apply.f k x0 x2 x1).bind fun bt635 => (if bt633.1 = bt635.1 then (some (bt633.2 == bt635.2)) else (some false)))) else (some true)
def L14_NumericSwaps.f (k : Nat) (a0 : Int) (a1 : Int) (a2 : Int) : Option (Bool) := (L14_awake.f k).bind fun t632 => (if t632 = true then (if a0 = 70 then (L14_NumericSwaps.j0 k a0 a1 a2 (a0 == 70)) else (if a0 = 71 then (L14_NumericSwaps.j0 k a0 a1 a2 (a0 == 71)) else (if a0 = 81 then (L14_NumericSwaps.j0 k a0 a1 a2 (a0 == 81)) else (if a0 = 82 then (L14_NumericSwaps.j0 k a0 a1 a2 (a0 == 82)) else (if a0 = 91 then (L14_NumericSwaps.j0 k a0 a1 a2 (a0 == 91)) else (if a0 = 92 then (L14_NumericSwaps.j0 k a0 a1 a2 (a0 == 92)) else (if a0 = 97 then (L14_NumericSwaps.j0 k a0 a1 a2 (a0 == 97)) else (if a0 = 98 then (L14_NumericSwaps.j0 k a0 a1 a2 (a0 == 98)) else (if a0 = 106 then (L14_NumericSwaps.j0 k a0 a1 a2 (a0 == 106)) else (if a0 = 108 then (L14_NumericSwaps.j0 k a0 a1 a2 (a0 == 108)) else (if a0 = 113 then (L14_NumericSwaps.j0 k a0 a1 a2 (a0 == 113)) else (if a0 = 114 then (L14_NumericSwaps.j0 k a0 a1 a2 (a0 == 114)) else (if a0 = 115 then (L14_NumericSwaps.j0 k a0 a1 a2 (a0 == 115)) else (if a0 = 124 then (L14_NumericSwaps.j0 k a0 a1 a2 (a0 == 124)) else (if a0 = 126 then (L14_NumericSwaps.j0 k a0 a1 a2 (a0 == 126)) else (if a0 = 131 then (L14_NumericSwaps.j0 k a0 a1 a2 (a0 == 131)) else (if a0 = 132 then (L14_NumericSwaps.j0 k a0 a1 a2 (a0 == 132)) else (if a0 = 133 then (L14_NumericSwaps.j0 k a0 a1 a2 (a0 == 133)) else (if a0 = 146 then (L14_NumericSwaps.j0 k a0 a1 a2 (a0 == 146)) else (if a0 = 148 then (L14_NumericSwaps.j0 k a0 a1 a2 (a0 == 148)) else (if a0 = 150 then (L14_NumericSwaps.j0 k a0 a1 a2 (a0 == 150)) else (if a0 = 151 then (L14_NumericSwaps.j0 k a0 a1 a2 (a0 == 151)) else (if a0 = 160 then (L14_NumericSwaps.j0 k a0 a1 a2 (a0 == 160)) else (if a0 = 162 then (L14_NumericSwaps.j0 k a0 a1 a2 (a0 == 162)) else (if a0 = 164 then (L14_NumericSwaps.j0 k a0 a1 a2 (a0 == 164)) else (L14_NumericSwaps.j0 k a0 a1 a2 (a0 == 165))))))))))))))))))))))))))) else (some false))
theorem L14_NumericSwaps.mono_l : ∀ k, (∀ y0 y1 y2 y3, LeO (L14_NumericSwaps.j0 k y0 y1 y2 y3) (L14_NumericSwaps.j0 (k + 1) y0 y1 y2 y3))
 | 0 => fun _ _ _ _ r h => by simp [L14_NumericSwaps.j0] at h
 | k + 1 => by
  have ih0 := L14_NumericSwaps.mono_l k
  ·intro y0 y1 y2 y3
   unfold L14_NumericSwaps.j0
   repeat' first
   | (with_reducible exact ih0 _ _ _ _)
   | (with_reducible exact numeric_Apply.mono _ _ _ _)
   | (with_reducible exact L14_awake.mono _)
   | (with_reducible exact LeO.refl _)
   | (with_reducible exact LeO.none _)
   | (with_reducible refine LeO.ite ?_ ?_)
   | (with_reducible refine LeO.bind ?_ (fun _ => ?_))
   | exact ih0 _ _ _ _
   | exact numeric_Apply.mono _ _ _ _
   | exact L14_awake.mono _
   | exact LeO.none _
   | refine LeO.ite ?_ ?_
   | refine LeO.bind ?_ (fun _ => ?_)
theorem L14_NumericSwaps.mono : ∀ a0 a1 a2 k, LeO (L14_NumericSwaps.f k a0 a1 a2) (L14_NumericSwaps.f (k + 1) a0 a1 a2) := by
 intro a0 a1 a2 k
 have ih0 := L14_NumericSwaps.mono_l k
 unfold L14_NumericSwaps.f
 repeat' first
   | (with_reducible exact ih0 _ _ _ _)
   | (with_reducible exact numeric_Apply.mono _ _ _ _)
   | (with_reducible exact L14_awake.mono _)
   | (with_reducible exact LeO.refl _)
   | (with_reducible exact LeO.none _)
   | (with_reducible refine LeO.ite ?_ ?_)
   | (with_reducible refine LeO.bind ?_ (fun _ => ?_))
   | exact ih0 _ _ _ _
   | exact numeric_Apply.mono _ _ _ _
   | exact L14_awake.mono _
   | exact LeO.none _
   | refine LeO.ite ?_ ?_
   | refine LeO.bind ?_ (fun _ => ?_)
theorem L14_NumericSwaps.calls (k : Nat) (a0 : Int) (a1 : Int) (a2 : Int) (r : Bool) (w : World) (h : L14_NumericSwaps.f k a0 a1 a2 = some r) (hr_ : Aside0 (r = true)) :
  Calls Tryz.prog 7 #[.int .i64 a0, .int .u64 a1, .int .u64 a2] w fun e w' => e = .returned (.bool r) ∧ Below w.heap.size w w' := by
 have HB := A_ (Below.refl w.heap.size w)
 have H : ((L14_awake.f k).bind fun t632 => (if t632 = true then (if a0 = 70 then (L14_NumericSwaps.j0 k a0 a1 a2 (a0 == 70)) else (if a0 = 71 then (L14_NumericSwaps.j0 k a0 a1 a2 (a0 == 71)) else (if a0 = 81 then (L14_NumericSwaps.j0 k a0 a1 a2 (a0 == 81)) else (if a0 = 82 then (L14_NumericSwaps.j0 k a0 a1 a2 (a0 == 82)) else (if a0 = 91 then (L14_NumericSwaps.j0 k a0 a1 a2 (a0 == 91)) else (if a0 = 92 then (L14_NumericSwaps.j0 k a0 a1 a2 (a0 == 92)) else (if a0 = 97 then (L14_NumericSwaps.j0 k a0 a1 a2 (a0 == 97)) else (if a0 = 98 then (L14_NumericSwaps.j0 k a0 a1 a2 (a0 == 98)) else (if a0 = 106 then (L14_NumericSwaps.j0 k a0 a1 a2 (a0 == 106)) else (if a0 = 108 then (L14_NumericSwaps.j0 k a0 a1 a2 (a0 == 108)) else (if a0 = 113 then (L14_NumericSwaps.j0 k a0 a1 a2 (a0 == 113)) else (if a0 = 114 then (L14_NumericSwaps.j0 k a0 a1 a2 (a0 == 114)) else (if a0 = 115 then (L14_NumericSwaps.j0 k a0 a1 a2 (a0 == 115)) else (if a0 = 124 then (L14_NumericSwaps.j0 k a0 a1 a2 (a0 == 124)) else (if a0 = 126 then (L14_NumericSwaps.j0 k a0 a1 a2 (a0 == 126)) else (if a0 = 131 then (L14_NumericSwaps.j0 k a0 a1 a2 (a0 == 131)) else (if a0 = 132 then (L14_NumericSwaps.j0 k a0 a1 a2 (a0 == 132)) else (if a0 = 133 then (L14_NumericSwaps.j0 k a0 a1 a2 (a0 == 133)) else (if a0 = 146 then (L14_NumericSwaps.j0 k a0 a1 a2 (a0 == 146)) else (if a0 = 148 then (L14_NumericSwaps.j0 k a0 a1 a2 (a0 == 148)) else (if a0 = 150 then (L14_NumericSwaps.j0 k a0 a1 a2 (a0 == 150)) else (if a0 = 151 then (L14_NumericSwaps.j0 k a0 a1 a2 (a0 == 151)) else (if a0 = 160 then (L14_NumericSwaps.j0 k a0 a1 a2 (a0 == 160)) else (if a0 = 162 then (L14_NumericSwaps.j0 k a0 a1 a2 (a0 == 162)) else (if a0 = 164 then (L14_NumericSwaps.j0 k a0 a1 a2 (a0 == 164)) else (L14_NumericSwaps.j0 k a0 a1 a2 (a0 == 165))))))))))))))))))))))))))) else (some false))) = some r := h
 clear h
 replace H := ob_ H
 obtain ⟨t632, A40, H⟩ := H
 replace H : (if t632 = true then (if a0 = 70 then (L14_NumericSwaps.j0 k a0 a1 a2 (a0 == 70)) else (if a0 = 71 then (L14_NumericSwaps.j0 k a0 a1 a2 (a0 == 71)) else (if a0 = 81 then (L14_NumericSwaps.j0 k a0 a1 a2 (a0 == 81)) else (if a0 = 82 then (L14_NumericSwaps.j0 k a0 a1 a2 (a0 == 82)) else (if a0 = 91 then (L14_NumericSwaps.j0 k a0 a1 a2 (a0 == 91)) else (if a0 = 92 then (L14_NumericSwaps.j0 k a0 a1 a2 (a0 == 92)) else (if a0 = 97 then (L14_NumericSwaps.j0 k a0 a1 a2 (a0 == 97)) else (if a0 = 98 then (L14_NumericSwaps.j0 k a0 a1 a2 (a0 == 98)) else (if a0 = 106 then (L14_NumericSwaps.j0 k a0 a1 a2 (a0 == 106)) else (if a0 = 108 then (L14_NumericSwaps.j0 k a0 a1 a2 (a0 == 108)) else (if a0 = 113 then (L14_NumericSwaps.j0 k a0 a1 a2 (a0 == 113)) else (if a0 = 114 then (L14_NumericSwaps.j0 k a0 a1 a2 (a0 == 114)) else (if a0 = 115 then (L14_NumericSwaps.j0 k a0 a1 a2 (a0 == 115)) else (if a0 = 124 then (L14_NumericSwaps.j0 k a0 a1 a2 (a0 == 124)) else (if a0 = 126 then (L14_NumericSwaps.j0 k a0 a1 a2 (a0 == 126)) else (if a0 = 131 then (L14_NumericSwaps.j0 k a0 a1 a2 (a0 == 131)) else (if a0 = 132 then (L14_NumericSwaps.j0 k a0 a1 a2 (a0 == 132)) else (if a0 = 133 then (L14_NumericSwaps.j0 k a0 a1 a2 (a0 == 133)) else (if a0 = 146 then (L14_NumericSwaps.j0 k a0 a1 a2 (a0 == 146)) else (if a0 = 148 then (L14_NumericSwaps.j0 k a0 a1 a2 (a0 == 148)) else (if a0 = 150 then (L14_NumericSwaps.j0 k a0 a1 a2 (a0 == 150)) else (if a0 = 151 then (L14_NumericSwaps.j0 k a0 a1 a2 (a0 == 151)) else (if a0 = 160 then (L14_NumericSwaps.j0 k a0 a1 a2 (a0 == 160)) else (if a0 = 162 then (L14_NumericSwaps.j0 k a0 a1 a2 (a0 == 162)) else (if a0 = 164 then (L14_NumericSwaps.j0 k a0 a1 a2 (a0 == 164)) else (L14_NumericSwaps.j0 k a0 a1 a2 (a0 == 165))))))))))))))))))))))))))) else (some false)) = some r := H
 have A4 := A_ A40;clear A40
 by_cases c5 : t632 = true
 ·subst c5
  have H1 : (if a0 = 70 then (L14_NumericSwaps.j0 k a0 a1 a2 (a0 == 70)) else (if a0 = 71 then (L14_NumericSwaps.j0 k a0 a1 a2 (a0 == 71)) else (if a0 = 81 then (L14_NumericSwaps.j0 k a0 a1 a2 (a0 == 81)) else (if a0 = 82 then (L14_NumericSwaps.j0 k a0 a1 a2 (a0 == 82)) else (if a0 = 91 then (L14_NumericSwaps.j0 k a0 a1 a2 (a0 == 91)) else (if a0 = 92 then (L14_NumericSwaps.j0 k a0 a1 a2 (a0 == 92)) else (if a0 = 97 then (L14_NumericSwaps.j0 k a0 a1 a2 (a0 == 97)) else (if a0 = 98 then (L14_NumericSwaps.j0 k a0 a1 a2 (a0 == 98)) else (if a0 = 106 then (L14_NumericSwaps.j0 k a0 a1 a2 (a0 == 106)) else (if a0 = 108 then (L14_NumericSwaps.j0 k a0 a1 a2 (a0 == 108)) else (if a0 = 113 then (L14_NumericSwaps.j0 k a0 a1 a2 (a0 == 113)) else (if a0 = 114 then (L14_NumericSwaps.j0 k a0 a1 a2 (a0 == 114)) else (if a0 = 115 then (L14_NumericSwaps.j0 k a0 a1 a2 (a0 == 115)) else (if a0 = 124 then (L14_NumericSwaps.j0 k a0 a1 a2 (a0 == 124)) else (if a0 = 126 then (L14_NumericSwaps.j0 k a0 a1 a2 (a0 == 126)) else (if a0 = 131 then (L14_NumericSwaps.j0 k a0 a1 a2 (a0 == 131)) else (if a0 = 132 then (L14_NumericSwaps.j0 k a0 a1 a2 (a0 == 132)) else (if a0 = 133 then (L14_NumericSwaps.j0 k a0 a1 a2 (a0 == 133)) else (if a0 = 146 then (L14_NumericSwaps.j0 k a0 a1 a2 (a0 == 146)) else (if a0 = 148 then (L14_NumericSwaps.j0 k a0 a1 a2 (a0 == 148)) else (if a0 = 150 then (L14_NumericSwaps.j0 k a0 a1 a2 (a0 == 150)) else (if a0 = 151 then (L14_NumericSwaps.j0 k a0 a1 a2 (a0 == 151)) else (if a0 = 160 then (L14_NumericSwaps.j0 k a0 a1 a2 (a0 == 160)) else (if a0 = 162 then (L14_NumericSwaps.j0 k a0 a1 a2 (a0 == 162)) else (if a0 = 164 then (L14_NumericSwaps.j0 k a0 a1 a2 (a0 == 164)) else (L14_NumericSwaps.j0 k a0 a1 a2 (a0 == 165))))))))))))))))))))))))))) = some r := by rw [if_pos rfl] at H; exact H
  clear H;have H := H1;clear H1;have HC6 := A_ H;clear H
  go_enter Tryz.func7, Tryz.ntmps7
  go_upto_if 14 with (first | ((with_reducible refine gate_callee (f := 19) rfl ?_); refine goesL_ (some 11) rfl rfl Tryz.func19 (by kernel_rfl) rfl #[] rfl mp_ ?_; (with_reducible refine (L14_awake.calls k  true _ A4.out).mono ?_); rintro e w7 ⟨rfl, hb⟩; refine ⟨_, rfl, ?_⟩; replace HB := A_ (below_step (hb_ HB.out) hb); (try clear hb); (try clear hb2); (try clear hk); (try clear hi)))
  (try simp only [Act.put, lI_, l0_, lS_])
  go_cut [14] (fun v14 wc => ∃ (kq : Nat) (x14_5 : Bool), v14 = .bool x14_5 ∧ Aside0 (L14_NumericSwaps.j0 kq a0 a1 a2 x14_5 = some r) ∧ Aside0 (kq ≤ k) ∧ Aside0 (Below w.heap.size w wc))
  case first =>
   have H := HC6.out
   clear HC6
   by_cases c8 : a0 = 70
   ·rw [if_pos c8] at H
    have c8b0 : (a0 == 70) = true := beq_iff_eq.mpr c8
    have c8b1 : (a0 != 70) = false := bne_eq_false_iff_eq.mpr c8
    clear c8
    (first | rw [c8b0] | (simp only [i64_w, i32_w]; rw [c8b0]) | skip)
    have H' := A_ H
    clear H
    go_wp2
    go_meet
    case rel => exact ⟨_, ((a0 == 70)), sm_, H', ⟨by first | omega | exact Nat.le_refl _⟩, ⟨hb_ HB.out⟩⟩
   ·rw [if_neg c8] at H
    have c8b0 : (a0 == 70) = false := beq_eq_false_iff_ne.mpr c8
    have c8b1 : (a0 != 70) = true := bne_iff_ne.mpr c8
    (first | rw [c8b0] | (simp only [i64_w, i32_w]; rw [c8b0]) | skip)
    by_cases c9 : a0 = 71
    ·rw [if_pos c9] at H
     have c9b0 : (a0 == 71) = true := beq_iff_eq.mpr c9
     have c9b1 : (a0 != 71) = false := bne_eq_false_iff_eq.mpr c9
     clear c9
     have H' := A_ H
     clear H
     go_wp2
     go_meet
     case rel => exact ⟨_, ((a0 == 71)), sm_, H', ⟨by first | omega | exact Nat.le_refl _⟩, ⟨hb_ HB.out⟩⟩
    ·rw [if_neg c9] at H
     have c9b0 : (a0 == 71) = false := beq_eq_false_iff_ne.mpr c9
     have c9b1 : (a0 != 71) = true := bne_iff_ne.mpr c9
     by_cases c10 : a0 = 81
     ·rw [if_pos c10] at H
      have c10b0 : (a0 == 81) = true := beq_iff_eq.mpr c10
      have c10b1 : (a0 != 81) = false := bne_eq_false_iff_eq.mpr c10
      clear c10
      have H' := A_ H
      clear H
      go_wp2
      go_meet
      case rel => exact ⟨_, ((a0 == 81)), sm_, H', ⟨by first | omega | exact Nat.le_refl _⟩, ⟨hb_ HB.out⟩⟩
     ·rw [if_neg c10] at H
      have c10b0 : (a0 == 81) = false := beq_eq_false_iff_ne.mpr c10
      have c10b1 : (a0 != 81) = true := bne_iff_ne.mpr c10
      by_cases c11 : a0 = 82
      ·rw [if_pos c11] at H
       have c11b0 : (a0 == 82) = true := beq_iff_eq.mpr c11
       have c11b1 : (a0 != 82) = false := bne_eq_false_iff_eq.mpr c11
       clear c11
       have H' := A_ H
       clear H
       go_wp2
       go_meet
       case rel => exact ⟨_, ((a0 == 82)), sm_, H', ⟨by first | omega | exact Nat.le_refl _⟩, ⟨hb_ HB.out⟩⟩
      ·rw [if_neg c11] at H
       have c11b0 : (a0 == 82) = false := beq_eq_false_iff_ne.mpr c11
       have c11b1 : (a0 != 82) = true := bne_iff_ne.mpr c11
       by_cases c12 : a0 = 91
       ·rw [if_pos c12] at H
        have c12b0 : (a0 == 91) = true := beq_iff_eq.mpr c12
        have c12b1 : (a0 != 91) = false := bne_eq_false_iff_eq.mpr c12
        clear c12
        have H' := A_ H
        clear H
        go_wp2
        go_meet
        case rel => exact ⟨_, ((a0 == 91)), sm_, H', ⟨by first | omega | exact Nat.le_refl _⟩, ⟨hb_ HB.out⟩⟩
       ·rw [if_neg c12] at H
        have c12b0 : (a0 == 91) = false := beq_eq_false_iff_ne.mpr c12
        have c12b1 : (a0 != 91) = true := bne_iff_ne.mpr c12
        by_cases c13 : a0 = 92
        ·rw [if_pos c13] at H
         have c13b0 : (a0 == 92) = true := beq_iff_eq.mpr c13
         have c13b1 : (a0 != 92) = false := bne_eq_false_iff_eq.mpr c13
         clear c13
         have H' := A_ H
         clear H
         go_wp2
         go_meet
         case rel => exact ⟨_, ((a0 == 92)), sm_, H', ⟨by first | omega | exact Nat.le_refl _⟩, ⟨hb_ HB.out⟩⟩
        ·rw [if_neg c13] at H
         have c13b0 : (a0 == 92) = false := beq_eq_false_iff_ne.mpr c13
         have c13b1 : (a0 != 92) = true := bne_iff_ne.mpr c13
         by_cases c14 : a0 = 97
         ·rw [if_pos c14] at H
          have c14b0 : (a0 == 97) = true := beq_iff_eq.mpr c14
          have c14b1 : (a0 != 97) = false := bne_eq_false_iff_eq.mpr c14
          clear c14
          have H' := A_ H
          clear H
          go_wp2
          go_meet
          case rel => exact ⟨_, ((a0 == 97)), sm_, H', ⟨by first | omega | exact Nat.le_refl _⟩, ⟨hb_ HB.out⟩⟩
         ·rw [if_neg c14] at H
          have c14b0 : (a0 == 97) = false := beq_eq_false_iff_ne.mpr c14
          have c14b1 : (a0 != 97) = true := bne_iff_ne.mpr c14
          by_cases c15 : a0 = 98
          ·rw [if_pos c15] at H
           have c15b0 : (a0 == 98) = true := beq_iff_eq.mpr c15
           have c15b1 : (a0 != 98) = false := bne_eq_false_iff_eq.mpr c15
           clear c15
           have H' := A_ H
           clear H
           go_wp2
           go_meet
           case rel => exact ⟨_, ((a0 == 98)), sm_, H', ⟨by first | omega | exact Nat.le_refl _⟩, ⟨hb_ HB.out⟩⟩
          ·rw [if_neg c15] at H
           have c15b0 : (a0 == 98) = false := beq_eq_false_iff_ne.mpr c15
           have c15b1 : (a0 != 98) = true := bne_iff_ne.mpr c15
           by_cases c16 : a0 = 106
           ·rw [if_pos c16] at H
            have c16b0 : (a0 == 106) = true := beq_iff_eq.mpr c16
            have c16b1 : (a0 != 106) = false := bne_eq_false_iff_eq.mpr c16
            clear c16
            have H' := A_ H
            clear H
            go_wp2
            go_meet
            case rel => exact ⟨_, ((a0 == 106)), sm_, H', ⟨by first | omega | exact Nat.le_refl _⟩, ⟨hb_ HB.out⟩⟩
           ·rw [if_neg c16] at H
            have c16b0 : (a0 == 106) = false := beq_eq_false_iff_ne.mpr c16
            have c16b1 : (a0 != 106) = true := bne_iff_ne.mpr c16
            by_cases c17 : a0 = 108
            ·rw [if_pos c17] at H
             have c17b0 : (a0 == 108) = true := beq_iff_eq.mpr c17
             have c17b1 : (a0 != 108) = false := bne_eq_false_iff_eq.mpr c17
             clear c17
             have H' := A_ H
             clear H
             go_wp2
             go_meet
             case rel => exact ⟨_, ((a0 == 108)), sm_, H', ⟨by first | omega | exact Nat.le_refl _⟩, ⟨hb_ HB.out⟩⟩
            ·rw [if_neg c17] at H
             have c17b0 : (a0 == 108) = false := beq_eq_false_iff_ne.mpr c17
             have c17b1 : (a0 != 108) = true := bne_iff_ne.mpr c17
             by_cases c18 : a0 = 113
             ·rw [if_pos c18] at H
              have c18b0 : (a0 == 113) = true := beq_iff_eq.mpr c18
              have c18b1 : (a0 != 113) = false := bne_eq_false_iff_eq.mpr c18
              clear c18
              have H' := A_ H
              clear H
              go_wp2
              go_meet
              case rel => exact ⟨_, ((a0 == 113)), sm_, H', ⟨by first | omega | exact Nat.le_refl _⟩, ⟨hb_ HB.out⟩⟩
             ·rw [if_neg c18] at H
              have c18b0 : (a0 == 113) = false := beq_eq_false_iff_ne.mpr c18
              have c18b1 : (a0 != 113) = true := bne_iff_ne.mpr c18
              by_cases c19 : a0 = 114
              ·rw [if_pos c19] at H
               have c19b0 : (a0 == 114) = true := beq_iff_eq.mpr c19
               have c19b1 : (a0 != 114) = false := bne_eq_false_iff_eq.mpr c19
               clear c19
               have H' := A_ H
               clear H
               go_wp2
               go_meet
               case rel => exact ⟨_, ((a0 == 114)), sm_, H', ⟨by first | omega | exact Nat.le_refl _⟩, ⟨hb_ HB.out⟩⟩
              ·rw [if_neg c19] at H
               have c19b0 : (a0 == 114) = false := beq_eq_false_iff_ne.mpr c19
               have c19b1 : (a0 != 114) = true := bne_iff_ne.mpr c19
               by_cases c20 : a0 = 115
               ·rw [if_pos c20] at H
                have c20b0 : (a0 == 115) = true := beq_iff_eq.mpr c20
                have c20b1 : (a0 != 115) = false := bne_eq_false_iff_eq.mpr c20
                clear c20
                have H' := A_ H
                clear H
                go_wp2
                go_meet
                case rel => exact ⟨_, ((a0 == 115)), sm_, H', ⟨by first | omega | exact Nat.le_refl _⟩, ⟨hb_ HB.out⟩⟩
               ·rw [if_neg c20] at H
                have c20b0 : (a0 == 115) = false := beq_eq_false_iff_ne.mpr c20
                have c20b1 : (a0 != 115) = true := bne_iff_ne.mpr c20
                by_cases c21 : a0 = 124
                ·rw [if_pos c21] at H
                 have c21b0 : (a0 == 124) = true := beq_iff_eq.mpr c21
                 have c21b1 : (a0 != 124) = false := bne_eq_false_iff_eq.mpr c21
                 clear c21
                 have H' := A_ H
                 clear H
                 go_wp2
                 go_meet
                 case rel => exact ⟨_, ((a0 == 124)), sm_, H', ⟨by first | omega | exact Nat.le_refl _⟩, ⟨hb_ HB.out⟩⟩
                ·rw [if_neg c21] at H
                 have c21b0 : (a0 == 124) = false := beq_eq_false_iff_ne.mpr c21
                 have c21b1 : (a0 != 124) = true := bne_iff_ne.mpr c21
                 by_cases c22 : a0 = 126
                 ·rw [if_pos c22] at H
                  have c22b0 : (a0 == 126) = true := beq_iff_eq.mpr c22
                  have c22b1 : (a0 != 126) = false := bne_eq_false_iff_eq.mpr c22
                  clear c22
                  have H' := A_ H
                  clear H
                  go_wp2
                  go_meet
                  case rel => exact ⟨_, ((a0 == 126)), sm_, H', ⟨by first | omega | exact Nat.le_refl _⟩, ⟨hb_ HB.out⟩⟩
                 ·rw [if_neg c22] at H
                  have c22b0 : (a0 == 126) = false := beq_eq_false_iff_ne.mpr c22
                  have c22b1 : (a0 != 126) = true := bne_iff_ne.mpr c22
                  by_cases c23 : a0 = 131
                  ·rw [if_pos c23] at H
                   have c23b0 : (a0 == 131) = true := beq_iff_eq.mpr c23
                   have c23b1 : (a0 != 131) = false := bne_eq_false_iff_eq.mpr c23
                   clear c23
                   have H' := A_ H
                   clear H
                   go_wp2
                   go_meet
                   case rel => exact ⟨_, ((a0 == 131)), sm_, H', ⟨by first | omega | exact Nat.le_refl _⟩, ⟨hb_ HB.out⟩⟩
                  ·rw [if_neg c23] at H
                   have c23b0 : (a0 == 131) = false := beq_eq_false_iff_ne.mpr c23
                   have c23b1 : (a0 != 131) = true := bne_iff_ne.mpr c23
                   by_cases c24 : a0 = 132
                   ·rw [if_pos c24] at H
                    have c24b0 : (a0 == 132) = true := beq_iff_eq.mpr c24
                    have c24b1 : (a0 != 132) = false := bne_eq_false_iff_eq.mpr c24
                    clear c24
                    have H' := A_ H
                    clear H
                    go_wp2
                    go_meet
                    case rel => exact ⟨_, ((a0 == 132)), sm_, H', ⟨by first | omega | exact Nat.le_refl _⟩, ⟨hb_ HB.out⟩⟩
                   ·rw [if_neg c24] at H
                    have c24b0 : (a0 == 132) = false := beq_eq_false_iff_ne.mpr c24
                    have c24b1 : (a0 != 132) = true := bne_iff_ne.mpr c24
                    by_cases c25 : a0 = 133
                    ·rw [if_pos c25] at H
                     have c25b0 : (a0 == 133) = true := beq_iff_eq.mpr c25
                     have c25b1 : (a0 != 133) = false := bne_eq_false_iff_eq.mpr c25
                     clear c25
                     have H' := A_ H
                     clear H
                     go_wp2
                     go_meet
                     case rel => exact ⟨_, ((a0 == 133)), sm_, H', ⟨by first | omega | exact Nat.le_refl _⟩, ⟨hb_ HB.out⟩⟩
                    ·rw [if_neg c25] at H
                     have c25b0 : (a0 == 133) = false := beq_eq_false_iff_ne.mpr c25
                     have c25b1 : (a0 != 133) = true := bne_iff_ne.mpr c25
                     by_cases c26 : a0 = 146
                     ·rw [if_pos c26] at H
                      have c26b0 : (a0 == 146) = true := beq_iff_eq.mpr c26
                      have c26b1 : (a0 != 146) = false := bne_eq_false_iff_eq.mpr c26
                      clear c26
                      have H' := A_ H
                      clear H
                      go_wp2
                      go_meet
                      case rel => exact ⟨_, ((a0 == 146)), sm_, H', ⟨by first | omega | exact Nat.le_refl _⟩, ⟨hb_ HB.out⟩⟩
                     ·rw [if_neg c26] at H
                      have c26b0 : (a0 == 146) = false := beq_eq_false_iff_ne.mpr c26
                      have c26b1 : (a0 != 146) = true := bne_iff_ne.mpr c26
                      by_cases c27 : a0 = 148
                      ·rw [if_pos c27] at H
                       have c27b0 : (a0 == 148) = true := beq_iff_eq.mpr c27
                       have c27b1 : (a0 != 148) = false := bne_eq_false_iff_eq.mpr c27
                       clear c27
                       have H' := A_ H
                       clear H
                       go_wp2
                       go_meet
                       case rel => exact ⟨_, ((a0 == 148)), sm_, H', ⟨by first | omega | exact Nat.le_refl _⟩, ⟨hb_ HB.out⟩⟩
                      ·rw [if_neg c27] at H
                       have c27b0 : (a0 == 148) = false := beq_eq_false_iff_ne.mpr c27
                       have c27b1 : (a0 != 148) = true := bne_iff_ne.mpr c27
                       by_cases c28 : a0 = 150
                       ·rw [if_pos c28] at H
                        have c28b0 : (a0 == 150) = true := beq_iff_eq.mpr c28
                        have c28b1 : (a0 != 150) = false := bne_eq_false_iff_eq.mpr c28
                        clear c28
                        have H' := A_ H
                        clear H
                        go_wp2
                        go_meet
                        case rel => exact ⟨_, ((a0 == 150)), sm_, H', ⟨by first | omega | exact Nat.le_refl _⟩, ⟨hb_ HB.out⟩⟩
                       ·rw [if_neg c28] at H
                        have c28b0 : (a0 == 150) = false := beq_eq_false_iff_ne.mpr c28
                        have c28b1 : (a0 != 150) = true := bne_iff_ne.mpr c28
                        by_cases c29 : a0 = 151
                        ·rw [if_pos c29] at H
                         have c29b0 : (a0 == 151) = true := beq_iff_eq.mpr c29
                         have c29b1 : (a0 != 151) = false := bne_eq_false_iff_eq.mpr c29
                         clear c29
                         have H' := A_ H
                         clear H
                         go_wp2
                         go_meet
                         case rel => exact ⟨_, ((a0 == 151)), sm_, H', ⟨by first | omega | exact Nat.le_refl _⟩, ⟨hb_ HB.out⟩⟩
                        ·rw [if_neg c29] at H
                         have c29b0 : (a0 == 151) = false := beq_eq_false_iff_ne.mpr c29
                         have c29b1 : (a0 != 151) = true := bne_iff_ne.mpr c29
                         by_cases c30 : a0 = 160
                         ·rw [if_pos c30] at H
                          have c30b0 : (a0 == 160) = true := beq_iff_eq.mpr c30
                          have c30b1 : (a0 != 160) = false := bne_eq_false_iff_eq.mpr c30
                          clear c30
                          have H' := A_ H
                          clear H
                          go_wp2
                          go_meet
                          case rel => exact ⟨_, ((a0 == 160)), sm_, H', ⟨by first | omega | exact Nat.le_refl _⟩, ⟨hb_ HB.out⟩⟩
                         ·rw [if_neg c30] at H
                          have c30b0 : (a0 == 160) = false := beq_eq_false_iff_ne.mpr c30
                          have c30b1 : (a0 != 160) = true := bne_iff_ne.mpr c30
                          by_cases c31 : a0 = 162
                          ·rw [if_pos c31] at H
                           have c31b0 : (a0 == 162) = true := beq_iff_eq.mpr c31
                           have c31b1 : (a0 != 162) = false := bne_eq_false_iff_eq.mpr c31
                           clear c31
                           have H' := A_ H
                           clear H
                           go_wp2
                           go_meet
                           case rel => exact ⟨_, ((a0 == 162)), sm_, H', ⟨by first | omega | exact Nat.le_refl _⟩, ⟨hb_ HB.out⟩⟩
                          ·rw [if_neg c31] at H
                           have c31b0 : (a0 == 162) = false := beq_eq_false_iff_ne.mpr c31
                           have c31b1 : (a0 != 162) = true := bne_iff_ne.mpr c31
                           by_cases c32 : a0 = 164
                           ·rw [if_pos c32] at H
                            have c32b0 : (a0 == 164) = true := beq_iff_eq.mpr c32
                            have c32b1 : (a0 != 164) = false := bne_eq_false_iff_eq.mpr c32
                            clear c32
                            have H' := A_ H
                            clear H
                            go_wp2
                            go_meet
                            case rel => exact ⟨_, ((a0 == 164)), sm_, H', ⟨by first | omega | exact Nat.le_refl _⟩, ⟨hb_ HB.out⟩⟩
                           ·rw [if_neg c32] at H
                            have c32b0 : (a0 == 164) = false := beq_eq_false_iff_ne.mpr c32
                            have c32b1 : (a0 != 164) = true := bne_iff_ne.mpr c32
                            have H' := A_ H
                            clear H
                            go_wp2
                            go_meet
                            case rel => exact ⟨_, ((a0 == 165)), sm_, H', ⟨by first | omega | exact Nat.le_refl _⟩, ⟨hb_ HB.out⟩⟩
  case rest =>
   clear HC6
   try clear c1
   try clear c2
   try clear p2
   try clear c3
   try clear c5
   try clear c7
   try clear c8
   try clear c8b0
   try clear c8b1
   try clear c9
   try clear c9b0
   try clear c9b1
   try clear c10
   try clear c10b0
   try clear c10b1
   try clear c11
   try clear c11b0
   try clear c11b1
   try clear c12
   try clear c12b0
   try clear c12b1
   try clear c13
   try clear c13b0
   try clear c13b1
   try clear c14
   try clear c14b0
   try clear c14b1
   try clear c15
   try clear c15b0
   try clear c15b1
   try clear c16
   try clear c16b0
   try clear c16b1
   try clear c17
   try clear c17b0
   try clear c17b1
   try clear c18
   try clear c18b0
   try clear c18b1
   try clear c19
   try clear c19b0
   try clear c19b1
   try clear c20
   try clear c20b0
   try clear c20b1
   try clear c21
   try clear c21b0
   try clear c21b1
   try clear c22
   try clear c22b0
   try clear c22b1
   try clear c23
   try clear c23b0
   try clear c23b1
   try clear c24
   try clear c24b0
   try clear c24b1
   try clear c25
   try clear c25b0
   try clear c25b1
   try clear c26
   try clear c26b0
   try clear c26b1
   try clear c27
   try clear c27b0
   try clear c27b1
   try clear c28
   try clear c28b0
   try clear c28b1
   try clear c29
   try clear c29b0
   try clear c29b1
   try clear c30
   try clear c30b0
   try clear c30b1
   try clear c31
   try clear c31b0
   try clear c31b1
   try clear c32
   try clear c32b0
   try clear c32b1
   obtain ⟨kq, x14_5, rfl, HA, HJ5, HB⟩ := hcut
   cases kq with
   | zero => exact absurd HA.out (by simp [L14_NumericSwaps.j0])
   | succ kj5 =>
    have H := HA.out
    clear HA
    simp only [L14_NumericSwaps.j0] at H
    by_cases c33 : x14_5 = true
    ·subst c33
     have H1 : ((numeric_Apply.f kj5 a0 a1 a2).bind fun bt633 => ((numeric_Apply.f kj5 a0 a2 a1).bind fun bt635 => (if bt633.1 = bt635.1 then (some (bt633.2 == bt635.2)) else (some false)))) = some r := by rw [if_pos rfl] at H; exact H
     clear H;have H := H1;clear H1
     replace H := ob_ H
     obtain ⟨⟨t633, t634⟩, A340, H⟩ := H
     replace H : ((numeric_Apply.f kj5 a0 a2 a1).bind fun bt635 => (if t633 = bt635.1 then (some (t634 == bt635.2)) else (some false))) = some r := H
     have A34 := A_ A340;clear A340
     replace H := ob_ H
     obtain ⟨⟨t635, t636⟩, A350, H⟩ := H
     replace H : (if t633 = t635 then (some (t634 == t636)) else (some false)) = some r := H
     have A35 := A_ A350;clear A350
     by_cases c36 : t633 = t635
     ·rw [if_pos c36] at H
      have c36b0 : (t633 == t635) = true := beq_iff_eq.mpr c36
      have c36b1 : (t633 != t635) = false := bne_eq_false_iff_eq.mpr c36
      clear c36
      obtain rfl := Option.some.inj H
      go_wp2_with (first | ((with_reducible refine gate_callee (f := 9) rfl ?_); refine goesL_ (some 45) rfl rfl Tryz.func9 (by kernel_rfl) rfl #[.int .i64 a0, .int .u64 a1, .int .u64 a2] rfl mp_ ?_; (with_reducible refine (numeric_Apply.calls kj5 a0 a1 a2 t633 t634 _ A34.out).mono ?_); rintro e w37 ⟨rfl, hb⟩; refine ⟨_, rfl, ?_⟩; replace HB := A_ (below_step (hb_ HB.out) hb); (try clear hb); (try clear hb2); (try clear hk); (try clear hi)) | ((with_reducible refine gate_callee (f := 9) rfl ?_); refine goesL_ (some 52) rfl rfl Tryz.func9 (by kernel_rfl) rfl #[.int .i64 a0, .int .u64 a2, .int .u64 a1] rfl mp_ ?_; (with_reducible refine (numeric_Apply.calls kj5 a0 a2 a1 t635 t636 _ A35.out).mono ?_); rintro e w38 ⟨rfl, hb⟩; refine ⟨_, rfl, ?_⟩; replace HB := A_ (below_step (hb_ HB.out) hb); (try clear hb); (try clear hb2); (try clear hk); (try clear hi)))
      go_ret
      exact ⟨er_, hb_ HB.out⟩
     ·rw [if_neg c36] at H
      have c36b0 : (t633 == t635) = false := beq_eq_false_iff_ne.mpr c36
      have c36b1 : (t633 != t635) = true := bne_iff_ne.mpr c36
      exact absurd ((Option.some.inj H).trans hr_.out) (by decide)
    ·replace c33 := Bool.eq_false_iff.mpr c33
     subst c33
     have H1 : (some true) = some r := by rw [if_neg (show ¬ (false = true) by decide)] at H; exact H
     clear H;have H := H1;clear H1
     obtain rfl := Option.some.inj H
     go_wp2
     go_ret
     exact ⟨er_, hb_ HB.out⟩
 ·replace c5 := Bool.eq_false_iff.mpr c5
  subst c5
  have H1 : (some false) = some r := by rw [if_neg (show ¬ (false = true) by decide)] at H; exact H
  clear H;have H := H1;clear H1
  exact absurd ((Option.some.inj H).trans hr_.out) (by decide)
def L14_NumericSwaps.Pure : Prop := ∀ (a0 : Int) (a1 : Int) (a2 : Int), (Lit.int .i64 a0).wf = true → (Lit.int .u64 a1).wf = true → (Lit.int .u64 a2).wf = true → ∃ k, L14_NumericSwaps.f k a0 a1 a2 = some true
theorem L14_NumericSwaps.walk (P : L14_NumericSwaps.Pure) (a0 : Int) (a1 : Int) (a2 : Int) (w : World) (w0 : (Lit.int .i64 a0).wf = true) (w1 : (Lit.int .u64 a1).wf = true) (w2 : (Lit.int .u64 a2).wf = true) :
  Calls Tryz.prog 7 #[.int .i64 a0, .int .u64 a1, .int .u64 a2] w fun e w' => e = .returned (.bool true) ∧ Below w.heap.size w w' := by
 obtain ⟨k, h⟩ := P a0 a1 a2 w0 w1 w2
 refine (L14_NumericSwaps.calls k a0 a1 a2 true w h ⟨rfl⟩).mono ?_
 rintro e w' ⟨rfl, hd⟩
 exact ⟨rfl, hd⟩
end Go.Proofs.YtnmlmgmljoncoaaGreatDoor.PA
section
set_option linter.unusedVariables false
set_option linter.unusedSimpArgs false
namespace Go.Proofs.YtnmlmgmljoncoaaGreatDoor.Th
open Go.RowKit Go.Proofs.YtnmlmgmljoncoaaGreatDoorW.PrintWords Go.Proofs.YtnmlmgmljoncoaaGreatDoorW.PrintLast Go.Proofs.YtnmlmgmljoncoaaGreatDoorW.PrintMore Go.Proofs.YtnmlmgmljoncoaaGreatDoor.PA Bit Flo
theorem shZero (w : Int) (hw : w = 32 ∨ w = 64) (s : Bool) : shape_Zero.f w s = some ((mkN w 0 s : Nat) : Int) := by
  rcases hw with rfl | rfl
  · exact shZero32 s
  · exact shZero64 s
theorem shNan (w : Int) (hw : w = 32 ∨ w = 64) : shape_Nan.f w = some ((nanN w : Nat) : Int) := by
  rcases hw with rfl | rfl
  · exact shNan32
  · exact shNan64
end Go.Proofs.YtnmlmgmljoncoaaGreatDoor.Th
end
