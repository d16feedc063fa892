/- What the Go functions that the statement TopRoots reaches compute, and the mathematics on it, in the order in which one leans on the other; for every input. -/
import Derived.Test.YtnmlmgmljoncoaaGreatDoorVTopRoots1
import Derived.Test.YtnmlmgmljoncoaaGreatDoorMTopRoots0
import Derived.Test.YtnmlmgmljoncoaaGreatDoorMTopRoots1
import Derived.Test.YtnmlmgmljoncoaaGreatDoorMTopRoots8
import Derived.Test.YtnmlmgmljoncoaaGreatDoorMTopRoots4
import Derived.Test.YtnmlmgmljoncoaaGreatDoorMTopRoots6
import Derived.Test.YtnmlmgmljoncoaaGreatDoorMTopRoots5
namespace Go.Proofs.YtnmlmgmljoncoaaGreatDoor.PA
open Go.RowKit Go.Proofs.YtnmlmgmljoncoaaGreatDoorW.PrintWords Go.Proofs.YtnmlmgmljoncoaaGreatDoorW.PrintLast Go.Proofs.YtnmlmgmljoncoaaGreatDoorW.PrintMore
attribute [local go_sem] max2_int min2_int max_two min_two max_three min_three max_four min_four   -- for this text's walks alone
set_option linter.unusedVariables false
set_option linter.unusedSimpArgs false
set_option maxHeartbeats 8000000
set_option maxRecDepth 100000
def numeric_width.f (a0 : Int) : Option (Int) := if a0 = 127 then (some 32) else (if a0 = 125 then (some 32) else (some 64))
theorem numeric_width.calls (a0 : Int) (r : Int) (w : World) (h : numeric_width.f a0 = some r) :
  Calls Tryz.prog 24 #[.int .u8 a0] w fun e w' => e = .returned (.int .i64 r) ∧ Drawn0 w w' := by
 have H : (if a0 = 127 then (some 32) else (if a0 = 125 then (some 32) else (some 64))) = some r := h
 clear h
 by_cases c2 : a0 = 127
 ·rw [if_pos c2] at H
  have c2b0 : (a0 == 127) = true := beq_iff_eq.mpr c2
  have c2b1 : (a0 != 127) = false := bne_eq_false_iff_eq.mpr c2
  clear c2
  obtain rfl := Option.some.inj H
  go_enter Tryz.func24, Tryz.ntmps24
  go_wp2
  go_ret
  exact ⟨sm_, by repeat (first | exact Drawn0.refl _ | apply Drawn0.step)⟩
 ·rw [if_neg c2] at H
  have c2b0 : (a0 == 127) = false := beq_eq_false_iff_ne.mpr c2
  have c2b1 : (a0 != 127) = true := bne_iff_ne.mpr c2
  by_cases c3 : a0 = 125
  ·rw [if_pos c3] at H
   have c3b0 : (a0 == 125) = true := beq_iff_eq.mpr c3
   have c3b1 : (a0 != 125) = false := bne_eq_false_iff_eq.mpr c3
   clear c3
   obtain rfl := Option.some.inj H
   go_enter Tryz.func24, Tryz.ntmps24
   go_wp2
   go_ret
   exact ⟨sm_, by repeat (first | exact Drawn0.refl _ | apply Drawn0.step)⟩
  ·rw [if_neg c3] at H
   have c3b0 : (a0 == 125) = false := beq_eq_false_iff_ne.mpr c3
   have c3b1 : (a0 != 125) = true := bne_iff_ne.mpr c3
   obtain rfl := Option.some.inj H
   go_enter Tryz.func24, Tryz.ntmps24
   go_wp2
   go_ret
   exact ⟨sm_, by repeat (first | exact Drawn0.refl _ | apply Drawn0.step)⟩
def numeric_Apply.f (k : Nat) (a0 : Int) (a1 : Int) (a2 : Int) : Option (Int × Int) := (numeric_Kind.f k a0).bind fun bt587 => (if bt587.2.2.2 = true then ((numeric_width.f bt587.1).bind fun t591 => ((shape_Cut.f t591 a1).bind fun t592 => ((numeric_width.f bt587.1).bind fun t593 => ((shape_Cut.f t593 a2).bind fun t594 => ((numeric_find.f k a0).bind fun bt595 => (if bt595.1 = 1 then ((numeric_truth.f (t592 == 0)).bind fun t599 => (some (t599, 0))) else (if bt595.1 = 2 then ((numeric_related.f bt595.2.1 bt595.2.2 t592 t594).bind fun t600 => ((numeric_truth.f t600).bind fun t601 => (some (t601, 0)))) else (if bt595.1 = 3 then ((numeric_compared.f k bt595.2.1 bt595.2.2 t592 t594).bind fun t602 => ((numeric_truth.f t602).bind fun t603 => (some (t603, 0)))) else (if bt595.1 = 4 then ((numeric_counted.f bt595.2.1 bt595.2.2 t592).bind fun t604 => (some (t604, 0))) else (if bt595.1 = 5 then ((numeric_reckoned.f bt595.2.1 bt595.2.2 t592 t594).bind fun bt605 => (some (bt605.1, bt605.2))) else (if bt595.1 = 6 then ((numeric_rounded.f k bt595.2.1 bt595.2.2 t592).bind fun t607 => (some (t607, 0))) else (if bt595.1 = 7 then ((numeric_floated.f k bt595.2.1 bt595.2.2 t592 t594).bind fun t608 => (some (t608, 0))) else (if bt595.1 = 9 then ((numeric_stopped.f k bt595.2.1 t592).bind fun t609 => (some (t609, 0))) else ((numeric_turn.f k bt595.2.1 t592).bind fun bt610 => (some (bt610.1, bt610.2)))))))))))))))) else (some (0, 0)))
theorem numeric_Apply.mono : ∀ a0 a1 a2 k, LeO (numeric_Apply.f k a0 a1 a2) (numeric_Apply.f (k + 1) a0 a1 a2) := by
 intro a0 a1 a2 k
 unfold numeric_Apply.f
 repeat' first
   | (with_reducible exact numeric_Kind.mono _ _)
   | (with_reducible exact numeric_compared.mono _ _ _ _ _)
   | (with_reducible exact numeric_find.mono _ _)
   | (with_reducible exact numeric_floated.mono _ _ _ _ _)
   | (with_reducible exact numeric_rounded.mono _ _ _ _)
   | (with_reducible exact numeric_stopped.mono _ _ _)
   | (with_reducible exact numeric_turn.mono _ _ _)
   | (with_reducible exact LeO.refl _)
   | (with_reducible exact LeO.none _)
   | (with_reducible refine LeO.ite ?_ ?_)
   | (with_reducible refine LeO.bind ?_ (fun _ => ?_))
   | exact numeric_Kind.mono _ _
   | exact numeric_compared.mono _ _ _ _ _
   | exact numeric_find.mono _ _
   | exact numeric_floated.mono _ _ _ _ _
   | exact numeric_rounded.mono _ _ _ _
   | exact numeric_stopped.mono _ _ _
   | exact numeric_turn.mono _ _ _
   | exact LeO.none _
   | refine LeO.ite ?_ ?_
   | refine LeO.bind ?_ (fun _ => ?_)
theorem numeric_Apply.calls (k : Nat) (a0 : Int) (a1 : Int) (a2 : Int) (r1 : Int) (r2 : Int) (w : World) (h : numeric_Apply.f k a0 a1 a2 = some (r1, r2)) :
  Calls Tryz.prog 9 #[.int .i64 a0, .int .u64 a1, .int .u64 a2] w fun e w' => e = .returned (.tuple #[.int .u64 r1, .int .i64 r2]) ∧ Below w.heap.size w w' := by
 have hu56 := Tryz.underlying56
 have HB := A_ (Below.refl w.heap.size w)
 have H : ((numeric_Kind.f k a0).bind fun bt587 => (if bt587.2.2.2 = true then ((numeric_width.f bt587.1).bind fun t591 => ((shape_Cut.f t591 a1).bind fun t592 => ((numeric_width.f bt587.1).bind fun t593 => ((shape_Cut.f t593 a2).bind fun t594 => ((numeric_find.f k a0).bind fun bt595 => (if bt595.1 = 1 then ((numeric_truth.f (t592 == 0)).bind fun t599 => (some (t599, 0))) else (if bt595.1 = 2 then ((numeric_related.f bt595.2.1 bt595.2.2 t592 t594).bind fun t600 => ((numeric_truth.f t600).bind fun t601 => (some (t601, 0)))) else (if bt595.1 = 3 then ((numeric_compared.f k bt595.2.1 bt595.2.2 t592 t594).bind fun t602 => ((numeric_truth.f t602).bind fun t603 => (some (t603, 0)))) else (if bt595.1 = 4 then ((numeric_counted.f bt595.2.1 bt595.2.2 t592).bind fun t604 => (some (t604, 0))) else (if bt595.1 = 5 then ((numeric_reckoned.f bt595.2.1 bt595.2.2 t592 t594).bind fun bt605 => (some (bt605.1, bt605.2))) else (if bt595.1 = 6 then ((numeric_rounded.f k bt595.2.1 bt595.2.2 t592).bind fun t607 => (some (t607, 0))) else (if bt595.1 = 7 then ((numeric_floated.f k bt595.2.1 bt595.2.2 t592 t594).bind fun t608 => (some (t608, 0))) else (if bt595.1 = 9 then ((numeric_stopped.f k bt595.2.1 t592).bind fun t609 => (some (t609, 0))) else ((numeric_turn.f k bt595.2.1 t592).bind fun bt610 => (some (bt610.1, bt610.2)))))))))))))))) else (some (0, 0)))) = some (r1, r2) := h
 clear h
 replace H := ob_ H
 obtain ⟨⟨t587, t588, t589, t590⟩, A40, H⟩ := H
 replace H : (if t590 = true then ((numeric_width.f t587).bind fun t591 => ((shape_Cut.f t591 a1).bind fun t592 => ((numeric_width.f t587).bind fun t593 => ((shape_Cut.f t593 a2).bind fun t594 => ((numeric_find.f k a0).bind fun bt595 => (if bt595.1 = 1 then ((numeric_truth.f (t592 == 0)).bind fun t599 => (some (t599, 0))) else (if bt595.1 = 2 then ((numeric_related.f bt595.2.1 bt595.2.2 t592 t594).bind fun t600 => ((numeric_truth.f t600).bind fun t601 => (some (t601, 0)))) else (if bt595.1 = 3 then ((numeric_compared.f k bt595.2.1 bt595.2.2 t592 t594).bind fun t602 => ((numeric_truth.f t602).bind fun t603 => (some (t603, 0)))) else (if bt595.1 = 4 then ((numeric_counted.f bt595.2.1 bt595.2.2 t592).bind fun t604 => (some (t604, 0))) else (if bt595.1 = 5 then ((numeric_reckoned.f bt595.2.1 bt595.2.2 t592 t594).bind fun bt605 => (some (bt605.1, bt605.2))) else (if bt595.1 = 6 then ((numeric_rounded.f k bt595.2.1 bt595.2.2 t592).bind fun t607 => (some (t607, 0))) else (if bt595.1 = 7 then ((numeric_floated.f k bt595.2.1 bt595.2.2 t592 t594).bind fun t608 => (some (t608, 0))) else (if bt595.1 = 9 then ((numeric_stopped.f k bt595.2.1 t592).bind fun t609 => (some (t609, 0))) else ((numeric_turn.f k bt595.2.1 t592).bind fun bt610 => (some (bt610.1, bt610.2)))))))))))))))) else (some (0, 0))) = some (r1, r2) := H
 have A4 := A_ A40;clear A40
 by_cases c5 : t590 = true
 ·subst c5
  have H1 : ((numeric_width.f t587).bind fun t591 => ((shape_Cut.f t591 a1).bind fun t592 => ((numeric_width.f t587).bind fun t593 => ((shape_Cut.f t593 a2).bind fun t594 => ((numeric_find.f k a0).bind fun bt595 => (if bt595.1 = 1 then ((numeric_truth.f (t592 == 0)).bind fun t599 => (some (t599, 0))) else (if bt595.1 = 2 then ((numeric_related.f bt595.2.1 bt595.2.2 t592 t594).bind fun t600 => ((numeric_truth.f t600).bind fun t601 => (some (t601, 0)))) else (if bt595.1 = 3 then ((numeric_compared.f k bt595.2.1 bt595.2.2 t592 t594).bind fun t602 => ((numeric_truth.f t602).bind fun t603 => (some (t603, 0)))) else (if bt595.1 = 4 then ((numeric_counted.f bt595.2.1 bt595.2.2 t592).bind fun t604 => (some (t604, 0))) else (if bt595.1 = 5 then ((numeric_reckoned.f bt595.2.1 bt595.2.2 t592 t594).bind fun bt605 => (some (bt605.1, bt605.2))) else (if bt595.1 = 6 then ((numeric_rounded.f k bt595.2.1 bt595.2.2 t592).bind fun t607 => (some (t607, 0))) else (if bt595.1 = 7 then ((numeric_floated.f k bt595.2.1 bt595.2.2 t592 t594).bind fun t608 => (some (t608, 0))) else (if bt595.1 = 9 then ((numeric_stopped.f k bt595.2.1 t592).bind fun t609 => (some (t609, 0))) else ((numeric_turn.f k bt595.2.1 t592).bind fun bt610 => (some (bt610.1, bt610.2)))))))))))))))) = some (r1, r2) := by rw [if_pos rfl] at H; exact H
  clear H;have H := H1;clear H1
  replace H := ob_ H
  obtain ⟨t591, A60, H⟩ := H
  replace H : ((shape_Cut.f t591 a1).bind fun t592 => ((numeric_width.f t587).bind fun t593 => ((shape_Cut.f t593 a2).bind fun t594 => ((numeric_find.f k a0).bind fun bt595 => (if bt595.1 = 1 then ((numeric_truth.f (t592 == 0)).bind fun t599 => (some (t599, 0))) else (if bt595.1 = 2 then ((numeric_related.f bt595.2.1 bt595.2.2 t592 t594).bind fun t600 => ((numeric_truth.f t600).bind fun t601 => (some (t601, 0)))) else (if bt595.1 = 3 then ((numeric_compared.f k bt595.2.1 bt595.2.2 t592 t594).bind fun t602 => ((numeric_truth.f t602).bind fun t603 => (some (t603, 0)))) else (if bt595.1 = 4 then ((numeric_counted.f bt595.2.1 bt595.2.2 t592).bind fun t604 => (some (t604, 0))) else (if bt595.1 = 5 then ((numeric_reckoned.f bt595.2.1 bt595.2.2 t592 t594).bind fun bt605 => (some (bt605.1, bt605.2))) else (if bt595.1 = 6 then ((numeric_rounded.f k bt595.2.1 bt595.2.2 t592).bind fun t607 => (some (t607, 0))) else (if bt595.1 = 7 then ((numeric_floated.f k bt595.2.1 bt595.2.2 t592 t594).bind fun t608 => (some (t608, 0))) else (if bt595.1 = 9 then ((numeric_stopped.f k bt595.2.1 t592).bind fun t609 => (some (t609, 0))) else ((numeric_turn.f k bt595.2.1 t592).bind fun bt610 => (some (bt610.1, bt610.2))))))))))))))) = some (r1, r2) := H
  have A6 := A_ A60;clear A60
  replace H := ob_ H
  obtain ⟨t592, A70, H⟩ := H
  replace H : ((numeric_width.f t587).bind fun t593 => ((shape_Cut.f t593 a2).bind fun t594 => ((numeric_find.f k a0).bind fun bt595 => (if bt595.1 = 1 then ((numeric_truth.f (t592 == 0)).bind fun t599 => (some (t599, 0))) else (if bt595.1 = 2 then ((numeric_related.f bt595.2.1 bt595.2.2 t592 t594).bind fun t600 => ((numeric_truth.f t600).bind fun t601 => (some (t601, 0)))) else (if bt595.1 = 3 then ((numeric_compared.f k bt595.2.1 bt595.2.2 t592 t594).bind fun t602 => ((numeric_truth.f t602).bind fun t603 => (some (t603, 0)))) else (if bt595.1 = 4 then ((numeric_counted.f bt595.2.1 bt595.2.2 t592).bind fun t604 => (some (t604, 0))) else (if bt595.1 = 5 then ((numeric_reckoned.f bt595.2.1 bt595.2.2 t592 t594).bind fun bt605 => (some (bt605.1, bt605.2))) else (if bt595.1 = 6 then ((numeric_rounded.f k bt595.2.1 bt595.2.2 t592).bind fun t607 => (some (t607, 0))) else (if bt595.1 = 7 then ((numeric_floated.f k bt595.2.1 bt595.2.2 t592 t594).bind fun t608 => (some (t608, 0))) else (if bt595.1 = 9 then ((numeric_stopped.f k bt595.2.1 t592).bind fun t609 => (some (t609, 0))) else ((numeric_turn.f k bt595.2.1 t592).bind fun bt610 => (some (bt610.1, bt610.2)))))))))))))) = some (r1, r2) := H
  have A7 := A_ A70;clear A70
  replace H := ob_ H
  obtain ⟨t593, A80, H⟩ := H
  replace H : ((shape_Cut.f t593 a2).bind fun t594 => ((numeric_find.f k a0).bind fun bt595 => (if bt595.1 = 1 then ((numeric_truth.f (t592 == 0)).bind fun t599 => (some (t599, 0))) else (if bt595.1 = 2 then ((numeric_related.f bt595.2.1 bt595.2.2 t592 t594).bind fun t600 => ((numeric_truth.f t600).bind fun t601 => (some (t601, 0)))) else (if bt595.1 = 3 then ((numeric_compared.f k bt595.2.1 bt595.2.2 t592 t594).bind fun t602 => ((numeric_truth.f t602).bind fun t603 => (some (t603, 0)))) else (if bt595.1 = 4 then ((numeric_counted.f bt595.2.1 bt595.2.2 t592).bind fun t604 => (some (t604, 0))) else (if bt595.1 = 5 then ((numeric_reckoned.f bt595.2.1 bt595.2.2 t592 t594).bind fun bt605 => (some (bt605.1, bt605.2))) else (if bt595.1 = 6 then ((numeric_rounded.f k bt595.2.1 bt595.2.2 t592).bind fun t607 => (some (t607, 0))) else (if bt595.1 = 7 then ((numeric_floated.f k bt595.2.1 bt595.2.2 t592 t594).bind fun t608 => (some (t608, 0))) else (if bt595.1 = 9 then ((numeric_stopped.f k bt595.2.1 t592).bind fun t609 => (some (t609, 0))) else ((numeric_turn.f k bt595.2.1 t592).bind fun bt610 => (some (bt610.1, bt610.2))))))))))))) = some (r1, r2) := H
  have A8 := A_ A80;clear A80
  have E2_ := Option.some.inj (A6.out.symm.trans A8.out)
  (try rw [← E2_] at H)
  clear A8 E2_
  replace H := ob_ H
  obtain ⟨t594, A90, H⟩ := H
  replace H : ((numeric_find.f k a0).bind fun bt595 => (if bt595.1 = 1 then ((numeric_truth.f (t592 == 0)).bind fun t599 => (some (t599, 0))) else (if bt595.1 = 2 then ((numeric_related.f bt595.2.1 bt595.2.2 t592 t594).bind fun t600 => ((numeric_truth.f t600).bind fun t601 => (some (t601, 0)))) else (if bt595.1 = 3 then ((numeric_compared.f k bt595.2.1 bt595.2.2 t592 t594).bind fun t602 => ((numeric_truth.f t602).bind fun t603 => (some (t603, 0)))) else (if bt595.1 = 4 then ((numeric_counted.f bt595.2.1 bt595.2.2 t592).bind fun t604 => (some (t604, 0))) else (if bt595.1 = 5 then ((numeric_reckoned.f bt595.2.1 bt595.2.2 t592 t594).bind fun bt605 => (some (bt605.1, bt605.2))) else (if bt595.1 = 6 then ((numeric_rounded.f k bt595.2.1 bt595.2.2 t592).bind fun t607 => (some (t607, 0))) else (if bt595.1 = 7 then ((numeric_floated.f k bt595.2.1 bt595.2.2 t592 t594).bind fun t608 => (some (t608, 0))) else (if bt595.1 = 9 then ((numeric_stopped.f k bt595.2.1 t592).bind fun t609 => (some (t609, 0))) else ((numeric_turn.f k bt595.2.1 t592).bind fun bt610 => (some (bt610.1, bt610.2)))))))))))) = some (r1, r2) := H
  have A9 := A_ A90;clear A90
  replace H := ob_ H
  obtain ⟨⟨t595, t596, t597⟩, A100, H⟩ := H
  replace H : (if t595 = 1 then ((numeric_truth.f (t592 == 0)).bind fun t599 => (some (t599, 0))) else (if t595 = 2 then ((numeric_related.f t596 t597 t592 t594).bind fun t600 => ((numeric_truth.f t600).bind fun t601 => (some (t601, 0)))) else (if t595 = 3 then ((numeric_compared.f k t596 t597 t592 t594).bind fun t602 => ((numeric_truth.f t602).bind fun t603 => (some (t603, 0)))) else (if t595 = 4 then ((numeric_counted.f t596 t597 t592).bind fun t604 => (some (t604, 0))) else (if t595 = 5 then ((numeric_reckoned.f t596 t597 t592 t594).bind fun bt605 => (some (bt605.1, bt605.2))) else (if t595 = 6 then ((numeric_rounded.f k t596 t597 t592).bind fun t607 => (some (t607, 0))) else (if t595 = 7 then ((numeric_floated.f k t596 t597 t592 t594).bind fun t608 => (some (t608, 0))) else (if t595 = 9 then ((numeric_stopped.f k t596 t592).bind fun t609 => (some (t609, 0))) else ((numeric_turn.f k t596 t592).bind fun bt610 => (some (bt610.1, bt610.2))))))))))) = some (r1, r2) := H
  have A10 := A_ A100;clear A100
  by_cases c11 : t595 = 1
  ·rw [if_pos c11] at H
   have c11b0 : (t595 == 1) = true := beq_iff_eq.mpr c11
   have c11b1 : (t595 != 1) = false := bne_eq_false_iff_eq.mpr c11
   clear c11
   replace H := ob_ H
   obtain ⟨t599, A120, H⟩ := H
   replace H : (some (t599, 0)) = some (r1, r2) := H
   have A12 := A_ A120;clear A120
   simp only [Option.some.injEq, Prod.mk.injEq] at H
   obtain ⟨rfl, rfl⟩ := H
   go_enter Tryz.func9, Tryz.ntmps9
   go_wp2_with (first | ((with_reducible refine gate_callee (f := 21) rfl ?_); refine goesL_ (some 15) rfl rfl Tryz.func21 (by kernel_rfl) rfl #[.int .i64 a0] rfl mp_ ?_; (with_reducible refine (numeric_Kind.calls k a0 t587 t588 t589 true _ A4.out).mono ?_); rintro e w13 ⟨rfl, hb⟩; refine ⟨_, rfl, ?_⟩; replace HB := A_ (below_step (hb_ HB.out) hb); (try clear hb); (try clear hb2); (try clear hk); (try clear hi)) | ((with_reducible refine gate_callee (f := 24) rfl ?_); refine goesL_ (some 23) rfl rfl Tryz.func24 (by kernel_rfl) rfl #[.int .u8 t587] rfl mp_ ?_; (with_reducible refine (numeric_width.calls t587 t591 _ A6.out).mono ?_); rintro e w' ⟨rfl, ⟨nd, rfl⟩⟩; refine ⟨_, rfl, ?_⟩; (try (rw [drewN_self w13]; generalize hq_ : World.drewN w13 _ = w13; have n0_ : Aside0 (Below w.heap.size w w13) := ⟨by rw [← hq_]; exact (hb_ HB.out)⟩; clear HB hq_; have HB := n0_; clear n0_))) | ((with_reducible refine gate_callee (f := 17) rfl ?_); refine goesL_ (some 25) rfl rfl Tryz.func17 (by kernel_rfl) rfl #[.int .i64 t591, .int .u64 a1] rfl mp_ ?_; (with_reducible refine (shape_Cut.calls t591 a1 t592 _ A7.out).mono ?_); rintro e w' ⟨rfl, ⟨nd, rfl⟩⟩; refine ⟨_, rfl, ?_⟩; (try (rw [drewN_self w13]; generalize hq_ : World.drewN w13 _ = w13; have n0_ : Aside0 (Below w.heap.size w w13) := ⟨by rw [← hq_]; exact (hb_ HB.out)⟩; clear HB hq_; have HB := n0_; clear n0_))) | ((with_reducible refine gate_callee (f := 24) rfl ?_); refine goesL_ (some 27) rfl rfl Tryz.func24 (by kernel_rfl) rfl #[.int .u8 t587] rfl mp_ ?_; (with_reducible refine (numeric_width.calls t587 t591 _ A6.out).mono ?_); rintro e w' ⟨rfl, ⟨nd, rfl⟩⟩; refine ⟨_, rfl, ?_⟩; (try (rw [drewN_self w13]; generalize hq_ : World.drewN w13 _ = w13; have n0_ : Aside0 (Below w.heap.size w w13) := ⟨by rw [← hq_]; exact (hb_ HB.out)⟩; clear HB hq_; have HB := n0_; clear n0_))) | ((with_reducible refine gate_callee (f := 17) rfl ?_); refine goesL_ (some 29) rfl rfl Tryz.func17 (by kernel_rfl) rfl #[.int .i64 t591, .int .u64 a2] rfl mp_ ?_; (with_reducible refine (shape_Cut.calls t591 a2 t594 _ A9.out).mono ?_); rintro e w' ⟨rfl, ⟨nd, rfl⟩⟩; refine ⟨_, rfl, ?_⟩; (try (rw [drewN_self w13]; generalize hq_ : World.drewN w13 _ = w13; have n0_ : Aside0 (Below w.heap.size w w13) := ⟨by rw [← hq_]; exact (hb_ HB.out)⟩; clear HB hq_; have HB := n0_; clear n0_))) | ((with_reducible refine gate_callee (f := 25) rfl ?_); refine goesL_ (some 31) rfl rfl Tryz.func25 (by kernel_rfl) rfl #[.int .i64 a0] rfl mp_ ?_; (with_reducible refine (numeric_find.calls k a0 t595 t596 t597 _ A10.out).mono ?_); rintro e w14 ⟨rfl, hb⟩; refine ⟨_, rfl, ?_⟩; replace HB := A_ (below_step (hb_ HB.out) hb); (try clear hb); (try clear hb2); (try clear hk); (try clear hi)) | ((with_reducible refine gate_dst (N := 12) rfl ?_); refine be_ 12 #[.int .i64 0, .int .i64 0, .int .i64 0] 56 ?_; intro gb598 hg w15 hbox hb; have BK598 := A_ (hbox); have GW598 := A_ (sz_ hg (hb_ HB.out)); have GE598 := A_ (sz_ hg (hb_ HB.out)); replace HB := A_ (below_step (hb_ HB.out) hb); clear hb hbox hg; have hcz16_0 := bv_ BK598.out 0; have hcz16_1 := bv_ BK598.out 1; have hcz16_2 := bv_ BK598.out 2; have hfz16_0 := blk_frozen BK598.out 0; have hfz16_1 := blk_frozen BK598.out 1; have hfz16_2 := blk_frozen BK598.out 2) | ((with_reducible refine gate_callee (f := 26) rfl ?_); refine goesL_ (some 38) rfl rfl Tryz.func26 (by kernel_rfl) rfl #[.bool (t592 == 0)] rfl mp_ ?_; (with_reducible refine (numeric_truth.calls (t592 == 0) t599 _ A12.out).mono ?_); rintro e w' ⟨rfl, ⟨nd, rfl⟩⟩; refine ⟨_, rfl, ?_⟩))
   go_ret2
   exact ⟨er_, hb1_ HB.out GE598.out⟩
  ·rw [if_neg c11] at H
   have c11b0 : (t595 == 1) = false := beq_eq_false_iff_ne.mpr c11
   have c11b1 : (t595 != 1) = true := bne_iff_ne.mpr c11
   by_cases c17 : t595 = 2
   ·rw [if_pos c17] at H
    have c17b0 : (t595 == 2) = true := beq_iff_eq.mpr c17
    have c17b1 : (t595 != 2) = false := bne_eq_false_iff_eq.mpr c17
    clear c17
    replace H := ob_ H
    obtain ⟨t600, A180, H⟩ := H
    replace H : ((numeric_truth.f t600).bind fun t601 => (some (t601, 0))) = some (r1, r2) := H
    have A18 := A_ A180;clear A180
    replace H := ob_ H
    obtain ⟨t601, A190, H⟩ := H
    replace H : (some (t601, 0)) = some (r1, r2) := H
    have A19 := A_ A190;clear A190
    simp only [Option.some.injEq, Prod.mk.injEq] at H
    obtain ⟨rfl, rfl⟩ := H
    go_enter Tryz.func9, Tryz.ntmps9
    go_wp2_with (first | ((with_reducible refine gate_callee (f := 21) rfl ?_); refine goesL_ (some 15) rfl rfl Tryz.func21 (by kernel_rfl) rfl #[.int .i64 a0] rfl mp_ ?_; (with_reducible refine (numeric_Kind.calls k a0 t587 t588 t589 true _ A4.out).mono ?_); rintro e w20 ⟨rfl, hb⟩; refine ⟨_, rfl, ?_⟩; replace HB := A_ (below_step (hb_ HB.out) hb); (try clear hb); (try clear hb2); (try clear hk); (try clear hi)) | ((with_reducible refine gate_callee (f := 24) rfl ?_); refine goesL_ (some 23) rfl rfl Tryz.func24 (by kernel_rfl) rfl #[.int .u8 t587] rfl mp_ ?_; (with_reducible refine (numeric_width.calls t587 t591 _ A6.out).mono ?_); rintro e w' ⟨rfl, ⟨nd, rfl⟩⟩; refine ⟨_, rfl, ?_⟩; (try (rw [drewN_self w20]; generalize hq_ : World.drewN w20 _ = w20; have n0_ : Aside0 (Below w.heap.size w w20) := ⟨by rw [← hq_]; exact (hb_ HB.out)⟩; clear HB hq_; have HB := n0_; clear n0_))) | ((with_reducible refine gate_callee (f := 17) rfl ?_); refine goesL_ (some 25) rfl rfl Tryz.func17 (by kernel_rfl) rfl #[.int .i64 t591, .int .u64 a1] rfl mp_ ?_; (with_reducible refine (shape_Cut.calls t591 a1 t592 _ A7.out).mono ?_); rintro e w' ⟨rfl, ⟨nd, rfl⟩⟩; refine ⟨_, rfl, ?_⟩; (try (rw [drewN_self w20]; generalize hq_ : World.drewN w20 _ = w20; have n0_ : Aside0 (Below w.heap.size w w20) := ⟨by rw [← hq_]; exact (hb_ HB.out)⟩; clear HB hq_; have HB := n0_; clear n0_))) | ((with_reducible refine gate_callee (f := 24) rfl ?_); refine goesL_ (some 27) rfl rfl Tryz.func24 (by kernel_rfl) rfl #[.int .u8 t587] rfl mp_ ?_; (with_reducible refine (numeric_width.calls t587 t591 _ A6.out).mono ?_); rintro e w' ⟨rfl, ⟨nd, rfl⟩⟩; refine ⟨_, rfl, ?_⟩; (try (rw [drewN_self w20]; generalize hq_ : World.drewN w20 _ = w20; have n0_ : Aside0 (Below w.heap.size w w20) := ⟨by rw [← hq_]; exact (hb_ HB.out)⟩; clear HB hq_; have HB := n0_; clear n0_))) | ((with_reducible refine gate_callee (f := 17) rfl ?_); refine goesL_ (some 29) rfl rfl Tryz.func17 (by kernel_rfl) rfl #[.int .i64 t591, .int .u64 a2] rfl mp_ ?_; (with_reducible refine (shape_Cut.calls t591 a2 t594 _ A9.out).mono ?_); rintro e w' ⟨rfl, ⟨nd, rfl⟩⟩; refine ⟨_, rfl, ?_⟩; (try (rw [drewN_self w20]; generalize hq_ : World.drewN w20 _ = w20; have n0_ : Aside0 (Below w.heap.size w w20) := ⟨by rw [← hq_]; exact (hb_ HB.out)⟩; clear HB hq_; have HB := n0_; clear n0_))) | ((with_reducible refine gate_callee (f := 25) rfl ?_); refine goesL_ (some 31) rfl rfl Tryz.func25 (by kernel_rfl) rfl #[.int .i64 a0] rfl mp_ ?_; (with_reducible refine (numeric_find.calls k a0 t595 t596 t597 _ A10.out).mono ?_); rintro e w21 ⟨rfl, hb⟩; refine ⟨_, rfl, ?_⟩; replace HB := A_ (below_step (hb_ HB.out) hb); (try clear hb); (try clear hb2); (try clear hk); (try clear hi)) | ((with_reducible refine gate_dst (N := 12) rfl ?_); refine be_ 12 #[.int .i64 0, .int .i64 0, .int .i64 0] 56 ?_; intro gb598 hg w22 hbox hb; have BK598 := A_ (hbox); have GW598 := A_ (sz_ hg (hb_ HB.out)); have GE598 := A_ (sz_ hg (hb_ HB.out)); replace HB := A_ (below_step (hb_ HB.out) hb); clear hb hbox hg; have hcz23_0 := bv_ BK598.out 0; have hcz23_1 := bv_ BK598.out 1; have hcz23_2 := bv_ BK598.out 2; have hfz23_0 := blk_frozen BK598.out 0; have hfz23_1 := blk_frozen BK598.out 1; have hfz23_2 := blk_frozen BK598.out 2) | ((with_reducible refine gate_callee (f := 27) rfl ?_); refine goesL_ (some 47) rfl rfl Tryz.func27 (by kernel_rfl) rfl #[.int .i64 t596, .int .i64 t597, .int .u64 t592, .int .u64 t594] rfl mp_ ?_; (with_reducible refine (numeric_related.calls t596 t597 t592 t594 t600 _ A18.out).mono ?_); rintro e w' ⟨rfl, ⟨nd, rfl⟩⟩; refine ⟨_, rfl, ?_⟩) | ((with_reducible refine gate_callee (f := 26) rfl ?_); refine goesL_ (some 48) rfl rfl Tryz.func26 (by kernel_rfl) rfl #[.bool t600] rfl mp_ ?_; (with_reducible refine (numeric_truth.calls t600 t601 _ A19.out).mono ?_); rintro e w' ⟨rfl, ⟨nd, rfl⟩⟩; refine ⟨_, rfl, ?_⟩))
    go_ret2
    exact ⟨er_, hb1_ HB.out GE598.out⟩
   ·rw [if_neg c17] at H
    have c17b0 : (t595 == 2) = false := beq_eq_false_iff_ne.mpr c17
    have c17b1 : (t595 != 2) = true := bne_iff_ne.mpr c17
    by_cases c24 : t595 = 3
    ·rw [if_pos c24] at H
     have c24b0 : (t595 == 3) = true := beq_iff_eq.mpr c24
     have c24b1 : (t595 != 3) = false := bne_eq_false_iff_eq.mpr c24
     clear c24
     replace H := ob_ H
     obtain ⟨t602, A250, H⟩ := H
     replace H : ((numeric_truth.f t602).bind fun t603 => (some (t603, 0))) = some (r1, r2) := H
     have A25 := A_ A250;clear A250
     replace H := ob_ H
     obtain ⟨t603, A260, H⟩ := H
     replace H : (some (t603, 0)) = some (r1, r2) := H
     have A26 := A_ A260;clear A260
     simp only [Option.some.injEq, Prod.mk.injEq] at H
     obtain ⟨rfl, rfl⟩ := H
     go_enter Tryz.func9, Tryz.ntmps9
     go_wp2_with (first | ((with_reducible refine gate_callee (f := 21) rfl ?_); refine goesL_ (some 15) rfl rfl Tryz.func21 (by kernel_rfl) rfl #[.int .i64 a0] rfl mp_ ?_; (with_reducible refine (numeric_Kind.calls k a0 t587 t588 t589 true _ A4.out).mono ?_); rintro e w27 ⟨rfl, hb⟩; refine ⟨_, rfl, ?_⟩; replace HB := A_ (below_step (hb_ HB.out) hb); (try clear hb); (try clear hb2); (try clear hk); (try clear hi)) | ((with_reducible refine gate_callee (f := 24) rfl ?_); refine goesL_ (some 23) rfl rfl Tryz.func24 (by kernel_rfl) rfl #[.int .u8 t587] rfl mp_ ?_; (with_reducible refine (numeric_width.calls t587 t591 _ A6.out).mono ?_); rintro e w' ⟨rfl, ⟨nd, rfl⟩⟩; refine ⟨_, rfl, ?_⟩; (try (rw [drewN_self w27]; generalize hq_ : World.drewN w27 _ = w27; have n0_ : Aside0 (Below w.heap.size w w27) := ⟨by rw [← hq_]; exact (hb_ HB.out)⟩; clear HB hq_; have HB := n0_; clear n0_))) | ((with_reducible refine gate_callee (f := 17) rfl ?_); refine goesL_ (some 25) rfl rfl Tryz.func17 (by kernel_rfl) rfl #[.int .i64 t591, .int .u64 a1] rfl mp_ ?_; (with_reducible refine (shape_Cut.calls t591 a1 t592 _ A7.out).mono ?_); rintro e w' ⟨rfl, ⟨nd, rfl⟩⟩; refine ⟨_, rfl, ?_⟩; (try (rw [drewN_self w27]; generalize hq_ : World.drewN w27 _ = w27; have n0_ : Aside0 (Below w.heap.size w w27) := ⟨by rw [← hq_]; exact (hb_ HB.out)⟩; clear HB hq_; have HB := n0_; clear n0_))) | ((with_reducible refine gate_callee (f := 24) rfl ?_); refine goesL_ (some 27) rfl rfl Tryz.func24 (by kernel_rfl) rfl #[.int .u8 t587] rfl mp_ ?_; (with_reducible refine (numeric_width.calls t587 t591 _ A6.out).mono ?_); rintro e w' ⟨rfl, ⟨nd, rfl⟩⟩; refine ⟨_, rfl, ?_⟩; (try (rw [drewN_self w27]; generalize hq_ : World.drewN w27 _ = w27; have n0_ : Aside0 (Below w.heap.size w w27) := ⟨by rw [← hq_]; exact (hb_ HB.out)⟩; clear HB hq_; have HB := n0_; clear n0_))) | ((with_reducible refine gate_callee (f := 17) rfl ?_); refine goesL_ (some 29) rfl rfl Tryz.func17 (by kernel_rfl) rfl #[.int .i64 t591, .int .u64 a2] rfl mp_ ?_; (with_reducible refine (shape_Cut.calls t591 a2 t594 _ A9.out).mono ?_); rintro e w' ⟨rfl, ⟨nd, rfl⟩⟩; refine ⟨_, rfl, ?_⟩; (try (rw [drewN_self w27]; generalize hq_ : World.drewN w27 _ = w27; have n0_ : Aside0 (Below w.heap.size w w27) := ⟨by rw [← hq_]; exact (hb_ HB.out)⟩; clear HB hq_; have HB := n0_; clear n0_))) | ((with_reducible refine gate_callee (f := 25) rfl ?_); refine goesL_ (some 31) rfl rfl Tryz.func25 (by kernel_rfl) rfl #[.int .i64 a0] rfl mp_ ?_; (with_reducible refine (numeric_find.calls k a0 t595 t596 t597 _ A10.out).mono ?_); rintro e w28 ⟨rfl, hb⟩; refine ⟨_, rfl, ?_⟩; replace HB := A_ (below_step (hb_ HB.out) hb); (try clear hb); (try clear hb2); (try clear hk); (try clear hi)) | ((with_reducible refine gate_dst (N := 12) rfl ?_); refine be_ 12 #[.int .i64 0, .int .i64 0, .int .i64 0] 56 ?_; intro gb598 hg w29 hbox hb; have BK598 := A_ (hbox); have GW598 := A_ (sz_ hg (hb_ HB.out)); have GE598 := A_ (sz_ hg (hb_ HB.out)); replace HB := A_ (below_step (hb_ HB.out) hb); clear hb hbox hg; have hcz30_0 := bv_ BK598.out 0; have hcz30_1 := bv_ BK598.out 1; have hcz30_2 := bv_ BK598.out 2; have hfz30_0 := blk_frozen BK598.out 0; have hfz30_1 := blk_frozen BK598.out 1; have hfz30_2 := blk_frozen BK598.out 2) | ((with_reducible refine gate_callee (f := 28) rfl ?_); refine goesL_ (some 57) rfl rfl Tryz.func28 (by kernel_rfl) rfl #[.int .i64 t596, .int .i64 t597, .int .u64 t592, .int .u64 t594] rfl mp_ ?_; (with_reducible refine (numeric_compared.calls k t596 t597 t592 t594 t602 _ A25.out).mono ?_); rintro e w31 ⟨rfl, hb⟩; refine ⟨_, rfl, ?_⟩; replace BK598 := A_ (blk_below (g := gb598) (o := .cells #[.int .i64 t595, .int .i64 t596, .int .i64 t597] 56 (0, 0)) (by (with_reducible repeat (first | refine blk_drewN ?_ _ | refine blk_drew ?_ | refine blk_alloc ?_ _)); refine blk_put (cs := #[.int .i64 t595, .int .i64 t596, .int .i64 0]) ?_ 2 _ rfl; (with_reducible repeat (first | refine blk_drewN ?_ _ | refine blk_drew ?_ | refine blk_alloc ?_ _)); refine blk_put (cs := #[.int .i64 t595, .int .i64 0, .int .i64 0]) ?_ 1 _ rfl; (with_reducible repeat (first | refine blk_drewN ?_ _ | refine blk_drew ?_ | refine blk_alloc ?_ _)); refine blk_put (cs := #[.int .i64 0, .int .i64 0, .int .i64 0]) ?_ 0 _ rfl; (with_reducible repeat (first | refine blk_drewN ?_ _ | refine blk_drew ?_ | refine blk_alloc ?_ _)); exact BK598.out) hb); replace HB := A_ (below_step (hb1_ HB.out GE598.out) hb); (try clear hb); (try clear hb2); (try clear hk); (try clear hi)) | ((with_reducible refine gate_callee (f := 26) rfl ?_); refine goesL_ (some 58) rfl rfl Tryz.func26 (by kernel_rfl) rfl #[.bool t602] rfl mp_ ?_; (with_reducible refine (numeric_truth.calls t602 t603 _ A26.out).mono ?_); rintro e w' ⟨rfl, ⟨nd, rfl⟩⟩; refine ⟨_, rfl, ?_⟩))
     go_ret2
     exact ⟨er_, hb1_ HB.out GE598.out⟩
    ·rw [if_neg c24] at H
     have c24b0 : (t595 == 3) = false := beq_eq_false_iff_ne.mpr c24
     have c24b1 : (t595 != 3) = true := bne_iff_ne.mpr c24
     by_cases c32 : t595 = 4
     ·rw [if_pos c32] at H
      have c32b0 : (t595 == 4) = true := beq_iff_eq.mpr c32
      have c32b1 : (t595 != 4) = false := bne_eq_false_iff_eq.mpr c32
      clear c32
      replace H := ob_ H
      obtain ⟨t604, A330, H⟩ := H
      replace H : (some (t604, 0)) = some (r1, r2) := H
      have A33 := A_ A330;clear A330
      simp only [Option.some.injEq, Prod.mk.injEq] at H
      obtain ⟨rfl, rfl⟩ := H
      go_enter Tryz.func9, Tryz.ntmps9
      go_wp2_with (first | ((with_reducible refine gate_callee (f := 21) rfl ?_); refine goesL_ (some 15) rfl rfl Tryz.func21 (by kernel_rfl) rfl #[.int .i64 a0] rfl mp_ ?_; (with_reducible refine (numeric_Kind.calls k a0 t587 t588 t589 true _ A4.out).mono ?_); rintro e w34 ⟨rfl, hb⟩; refine ⟨_, rfl, ?_⟩; replace HB := A_ (below_step (hb_ HB.out) hb); (try clear hb); (try clear hb2); (try clear hk); (try clear hi)) | ((with_reducible refine gate_callee (f := 24) rfl ?_); refine goesL_ (some 23) rfl rfl Tryz.func24 (by kernel_rfl) rfl #[.int .u8 t587] rfl mp_ ?_; (with_reducible refine (numeric_width.calls t587 t591 _ A6.out).mono ?_); rintro e w' ⟨rfl, ⟨nd, rfl⟩⟩; refine ⟨_, rfl, ?_⟩; (try (rw [drewN_self w34]; generalize hq_ : World.drewN w34 _ = w34; have n0_ : Aside0 (Below w.heap.size w w34) := ⟨by rw [← hq_]; exact (hb_ HB.out)⟩; clear HB hq_; have HB := n0_; clear n0_))) | ((with_reducible refine gate_callee (f := 17) rfl ?_); refine goesL_ (some 25) rfl rfl Tryz.func17 (by kernel_rfl) rfl #[.int .i64 t591, .int .u64 a1] rfl mp_ ?_; (with_reducible refine (shape_Cut.calls t591 a1 t592 _ A7.out).mono ?_); rintro e w' ⟨rfl, ⟨nd, rfl⟩⟩; refine ⟨_, rfl, ?_⟩; (try (rw [drewN_self w34]; generalize hq_ : World.drewN w34 _ = w34; have n0_ : Aside0 (Below w.heap.size w w34) := ⟨by rw [← hq_]; exact (hb_ HB.out)⟩; clear HB hq_; have HB := n0_; clear n0_))) | ((with_reducible refine gate_callee (f := 24) rfl ?_); refine goesL_ (some 27) rfl rfl Tryz.func24 (by kernel_rfl) rfl #[.int .u8 t587] rfl mp_ ?_; (with_reducible refine (numeric_width.calls t587 t591 _ A6.out).mono ?_); rintro e w' ⟨rfl, ⟨nd, rfl⟩⟩; refine ⟨_, rfl, ?_⟩; (try (rw [drewN_self w34]; generalize hq_ : World.drewN w34 _ = w34; have n0_ : Aside0 (Below w.heap.size w w34) := ⟨by rw [← hq_]; exact (hb_ HB.out)⟩; clear HB hq_; have HB := n0_; clear n0_))) | ((with_reducible refine gate_callee (f := 17) rfl ?_); refine goesL_ (some 29) rfl rfl Tryz.func17 (by kernel_rfl) rfl #[.int .i64 t591, .int .u64 a2] rfl mp_ ?_; (with_reducible refine (shape_Cut.calls t591 a2 t594 _ A9.out).mono ?_); rintro e w' ⟨rfl, ⟨nd, rfl⟩⟩; refine ⟨_, rfl, ?_⟩; (try (rw [drewN_self w34]; generalize hq_ : World.drewN w34 _ = w34; have n0_ : Aside0 (Below w.heap.size w w34) := ⟨by rw [← hq_]; exact (hb_ HB.out)⟩; clear HB hq_; have HB := n0_; clear n0_))) | ((with_reducible refine gate_callee (f := 25) rfl ?_); refine goesL_ (some 31) rfl rfl Tryz.func25 (by kernel_rfl) rfl #[.int .i64 a0] rfl mp_ ?_; (with_reducible refine (numeric_find.calls k a0 t595 t596 t597 _ A10.out).mono ?_); rintro e w35 ⟨rfl, hb⟩; refine ⟨_, rfl, ?_⟩; replace HB := A_ (below_step (hb_ HB.out) hb); (try clear hb); (try clear hb2); (try clear hk); (try clear hi)) | ((with_reducible refine gate_dst (N := 12) rfl ?_); refine be_ 12 #[.int .i64 0, .int .i64 0, .int .i64 0] 56 ?_; intro gb598 hg w36 hbox hb; have BK598 := A_ (hbox); have GW598 := A_ (sz_ hg (hb_ HB.out)); have GE598 := A_ (sz_ hg (hb_ HB.out)); replace HB := A_ (below_step (hb_ HB.out) hb); clear hb hbox hg; have hcz37_0 := bv_ BK598.out 0; have hcz37_1 := bv_ BK598.out 1; have hcz37_2 := bv_ BK598.out 2; have hfz37_0 := blk_frozen BK598.out 0; have hfz37_1 := blk_frozen BK598.out 1; have hfz37_2 := blk_frozen BK598.out 2) | ((with_reducible refine gate_callee (f := 29) rfl ?_); refine goesL_ (some 66) rfl rfl Tryz.func29 (by kernel_rfl) rfl #[.int .i64 t596, .int .i64 t597, .int .u64 t592] rfl mp_ ?_; (with_reducible refine (numeric_counted.calls t596 t597 t592 t604 _ A33.out).mono ?_); rintro e w38 ⟨rfl, hb⟩; refine ⟨_, rfl, ?_⟩; replace BK598 := A_ (blk_below (g := gb598) (o := .cells #[.int .i64 t595, .int .i64 t596, .int .i64 t597] 56 (0, 0)) (by (with_reducible repeat (first | refine blk_drewN ?_ _ | refine blk_drew ?_ | refine blk_alloc ?_ _)); refine blk_put (cs := #[.int .i64 t595, .int .i64 t596, .int .i64 0]) ?_ 2 _ rfl; (with_reducible repeat (first | refine blk_drewN ?_ _ | refine blk_drew ?_ | refine blk_alloc ?_ _)); refine blk_put (cs := #[.int .i64 t595, .int .i64 0, .int .i64 0]) ?_ 1 _ rfl; (with_reducible repeat (first | refine blk_drewN ?_ _ | refine blk_drew ?_ | refine blk_alloc ?_ _)); refine blk_put (cs := #[.int .i64 0, .int .i64 0, .int .i64 0]) ?_ 0 _ rfl; (with_reducible repeat (first | refine blk_drewN ?_ _ | refine blk_drew ?_ | refine blk_alloc ?_ _)); exact BK598.out) hb); replace HB := A_ (below_step (hb1_ HB.out GE598.out) hb); (try clear hb); (try clear hb2); (try clear hk); (try clear hi)))
      go_ret2
      exact ⟨er_, hb1_ HB.out GE598.out⟩
     ·rw [if_neg c32] at H
      have c32b0 : (t595 == 4) = false := beq_eq_false_iff_ne.mpr c32
      have c32b1 : (t595 != 4) = true := bne_iff_ne.mpr c32
      by_cases c39 : t595 = 5
      ·rw [if_pos c39] at H
       have c39b0 : (t595 == 5) = true := beq_iff_eq.mpr c39
       have c39b1 : (t595 != 5) = false := bne_eq_false_iff_eq.mpr c39
       clear c39
       replace H := ob_ H
       obtain ⟨⟨t605, t606⟩, A400, H⟩ := H
       replace H : (some (t605, t606)) = some (r1, r2) := H
       have A40 := A_ A400;clear A400
       simp only [Option.some.injEq, Prod.mk.injEq] at H
       obtain ⟨rfl, rfl⟩ := H
       go_enter Tryz.func9, Tryz.ntmps9
       go_wp2_with (first | ((with_reducible refine gate_callee (f := 21) rfl ?_); refine goesL_ (some 15) rfl rfl Tryz.func21 (by kernel_rfl) rfl #[.int .i64 a0] rfl mp_ ?_; (with_reducible refine (numeric_Kind.calls k a0 t587 t588 t589 true _ A4.out).mono ?_); rintro e w41 ⟨rfl, hb⟩; refine ⟨_, rfl, ?_⟩; replace HB := A_ (below_step (hb_ HB.out) hb); (try clear hb); (try clear hb2); (try clear hk); (try clear hi)) | ((with_reducible refine gate_callee (f := 24) rfl ?_); refine goesL_ (some 23) rfl rfl Tryz.func24 (by kernel_rfl) rfl #[.int .u8 t587] rfl mp_ ?_; (with_reducible refine (numeric_width.calls t587 t591 _ A6.out).mono ?_); rintro e w' ⟨rfl, ⟨nd, rfl⟩⟩; refine ⟨_, rfl, ?_⟩; (try (rw [drewN_self w41]; generalize hq_ : World.drewN w41 _ = w41; have n0_ : Aside0 (Below w.heap.size w w41) := ⟨by rw [← hq_]; exact (hb_ HB.out)⟩; clear HB hq_; have HB := n0_; clear n0_))) | ((with_reducible refine gate_callee (f := 17) rfl ?_); refine goesL_ (some 25) rfl rfl Tryz.func17 (by kernel_rfl) rfl #[.int .i64 t591, .int .u64 a1] rfl mp_ ?_; (with_reducible refine (shape_Cut.calls t591 a1 t592 _ A7.out).mono ?_); rintro e w' ⟨rfl, ⟨nd, rfl⟩⟩; refine ⟨_, rfl, ?_⟩; (try (rw [drewN_self w41]; generalize hq_ : World.drewN w41 _ = w41; have n0_ : Aside0 (Below w.heap.size w w41) := ⟨by rw [← hq_]; exact (hb_ HB.out)⟩; clear HB hq_; have HB := n0_; clear n0_))) | ((with_reducible refine gate_callee (f := 24) rfl ?_); refine goesL_ (some 27) rfl rfl Tryz.func24 (by kernel_rfl) rfl #[.int .u8 t587] rfl mp_ ?_; (with_reducible refine (numeric_width.calls t587 t591 _ A6.out).mono ?_); rintro e w' ⟨rfl, ⟨nd, rfl⟩⟩; refine ⟨_, rfl, ?_⟩; (try (rw [drewN_self w41]; generalize hq_ : World.drewN w41 _ = w41; have n0_ : Aside0 (Below w.heap.size w w41) := ⟨by rw [← hq_]; exact (hb_ HB.out)⟩; clear HB hq_; have HB := n0_; clear n0_))) | ((with_reducible refine gate_callee (f := 17) rfl ?_); refine goesL_ (some 29) rfl rfl Tryz.func17 (by kernel_rfl) rfl #[.int .i64 t591, .int .u64 a2] rfl mp_ ?_; (with_reducible refine (shape_Cut.calls t591 a2 t594 _ A9.out).mono ?_); rintro e w' ⟨rfl, ⟨nd, rfl⟩⟩; refine ⟨_, rfl, ?_⟩; (try (rw [drewN_self w41]; generalize hq_ : World.drewN w41 _ = w41; have n0_ : Aside0 (Below w.heap.size w w41) := ⟨by rw [← hq_]; exact (hb_ HB.out)⟩; clear HB hq_; have HB := n0_; clear n0_))) | ((with_reducible refine gate_callee (f := 25) rfl ?_); refine goesL_ (some 31) rfl rfl Tryz.func25 (by kernel_rfl) rfl #[.int .i64 a0] rfl mp_ ?_; (with_reducible refine (numeric_find.calls k a0 t595 t596 t597 _ A10.out).mono ?_); rintro e w42 ⟨rfl, hb⟩; refine ⟨_, rfl, ?_⟩; replace HB := A_ (below_step (hb_ HB.out) hb); (try clear hb); (try clear hb2); (try clear hk); (try clear hi)) | ((with_reducible refine gate_dst (N := 12) rfl ?_); refine be_ 12 #[.int .i64 0, .int .i64 0, .int .i64 0] 56 ?_; intro gb598 hg w43 hbox hb; have BK598 := A_ (hbox); have GW598 := A_ (sz_ hg (hb_ HB.out)); have GE598 := A_ (sz_ hg (hb_ HB.out)); replace HB := A_ (below_step (hb_ HB.out) hb); clear hb hbox hg; have hcz44_0 := bv_ BK598.out 0; have hcz44_1 := bv_ BK598.out 1; have hcz44_2 := bv_ BK598.out 2; have hfz44_0 := blk_frozen BK598.out 0; have hfz44_1 := blk_frozen BK598.out 1; have hfz44_2 := blk_frozen BK598.out 2) | ((with_reducible refine gate_callee (f := 30) rfl ?_); refine goesL_ (some 75) rfl rfl Tryz.func30 (by kernel_rfl) rfl #[.int .i64 t596, .int .i64 t597, .int .u64 t592, .int .u64 t594] rfl mp_ ?_; (with_reducible refine (numeric_reckoned.calls t596 t597 t592 t594 t605 t606 _ A40.out).mono ?_); rintro e w45 ⟨rfl, hb⟩; refine ⟨_, rfl, ?_⟩; replace BK598 := A_ (blk_below (g := gb598) (o := .cells #[.int .i64 t595, .int .i64 t596, .int .i64 t597] 56 (0, 0)) (by (with_reducible repeat (first | refine blk_drewN ?_ _ | refine blk_drew ?_ | refine blk_alloc ?_ _)); refine blk_put (cs := #[.int .i64 t595, .int .i64 t596, .int .i64 0]) ?_ 2 _ rfl; (with_reducible repeat (first | refine blk_drewN ?_ _ | refine blk_drew ?_ | refine blk_alloc ?_ _)); refine blk_put (cs := #[.int .i64 t595, .int .i64 0, .int .i64 0]) ?_ 1 _ rfl; (with_reducible repeat (first | refine blk_drewN ?_ _ | refine blk_drew ?_ | refine blk_alloc ?_ _)); refine blk_put (cs := #[.int .i64 0, .int .i64 0, .int .i64 0]) ?_ 0 _ rfl; (with_reducible repeat (first | refine blk_drewN ?_ _ | refine blk_drew ?_ | refine blk_alloc ?_ _)); exact BK598.out) hb); replace HB := A_ (below_step (hb1_ HB.out GE598.out) hb); (try clear hb); (try clear hb2); (try clear hk); (try clear hi)))
       go_ret2
       exact ⟨er_, hb1_ HB.out GE598.out⟩
      ·rw [if_neg c39] at H
       have c39b0 : (t595 == 5) = false := beq_eq_false_iff_ne.mpr c39
       have c39b1 : (t595 != 5) = true := bne_iff_ne.mpr c39
       by_cases c46 : t595 = 6
       ·rw [if_pos c46] at H
        have c46b0 : (t595 == 6) = true := beq_iff_eq.mpr c46
        have c46b1 : (t595 != 6) = false := bne_eq_false_iff_eq.mpr c46
        clear c46
        replace H := ob_ H
        obtain ⟨t607, A470, H⟩ := H
        replace H : (some (t607, 0)) = some (r1, r2) := H
        have A47 := A_ A470;clear A470
        simp only [Option.some.injEq, Prod.mk.injEq] at H
        obtain ⟨rfl, rfl⟩ := H
        go_enter Tryz.func9, Tryz.ntmps9
        go_wp2_with (first | ((with_reducible refine gate_callee (f := 21) rfl ?_); refine goesL_ (some 15) rfl rfl Tryz.func21 (by kernel_rfl) rfl #[.int .i64 a0] rfl mp_ ?_; (with_reducible refine (numeric_Kind.calls k a0 t587 t588 t589 true _ A4.out).mono ?_); rintro e w48 ⟨rfl, hb⟩; refine ⟨_, rfl, ?_⟩; replace HB := A_ (below_step (hb_ HB.out) hb); (try clear hb); (try clear hb2); (try clear hk); (try clear hi)) | ((with_reducible refine gate_callee (f := 24) rfl ?_); refine goesL_ (some 23) rfl rfl Tryz.func24 (by kernel_rfl) rfl #[.int .u8 t587] rfl mp_ ?_; (with_reducible refine (numeric_width.calls t587 t591 _ A6.out).mono ?_); rintro e w' ⟨rfl, ⟨nd, rfl⟩⟩; refine ⟨_, rfl, ?_⟩; (try (rw [drewN_self w48]; generalize hq_ : World.drewN w48 _ = w48; have n0_ : Aside0 (Below w.heap.size w w48) := ⟨by rw [← hq_]; exact (hb_ HB.out)⟩; clear HB hq_; have HB := n0_; clear n0_))) | ((with_reducible refine gate_callee (f := 17) rfl ?_); refine goesL_ (some 25) rfl rfl Tryz.func17 (by kernel_rfl) rfl #[.int .i64 t591, .int .u64 a1] rfl mp_ ?_; (with_reducible refine (shape_Cut.calls t591 a1 t592 _ A7.out).mono ?_); rintro e w' ⟨rfl, ⟨nd, rfl⟩⟩; refine ⟨_, rfl, ?_⟩; (try (rw [drewN_self w48]; generalize hq_ : World.drewN w48 _ = w48; have n0_ : Aside0 (Below w.heap.size w w48) := ⟨by rw [← hq_]; exact (hb_ HB.out)⟩; clear HB hq_; have HB := n0_; clear n0_))) | ((with_reducible refine gate_callee (f := 24) rfl ?_); refine goesL_ (some 27) rfl rfl Tryz.func24 (by kernel_rfl) rfl #[.int .u8 t587] rfl mp_ ?_; (with_reducible refine (numeric_width.calls t587 t591 _ A6.out).mono ?_); rintro e w' ⟨rfl, ⟨nd, rfl⟩⟩; refine ⟨_, rfl, ?_⟩; (try (rw [drewN_self w48]; generalize hq_ : World.drewN w48 _ = w48; have n0_ : Aside0 (Below w.heap.size w w48) := ⟨by rw [← hq_]; exact (hb_ HB.out)⟩; clear HB hq_; have HB := n0_; clear n0_))) | ((with_reducible refine gate_callee (f := 17) rfl ?_); refine goesL_ (some 29) rfl rfl Tryz.func17 (by kernel_rfl) rfl #[.int .i64 t591, .int .u64 a2] rfl mp_ ?_; (with_reducible refine (shape_Cut.calls t591 a2 t594 _ A9.out).mono ?_); rintro e w' ⟨rfl, ⟨nd, rfl⟩⟩; refine ⟨_, rfl, ?_⟩; (try (rw [drewN_self w48]; generalize hq_ : World.drewN w48 _ = w48; have n0_ : Aside0 (Below w.heap.size w w48) := ⟨by rw [← hq_]; exact (hb_ HB.out)⟩; clear HB hq_; have HB := n0_; clear n0_))) | ((with_reducible refine gate_callee (f := 25) rfl ?_); refine goesL_ (some 31) rfl rfl Tryz.func25 (by kernel_rfl) rfl #[.int .i64 a0] rfl mp_ ?_; (with_reducible refine (numeric_find.calls k a0 t595 t596 t597 _ A10.out).mono ?_); rintro e w49 ⟨rfl, hb⟩; refine ⟨_, rfl, ?_⟩; replace HB := A_ (below_step (hb_ HB.out) hb); (try clear hb); (try clear hb2); (try clear hk); (try clear hi)) | ((with_reducible refine gate_dst (N := 12) rfl ?_); refine be_ 12 #[.int .i64 0, .int .i64 0, .int .i64 0] 56 ?_; intro gb598 hg w50 hbox hb; have BK598 := A_ (hbox); have GW598 := A_ (sz_ hg (hb_ HB.out)); have GE598 := A_ (sz_ hg (hb_ HB.out)); replace HB := A_ (below_step (hb_ HB.out) hb); clear hb hbox hg; have hcz51_0 := bv_ BK598.out 0; have hcz51_1 := bv_ BK598.out 1; have hcz51_2 := bv_ BK598.out 2; have hfz51_0 := blk_frozen BK598.out 0; have hfz51_1 := blk_frozen BK598.out 1; have hfz51_2 := blk_frozen BK598.out 2) | ((with_reducible refine gate_callee (f := 31) rfl ?_); refine goesL_ (some 85) rfl rfl Tryz.func31 (by kernel_rfl) rfl #[.int .i64 t596, .int .i64 t597, .int .u64 t592] rfl mp_ ?_; (with_reducible refine (numeric_rounded.calls k t596 t597 t592 t607 _ A47.out).mono ?_); rintro e w52 ⟨rfl, hb⟩; refine ⟨_, rfl, ?_⟩; replace BK598 := A_ (blk_below (g := gb598) (o := .cells #[.int .i64 t595, .int .i64 t596, .int .i64 t597] 56 (0, 0)) (by (with_reducible repeat (first | refine blk_drewN ?_ _ | refine blk_drew ?_ | refine blk_alloc ?_ _)); refine blk_put (cs := #[.int .i64 t595, .int .i64 t596, .int .i64 0]) ?_ 2 _ rfl; (with_reducible repeat (first | refine blk_drewN ?_ _ | refine blk_drew ?_ | refine blk_alloc ?_ _)); refine blk_put (cs := #[.int .i64 t595, .int .i64 0, .int .i64 0]) ?_ 1 _ rfl; (with_reducible repeat (first | refine blk_drewN ?_ _ | refine blk_drew ?_ | refine blk_alloc ?_ _)); refine blk_put (cs := #[.int .i64 0, .int .i64 0, .int .i64 0]) ?_ 0 _ rfl; (with_reducible repeat (first | refine blk_drewN ?_ _ | refine blk_drew ?_ | refine blk_alloc ?_ _)); exact BK598.out) hb); replace HB := A_ (below_step (hb1_ HB.out GE598.out) hb); (try clear hb); (try clear hb2); (try clear hk); (try clear hi)))
        go_ret2
        exact ⟨er_, hb1_ HB.out GE598.out⟩
       ·rw [if_neg c46] at H
        have c46b0 : (t595 == 6) = false := beq_eq_false_iff_ne.mpr c46
        have c46b1 : (t595 != 6) = true := bne_iff_ne.mpr c46
        by_cases c53 : t595 = 7
        ·rw [if_pos c53] at H
         have c53b0 : (t595 == 7) = true := beq_iff_eq.mpr c53
         have c53b1 : (t595 != 7) = false := bne_eq_false_iff_eq.mpr c53
         clear c53
         replace H := ob_ H
         obtain ⟨t608, A540, H⟩ := H
         replace H : (some (t608, 0)) = some (r1, r2) := H
         have A54 := A_ A540;clear A540
         simp only [Option.some.injEq, Prod.mk.injEq] at H
         obtain ⟨rfl, rfl⟩ := H
         go_enter Tryz.func9, Tryz.ntmps9
         go_wp2_with (first | ((with_reducible refine gate_callee (f := 21) rfl ?_); refine goesL_ (some 15) rfl rfl Tryz.func21 (by kernel_rfl) rfl #[.int .i64 a0] rfl mp_ ?_; (with_reducible refine (numeric_Kind.calls k a0 t587 t588 t589 true _ A4.out).mono ?_); rintro e w55 ⟨rfl, hb⟩; refine ⟨_, rfl, ?_⟩; replace HB := A_ (below_step (hb_ HB.out) hb); (try clear hb); (try clear hb2); (try clear hk); (try clear hi)) | ((with_reducible refine gate_callee (f := 24) rfl ?_); refine goesL_ (some 23) rfl rfl Tryz.func24 (by kernel_rfl) rfl #[.int .u8 t587] rfl mp_ ?_; (with_reducible refine (numeric_width.calls t587 t591 _ A6.out).mono ?_); rintro e w' ⟨rfl, ⟨nd, rfl⟩⟩; refine ⟨_, rfl, ?_⟩; (try (rw [drewN_self w55]; generalize hq_ : World.drewN w55 _ = w55; have n0_ : Aside0 (Below w.heap.size w w55) := ⟨by rw [← hq_]; exact (hb_ HB.out)⟩; clear HB hq_; have HB := n0_; clear n0_))) | ((with_reducible refine gate_callee (f := 17) rfl ?_); refine goesL_ (some 25) rfl rfl Tryz.func17 (by kernel_rfl) rfl #[.int .i64 t591, .int .u64 a1] rfl mp_ ?_; (with_reducible refine (shape_Cut.calls t591 a1 t592 _ A7.out).mono ?_); rintro e w' ⟨rfl, ⟨nd, rfl⟩⟩; refine ⟨_, rfl, ?_⟩; (try (rw [drewN_self w55]; generalize hq_ : World.drewN w55 _ = w55; have n0_ : Aside0 (Below w.heap.size w w55) := ⟨by rw [← hq_]; exact (hb_ HB.out)⟩; clear HB hq_; have HB := n0_; clear n0_))) | ((with_reducible refine gate_callee (f := 24) rfl ?_); refine goesL_ (some 27) rfl rfl Tryz.func24 (by kernel_rfl) rfl #[.int .u8 t587] rfl mp_ ?_; (with_reducible refine (numeric_width.calls t587 t591 _ A6.out).mono ?_); rintro e w' ⟨rfl, ⟨nd, rfl⟩⟩; refine ⟨_, rfl, ?_⟩; (try (rw [drewN_self w55]; generalize hq_ : World.drewN w55 _ = w55; have n0_ : Aside0 (Below w.heap.size w w55) := ⟨by rw [← hq_]; exact (hb_ HB.out)⟩; clear HB hq_; have HB := n0_; clear n0_))) | ((with_reducible refine gate_callee (f := 17) rfl ?_); refine goesL_ (some 29) rfl rfl Tryz.func17 (by kernel_rfl) rfl #[.int .i64 t591, .int .u64 a2] rfl mp_ ?_; (with_reducible refine (shape_Cut.calls t591 a2 t594 _ A9.out).mono ?_); rintro e w' ⟨rfl, ⟨nd, rfl⟩⟩; refine ⟨_, rfl, ?_⟩; (try (rw [drewN_self w55]; generalize hq_ : World.drewN w55 _ = w55; have n0_ : Aside0 (Below w.heap.size w w55) := ⟨by rw [← hq_]; exact (hb_ HB.out)⟩; clear HB hq_; have HB := n0_; clear n0_))) | ((with_reducible refine gate_callee (f := 25) rfl ?_); refine goesL_ (some 31) rfl rfl Tryz.func25 (by kernel_rfl) rfl #[.int .i64 a0] rfl mp_ ?_; (with_reducible refine (numeric_find.calls k a0 t595 t596 t597 _ A10.out).mono ?_); rintro e w56 ⟨rfl, hb⟩; refine ⟨_, rfl, ?_⟩; replace HB := A_ (below_step (hb_ HB.out) hb); (try clear hb); (try clear hb2); (try clear hk); (try clear hi)) | ((with_reducible refine gate_dst (N := 12) rfl ?_); refine be_ 12 #[.int .i64 0, .int .i64 0, .int .i64 0] 56 ?_; intro gb598 hg w57 hbox hb; have BK598 := A_ (hbox); have GW598 := A_ (sz_ hg (hb_ HB.out)); have GE598 := A_ (sz_ hg (hb_ HB.out)); replace HB := A_ (below_step (hb_ HB.out) hb); clear hb hbox hg; have hcz58_0 := bv_ BK598.out 0; have hcz58_1 := bv_ BK598.out 1; have hcz58_2 := bv_ BK598.out 2; have hfz58_0 := blk_frozen BK598.out 0; have hfz58_1 := blk_frozen BK598.out 1; have hfz58_2 := blk_frozen BK598.out 2) | ((with_reducible refine gate_callee (f := 32) rfl ?_); refine goesL_ (some 94) rfl rfl Tryz.func32 (by kernel_rfl) rfl #[.int .i64 t596, .int .i64 t597, .int .u64 t592, .int .u64 t594] rfl mp_ ?_; (with_reducible refine (numeric_floated.calls k t596 t597 t592 t594 t608 _ A54.out).mono ?_); rintro e w59 ⟨rfl, hb⟩; refine ⟨_, rfl, ?_⟩; replace BK598 := A_ (blk_below (g := gb598) (o := .cells #[.int .i64 t595, .int .i64 t596, .int .i64 t597] 56 (0, 0)) (by (with_reducible repeat (first | refine blk_drewN ?_ _ | refine blk_drew ?_ | refine blk_alloc ?_ _)); refine blk_put (cs := #[.int .i64 t595, .int .i64 t596, .int .i64 0]) ?_ 2 _ rfl; (with_reducible repeat (first | refine blk_drewN ?_ _ | refine blk_drew ?_ | refine blk_alloc ?_ _)); refine blk_put (cs := #[.int .i64 t595, .int .i64 0, .int .i64 0]) ?_ 1 _ rfl; (with_reducible repeat (first | refine blk_drewN ?_ _ | refine blk_drew ?_ | refine blk_alloc ?_ _)); refine blk_put (cs := #[.int .i64 0, .int .i64 0, .int .i64 0]) ?_ 0 _ rfl; (with_reducible repeat (first | refine blk_drewN ?_ _ | refine blk_drew ?_ | refine blk_alloc ?_ _)); exact BK598.out) hb); replace HB := A_ (below_step (hb1_ HB.out GE598.out) hb); (try clear hb); (try clear hb2); (try clear hk); (try clear hi)))
         go_ret2
         exact ⟨er_, hb1_ HB.out GE598.out⟩
        ·rw [if_neg c53] at H
         have c53b0 : (t595 == 7) = false := beq_eq_false_iff_ne.mpr c53
         have c53b1 : (t595 != 7) = true := bne_iff_ne.mpr c53
         by_cases c60 : t595 = 9
         ·rw [if_pos c60] at H
          have c60b0 : (t595 == 9) = true := beq_iff_eq.mpr c60
          have c60b1 : (t595 != 9) = false := bne_eq_false_iff_eq.mpr c60
          clear c60
          replace H := ob_ H
          obtain ⟨t609, A610, H⟩ := H
          replace H : (some (t609, 0)) = some (r1, r2) := H
          have A61 := A_ A610;clear A610
          simp only [Option.some.injEq, Prod.mk.injEq] at H
          obtain ⟨rfl, rfl⟩ := H
          go_enter Tryz.func9, Tryz.ntmps9
          go_wp2_with (first | ((with_reducible refine gate_callee (f := 21) rfl ?_); refine goesL_ (some 15) rfl rfl Tryz.func21 (by kernel_rfl) rfl #[.int .i64 a0] rfl mp_ ?_; (with_reducible refine (numeric_Kind.calls k a0 t587 t588 t589 true _ A4.out).mono ?_); rintro e w62 ⟨rfl, hb⟩; refine ⟨_, rfl, ?_⟩; replace HB := A_ (below_step (hb_ HB.out) hb); (try clear hb); (try clear hb2); (try clear hk); (try clear hi)) | ((with_reducible refine gate_callee (f := 24) rfl ?_); refine goesL_ (some 23) rfl rfl Tryz.func24 (by kernel_rfl) rfl #[.int .u8 t587] rfl mp_ ?_; (with_reducible refine (numeric_width.calls t587 t591 _ A6.out).mono ?_); rintro e w' ⟨rfl, ⟨nd, rfl⟩⟩; refine ⟨_, rfl, ?_⟩; (try (rw [drewN_self w62]; generalize hq_ : World.drewN w62 _ = w62; have n0_ : Aside0 (Below w.heap.size w w62) := ⟨by rw [← hq_]; exact (hb_ HB.out)⟩; clear HB hq_; have HB := n0_; clear n0_))) | ((with_reducible refine gate_callee (f := 17) rfl ?_); refine goesL_ (some 25) rfl rfl Tryz.func17 (by kernel_rfl) rfl #[.int .i64 t591, .int .u64 a1] rfl mp_ ?_; (with_reducible refine (shape_Cut.calls t591 a1 t592 _ A7.out).mono ?_); rintro e w' ⟨rfl, ⟨nd, rfl⟩⟩; refine ⟨_, rfl, ?_⟩; (try (rw [drewN_self w62]; generalize hq_ : World.drewN w62 _ = w62; have n0_ : Aside0 (Below w.heap.size w w62) := ⟨by rw [← hq_]; exact (hb_ HB.out)⟩; clear HB hq_; have HB := n0_; clear n0_))) | ((with_reducible refine gate_callee (f := 24) rfl ?_); refine goesL_ (some 27) rfl rfl Tryz.func24 (by kernel_rfl) rfl #[.int .u8 t587] rfl mp_ ?_; (with_reducible refine (numeric_width.calls t587 t591 _ A6.out).mono ?_); rintro e w' ⟨rfl, ⟨nd, rfl⟩⟩; refine ⟨_, rfl, ?_⟩; (try (rw [drewN_self w62]; generalize hq_ : World.drewN w62 _ = w62; have n0_ : Aside0 (Below w.heap.size w w62) := ⟨by rw [← hq_]; exact (hb_ HB.out)⟩; clear HB hq_; have HB := n0_; clear n0_))) | ((with_reducible refine gate_callee (f := 17) rfl ?_); refine goesL_ (some 29) rfl rfl Tryz.func17 (by kernel_rfl) rfl #[.int .i64 t591, .int .u64 a2] rfl mp_ ?_; (with_reducible refine (shape_Cut.calls t591 a2 t594 _ A9.out).mono ?_); rintro e w' ⟨rfl, ⟨nd, rfl⟩⟩; refine ⟨_, rfl, ?_⟩; (try (rw [drewN_self w62]; generalize hq_ : World.drewN w62 _ = w62; have n0_ : Aside0 (Below w.heap.size w w62) := ⟨by rw [← hq_]; exact (hb_ HB.out)⟩; clear HB hq_; have HB := n0_; clear n0_))) | ((with_reducible refine gate_callee (f := 25) rfl ?_); refine goesL_ (some 31) rfl rfl Tryz.func25 (by kernel_rfl) rfl #[.int .i64 a0] rfl mp_ ?_; (with_reducible refine (numeric_find.calls k a0 t595 t596 t597 _ A10.out).mono ?_); rintro e w63 ⟨rfl, hb⟩; refine ⟨_, rfl, ?_⟩; replace HB := A_ (below_step (hb_ HB.out) hb); (try clear hb); (try clear hb2); (try clear hk); (try clear hi)) | ((with_reducible refine gate_dst (N := 12) rfl ?_); refine be_ 12 #[.int .i64 0, .int .i64 0, .int .i64 0] 56 ?_; intro gb598 hg w64 hbox hb; have BK598 := A_ (hbox); have GW598 := A_ (sz_ hg (hb_ HB.out)); have GE598 := A_ (sz_ hg (hb_ HB.out)); replace HB := A_ (below_step (hb_ HB.out) hb); clear hb hbox hg; have hcz65_0 := bv_ BK598.out 0; have hcz65_1 := bv_ BK598.out 1; have hcz65_2 := bv_ BK598.out 2; have hfz65_0 := blk_frozen BK598.out 0; have hfz65_1 := blk_frozen BK598.out 1; have hfz65_2 := blk_frozen BK598.out 2) | ((with_reducible refine gate_callee (f := 33) rfl ?_); refine goesL_ (some 100) rfl rfl Tryz.func33 (by kernel_rfl) rfl #[.int .i64 t596, .int .u64 t592] rfl mp_ ?_; (with_reducible refine (numeric_stopped.calls k t596 t592 t609 _ A61.out).mono ?_); rintro e w66 ⟨rfl, hb⟩; refine ⟨_, rfl, ?_⟩; replace BK598 := A_ (blk_below (g := gb598) (o := .cells #[.int .i64 t595, .int .i64 t596, .int .i64 t597] 56 (0, 0)) (by (with_reducible repeat (first | refine blk_drewN ?_ _ | refine blk_drew ?_ | refine blk_alloc ?_ _)); refine blk_put (cs := #[.int .i64 t595, .int .i64 t596, .int .i64 0]) ?_ 2 _ rfl; (with_reducible repeat (first | refine blk_drewN ?_ _ | refine blk_drew ?_ | refine blk_alloc ?_ _)); refine blk_put (cs := #[.int .i64 t595, .int .i64 0, .int .i64 0]) ?_ 1 _ rfl; (with_reducible repeat (first | refine blk_drewN ?_ _ | refine blk_drew ?_ | refine blk_alloc ?_ _)); refine blk_put (cs := #[.int .i64 0, .int .i64 0, .int .i64 0]) ?_ 0 _ rfl; (with_reducible repeat (first | refine blk_drewN ?_ _ | refine blk_drew ?_ | refine blk_alloc ?_ _)); exact BK598.out) hb); replace HB := A_ (below_step (hb1_ HB.out GE598.out) hb); (try clear hb); (try clear hb2); (try clear hk); (try clear hi)))
          go_ret2
          exact ⟨er_, hb1_ HB.out GE598.out⟩
         ·rw [if_neg c60] at H
          have c60b0 : (t595 == 9) = false := beq_eq_false_iff_ne.mpr c60
          have c60b1 : (t595 != 9) = true := bne_iff_ne.mpr c60
          replace H := ob_ H
          obtain ⟨⟨t610, t611⟩, A670, H⟩ := H
          replace H : (some (t610, t611)) = some (r1, r2) := H
          have A67 := A_ A670;clear A670
          simp only [Option.some.injEq, Prod.mk.injEq] at H
          obtain ⟨rfl, rfl⟩ := H
          go_enter Tryz.func9, Tryz.ntmps9
          go_wp2_with (first | ((with_reducible refine gate_callee (f := 21) rfl ?_); refine goesL_ (some 15) rfl rfl Tryz.func21 (by kernel_rfl) rfl #[.int .i64 a0] rfl mp_ ?_; (with_reducible refine (numeric_Kind.calls k a0 t587 t588 t589 true _ A4.out).mono ?_); rintro e w68 ⟨rfl, hb⟩; refine ⟨_, rfl, ?_⟩; replace HB := A_ (below_step (hb_ HB.out) hb); (try clear hb); (try clear hb2); (try clear hk); (try clear hi)) | ((with_reducible refine gate_callee (f := 24) rfl ?_); refine goesL_ (some 23) rfl rfl Tryz.func24 (by kernel_rfl) rfl #[.int .u8 t587] rfl mp_ ?_; (with_reducible refine (numeric_width.calls t587 t591 _ A6.out).mono ?_); rintro e w' ⟨rfl, ⟨nd, rfl⟩⟩; refine ⟨_, rfl, ?_⟩; (try (rw [drewN_self w68]; generalize hq_ : World.drewN w68 _ = w68; have n0_ : Aside0 (Below w.heap.size w w68) := ⟨by rw [← hq_]; exact (hb_ HB.out)⟩; clear HB hq_; have HB := n0_; clear n0_))) | ((with_reducible refine gate_callee (f := 17) rfl ?_); refine goesL_ (some 25) rfl rfl Tryz.func17 (by kernel_rfl) rfl #[.int .i64 t591, .int .u64 a1] rfl mp_ ?_; (with_reducible refine (shape_Cut.calls t591 a1 t592 _ A7.out).mono ?_); rintro e w' ⟨rfl, ⟨nd, rfl⟩⟩; refine ⟨_, rfl, ?_⟩; (try (rw [drewN_self w68]; generalize hq_ : World.drewN w68 _ = w68; have n0_ : Aside0 (Below w.heap.size w w68) := ⟨by rw [← hq_]; exact (hb_ HB.out)⟩; clear HB hq_; have HB := n0_; clear n0_))) | ((with_reducible refine gate_callee (f := 24) rfl ?_); refine goesL_ (some 27) rfl rfl Tryz.func24 (by kernel_rfl) rfl #[.int .u8 t587] rfl mp_ ?_; (with_reducible refine (numeric_width.calls t587 t591 _ A6.out).mono ?_); rintro e w' ⟨rfl, ⟨nd, rfl⟩⟩; refine ⟨_, rfl, ?_⟩; (try (rw [drewN_self w68]; generalize hq_ : World.drewN w68 _ = w68; have n0_ : Aside0 (Below w.heap.size w w68) := ⟨by rw [← hq_]; exact (hb_ HB.out)⟩; clear HB hq_; have HB := n0_; clear n0_))) | ((with_reducible refine gate_callee (f := 17) rfl ?_); refine goesL_ (some 29) rfl rfl Tryz.func17 (by kernel_rfl) rfl #[.int .i64 t591, .int .u64 a2] rfl mp_ ?_; (with_reducible refine (shape_Cut.calls t591 a2 t594 _ A9.out).mono ?_); rintro e w' ⟨rfl, ⟨nd, rfl⟩⟩; refine ⟨_, rfl, ?_⟩; (try (rw [drewN_self w68]; generalize hq_ : World.drewN w68 _ = w68; have n0_ : Aside0 (Below w.heap.size w w68) := ⟨by rw [← hq_]; exact (hb_ HB.out)⟩; clear HB hq_; have HB := n0_; clear n0_))) | ((with_reducible refine gate_callee (f := 25) rfl ?_); refine goesL_ (some 31) rfl rfl Tryz.func25 (by kernel_rfl) rfl #[.int .i64 a0] rfl mp_ ?_; (with_reducible refine (numeric_find.calls k a0 t595 t596 t597 _ A10.out).mono ?_); rintro e w69 ⟨rfl, hb⟩; refine ⟨_, rfl, ?_⟩; replace HB := A_ (below_step (hb_ HB.out) hb); (try clear hb); (try clear hb2); (try clear hk); (try clear hi)) | ((with_reducible refine gate_dst (N := 12) rfl ?_); refine be_ 12 #[.int .i64 0, .int .i64 0, .int .i64 0] 56 ?_; intro gb598 hg w70 hbox hb; have BK598 := A_ (hbox); have GW598 := A_ (sz_ hg (hb_ HB.out)); have GE598 := A_ (sz_ hg (hb_ HB.out)); replace HB := A_ (below_step (hb_ HB.out) hb); clear hb hbox hg; have hcz71_0 := bv_ BK598.out 0; have hcz71_1 := bv_ BK598.out 1; have hcz71_2 := bv_ BK598.out 2; have hfz71_0 := blk_frozen BK598.out 0; have hfz71_1 := blk_frozen BK598.out 1; have hfz71_2 := blk_frozen BK598.out 2) | ((with_reducible refine gate_callee (f := 34) rfl ?_); refine goesL_ (some 104) rfl rfl Tryz.func34 (by kernel_rfl) rfl #[.int .i64 t596, .int .u64 t592] rfl mp_ ?_; (with_reducible refine (numeric_turn.calls k t596 t592 t610 t611 _ A67.out).mono ?_); rintro e w72 ⟨rfl, hb⟩; refine ⟨_, rfl, ?_⟩; replace BK598 := A_ (blk_below (g := gb598) (o := .cells #[.int .i64 t595, .int .i64 t596, .int .i64 t597] 56 (0, 0)) (by (with_reducible repeat (first | refine blk_drewN ?_ _ | refine blk_drew ?_ | refine blk_alloc ?_ _)); refine blk_put (cs := #[.int .i64 t595, .int .i64 t596, .int .i64 0]) ?_ 2 _ rfl; (with_reducible repeat (first | refine blk_drewN ?_ _ | refine blk_drew ?_ | refine blk_alloc ?_ _)); refine blk_put (cs := #[.int .i64 t595, .int .i64 0, .int .i64 0]) ?_ 1 _ rfl; (with_reducible repeat (first | refine blk_drewN ?_ _ | refine blk_drew ?_ | refine blk_alloc ?_ _)); refine blk_put (cs := #[.int .i64 0, .int .i64 0, .int .i64 0]) ?_ 0 _ rfl; (with_reducible repeat (first | refine blk_drewN ?_ _ | refine blk_drew ?_ | refine blk_alloc ?_ _)); exact BK598.out) hb); replace HB := A_ (below_step (hb1_ HB.out GE598.out) hb); (try clear hb); (try clear hb2); (try clear hk); (try clear hi)))
          go_ret2
          exact ⟨er_, hb1_ HB.out GE598.out⟩
 ·replace c5 := Bool.eq_false_iff.mpr c5
  subst c5
  have H1 : (some (0, 0)) = some (r1, r2) := by rw [if_neg (show ¬ (false = true) by decide)] at H; exact H
  clear H;have H := H1;clear H1
  simp only [Option.some.injEq, Prod.mk.injEq] at H
  obtain ⟨rfl, rfl⟩ := H
  go_enter Tryz.func9, Tryz.ntmps9
  go_wp2_with (first | ((with_reducible refine gate_callee (f := 21) rfl ?_); refine goesL_ (some 15) rfl rfl Tryz.func21 (by kernel_rfl) rfl #[.int .i64 a0] rfl mp_ ?_; (with_reducible refine (numeric_Kind.calls k a0 t587 t588 t589 false _ A4.out).mono ?_); rintro e w73 ⟨rfl, hb⟩; refine ⟨_, rfl, ?_⟩; replace HB := A_ (below_step (hb_ HB.out) hb); (try clear hb); (try clear hb2); (try clear hk); (try clear hi)))
  go_ret2
  exact ⟨er_, hb_ HB.out⟩
def trunniontop_real_cmp.f (k : Nat) (l0_0 : List Int) (l0_1 : List Int) (a0_2 : Int) (a1 : Int) (a2 : Int) : Option (Int) := (r1_Shl.f k l0_0 (wrap64 (a0_2 - (mn a0_2 a2)))).bind fun t679 => ((r1_Of.f k a1).bind fun t682 => ((r1_Shl.f k t682 (wrap64 (a2 - (mn a0_2 a2)))).bind fun t685 => ((r1_Mul.f k t685 l0_1).bind fun t688 => ((r1_Cmp.f k t679 t688).bind fun t691 => (some t691)))))
theorem trunniontop_real_cmp.mono : ∀ a0 a1 a2 a3 a4 k, LeO (trunniontop_real_cmp.f k a0 a1 a2 a3 a4) (trunniontop_real_cmp.f (k + 1) a0 a1 a2 a3 a4) := by
 intro a0 a1 a2 a3 a4 k
 unfold trunniontop_real_cmp.f
 repeat' first
   | (with_reducible exact r1_Cmp.mono _ _ _)
   | (with_reducible exact r1_Mul.mono _ _ _)
   | (with_reducible exact r1_Of.mono _ _)
   | (with_reducible exact r1_Shl.mono _ _ _)
   | (with_reducible exact LeO.refl _)
   | (with_reducible exact LeO.none _)
   | (with_reducible refine LeO.ite ?_ ?_)
   | (with_reducible refine LeO.bind ?_ (fun _ => ?_))
   | exact r1_Cmp.mono _ _ _
   | exact r1_Mul.mono _ _ _
   | exact r1_Of.mono _ _
   | exact r1_Shl.mono _ _ _
   | exact LeO.none _
   | refine LeO.ite ?_ ?_
   | refine LeO.bind ?_ (fun _ => ?_)
def trunniontop_real_cmp.T2 : Bool × List (List Nat × List Nat) := (true, [([], []), ([0], [0]), ([], []), ([2], [2]), ([], []), ([3, 4], [3, 4]), ([1, 5], [1, 5]), ([], []), ([7, 6], [7]), ([], []), ([], []), ([9, 10], [9, 10]), ([8, 11, 8], [8, 11]), ([], []), ([13], [13]), ([12, 14, 12], [12, 14]), ([6, 15, 15], [6, 15]), ([16, 16, 0, 1, 2, 3, 4, 5, 6, 7, 8, 9, 10, 11, 12, 13, 14, 15, 16], [16])])
def trunniontop_real_cmp.B2 : List Nat := [0, 1, 0, 4, 0, 28, 63, 0, 255, 0, 0, 1536, 4095, 0, 8192, 32767, 65535, 131071]
theorem trunniontop_real_cmp.tab2 : rtab .any (opsOf Tryz.f14 2) = trunniontop_real_cmp.T2 := by kernel_rfl
theorem trunniontop_real_cmp.bits2 : waitsOk trunniontop_real_cmp.T2.2 trunniontop_real_cmp.B2 = true := by kernel_rfl
theorem trunniontop_real_cmp.calls (k : Nat) (A0_0 : Option Addr) (c0_0 : Nat) (l0_0 : List Int) (A0_1 : Option Addr) (c0_1 : Nat) (l0_1 : List Int) (a0_2 : Int) (a1 : Int) (a2 : Int) (r : Int) (w : World) (hr0_0 : Kd.C (Kd.int .u64) w A0_0 l0_0.length l0_0) (hc0_0 : l0_0.length ≤ c0_0) (hr0_1 : Kd.C (Kd.int .u64) w A0_1 l0_1.length l0_1) (hc0_1 : l0_1.length ≤ c0_1) (h : trunniontop_real_cmp.f k l0_0 l0_1 a0_2 a1 a2 = some r) :
  Calls Tryz.prog 14 #[.agg #[.slice A0_0 l0_0.length c0_0, .slice A0_1 l0_1.length c0_1, .int .i64 a0_2], .int .u64 a1, .int .i64 a2] w fun e w' => e = .returned (.int .i64 r) ∧ Below w.heap.size w w' := by
 have hu35 := Tryz.underlying35
 have hu31 := Tryz.underlying31
 have HR0_0 := A_ hr0_0;have HC0_0 := A_ hc0_0;clear hr0_0 hc0_0;have HR0_1 := A_ hr0_1;have HC0_1 := A_ hc0_1;clear hr0_1 hc0_1
 have HB := A_ (Below.refl w.heap.size w)
 have H : ((r1_Shl.f k l0_0 (wrap64 (a0_2 - (mn a0_2 a2)))).bind fun t679 => ((r1_Of.f k a1).bind fun t682 => ((r1_Shl.f k t682 (wrap64 (a2 - (mn a0_2 a2)))).bind fun t685 => ((r1_Mul.f k t685 l0_1).bind fun t688 => ((r1_Cmp.f k t679 t688).bind fun t691 => (some t691)))))) = some r := h
 clear h
 obtain ⟨ji4, hji4⟩ : ∃ j_ : Int, (mn a0_2 a2) = j_ := ⟨_, rfl⟩
 replace H : ((r1_Shl.f k l0_0 (wrap64 (a0_2 - (ji4)))).bind fun t679 => ((r1_Of.f k a1).bind fun t682 => ((r1_Shl.f k t682 (wrap64 (a2 - (ji4)))).bind fun t685 => ((r1_Mul.f k t685 l0_1).bind fun t688 => ((r1_Cmp.f k t679 t688).bind fun t691 => (some t691)))))) = some r := by first | (rw [hji4] at H; exact H) | (simp only [hji4] at H ⊢; exact H)
 have hji4_ : (if a2 < a0_2 then a2 else a0_2) = ji4 := hji4
 replace H := ob_ H
 obtain ⟨t679, A50, H⟩ := H
 replace H : ((r1_Of.f k a1).bind fun t682 => ((r1_Shl.f k t682 (wrap64 (a2 - (ji4)))).bind fun t685 => ((r1_Mul.f k t685 l0_1).bind fun t688 => ((r1_Cmp.f k t679 t688).bind fun t691 => (some t691))))) = some r := H
 have A5 := A_ A50;clear A50
 replace H := ob_ H
 obtain ⟨t682, A60, H⟩ := H
 replace H : ((r1_Shl.f k t682 (wrap64 (a2 - (ji4)))).bind fun t685 => ((r1_Mul.f k t685 l0_1).bind fun t688 => ((r1_Cmp.f k t679 t688).bind fun t691 => (some t691)))) = some r := H
 have A6 := A_ A60;clear A60
 replace H := ob_ H
 obtain ⟨t685, A70, H⟩ := H
 replace H : ((r1_Mul.f k t685 l0_1).bind fun t688 => ((r1_Cmp.f k t679 t688).bind fun t691 => (some t691))) = some r := H
 have A7 := A_ A70;clear A70
 replace H := ob_ H
 obtain ⟨t688, A80, H⟩ := H
 replace H : ((r1_Cmp.f k t679 t688).bind fun t691 => (some t691)) = some r := H
 have A8 := A_ A80;clear A80
 replace H := ob_ H
 obtain ⟨t691, A90, H⟩ := H
 replace H : (some t691) = some r := H
 have A9 := A_ A90;clear A90
 obtain rfl := Option.some.inj H
 go_enter Tryz.func14, Tryz.ntmps14
 try go_wp2_with (first | ((with_reducible refine gate_dst (N := 3) rfl ?_); refine be_ 3 #[.slice A0_0 l0_0.length c0_0, .slice A0_1 l0_1.length c0_1, .int .i64 a0_2] 35 ?_; intro gb678 hg w10 hbox hb; have BK678 := A_ (hbox); have GW678 := A_ (sz_ hg (hb_ HB.out)); have GE678 := A_ (sz_ hg (hb_ HB.out)); replace HB := A_ (below_step (hb_ HB.out) hb); clear hb hbox hg; have hcz11_0 := bv_ BK678.out 0; have hcz11_1 := bv_ BK678.out 1; have hcz11_2 := bv_ BK678.out 2; have hfz11_0 := blk_frozen BK678.out 0; have hfz11_1 := blk_frozen BK678.out 1; have hfz11_2 := blk_frozen BK678.out 2))
 replace BK678 := A_ (blk_drew BK678.out)
 replace HB := A_ (below_drew1 HB.out)
 refine start_ (n := 18) (S := fun w' => w'.cell? ⟨gb678, 0, none⟩ = some (.slice A0_0 l0_0.length c0_0) ∧ w'.cell? ⟨gb678, 1, none⟩ = some (.slice A0_1 l0_1.length c0_1) ∧ w'.cell? ⟨gb678, 2, none⟩ = some (.int .i64 a0_2)) (ds := []) #[false, false, false, false, false, false, false, false, false, false, false, false, false, false, false, false, false, false] (by kernel_rfl) rfl rfl ⟨bc_ BK678.out 0, bc_ BK678.out 1, bc_ BK678.out 2⟩ (fun hHeld => ?_); refine with_tabW trunniontop_real_cmp.tab2 trunniontop_real_cmp.bits2 (fun HT_ HW_ => ?_)
 generalize w10.drew = w12 at BK678 HB hHeld ⊢
 refine pu_ 0 (some 12) #[true, false, false, false, false, false, false, false, false, false, false, false, false, false, false, false, false, false] rfl rfl (any_of HT_.out (by kernel_rfl)) ?_
 refine pu_ 2 (some 14) #[true, false, true, false, false, false, false, false, false, false, false, false, false, false, false, false, false, false] rfl rfl (any_of HT_.out (by kernel_rfl)) ?_
 refine pu_ 4 (some 16) #[true, false, true, false, true, false, false, false, false, false, false, false, false, false, false, false, false, false] rfl rfl (any_of HT_.out (by kernel_rfl)) ?_
 refine pu_ 7 (some 19) #[true, false, true, false, true, false, false, true, false, false, false, false, false, false, false, false, false, false] rfl rfl (any_of HT_.out (by kernel_rfl)) ?_
 refine pu_ 9 (some 21) #[true, false, true, false, true, false, false, true, false, true, false, false, false, false, false, false, false, false] rfl rfl (any_of HT_.out (by kernel_rfl)) ?_
 refine pu_ 10 (some 22) #[true, false, true, false, true, false, false, true, false, true, true, false, false, false, false, false, false, false] rfl rfl (any_of HT_.out (by kernel_rfl)) ?_
 refine pu_ 11 (some 23) #[true, false, true, false, true, false, false, true, false, true, true, true, false, false, false, false, false, false] rfl rfl (any_of HT_.out (by kernel_rfl)) ?_
 refine pu_ 13 (some 25) #[true, false, true, false, true, false, false, true, false, true, true, true, false, true, false, false, false, false] rfl rfl (any_of HT_.out (by kernel_rfl)) ?_
 refine tk3_ 1 (some 13) #[true, true, true, false, true, false, false, true, false, true, true, true, false, true, false, false, false, false] rfl rfl (take_ofW HT_.out HW_.out (by kernel_rfl)) hHeld ?_
 refine tk3_ 3 (some 15) #[true, true, true, true, true, false, false, true, false, true, true, true, false, true, false, false, false, false] rfl rfl (take_ofW HT_.out HW_.out (by kernel_rfl)) hHeld ?_
 refine pu_ 5 (some 17) #[true, true, true, true, true, true, false, true, false, true, true, true, false, true, false, false, false, false] rfl rfl (any_of HT_.out (by kernel_rfl)) ?_
 refine tk3_ 14 (some 26) #[true, true, true, true, true, true, false, true, false, true, true, true, false, true, true, false, false, false] rfl rfl (take_ofW HT_.out HW_.out (by kernel_rfl)) hHeld ?_
 refine one_ (i := 6) (N := some 18) #[true, true, true, true, true, true, true, true, false, true, true, true, false, true, true, false, false, false] rfl rfl (one_of HT_.out (by kernel_rfl)) (by decide) (fun K hK => ?_)
 refine goes_ Tryz.func42 (by kernel_rfl) rfl #[.agg #[.slice A0_0 l0_0.length c0_0], .int .i64 (wrap64 (a0_2 - (ji4)))] (by rfl) rfl rfl (by (try simp only [List.map_toArray, List.map_cons, List.map_nil]); first | done | (simp only [hji4]; rfl) | rfl | (simp only [List.length_drop, List.length_take]; rfl)) ?_
 with_reducible refine (r1_Shl.calls k _ _ l0_0 (wrap64 (a0_2 - (ji4))) t679 _ ?side1 ?side2 A5.out).mono ?_
 (case side1 => exact cs_ ((Kd.C_below HR0_0.out HB.out)))
 (case side2 => exact HC0_0.out)
 rintro e w13 ⟨v680, rfl, ho0, hb⟩
 refine ⟨_, rfl, ?_⟩
 have HO681 := A_ (Kd.R_lower ho0 (below_size (hb1_ HB.out GE678.out)))
 replace BK678 := A_ (bb_ BK678.out hb)
 replace HB := A_ (below_step (hb1_ HB.out GE678.out) hb);(try clear hb);(try clear hb2);(try clear hk);(try clear hi);(try clear ho0)
 refine hK.out _ _ ⟨bc_ BK678.out 0, bc_ BK678.out 1, bc_ BK678.out 2⟩ (fun hHeld => ?_)
 clear hK K
 refine norm_ (a' := ?_) ?_ ?_
 rotate_left
 ·show Act.put _ (some 18) _ = _
  simp only [Act.put, lI_, l0_, lS_, i64_w, i32_w]
  rfl
 refine one_ (i := 8) (N := some 20) #[true, true, true, true, true, true, true, true, true, true, true, true, false, true, true, false, false, false] rfl rfl (one_of HT_.out (by kernel_rfl)) (by decide) (fun K hK => ?_)
 refine goes_ Tryz.func13 (by kernel_rfl) rfl #[.int .u64 a1] (by rfl) rfl rfl mp_ ?_
 with_reducible refine (r1_Of.calls k a1 t682 _ A6.out).mono ?_
 rintro e w14 ⟨v683, rfl, ho0, hb⟩
 refine ⟨_, rfl, ?_⟩
 have HO684 := A_ (Kd.R_lower (Kd.R_new' ho0 (Kd.R_lt (kr_ HO681.out))) (below_size (hb1_ HB.out GE678.out)))
 replace HO681 := A_ (Kd.R_elder' (kr_ HO681.out) (Kd.R_base ho0) hb)
 replace BK678 := A_ (bb_ BK678.out hb)
 replace HB := A_ (below_step (hb1_ HB.out GE678.out) hb);(try clear hb);(try clear hb2);(try clear hk);(try clear hi);(try clear ho0)
 obtain ⟨Ao15, co15, eo15⟩ := Kd.R_slice HO684.out
 (first | subst eo15 | (injection eo15 with f1_ f2_ f3_; have f4_ := f1_.symm; have f5_ := f3_.symm; clear f1_ f2_ f3_; subst f4_; subst f5_))
 refine hK.out _ _ ⟨bc_ BK678.out 0, bc_ BK678.out 1, bc_ BK678.out 2⟩ (fun hHeld => ?_)
 clear hK K
 refine norm_ (a' := ?_) ?_ ?_
 rotate_left
 ·show Act.put _ (some 20) _ = _
  simp only [Act.put, lI_, l0_, lS_, i64_w, i32_w]
  rfl
 refine one_ (i := 12) (N := some 24) #[true, true, true, true, true, true, true, true, true, true, true, true, true, true, true, false, false, false] rfl rfl (one_of HT_.out (by kernel_rfl)) (by decide) (fun K hK => ?_)
 refine goes_ Tryz.func42 (by kernel_rfl) rfl #[.agg #[.slice Ao15 t682.length co15], .int .i64 (wrap64 (a2 - (ji4)))] (by rfl) rfl rfl (by (try simp only [List.map_toArray, List.map_cons, List.map_nil]); first | done | (simp only [hji4]; rfl) | rfl | (simp only [List.length_drop, List.length_take]; rfl)) ?_
 with_reducible refine (r1_Shl.calls k _ _ t682 (wrap64 (a2 - (ji4))) t685 _ ?side1 ?side2 A7.out).mono ?_
 (case side1 => exact cs_ ((Kd.R_reads' HO684.out).2.2))
 (case side2 => exact (Kd.R_reads' HO684.out).2.1)
 rintro e w16 ⟨v686, rfl, ho0, hb⟩
 refine ⟨_, rfl, ?_⟩
 have HO687 := A_ (Kd.R_lower (Kd.R_new' (Kd.R_new' ho0 (Kd.R_lt (kr_ HO681.out))) (Kd.R_lt (kr_ HO684.out))) (below_size (hb1_ HB.out GE678.out)))
 replace HO681 := A_ (Kd.R_elder' (kr_ HO681.out) (Kd.R_base ho0) hb)
 replace HO684 := A_ (Kd.R_elder' (kr_ HO684.out) (Kd.R_base ho0) hb)
 replace BK678 := A_ (bb_ BK678.out hb)
 replace HB := A_ (below_step (hb1_ HB.out GE678.out) hb);(try clear hb);(try clear hb2);(try clear hk);(try clear hi);(try clear ho0)
 obtain ⟨Ao17, co17, eo17⟩ := Kd.R_slice HO687.out
 (first | subst eo17 | (injection eo17 with f1_ f2_ f3_; have f4_ := f1_.symm; have f5_ := f3_.symm; clear f1_ f2_ f3_; subst f4_; subst f5_))
 refine hK.out _ _ ⟨bc_ BK678.out 0, bc_ BK678.out 1, bc_ BK678.out 2⟩ (fun hHeld => ?_)
 clear hK K
 refine norm_ (a' := ?_) ?_ ?_
 rotate_left
 ·show Act.put _ (some 24) _ = _
  simp only [Act.put, lI_, l0_, lS_, i64_w, i32_w]
  rfl
 refine one_ (i := 15) (N := some 27) #[true, true, true, true, true, true, true, true, true, true, true, true, true, true, true, true, false, false] rfl rfl (one_of HT_.out (by kernel_rfl)) (by decide) (fun K hK => ?_)
 refine goes_ Tryz.func12 (by kernel_rfl) rfl #[.agg #[.slice Ao17 t685.length co17], .agg #[.slice A0_1 l0_1.length c0_1]] (by rfl) rfl rfl mp_ ?_
 with_reducible refine (r1_Mul.calls k _ _ t685 _ _ l0_1 t688 _ ?side1 ?side2 ?side3 ?side4 A8.out).mono ?_
 (case side1 => exact cs_ ((Kd.R_reads' HO687.out).2.2))
 (case side2 => exact (Kd.R_reads' HO687.out).2.1)
 (case side3 => exact cs_ ((Kd.C_below HR0_1.out HB.out)))
 (case side4 => exact HC0_1.out)
 rintro e w18 ⟨v689, rfl, ho0, hb⟩
 refine ⟨_, rfl, ?_⟩
 have HO690 := A_ (Kd.R_lower (Kd.R_new' (Kd.R_new' (Kd.R_new' ho0 (Kd.R_lt (kr_ HO681.out))) (Kd.R_lt (kr_ HO684.out))) (Kd.R_lt (kr_ HO687.out))) (below_size (hb1_ HB.out GE678.out)))
 replace HO681 := A_ (Kd.R_elder' (kr_ HO681.out) (Kd.R_base ho0) hb)
 replace HO684 := A_ (Kd.R_elder' (kr_ HO684.out) (Kd.R_base ho0) hb)
 replace HO687 := A_ (Kd.R_elder' (kr_ HO687.out) (Kd.R_base ho0) hb)
 replace BK678 := A_ (bb_ BK678.out hb)
 replace HB := A_ (below_step (hb1_ HB.out GE678.out) hb);(try clear hb);(try clear hb2);(try clear hk);(try clear hi);(try clear ho0)
 obtain ⟨Ao19, co19, eo19⟩ := Kd.R_slice HO681.out
 (first | subst eo19 | (injection eo19 with f1_ f2_ f3_; have f4_ := f1_.symm; have f5_ := f3_.symm; clear f1_ f2_ f3_; subst f4_; subst f5_))
 obtain ⟨Ao20, co20, eo20⟩ := Kd.R_slice HO690.out
 (first | subst eo20 | (injection eo20 with f1_ f2_ f3_; have f4_ := f1_.symm; have f5_ := f3_.symm; clear f1_ f2_ f3_; subst f4_; subst f5_))
 refine hK.out _ _ ⟨bc_ BK678.out 0, bc_ BK678.out 1, bc_ BK678.out 2⟩ (fun hHeld => ?_)
 clear hK K
 refine norm_ (a' := ?_) ?_ ?_
 rotate_left
 ·show Act.put _ (some 27) _ = _
  simp only [Act.put, lI_, l0_, lS_, i64_w, i32_w]
  rfl
 refine one_ (i := 16) (N := some 28) #[true, true, true, true, true, true, true, true, true, true, true, true, true, true, true, true, true, false] rfl rfl (one_of HT_.out (by kernel_rfl)) (by decide) (fun K hK => ?_)
 refine goes_ Tryz.func41 (by kernel_rfl) rfl #[.agg #[.slice Ao19 t679.length co19], .agg #[.slice Ao20 t688.length co20]] (by rfl) rfl rfl mp_ ?_
 with_reducible refine (r1_Cmp.calls k _ _ t679 _ _ t688 t691 _ ?side1 ?side2 ?side3 ?side4 A9.out).mono ?_
 (case side1 => exact cs_ ((Kd.R_reads' HO681.out).2.2))
 (case side2 => exact (Kd.R_reads' HO681.out).2.1)
 (case side3 => exact cs_ ((Kd.R_reads' HO690.out).2.2))
 (case side4 => exact (Kd.R_reads' HO690.out).2.1)
 rintro e w21 ⟨rfl, hb⟩
 refine ⟨_, rfl, ?_⟩
 replace HO681 := A_ (Kd.R_below (kr_ HO681.out) hb)
 replace HO684 := A_ (Kd.R_below (kr_ HO684.out) hb)
 replace HO687 := A_ (Kd.R_below (kr_ HO687.out) hb)
 replace HO690 := A_ (Kd.R_below (kr_ HO690.out) hb)
 replace BK678 := A_ (bb_ BK678.out hb)
 replace HB := A_ (below_step (hb1_ HB.out GE678.out) hb);(try clear hb);(try clear hb2);(try clear hk);(try clear hi)
 refine hK.out _ _ ⟨bc_ BK678.out 0, bc_ BK678.out 1, bc_ BK678.out 2⟩ (fun hHeld => ?_)
 clear hK K
 refine norm_ (a' := ?_) ?_ ?_
 rotate_left
 ·show Act.put _ (some 28) _ = _
  simp only [Act.put, lI_, l0_, lS_, i64_w, i32_w]
  rfl
 refine pu_ 17 (some 6) #[true, true, true, true, true, true, true, true, true, true, true, true, true, true, true, true, true, true] rfl rfl (any_of HT_.out (by kernel_rfl)) ?_
 refine done_ (done_of HT_.out (by kernel_rfl)) ?_
 try go_wp2
 go_ret
 exact ⟨by first | rfl | (simp [errW_none, errW_some] <;> rfl) | (simp only [← hji4]; first | rfl | (simp [errW_none, errW_some] <;> rfl)) | (simp [*, errW_none, errW_some] <;> rfl), hb1_ HB.out GE678.out⟩
end Go.Proofs.YtnmlmgmljoncoaaGreatDoor.PA
