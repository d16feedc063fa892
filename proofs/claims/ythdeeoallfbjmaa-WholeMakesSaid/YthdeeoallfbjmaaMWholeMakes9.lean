/- What the Go functions that the statement WholeMakes reaches compute, and the mathematics on it, in the order in which one leans on the other; for every input. -/
import Derived.Test.YthdeeoallfbjmaaVWholeMakes1
import Derived.Test.YthdeeoallfbjmaaMWholeMakes0
import Derived.Test.YthdeeoallfbjmaaMWholeMakes6
import Derived.Test.YthdeeoallfbjmaaMWholeMakes3
import Derived.Deep.RegionHeld3
import Derived.Test.YthdeeoallfbjmaaMWholeMakes1
import Derived.Test.YthdeeoallfbjmaaMWholeMakes7
import Derived.Test.YthdeeoallfbjmaaMWholeMakes4
import Derived.Test.YthdeeoallfbjmaaMWholeMakes5
namespace Go.Proofs.Ythdeeoallfbjmaa.PA
open Go.RowKit Go.Proofs.YthdeeoallfbjmaaW.PrintWords Go.Proofs.YthdeeoallfbjmaaW.PrintLast Go.Proofs.YthdeeoallfbjmaaW.PrintMore
attribute [local go_sem] max2_int min2_int max_two min_two max_three min_three max_four min_four   -- for this text's walks alone
set_option linter.unusedVariables false
set_option linter.unusedSimpArgs false
set_option maxHeartbeats 8000000
set_option maxRecDepth 100000
def r2_Make.f (k : Nat) (a0 : Int) (a1 : Bool) (a2 : Int) (a3 : Int) : Option (Int) := (r2_F.f a0).bind fun t353 => ((r2_Two.f k t353).bind fun t354 => (if a1 = true then ((r2_Two.f k (wrap64 (a0 - 1))).bind fun t355 => (some (IntKind.u64.wrap ((IntKind.u64.wrap ((IntKind.u64.wrap ((IntKind.u64.wrap (a2)) * t354)) + a3)) + t355)))) else (some (IntKind.u64.wrap ((IntKind.u64.wrap ((IntKind.u64.wrap (a2)) * t354)) + a3)))))
theorem r2_Make.mono : ∀ a0 a1 a2 a3 k, LeO (r2_Make.f k a0 a1 a2 a3) (r2_Make.f (k + 1) a0 a1 a2 a3) := by
 intro a0 a1 a2 a3 k
 unfold r2_Make.f
 repeat' first
   | (with_reducible exact r2_Two.mono _ _)
   | (with_reducible exact LeO.refl _)
   | (with_reducible exact LeO.none _)
   | (with_reducible refine LeO.ite ?_ ?_)
   | (with_reducible refine LeO.bind ?_ (fun _ => ?_))
   | exact r2_Two.mono _ _
   | exact LeO.none _
   | refine LeO.ite ?_ ?_
   | refine LeO.bind ?_ (fun _ => ?_)
theorem r2_Make.calls (k : Nat) (a0 : Int) (a1 : Bool) (a2 : Int) (a3 : Int) (r : Int) (w : World) (h : r2_Make.f k a0 a1 a2 a3 = some r) :
  Calls Try.prog 22 #[.int .i64 a0, .bool a1, .int .i64 a2, .int .u64 a3] w fun e w' => e = .returned (.int .u64 r) ∧ Drawn0 w w' := by
 have H : ((r2_F.f a0).bind fun t353 => ((r2_Two.f k t353).bind fun t354 => (if a1 = true then ((r2_Two.f k (wrap64 (a0 - 1))).bind fun t355 => (some (IntKind.u64.wrap ((IntKind.u64.wrap ((IntKind.u64.wrap ((IntKind.u64.wrap (a2)) * t354)) + a3)) + t355)))) else (some (IntKind.u64.wrap ((IntKind.u64.wrap ((IntKind.u64.wrap (a2)) * t354)) + a3)))))) = some r := h
 clear h
 replace H := ob_ H
 obtain ⟨t353, A50, H⟩ := H
 replace H : ((r2_Two.f k t353).bind fun t354 => (if a1 = true then ((r2_Two.f k (wrap64 (a0 - 1))).bind fun t355 => (some (IntKind.u64.wrap ((IntKind.u64.wrap ((IntKind.u64.wrap ((IntKind.u64.wrap (a2)) * t354)) + a3)) + t355)))) else (some (IntKind.u64.wrap ((IntKind.u64.wrap ((IntKind.u64.wrap (a2)) * t354)) + a3))))) = some r := H
 have A5 := A_ A50;clear A50
 replace H := ob_ H
 obtain ⟨t354, A60, H⟩ := H
 replace H : (if a1 = true then ((r2_Two.f k (wrap64 (a0 - 1))).bind fun t355 => (some (IntKind.u64.wrap ((IntKind.u64.wrap ((IntKind.u64.wrap ((IntKind.u64.wrap (a2)) * t354)) + a3)) + t355)))) else (some (IntKind.u64.wrap ((IntKind.u64.wrap ((IntKind.u64.wrap (a2)) * t354)) + a3)))) = some r := H
 have A6 := A_ A60;clear A60
 by_cases c7 : a1 = true
 ·subst c7
  have H1 : ((r2_Two.f k (wrap64 (a0 - 1))).bind fun t355 => (some (IntKind.u64.wrap ((IntKind.u64.wrap ((IntKind.u64.wrap ((IntKind.u64.wrap (a2)) * t354)) + a3)) + t355)))) = some r := by rw [if_pos rfl] at H; exact H
  clear H;have H := H1;clear H1
  replace H := ob_ H
  obtain ⟨t355, A80, H⟩ := H
  replace H : (some (IntKind.u64.wrap ((IntKind.u64.wrap ((IntKind.u64.wrap ((IntKind.u64.wrap (a2)) * t354)) + a3)) + t355))) = some r := H
  have A8 := A_ A80;clear A80
  obtain rfl := Option.some.inj H
  go_enter Try.func22, Try.ntmps22
  go_wp2_with (first | ((with_reducible refine gate_callee (f := 42) rfl ?_); refine gl_ (some 13) Try.func42 #[.int .i64 a0] ?_; (with_reducible refine (r2_F.calls a0 t353 _ A5.out).mono ?_); rintro e w' ⟨rfl, ⟨nd, rfl⟩⟩; refine ⟨_, rfl, ?_⟩) | ((with_reducible refine gate_callee (f := 43) rfl ?_); refine gl_ (some 14) Try.func43 #[.int .i64 t353] ?_; (with_reducible refine (r2_Two.calls k t353 t354 _ A6.out).mono ?_); rintro e w' ⟨rfl, ⟨nd, rfl⟩⟩; refine ⟨_, rfl, ?_⟩) | ((with_reducible refine gate_callee (f := 43) rfl ?_); refine gl_ (some 22) Try.func43 #[.int .i64 (wrap64 (a0 - 1))] ?_; (with_reducible refine (r2_Two.calls k (wrap64 (a0 - 1)) t355 _ A8.out).mono ?_); rintro e w' ⟨rfl, ⟨nd, rfl⟩⟩; refine ⟨_, rfl, ?_⟩))
  go_ret
  exact ⟨sm_, by repeat (first | exact Drawn0.refl _ | apply Drawn0.step)⟩
 ·replace c7 := Bool.eq_false_iff.mpr c7
  subst c7
  have H1 : (some (IntKind.u64.wrap ((IntKind.u64.wrap ((IntKind.u64.wrap (a2)) * t354)) + a3))) = some r := by rw [if_neg (show ¬ (false = true) by decide)] at H; exact H
  clear H;have H := H1;clear H1
  obtain rfl := Option.some.inj H
  go_enter Try.func22, Try.ntmps22
  go_wp2_with (first | ((with_reducible refine gate_callee (f := 42) rfl ?_); refine gl_ (some 13) Try.func42 #[.int .i64 a0] ?_; (with_reducible refine (r2_F.calls a0 t353 _ A5.out).mono ?_); rintro e w' ⟨rfl, ⟨nd, rfl⟩⟩; refine ⟨_, rfl, ?_⟩) | ((with_reducible refine gate_callee (f := 43) rfl ?_); refine gl_ (some 14) Try.func43 #[.int .i64 t353] ?_; (with_reducible refine (r2_Two.calls k t353 t354 _ A6.out).mono ?_); rintro e w' ⟨rfl, ⟨nd, rfl⟩⟩; refine ⟨_, rfl, ?_⟩))
  go_ret
  exact ⟨sm_, by repeat (first | exact Drawn0.refl _ | apply Drawn0.step)⟩
def r2_Nan.f (k : Nat) (a0 : Int) : Option (Int) := (r2_Top.f k a0).bind fun t356 => ((r2_F.f a0).bind fun t357 => ((r2_Two.f k (wrap64 (t357 - 1))).bind fun t358 => ((r2_Make.f k a0 false t356 t358).bind fun t359 => (some t359))))
theorem r2_Nan.mono : ∀ a0 k, LeO (r2_Nan.f k a0) (r2_Nan.f (k + 1) a0) := by
 intro a0 k
 unfold r2_Nan.f
 repeat' first
   | (with_reducible exact r2_Make.mono _ _ _ _ _)
   | (with_reducible exact r2_Top.mono _ _)
   | (with_reducible exact r2_Two.mono _ _)
   | (with_reducible exact LeO.refl _)
   | (with_reducible exact LeO.none _)
   | (with_reducible refine LeO.ite ?_ ?_)
   | (with_reducible refine LeO.bind ?_ (fun _ => ?_))
   | exact r2_Make.mono _ _ _ _ _
   | exact r2_Top.mono _ _
   | exact r2_Two.mono _ _
   | exact LeO.none _
   | refine LeO.ite ?_ ?_
   | refine LeO.bind ?_ (fun _ => ?_)
theorem r2_Nan.calls (k : Nat) (a0 : Int) (r : Int) (w : World) (h : r2_Nan.f k a0 = some r) :
  Calls Try.prog 30 #[.int .i64 a0] w fun e w' => e = .returned (.int .u64 r) ∧ Drawn0 w w' := by
 have H : ((r2_Top.f k a0).bind fun t356 => ((r2_F.f a0).bind fun t357 => ((r2_Two.f k (wrap64 (t357 - 1))).bind fun t358 => ((r2_Make.f k a0 false t356 t358).bind fun t359 => (some t359))))) = some r := h
 clear h
 replace H := ob_ H
 obtain ⟨t356, A20, H⟩ := H
 replace H : ((r2_F.f a0).bind fun t357 => ((r2_Two.f k (wrap64 (t357 - 1))).bind fun t358 => ((r2_Make.f k a0 false t356 t358).bind fun t359 => (some t359)))) = some r := H
 have A2 := A_ A20;clear A20
 replace H := ob_ H
 obtain ⟨t357, A30, H⟩ := H
 replace H : ((r2_Two.f k (wrap64 (t357 - 1))).bind fun t358 => ((r2_Make.f k a0 false t356 t358).bind fun t359 => (some t359))) = some r := H
 have A3 := A_ A30;clear A30
 replace H := ob_ H
 obtain ⟨t358, A40, H⟩ := H
 replace H : ((r2_Make.f k a0 false t356 t358).bind fun t359 => (some t359)) = some r := H
 have A4 := A_ A40;clear A40
 replace H := ob_ H
 obtain ⟨t359, A50, H⟩ := H
 replace H : (some t359) = some r := H
 have A5 := A_ A50;clear A50
 obtain rfl := Option.some.inj H
 go_enter Try.func30, Try.ntmps30
 go_wp2_with (first | ((with_reducible refine gate_callee (f := 41) rfl ?_); refine gl_ (some 5) Try.func41 #[.int .i64 a0] ?_; (with_reducible refine (r2_Top.calls k a0 t356 _ A2.out).mono ?_); rintro e w' ⟨rfl, ⟨nd, rfl⟩⟩; refine ⟨_, rfl, ?_⟩) | ((with_reducible refine gate_callee (f := 42) rfl ?_); refine gl_ (some 7) Try.func42 #[.int .i64 a0] ?_; (with_reducible refine (r2_F.calls a0 t357 _ A3.out).mono ?_); rintro e w' ⟨rfl, ⟨nd, rfl⟩⟩; refine ⟨_, rfl, ?_⟩) | ((with_reducible refine gate_callee (f := 43) rfl ?_); refine gl_ (some 9) Try.func43 #[.int .i64 (wrap64 (t357 - 1))] ?_; (with_reducible refine (r2_Two.calls k (wrap64 (t357 - 1)) t358 _ A4.out).mono ?_); rintro e w' ⟨rfl, ⟨nd, rfl⟩⟩; refine ⟨_, rfl, ?_⟩) | ((with_reducible refine gate_callee (f := 22) rfl ?_); refine gl_ (some 10) Try.func22 #[.int .i64 a0, .bool false, .int .i64 t356, .int .u64 t358] ?_; (with_reducible refine (r2_Make.calls k a0 false t356 t358 t359 _ A5.out).mono ?_); rintro e w' ⟨rfl, ⟨nd, rfl⟩⟩; refine ⟨_, rfl, ?_⟩))
 go_ret
 exact ⟨sm_, by repeat (first | exact Drawn0.refl _ | apply Drawn0.step)⟩
def r2_Inf.f (k : Nat) (a0 : Int) (a1 : Bool) : Option (Int) := (r2_Top.f k a0).bind fun t363 => ((r2_Make.f k a0 a1 t363 0).bind fun t364 => (some t364))
theorem r2_Inf.mono : ∀ a0 a1 k, LeO (r2_Inf.f k a0 a1) (r2_Inf.f (k + 1) a0 a1) := by
 intro a0 a1 k
 unfold r2_Inf.f
 repeat' first
   | (with_reducible exact r2_Make.mono _ _ _ _ _)
   | (with_reducible exact r2_Top.mono _ _)
   | (with_reducible exact LeO.refl _)
   | (with_reducible exact LeO.none _)
   | (with_reducible refine LeO.ite ?_ ?_)
   | (with_reducible refine LeO.bind ?_ (fun _ => ?_))
   | exact r2_Make.mono _ _ _ _ _
   | exact r2_Top.mono _ _
   | exact LeO.none _
   | refine LeO.ite ?_ ?_
   | refine LeO.bind ?_ (fun _ => ?_)
theorem r2_Inf.calls (k : Nat) (a0 : Int) (a1 : Bool) (r : Int) (w : World) (h : r2_Inf.f k a0 a1 = some r) :
  Calls Try.prog 61 #[.int .i64 a0, .bool a1] w fun e w' => e = .returned (.int .u64 r) ∧ Drawn0 w w' := by
 have H : ((r2_Top.f k a0).bind fun t363 => ((r2_Make.f k a0 a1 t363 0).bind fun t364 => (some t364))) = some r := h
 clear h
 replace H := ob_ H
 obtain ⟨t363, A30, H⟩ := H
 replace H : ((r2_Make.f k a0 a1 t363 0).bind fun t364 => (some t364)) = some r := H
 have A3 := A_ A30;clear A30
 replace H := ob_ H
 obtain ⟨t364, A40, H⟩ := H
 replace H : (some t364) = some r := H
 have A4 := A_ A40;clear A40
 obtain rfl := Option.some.inj H
 go_enter Try.func61, Try.ntmps61
 go_wp2_with (first | ((with_reducible refine gate_callee (f := 41) rfl ?_); refine gl_ (some 8) Try.func41 #[.int .i64 a0] ?_; (with_reducible refine (r2_Top.calls k a0 t363 _ A3.out).mono ?_); rintro e w' ⟨rfl, ⟨nd, rfl⟩⟩; refine ⟨_, rfl, ?_⟩) | ((with_reducible refine gate_callee (f := 22) rfl ?_); refine gl_ (some 9) Try.func22 #[.int .i64 a0, .bool a1, .int .i64 t363, .int .u64 0] ?_; (with_reducible refine (r2_Make.calls k a0 a1 t363 0 t364 _ A4.out).mono ?_); rintro e w' ⟨rfl, ⟨nd, rfl⟩⟩; refine ⟨_, rfl, ?_⟩))
 go_ret
 exact ⟨sm_, by repeat (first | exact Drawn0.refl _ | apply Drawn0.step)⟩
def r1_Half.f (k : Nat) (l0_0 : List Int) (a1 : Int) : Option (List Int × Bool) := (r1_Of.f k 1).bind fun t416 => ((r1_Shl.f k t416 a1).bind fun t419 => ((r1_Div.f k l0_0 t419).bind fun bt422 => (some (bt422.1, decide ((bt422.2.length : Int) > 0)))))
theorem r1_Half.mono : ∀ a0 a1 k, LeO (r1_Half.f k a0 a1) (r1_Half.f (k + 1) a0 a1) := by
 intro a0 a1 k
 unfold r1_Half.f
 repeat' first
   | (with_reducible exact r1_Div.mono _ _ _)
   | (with_reducible exact r1_Of.mono _ _)
   | (with_reducible exact r1_Shl.mono _ _ _)
   | (with_reducible exact LeO.refl _)
   | (with_reducible exact LeO.none _)
   | (with_reducible refine LeO.ite ?_ ?_)
   | (with_reducible refine LeO.bind ?_ (fun _ => ?_))
   | exact r1_Div.mono _ _ _
   | exact r1_Of.mono _ _
   | exact r1_Shl.mono _ _ _
   | exact LeO.none _
   | refine LeO.ite ?_ ?_
   | refine LeO.bind ?_ (fun _ => ?_)
-- IMPORT Derived.Deep.RegionHeld3
-- IMPORT Derived.Test.YthdeeoallfbjmaaNr
theorem Nr.div (k : Nat) (v v1 : Value) (l l1 : List Int) (q r : List Int) (w : World) (n : Nr.Nr w v l) (n1 : Nr.Nr w v1 l1) (h : r1_Div.f k l l1 = some (q, r)) : Calls Try.prog 45 #[.agg #[v], .agg #[v1]] w fun e w' => ∃ A c A1 c1, e = .returned (.tuple #[.agg #[.slice A q.length c], .agg #[.slice A1 r.length c1]]) ∧ Nr.Ow 22 w.heap.size w' (.slice A q.length c) q ∧ Nr.Nr w' (.slice A1 r.length c1) r ∧ Below w.heap.size w w' := by
 have hv := Nr.Nr.toV (e := 22) (base := w.heap.size) (ok := fun _ => True) n (fun _ _ _ _ _ => trivial)
 obtain ⟨A, c, rfl, hc, hC⟩ := n
 obtain ⟨A1, c1, rfl, hc1, hC1⟩ := n1
 refine (r1_Div.calls k (fun _ => True) A c l A1 c1 l1 q r w hv hC1 hc1 h).mono ?_
 rintro e w' ⟨v0, v1, rfl, hR, hV, hb⟩
 obtain ⟨B, d, rfl, _⟩ := Nr.Nr.of_R hR
 obtain ⟨B1, d1, e1, hd1, hC2⟩ := Nr.Nr.of_V hV
 subst e1
 exact ⟨B, d, B1, d1, rfl, Nr.Ow.of_R hR (Nat.le_refl _), ⟨B1, d1, rfl, hd1, hC2⟩, hb⟩
theorem Nr.asz (w : World) (o : Obj) : (w.alloc o).heap.size = w.heap.size + 1 := by simp
theorem Nr.new1 {w w1 : World} {v : Value} {ty : Nat} (h : Below (w.alloc (.cells #[v] ty)).heap.size (w.alloc (.cells #[v] ty)) w1) : w1.cell? ⟨w.heap.size, 0, none⟩ = some v ∧ w1.frozen? ⟨w.heap.size, 0, none⟩ = false ∧ w.heap.size < w1.heap.size := by
 refine ⟨Nr.newcell h, ?_, Nr.newlt h⟩
 rw [(Nr.bcell h).2 _ _ (by simp)]
 simp [go_sem]
theorem Nr.new2 {w w1 : World} {v v' : Value} {ty ty' : Nat} (h : Below ((w.alloc (.cells #[v] ty)).alloc (.cells #[v'] ty')).heap.size ((w.alloc (.cells #[v] ty)).alloc (.cells #[v'] ty')) w1) :
  (w1.cell? ⟨w.heap.size, 0, none⟩ = some v ∧ w1.frozen? ⟨w.heap.size, 0, none⟩ = false ∧ w.heap.size < w1.heap.size) ∧ w1.cell? ⟨w.heap.size + 1, 0, none⟩ = some v' ∧ w1.frozen? ⟨w.heap.size + 1, 0, none⟩ = false ∧ w.heap.size + 1 < w1.heap.size := by
 have h2 := Nr.new1 h
 rw [Nr.asz] at h2
 refine ⟨Nr.new1 (Nr.unalloc h), h2⟩
theorem Nr.exSH {W w' : World} {b : Nat} {v : Value} (q : W.cell? ⟨b, 0, none⟩ = some v) (z : b < W.heap.size) (hB : Below W.heap.size W w') :
  w'.cell? ⟨b, 0, none⟩ = some v ∧ W.heap.size ≤ w'.heap.size ∧ Below W.heap.size W w' :=
 ⟨((Nr.bcell hB).1 _ _ z).trans q, hB.size, hB⟩
theorem Nr.carry {X w1 w2 : World} {g : Nat} {v : Value} (hb : Below X.heap.size X w2) (hX : Below w1.heap.size w1 X) (h : w1.cell? ⟨g, 0, none⟩ = some v ∧ w1.frozen? ⟨g, 0, none⟩ = false ∧ g < w1.heap.size) :
  w2.cell? ⟨g, 0, none⟩ = some v ∧ w2.frozen? ⟨g, 0, none⟩ = false ∧ g < w2.heap.size := by
 have h2 := below_step hX hb
 exact ⟨((Nr.bcell h2).1 _ _ h.2.2).trans h.1, ((Nr.bcell h2).2 _ _ h.2.2).trans h.2.1, Nat.lt_of_lt_of_le h.2.2 h2.size⟩
theorem r1_Half.calls (k : Nat) (A0_0 : Option Addr) (c0_0 : Nat) (l0_0 : List Int) (a1 : Int) (r1 : List Int) (r2 : Bool) (w : World) (hr0_0 : Kd.C (Kd.int .u64) w A0_0 l0_0.length l0_0) (hc0_0 : l0_0.length ≤ c0_0) (h : r1_Half.f k l0_0 a1 = some (r1, r2)) :
  Calls Try.prog 84 #[.agg #[.slice A0_0 l0_0.length c0_0], .int .i64 a1] w fun e w' => ∃ v0_ : Value, e = .returned (.tuple #[.agg #[v0_], .bool r2]) ∧ Kd.R (Kd.int .u64) 22 w' w.heap.size (fun _ => True) v0_ r1 ∧ Below w.heap.size w w' := by
 obtain ⟨t0, B0, H⟩ := ob_ h
 obtain ⟨t1, B1, H⟩ := ob_ H
 obtain ⟨⟨q, rest⟩, B2, H⟩ := ob_ H
 have T0 := A_ B0;have T1 := A_ B1;have T2 := A_ B2
 simp only [Option.some.injEq, Prod.mk.injEq] at H
 obtain ⟨rfl, hr⟩ := H
 have na := Nr.Nr.of_C hc0_0 hr0_0
 have hr' := A_ hr
 clear h B0 B1 B2 hr0_0 hr hc0_0
 go_enter Try.func84, Try.ntmps84
 go_upto_region 1 with fail
 have x0 : ((w.alloc (.cells #[.slice A0_0 l0_0.length c0_0] 33 (0, 0))).alloc (.cells #[.slice none 0 0] 33 (0, 0))).cell? ⟨w.heap.size, 0, none⟩ = some (.slice A0_0 l0_0.length c0_0) := by simp [go_sem, World.cell?_alloc_past]
 have x1 : ((w.alloc (.cells #[.slice A0_0 l0_0.length c0_0] 33 (0, 0))).alloc (.cells #[.slice none 0 0] 33 (0, 0))).cell? ⟨w.heap.size + 1, 0, none⟩ = some (.slice none 0 0) := by simp [go_sem, World.cell?_alloc_past]
 have x2 : ((w.alloc (.cells #[.slice A0_0 l0_0.length c0_0] 33 (0, 0))).alloc (.cells #[.slice none 0 0] 33 (0, 0))).frozen? ⟨w.heap.size + 1, 0, none⟩ = false := by simp [go_sem, World.cell?_alloc_past]
 have x3 : w.heap.size + 1 < ((w.alloc (.cells #[.slice A0_0 l0_0.length c0_0] 33 (0, 0))).alloc (.cells #[.slice none 0 0] 33 (0, 0))).heap.size := by simp [go_sem]
 replace na := Nr.Nr.alloc (Nr.Nr.alloc na (.cells #[.slice A0_0 l0_0.length c0_0] 33 (0, 0))) (.cells #[.slice none 0 0] 33 (0, 0))
 have bl : Below w.heap.size w ((w.alloc (.cells #[.slice A0_0 l0_0.length c0_0] 33 (0, 0))).alloc (.cells #[.slice none 0 0] 33 (0, 0))) := below_alloc (below_alloc (Below.refl _ _) _) _
 generalize hW : (w.alloc (.cells #[.slice A0_0 l0_0.length c0_0] 33 (0, 0))).alloc (.cells #[.slice none 0 0] 33 (0, 0)) = W at x0 x1 x2 x3 na bl ⊢
 clear hW
 have x4 : w.heap.size < W.heap.size := by omega
 go_cut [6, 7] (fun s6 s7 wx => ∃ (g h : Nat) (Aq Ar : Option Addr) (cq cr : Nat), s6 = .pointer (some ⟨g, 0, none⟩) ∧ s7 = .pointer (some ⟨h, 0, none⟩) ∧ W.heap.size ≤ g ∧ W.heap.size ≤ h ∧ wx.cell? ⟨g, 0, none⟩ = some (.slice Aq q.length cq) ∧ wx.cell? ⟨h, 0, none⟩ = some (.slice Ar rest.length cr) ∧ Nr.Ow 22 W.heap.size wx (.slice Aq q.length cq) q ∧ Below W.heap.size W wx)
 case first =>
  go_region_held3 (fun w' => w'.cell? ⟨w.heap.size, 0, none⟩ = some (.slice A0_0 l0_0.length c0_0) ∧ W.heap.size ≤ w'.heap.size ∧ Below W.heap.size W w')
   (((try go_split_ands); (try dsimp only); refine Nr.exSH x0 x4 ?_; (repeat (first | assumption | exact BW3.out | exact BW2.out | exact BW1.out | exact Below.refl _ _ | apply below_drew1 | apply below_alloc | (refine below_set ?_ (by first | omega | (simp [go_sem]; omega))))); done))
   (first
    | (go_at_call 34; refine (Nr.of k 1 t0 _ T0.out).mono ?_; rintro e w1 ⟨At, ct, rfl, ot, hb⟩; (try go_split_ands); have BW1 := A_ (show Below W.heap.size W w1 from below_step (by first | assumption | exact Below.refl _ _) hb); have z1 := BW1.out.size; (try replace hb := Nr.undrew hb); (first | (have N2 := Nr.new2 hb; have ta := A_ N2.1; have tb := A_ N2.2; clear N2) | have ta := A_ (Nr.new1 hb) | skip); (try have y1 := ta.out.2.2); have n0 := A_ ot.nr)
    | (go_at_call 44; refine (Nr.shl k _ t0 a1 t1 _ (by repeat (first | exact n0.out | apply Nr.Nr.alloc | apply Nr.Nr.drew)) T1.out).mono ?_; rintro e w2 ⟨As, cs, rfl, os, hb⟩; (try go_split_ands); have BW2 := A_ (show Below W.heap.size W w2 from below_step (by first | assumption | exact BW1.out) hb); have z2 := BW2.out.size; (try replace ta := A_ (Nr.carry (w1 := w1) hb (by repeat (first | exact Below.refl _ _ | apply below_drew1 | apply below_alloc)) ta.out)); (try replace tb := A_ (Nr.carry (w1 := w1) hb (by repeat (first | exact Below.refl _ _ | apply below_drew1 | apply below_alloc)) tb.out)); (first | (have N2 := Nr.new2 hb; have ua := A_ N2.1; have ub := A_ N2.2; clear N2) | have ua := A_ (Nr.new1 hb) | skip); (try have y2 := ta.out.2.2); (try have y3 := ua.out.2.2); (try have y4 := ub.out.2.2); (try have y5 := tb.out.2.2); have n1 := A_ os.nr)
    | (go_at_call 45; (try go_split_ands); refine (Nr.div k _ _ l0_0 t1 q rest _ (Nr.Nr.below na (by first | assumption | exact BW2.out)) (by repeat (first | exact n1.out | apply Nr.Nr.alloc | apply Nr.Nr.drew)) T2.out).mono ?_; rintro e w3 ⟨Aq, cq, Ar, cr, rfl, oq, nr, hb⟩; have BW3 := A_ (show Below W.heap.size W w3 from below_step (by first | assumption | exact BW2.out) hb); have z3 := BW3.out.size; (try replace ta := A_ (Nr.carry (w1 := w2) hb (by repeat (first | exact Below.refl _ _ | apply below_drew1 | apply below_alloc)) ta.out)); (try replace tb := A_ (Nr.carry (w1 := w2) hb (by repeat (first | exact Below.refl _ _ | apply below_drew1 | apply below_alloc)) tb.out)); (try replace ua := A_ (Nr.carry (w1 := w2) hb (by repeat (first | exact Below.refl _ _ | apply below_drew1 | apply below_alloc)) ua.out)); (try replace ub := A_ (Nr.carry (w1 := w2) hb (by repeat (first | exact Below.refl _ _ | apply below_drew1 | apply below_alloc)) ub.out)); (first | (have N2 := Nr.new2 hb; have va := A_ N2.1; have vb := A_ N2.2; clear N2) | have va := A_ (Nr.new1 hb) | skip); (try have i1 := ta.out.1); (try have i2 := ta.out.2.1); (try have i3 := ta.out.2.2); (try have j1 := tb.out.1); (try have j2 := tb.out.2.1); (try have j3 := tb.out.2.2); (try have k1 := ua.out.1); (try have k2 := ua.out.2.1); (try have k3 := ua.out.2.2); (try have l1 := ub.out.1); (try have l2 := ub.out.2.1); (try have l3 := ub.out.2.2); (try have m1 := va.out.1); (try have m2 := va.out.2.1); (try have m3 := va.out.2.2); (try have p1 := vb.out.1); (try have p2 := vb.out.2.1); (try have p3 := vb.out.2.2); (try have d1 : ¬ (W.heap.size = w1.heap.size) := by omega); (try have d2 : ¬ (w1.heap.size = W.heap.size) := by omega); (try have d3 : ¬ (W.heap.size = w2.heap.size) := by omega); (try have d4 : ¬ (w2.heap.size = W.heap.size) := by omega); (try have d5 : ¬ (w1.heap.size = w2.heap.size) := by omega); (try have d6 : ¬ (w2.heap.size = w1.heap.size) := by omega); have n2 := A_ oq; have n3 := A_ nr))
  all_goals (go_wp2_with fail; go_meet)
  all_goals (
   refine ⟨_, _, Aq, Ar, cq, cr, rfl, rfl, ?_, ?_, ?_, ?_, ?_, ?_⟩
   all_goals first
    | omega
    | (simp; done)
    | (simp; omega)
    | (go_simp; done)
    | (simp [go_sem, World.cell?_alloc_past, *]; done)
    | (repeat (first | exact (Nr.lower n2.out (by first | omega | (simp only [Nr.asz]; omega))) | apply Nr.Ow.alloc | (refine Nr.Ow.set ?_ _ (fun e => by have h6 := Kd.R_base n2.out.out _ e; (try dsimp only at h6); (try simp only [Nr.asz] at h6); omega))))
    | (repeat (first | exact BW3.out | apply below_drew1 | apply below_alloc | (refine below_set ?_ (by omega)))))
 case rest =>
  obtain ⟨g, h, Aq, Ar, cq, cr, rfl, rfl, hg, hh, cg, ch, ow, BW⟩ := hcut
  rename World => V
  have y1 := ((Nr.bcell BW).1 _ _ x3).trans x1
  have y2 := ((Nr.bcell BW).2 _ _ x3).trans x2
  have bl' := below_step bl BW
  have ow' := Nr.lower ow (b' := w.heap.size) (by omega)
  have ng : ¬ (g = w.heap.size + 1) := by omega
  have nh : ¬ (h = w.heap.size + 1) := by omega
  have ng' : ¬ (w.heap.size + 1 = g) := by omega
  have nh' : ¬ (w.heap.size + 1 = h) := by omega
  have hr2 : decide (0 < (rest.length : Int)) = r2 := by rw [← hr'.out]
  clear na x0 x1 x2 BW
  go_step
  go_upto_region 2 with fail
  go_region
  go_wp2
  have hr3 : decide (0 < rest.length) = r2 := by rw [← hr2]; simp
  have e2 := World.cell?_setCell_same _ _ (.slice Aq q.length cq) y1
  have ow2 := Nr.Ow.drew (Nr.Ow.set ow' (p := ⟨w.heap.size + 1, 0, none⟩) (.slice Aq q.length cq) (fun e => by have h6 : _ ≤ w.heap.size + 1 := Kd.R_base ow.out _ e; omega))
  exact bodyPost_ret (v := .tuple #[.agg #[.slice Aq q.length cq], .bool r2]) (by simp [results, Try.results84, go_sem, e2, hr3]) rfl ⟨_, rfl, Nr.Rok ow2.out (Nat.le_refl _) (fun _ _ _ _ => trivial), below_drew1 (below_set bl' (by omega))⟩
def r3_Low.f (a0 : Int) : Option (Int) := (r2_B.f a0).bind fun t365 => ((r2_F.f a0).bind fun t366 => (some (wrap64 ((wrap64 (1 - t365)) - t366))))
theorem r3_Low.calls (a0 : Int) (r : Int) (w : World) (h : r3_Low.f a0 = some r) :
  Calls Try.prog 81 #[.int .i64 a0] w fun e w' => e = .returned (.int .i64 r) ∧ Drawn0 w w' := by
 have H : ((r2_B.f a0).bind fun t365 => ((r2_F.f a0).bind fun t366 => (some (wrap64 ((wrap64 (1 - t365)) - t366))))) = some r := h
 clear h
 replace H := ob_ H
 obtain ⟨t365, A20, H⟩ := H
 replace H : ((r2_F.f a0).bind fun t366 => (some (wrap64 ((wrap64 (1 - t365)) - t366)))) = some r := H
 have A2 := A_ A20;clear A20
 replace H := ob_ H
 obtain ⟨t366, A30, H⟩ := H
 replace H : (some (wrap64 ((wrap64 (1 - t365)) - t366))) = some r := H
 have A3 := A_ A30;clear A30
 obtain rfl := Option.some.inj H
 go_enter Try.func81, Try.ntmps81
 go_wp2_with (first | ((with_reducible refine gate_callee (f := 23) rfl ?_); refine gl_ (some 4) Try.func23 #[.int .i64 a0] ?_; (with_reducible refine (r2_B.calls a0 t365 _ A2.out).mono ?_); rintro e w' ⟨rfl, ⟨nd, rfl⟩⟩; refine ⟨_, rfl, ?_⟩) | ((with_reducible refine gate_callee (f := 42) rfl ?_); refine gl_ (some 7) Try.func42 #[.int .i64 a0] ?_; (with_reducible refine (r2_F.calls a0 t366 _ A3.out).mono ?_); rintro e w' ⟨rfl, ⟨nd, rfl⟩⟩; refine ⟨_, rfl, ?_⟩))
 go_ret
 exact ⟨sm_, by repeat (first | exact Drawn0.refl _ | apply Drawn0.step)⟩
def r3_Quotient.j0 : Nat → Bool → List Int → Option (List Int)
 | 0, _, _ => none
 | k + 1, x29, x387000 => if x29 = true then ((r1_Of.f k 1).bind fun t393 => ((r1_Add.f k x387000 t393).bind fun t396 => (some t396))) else (some x387000)
def r3_Quotient.f (k : Nat) (l0_0 : List Int) (l1_0 : List Int) : Option (List Int) := (r1_Div.f k l0_0 l1_0).bind fun bt380 => ((r1_Shl.f k bt380.2 1).bind fun t388 => ((r1_Cmp.f k t388 l1_0).bind fun t391 => (if t391 > 0 then (r3_Quotient.j0 k true bt380.1) else (if t391 = 0 then ((r1_Uint.f bt380.1).bind fun t392 => (r3_Quotient.j0 k ((Int.tmod t392 2) == 1) bt380.1)) else (r3_Quotient.j0 k false bt380.1)))))
theorem r3_Quotient.mono_l : ∀ k, (∀ y0 y1, LeO (r3_Quotient.j0 k y0 y1) (r3_Quotient.j0 (k + 1) y0 y1))
 | 0 => fun _ _ r h => by simp [r3_Quotient.j0] at h
 | k + 1 => by
  have ih0 := r3_Quotient.mono_l k
  ·intro y0 y1
   unfold r3_Quotient.j0
   repeat' first
   | (with_reducible exact ih0 _ _)
   | (with_reducible exact r1_Add.mono _ _ _)
   | (with_reducible exact r1_Cmp.mono _ _ _)
   | (with_reducible exact r1_Div.mono _ _ _)
   | (with_reducible exact r1_Of.mono _ _)
   | (with_reducible exact r1_Shl.mono _ _ _)
   | (with_reducible exact LeO.refl _)
   | (with_reducible exact LeO.none _)
   | (with_reducible refine LeO.ite ?_ ?_)
   | (with_reducible refine LeO.bind ?_ (fun _ => ?_))
   | exact ih0 _ _
   | exact r1_Add.mono _ _ _
   | exact r1_Cmp.mono _ _ _
   | exact r1_Div.mono _ _ _
   | exact r1_Of.mono _ _
   | exact r1_Shl.mono _ _ _
   | exact LeO.none _
   | refine LeO.ite ?_ ?_
   | refine LeO.bind ?_ (fun _ => ?_)
theorem r3_Quotient.mono : ∀ a0 a1 k, LeO (r3_Quotient.f k a0 a1) (r3_Quotient.f (k + 1) a0 a1) := by
 intro a0 a1 k
 have ih0 := r3_Quotient.mono_l k
 unfold r3_Quotient.f
 repeat' first
   | (with_reducible exact ih0 _ _)
   | (with_reducible exact r1_Add.mono _ _ _)
   | (with_reducible exact r1_Cmp.mono _ _ _)
   | (with_reducible exact r1_Div.mono _ _ _)
   | (with_reducible exact r1_Of.mono _ _)
   | (with_reducible exact r1_Shl.mono _ _ _)
   | (with_reducible exact LeO.refl _)
   | (with_reducible exact LeO.none _)
   | (with_reducible refine LeO.ite ?_ ?_)
   | (with_reducible refine LeO.bind ?_ (fun _ => ?_))
   | exact ih0 _ _
   | exact r1_Add.mono _ _ _
   | exact r1_Cmp.mono _ _ _
   | exact r1_Div.mono _ _ _
   | exact r1_Of.mono _ _
   | exact r1_Shl.mono _ _ _
   | exact LeO.none _
   | refine LeO.ite ?_ ?_
   | refine LeO.bind ?_ (fun _ => ?_)
theorem r3_Quotient.calls (k : Nat) (A0_0 : Option Addr) (c0_0 : Nat) (l0_0 : List Int) (A1_0 : Option Addr) (c1_0 : Nat) (l1_0 : List Int) (r : List Int) (w : World) (hr0_0 : Kd.C (Kd.int .u64) w A0_0 l0_0.length l0_0) (hc0_0 : l0_0.length ≤ c0_0) (hr1_0 : Kd.C (Kd.int .u64) w A1_0 l1_0.length l1_0) (hc1_0 : l1_0.length ≤ c1_0) (h : r3_Quotient.f k l0_0 l1_0 = some r) :
  Calls Try.prog 96 #[.agg #[.slice A0_0 l0_0.length c0_0], .agg #[.slice A1_0 l1_0.length c1_0]] w fun e w' => ∃ v0_ : Value, e = .returned (.agg #[v0_]) ∧ Kd.R (Kd.int .u64) 22 w' w.heap.size (fun _ => True) v0_ r ∧ Below w.heap.size w w' := by
 have hu33 := Try.underlying33
 have HR0_0 := A_ hr0_0;have HC0_0 := A_ hc0_0;clear hr0_0 hc0_0;have HR1_0 := A_ hr1_0;have HC1_0 := A_ hc1_0;clear hr1_0 hc1_0
 have HB := A_ (Below.refl w.heap.size w)
 have H : ((r1_Div.f k l0_0 l1_0).bind fun bt380 => ((r1_Shl.f k bt380.2 1).bind fun t388 => ((r1_Cmp.f k t388 l1_0).bind fun t391 => (if t391 > 0 then (r3_Quotient.j0 k true bt380.1) else (if t391 = 0 then ((r1_Uint.f bt380.1).bind fun t392 => (r3_Quotient.j0 k ((Int.tmod t392 2) == 1) bt380.1)) else (r3_Quotient.j0 k false bt380.1)))))) = some r := h
 clear h
 replace H := ob_ H
 obtain ⟨⟨t380, t383⟩, A30, H⟩ := H
 replace H : ((r1_Shl.f k t383 1).bind fun t388 => ((r1_Cmp.f k t388 l1_0).bind fun t391 => (if t391 > 0 then (r3_Quotient.j0 k true t380) else (if t391 = 0 then ((r1_Uint.f t380).bind fun t392 => (r3_Quotient.j0 k ((Int.tmod t392 2) == 1) t380)) else (r3_Quotient.j0 k false t380))))) = some r := H
 have A3 := A_ A30;clear A30
 replace H := ob_ H
 obtain ⟨t388, A40, H⟩ := H
 replace H : ((r1_Cmp.f k t388 l1_0).bind fun t391 => (if t391 > 0 then (r3_Quotient.j0 k true t380) else (if t391 = 0 then ((r1_Uint.f t380).bind fun t392 => (r3_Quotient.j0 k ((Int.tmod t392 2) == 1) t380)) else (r3_Quotient.j0 k false t380)))) = some r := H
 have A4 := A_ A40;clear A40
 replace H := ob_ H
 obtain ⟨t391, A50, H⟩ := H
 replace H : (if t391 > 0 then (r3_Quotient.j0 k true t380) else (if t391 = 0 then ((r1_Uint.f t380).bind fun t392 => (r3_Quotient.j0 k ((Int.tmod t392 2) == 1) t380)) else (r3_Quotient.j0 k false t380))) = some r := H
 have A5 := A_ A50;clear A50;have HC6 := A_ H;clear H
 go_enter Try.func96, Try.ntmps96
 try go_wp2_with (first | ((with_reducible refine gate_dst (N := 2) rfl ?_); refine be_ 2 #[.slice A0_0 l0_0.length c0_0] 33 ?_; intro gb377 hg w7 hbox hb; have BK377 := A_ (hbox); have GW377 := A_ (sz_ hg (hb_ HB.out)); have GE377 := A_ (sz_ hg (hb_ HB.out)); replace HB := A_ (below_step (hb_ HB.out) hb); clear hb hbox hg) | ((with_reducible refine gate_dst (N := 3) rfl ?_); refine be_ 3 #[.slice A1_0 l1_0.length c1_0] 33 ?_; intro gb378 hg w8 hbox hb; have BK378 := A_ (hbox); have GW378 := A_ (sz_ hg (hb1_ HB.out GE377.out)); have GE378 := A_ (sz_ hg (hb1_ HB.out GE377.out)); have NB377_378 := A_ (nl_ hg BK377.out); have NB378_377 := A_ (ng_ hg BK377.out); replace BK377 := A_ (bb_ BK377.out hb); replace HB := A_ (below_step (hb1_ HB.out GE377.out) hb); clear hb hbox hg) | ((with_reducible refine gate_dst (N := 4) rfl ?_); refine be_ 4 #[.slice none 0 0] 33 ?_; intro gb379 hg w9 hbox hb; have BK379 := A_ (hbox); have GW379 := A_ (sz_ hg (hb2_ HB.out GE377.out GE378.out)); have GE379 := A_ (sz_ hg (hb2_ HB.out GE377.out GE378.out)); have NB377_379 := A_ (nl_ hg BK377.out); have NB379_377 := A_ (ng_ hg BK377.out); have NB378_379 := A_ (nl_ hg BK378.out); have NB379_378 := A_ (ng_ hg BK378.out); replace BK377 := A_ (bb_ BK377.out hb); replace BK378 := A_ (bb_ BK378.out hb); replace HB := A_ (below_step (hb2_ HB.out GE377.out GE378.out) hb); clear hb hbox hg; have hnb10 := NB377_378.out; have hnc10 := NB378_377.out; have hnb11 := NB377_379.out; have hnc11 := NB379_377.out; have hcz12_0 := bv_ BK377.out 0; have hfz12_0 := blk_frozen BK377.out 0; have hnb13 := NB378_379.out; have hnc13 := NB379_378.out; have hcz14_0 := bv_ BK378.out 0; have hfz14_0 := blk_frozen BK378.out 0) | ((with_reducible refine gate_callee (f := 45) rfl ?_); refine gl_ (some 11) Try.func45 #[.agg #[.slice A0_0 l0_0.length c0_0], .agg #[.slice A1_0 l1_0.length c1_0]] ?_; (with_reducible refine (r1_Div.calls k (fun k_ => k_ < w.heap.size) _ _ l0_0 _ _ l1_0 t380 t383 _ ?side1 ?side2 ?side3 A3.out).mono ?_); (case side1 => exact Kd.V_mk HC0_0.out (Kd.F_below (Kd.C_F (Kd.heap_int .u64) HR0_0.out) (hb3_ HB.out GE377.out GE378.out GE379.out))); (case side2 => exact cs_ ((Kd.C_below HR1_0.out HB.out))); (case side3 => exact HC1_0.out); rintro e w15 ⟨v381, v384, rfl, ho0, ho1, hb⟩; refine ⟨_, rfl, ?_⟩; have HO382 := A_ (Kd.R_lower (Kd.R_mono (ok' := fun k_ => True) ho0 (fun _ hk_ => trivial)) (below_size (hb3_ HB.out GE377.out GE378.out GE379.out))); have HO385 := A_ (Kd.V_lower (Kd.V_mono (ok' := fun k_ => some k_ ≠ (v381 : Value).ownBlock ∧ k_ ≠ gb377 ∧ k_ ≠ gb378 ∧ k_ ≠ gb379) ho1 (fun k_ hk_ => ⟨hk_.2, Or.elim hk_.1 (fun hs_ => fun e_ => Nat.not_le.2 hs_ (by rw [e_]; exact GW377.out)) (fun hn_ => (Kd.freshB (g := gb377) (o := .cells #[.slice A0_0 l0_0.length c0_0] 33 (0, 0)) (bk_ BK377.out) k_ hn_)), Or.elim hk_.1 (fun hs_ => fun e_ => Nat.not_le.2 hs_ (by rw [e_]; exact GW378.out)) (fun hn_ => (Kd.freshB (g := gb378) (o := .cells #[.slice A1_0 l1_0.length c1_0] 33 (0, 0)) (bk_ BK378.out) k_ hn_)), Or.elim hk_.1 (fun hs_ => fun e_ => Nat.not_le.2 hs_ (by rw [e_]; exact GW379.out)) (fun hn_ => (Kd.freshB (g := gb379) (o := .cells #[.slice none 0 0] 33 (0, 0)) (bk_ BK379.out) k_ hn_))⟩)) (below_size (hb3_ HB.out GE377.out GE378.out GE379.out))); replace BK377 := A_ (bb_ BK377.out hb); replace BK378 := A_ (bb_ BK378.out hb); replace BK379 := A_ (bb_ BK379.out hb); replace HB := A_ (below_step (hb3_ HB.out GE377.out GE378.out GE379.out) hb); (try clear hb); (try clear hb2); (try clear hk); (try clear hi); (try clear ho0); (try clear ho1)) | ((with_reducible refine gate_dst (N := 5) rfl ?_); refine be_ 5 #[.slice none 0 0] 33 ?_; intro gb386 hg w16 hbox hb; have BK386 := A_ (hbox); have GW386 := A_ (sz_ hg (hb3_ HB.out GE377.out GE378.out GE379.out)); have GE386 := A_ (sz_ hg (hb3_ HB.out GE377.out GE378.out GE379.out)); have NB377_386 := A_ (nl_ hg BK377.out); have NB386_377 := A_ (ng_ hg BK377.out); have NB378_386 := A_ (nl_ hg BK378.out); have NB386_378 := A_ (ng_ hg BK378.out); have NB379_386 := A_ (nl_ hg BK379.out); have NB386_379 := A_ (ng_ hg BK379.out); replace HO382 := A_ (Kd.R_below (kr_ HO382.out) hb); replace HO385 := A_ (Kd.V_below (Kd.V_elderB (kv_ HO385.out) gb386 (Nat.le_of_eq hg.symm)) hb); replace BK377 := A_ (bb_ BK377.out hb); replace BK378 := A_ (bb_ BK378.out hb); replace BK379 := A_ (bb_ BK379.out hb); replace HB := A_ (below_step (hb3_ HB.out GE377.out GE378.out GE379.out) hb); clear hb hbox hg) | ((with_reducible refine gate_dst (N := 6) rfl ?_); refine be_ 6 #[.slice none 0 0] 33 ?_; intro gb387 hg w17 hbox hb; have BK387 := A_ (hbox); have GW387 := A_ (sz_ hg (hb4_ HB.out GE377.out GE378.out GE379.out GE386.out)); have GE387 := A_ (sz_ hg (hb4_ HB.out GE377.out GE378.out GE379.out GE386.out)); have NB377_387 := A_ (nl_ hg BK377.out); have NB387_377 := A_ (ng_ hg BK377.out); have NB378_387 := A_ (nl_ hg BK378.out); have NB387_378 := A_ (ng_ hg BK378.out); have NB379_387 := A_ (nl_ hg BK379.out); have NB387_379 := A_ (ng_ hg BK379.out); have NB386_387 := A_ (nl_ hg BK386.out); have NB387_386 := A_ (ng_ hg BK386.out); replace HO382 := A_ (Kd.R_below (kr_ HO382.out) hb); replace HO385 := A_ (Kd.V_below (Kd.V_elderB (kv_ HO385.out) gb387 (Nat.le_of_eq hg.symm)) hb); replace BK377 := A_ (bb_ BK377.out hb); replace BK378 := A_ (bb_ BK378.out hb); replace BK379 := A_ (bb_ BK379.out hb); replace BK386 := A_ (bb_ BK386.out hb); replace HB := A_ (below_step (hb4_ HB.out GE377.out GE378.out GE379.out GE386.out) hb); clear hb hbox hg; obtain ⟨Ao18, co18, eo18⟩ := Kd.R_slice HO382.out; subst eo18; have hnb19 := NB386_377.out; have hnc19 := NB377_386.out; have hnb20 := NB386_378.out; have hnc20 := NB378_386.out; have hnb21 := NB386_379.out; have hnc21 := NB379_386.out; have hnb22 := NB386_387.out; have hnc22 := NB387_386.out; have hcz23_0 := bv_ BK386.out 0; have hfz23_0 := blk_frozen BK386.out 0; obtain ⟨Ao24, co24, eo24⟩ := Kd.V_slice HO385.out; subst eo24; have hnb25 := NB387_377.out; have hnc25 := NB377_387.out; have hnb26 := NB387_378.out; have hnc26 := NB378_387.out; have hnb27 := NB387_379.out; have hnc27 := NB379_387.out; have hcz28_0 := bv_ BK387.out 0; have hfz28_0 := blk_frozen BK387.out 0))
 have n0_ : Aside0 (Kd.R (Kd.int .u64) 22 ((w17.setCell ⟨gb386, 0, none⟩ (.slice Ao18 t380.length co18)).setCell ⟨gb387, 0, none⟩ (.slice Ao24 t383.length co24)) w.heap.size (fun _ => True) (.slice Ao18 t380.length co18) t380) := ⟨by (with_reducible repeat (first | apply Kd.R_alloc | apply Kd.R_drewN | apply Kd.R_drew)); exact Kd.R_mono (Kd.R_far (p := ⟨gb387, 0, none⟩) (Kd.R_far (p := ⟨gb386, 0, none⟩) (Kd.R_types (Kd.R_types HO382.out BK386.out (by decide)) BK387.out (by decide)) (fun _ hk => hk.1.2) (.slice Ao18 t380.length co18)) (fun _ hk => hk.2) (.slice Ao24 t383.length co24)) (fun _ hk => trivial)⟩
 have n1_ : Aside0 (Kd.V (Kd.int .u64) 22 ((w17.setCell ⟨gb386, 0, none⟩ (.slice Ao18 t380.length co18)).setCell ⟨gb387, 0, none⟩ (.slice Ao24 t383.length co24)) w.heap.size (fun k_ => some k_ ≠ (.slice Ao18 t380.length co18 : Value).ownBlock ∧ k_ ≠ gb377 ∧ k_ ≠ gb378 ∧ k_ ≠ gb379 ∧ k_ ≠ gb386 ∧ k_ ≠ gb387) (.slice Ao24 t383.length co24) t383) := ⟨by (with_reducible repeat (first | apply Kd.V_alloc | apply Kd.V_drewN | apply Kd.V_drew)); exact Kd.V_mono (Kd.V_far (p := ⟨gb387, 0, none⟩) (Kd.V_far (p := ⟨gb386, 0, none⟩) (Kd.V_mono (Kd.V_mono HO385.out (fun k_ hk => (⟨hk, hk.1.2⟩ : _ ∧ k_ ≠ gb386))) (fun k_ hk => (⟨hk, hk.1.2⟩ : _ ∧ k_ ≠ gb387))) (fun _ hk => hk.1.2) (.slice Ao18 t380.length co18)) (fun _ hk => hk.2) (.slice Ao24 t383.length co24)) (fun _ hk => ⟨hk.1.1.1.1.1, ⟨hk.1.1.1.1.2.1, ⟨hk.1.1.1.1.2.2.1, ⟨hk.1.1.1.1.2.2.2, ⟨hk.1.1.1.2, hk.1.1.2⟩⟩⟩⟩⟩)⟩
 have n2_ : Aside0 (((w17.setCell ⟨gb386, 0, none⟩ (.slice Ao18 t380.length co18)).setCell ⟨gb387, 0, none⟩ (.slice Ao24 t383.length co24)).heap[gb377]? = some (.cells #[.slice A0_0 l0_0.length c0_0] 33 (0, 0))) := ⟨bf2_ BK377.out NB377_387.out NB377_386.out⟩
 have n3_ : Aside0 (((w17.setCell ⟨gb386, 0, none⟩ (.slice Ao18 t380.length co18)).setCell ⟨gb387, 0, none⟩ (.slice Ao24 t383.length co24)).heap[gb378]? = some (.cells #[.slice A1_0 l1_0.length c1_0] 33 (0, 0))) := ⟨bf2_ BK378.out NB378_387.out NB378_386.out⟩
 have n4_ : Aside0 (((w17.setCell ⟨gb386, 0, none⟩ (.slice Ao18 t380.length co18)).setCell ⟨gb387, 0, none⟩ (.slice Ao24 t383.length co24)).heap[gb379]? = some (.cells #[.slice none 0 0] 33 (0, 0))) := ⟨bf2_ BK379.out NB379_387.out NB379_386.out⟩
 have n5_ : Aside0 (((w17.setCell ⟨gb386, 0, none⟩ (.slice Ao18 t380.length co18)).setCell ⟨gb387, 0, none⟩ (.slice Ao24 t383.length co24)).heap[gb386]? = some (.cells #[.slice Ao18 t380.length co18] 33 (0, 0))) := ⟨by (with_reducible repeat (first | refine blk_drewN ?_ _ | refine blk_drew ?_ | refine blk_alloc ?_ _)); refine blk_far ?_ NB386_387.out _; (with_reducible repeat (first | refine blk_drewN ?_ _ | refine blk_drew ?_ | refine blk_alloc ?_ _)); refine blk_put (cs := #[.slice none 0 0]) ?_ 0 _ rfl; (with_reducible repeat (first | refine blk_drewN ?_ _ | refine blk_drew ?_ | refine blk_alloc ?_ _)); exact BK386.out⟩
 have n6_ : Aside0 (((w17.setCell ⟨gb386, 0, none⟩ (.slice Ao18 t380.length co18)).setCell ⟨gb387, 0, none⟩ (.slice Ao24 t383.length co24)).heap[gb387]? = some (.cells #[.slice Ao24 t383.length co24] 33 (0, 0))) := ⟨by (with_reducible repeat (first | refine blk_drewN ?_ _ | refine blk_drew ?_ | refine blk_alloc ?_ _)); refine blk_put (cs := #[.slice none 0 0]) ?_ 0 _ rfl; (with_reducible repeat (first | refine blk_drewN ?_ _ | refine blk_drew ?_ | refine blk_alloc ?_ _)); refine blk_far ?_ NB387_386.out _; (with_reducible repeat (first | refine blk_drewN ?_ _ | refine blk_drew ?_ | refine blk_alloc ?_ _)); exact BK387.out⟩
 have n7_ : Aside0 (Below w.heap.size w ((w17.setCell ⟨gb386, 0, none⟩ (.slice Ao18 t380.length co18)).setCell ⟨gb387, 0, none⟩ (.slice Ao24 t383.length co24))) := ⟨by repeat (first | (with_reducible first | exact HB.out | apply below_alloc | apply pw_below_drewN | apply below_drew1 | refine below_set ?_ GE377.out | refine below_set ?_ GE378.out | refine below_set ?_ GE379.out | refine below_set ?_ GE386.out | refine below_set ?_ GE387.out) | exact HB.out)⟩
 (try clear HO382);(try clear HO385);(try clear BK377);(try clear BK378);(try clear BK379);(try clear BK386);(try clear BK387);(try clear HB)
 generalize ((w17.setCell ⟨gb386, 0, none⟩ (.slice Ao18 t380.length co18)).setCell ⟨gb387, 0, none⟩ (.slice Ao24 t383.length co24)) = w29 at n0_ n1_ n2_ n3_ n4_ n5_ n6_ n7_ ⊢
 have HO382 := n0_;have HO385 := n1_;have BK377 := n2_;have BK378 := n3_;have BK379 := n4_;have BK386 := n5_;have BK387 := n6_;have HB := n7_;clear n0_ n1_ n2_ n3_ n4_ n5_ n6_ n7_
 replace HO382 := A_ (Kd.R_drew HO382.out)
 replace HO385 := A_ (Kd.V_drew HO385.out)
 replace BK377 := A_ (blk_drew BK377.out)
 replace BK378 := A_ (blk_drew BK378.out)
 replace BK379 := A_ (blk_drew BK379.out)
 replace BK386 := A_ (blk_drew BK386.out)
 replace BK387 := A_ (blk_drew BK387.out)
 replace HB := A_ (below_drew1 HB.out)
 refine start_ (n := 5) (S := fun w' => w'.cell? ⟨gb387, 0, none⟩ = some (.slice Ao24 t383.length co24) ∧ w'.cell? ⟨gb378, 0, none⟩ = some (.slice A1_0 l1_0.length c1_0)) (ds := []) #[false, false, false, false, false] (by kernel_rfl) rfl rfl ⟨bc_ BK387.out 0, bc_ BK378.out 0⟩ (fun hHeld => ?_)
 generalize w29.drew = w30 at HO382 HO385 BK377 BK378 BK379 BK386 BK387 HB hHeld ⊢
 refine tk2_ 0 (some 14) #[true, false, false, false, false] rfl rfl (by kernel_rfl) hHeld ?_
 refine tk2_ 2 (some 16) #[true, false, true, false, false] rfl rfl (by kernel_rfl) hHeld ?_
 refine one_ (i := 1) (N := some 15) #[true, true, true, false, false] rfl rfl (by kernel_rfl) (by decide) (fun K hK => ?_)
 refine goes_ Try.func44 (by kernel_rfl) rfl #[.agg #[.slice Ao24 t383.length co24], .int .i64 1] (by rfl) rfl rfl mp_ ?_
 with_reducible refine (r1_Shl.calls k _ _ t383 1 t388 _ ?side1 ?side2 A4.out).mono ?_
 (case side1 => exact cs_ ((Kd.V_reads' HO385.out).2.2))
 (case side2 => exact (Kd.V_reads' HO385.out).2.1)
 rintro e w31 ⟨v389, rfl, ho0, hb⟩
 refine ⟨_, rfl, ?_⟩
 have HO390 := A_ (Kd.R_lower (Kd.R_new' ho0 (Kd.R_lt (kr_ HO382.out))) (below_size (by repeat (first | (with_reducible first | exact HB.out | apply below_alloc | apply pw_below_drewN | apply below_drew1 | refine below_set ?_ GE377.out | refine below_set ?_ GE378.out | refine below_set ?_ GE379.out | refine below_set ?_ GE386.out | refine below_set ?_ GE387.out) | exact HB.out))))
 replace HO382 := A_ (Kd.R_elder' (kr_ HO382.out) (Kd.R_base ho0) hb)
 replace HO385 := A_ (Kd.V_elder' (kv_ HO385.out) (Kd.R_base ho0) hb)
 replace BK377 := A_ (bb_ BK377.out hb)
 replace BK378 := A_ (bb_ BK378.out hb)
 replace BK379 := A_ (bb_ BK379.out hb)
 replace BK386 := A_ (bb_ BK386.out hb)
 replace BK387 := A_ (bb_ BK387.out hb)
 replace HB := A_ (below_step (by repeat (first | (with_reducible first | exact HB.out | apply below_alloc | apply pw_below_drewN | apply below_drew1 | refine below_set ?_ GE377.out | refine below_set ?_ GE378.out | refine below_set ?_ GE379.out | refine below_set ?_ GE386.out | refine below_set ?_ GE387.out) | exact HB.out)) hb);(try clear hb);(try clear hb2);(try clear hk);(try clear hi);(try clear ho0)
 obtain ⟨Ao32, co32, eo32⟩ := Kd.R_slice HO390.out
 (first | subst eo32 | (injection eo32 with f1_ f2_ f3_; have f4_ := f1_.symm; have f5_ := f3_.symm; clear f1_ f2_ f3_; subst f4_; subst f5_))
 refine hK.out _ _ ⟨bc_ BK387.out 0, bc_ BK378.out 0⟩ (fun hHeld => ?_)
 clear hK K
 refine norm_ (a' := ?_) ?_ ?_
 rotate_left
 ·show Act.put _ (some 15) _ = _
  simp only [Act.put, lI_, l0_, lS_, i64_w, i32_w]
  rfl
 refine one_ (i := 3) (N := some 17) #[true, true, true, true, false] rfl rfl (by kernel_rfl) (by decide) (fun K hK => ?_)
 refine goes_ Try.func46 (by kernel_rfl) rfl #[.agg #[.slice Ao32 t388.length co32], .agg #[.slice A1_0 l1_0.length c1_0]] (by rfl) rfl rfl mp_ ?_
 with_reducible refine (r1_Cmp.calls k _ _ t388 _ _ l1_0 t391 _ ?side1 ?side2 ?side3 ?side4 A5.out).mono ?_
 (case side1 => exact cs_ ((Kd.R_reads' HO390.out).2.2))
 (case side2 => exact (Kd.R_reads' HO390.out).2.1)
 (case side3 => exact cs_ ((Kd.C_below HR1_0.out HB.out)))
 (case side4 => exact HC1_0.out)
 rintro e w33 ⟨rfl, hb⟩
 refine ⟨_, rfl, ?_⟩
 replace HO382 := A_ (Kd.R_below (kr_ HO382.out) hb)
 replace HO385 := A_ (Kd.V_below (kv_ HO385.out) hb)
 replace HO390 := A_ (Kd.R_below (kr_ HO390.out) hb)
 replace BK377 := A_ (bb_ BK377.out hb)
 replace BK378 := A_ (bb_ BK378.out hb)
 replace BK379 := A_ (bb_ BK379.out hb)
 replace BK386 := A_ (bb_ BK386.out hb)
 replace BK387 := A_ (bb_ BK387.out hb)
 replace HB := A_ (below_step (by repeat (first | (with_reducible first | exact HB.out | apply below_alloc | apply pw_below_drewN | apply below_drew1 | refine below_set ?_ GE377.out | refine below_set ?_ GE378.out | refine below_set ?_ GE379.out | refine below_set ?_ GE386.out | refine below_set ?_ GE387.out) | exact HB.out)) hb);(try clear hb);(try clear hb2);(try clear hk);(try clear hi)
 refine hK.out _ _ ⟨bc_ BK387.out 0, bc_ BK378.out 0⟩ (fun hHeld => ?_)
 clear hK K
 refine norm_ (a' := ?_) ?_ ?_
 rotate_left
 ·show Act.put _ (some 17) _ = _
  simp only [Act.put, lI_, l0_, lS_, i64_w, i32_w]
  rfl
 refine pu_ 4 (some 7) #[true, true, true, true, true] rfl rfl (by kernel_rfl) ?_
 refine done_ (by kernel_rfl) ?_
 go_upto_region 3 with (fail)
 go_cut [29] (fun v29 wc => ∃ (kq : Nat) (x29_5 : Bool), v29 = .bool x29_5 ∧ Aside0 (r3_Quotient.j0 kq x29_5 t380 = some r) ∧ Aside0 (kq ≤ k) ∧ Aside0 (Kd.R (Kd.int .u64) 22 wc w.heap.size (fun _ => True) (.slice Ao18 t380.length co18) t380) ∧ Aside0 (Kd.V (Kd.int .u64) 22 wc w.heap.size (fun k_ => some k_ ≠ ((.slice Ao18 t380.length co18) : Value).ownBlock ∧ k_ ≠ gb377 ∧ k_ ≠ gb378 ∧ k_ ≠ gb379 ∧ k_ ≠ gb386 ∧ k_ ≠ gb387) (.slice Ao24 t383.length co24) t383) ∧ Aside0 (wc.heap[gb377]? = some (.cells #[(.slice A0_0 l0_0.length c0_0)] 33 (0, 0))) ∧ Aside0 (wc.heap[gb378]? = some (.cells #[(.slice A1_0 l1_0.length c1_0)] 33 (0, 0))) ∧ Aside0 (wc.heap[gb379]? = some (.cells #[(.slice none 0 0)] 33 (0, 0))) ∧ Aside0 (wc.heap[gb386]? = some (.cells #[(.slice Ao18 t380.length co18)] 33 (0, 0))) ∧ Aside0 (wc.heap[gb387]? = some (.cells #[(.slice Ao24 t383.length co24)] 33 (0, 0))) ∧ Aside0 (Below w.heap.size w wc))
 case first =>
  have H := HC6.out
  clear HC6
  by_cases c34 : t391 > 0
  ·rw [if_pos c34] at H
   have c34b0 : decide (0 < t391) = true := decide_eq_true c34
   clear c34
   (first | rw [c34b0] | (simp only [i64_w, i32_w]; rw [c34b0]) | skip)
   have H' := A_ H
   clear H
   go_wp2
   go_meet
   case rel => exact ⟨_, (true), sm_, H', ⟨by first | omega | exact Nat.le_refl _⟩, ⟨by (with_reducible repeat (first | apply Kd.R_alloc | apply Kd.R_drewN | apply Kd.R_drew)); exact Kd.R_mono HO382.out (fun _ hk => trivial)⟩, ⟨by (with_reducible repeat (first | apply Kd.V_alloc | apply Kd.V_drewN | apply Kd.V_drew)); exact Kd.V_mono HO385.out (fun _ hk => ⟨hk.1.1, ⟨hk.1.2.1, ⟨hk.1.2.2.1, ⟨hk.1.2.2.2.1, ⟨hk.1.2.2.2.2.1, hk.1.2.2.2.2.2⟩⟩⟩⟩⟩)⟩, ⟨bk_ BK377.out⟩, ⟨bk_ BK378.out⟩, ⟨bk_ BK379.out⟩, ⟨bk_ BK386.out⟩, ⟨bk_ BK387.out⟩, ⟨by repeat (first | (with_reducible first | exact HB.out | apply below_alloc | apply pw_below_drewN | apply below_drew1 | refine below_set ?_ GE377.out | refine below_set ?_ GE378.out | refine below_set ?_ GE379.out | refine below_set ?_ GE386.out | refine below_set ?_ GE387.out) | exact HB.out)⟩⟩
  ·rw [if_neg c34] at H
   have c34b0 : decide (0 < t391) = false := decide_eq_false c34
   clear c34
   (first | rw [c34b0] | (simp only [i64_w, i32_w]; rw [c34b0]) | skip)
   by_cases c35 : t391 = 0
   ·rw [if_pos c35] at H
    have c35b0 : (t391 == 0) = true := beq_iff_eq.mpr c35
    have c35b1 : (t391 != 0) = false := bne_eq_false_iff_eq.mpr c35
    clear c35
    replace H := ob_ H
    obtain ⟨t392, A360, H⟩ := H
    replace H : (r3_Quotient.j0 k ((Int.tmod t392 2) == 1) t380) = some r := H
    have A36 := A_ A360;clear A360
    have H' := A_ H
    clear H
    have hnb37 := NB386_377.out
    have hnc37 := NB377_386.out
    have hnb38 := NB386_378.out
    have hnc38 := NB378_386.out
    have hnb39 := NB386_379.out
    have hnc39 := NB379_386.out
    have hnb40 := NB386_387.out
    have hnc40 := NB387_386.out
    have hcz41_0 := bv_ BK386.out 0
    have hfz41_0 := blk_frozen BK386.out 0
    go_wp2_with (first | (go_at_call 32; (with_reducible refine (r1_Uint.calls _ _ t380 t392 _ ?side1 ?side2 A36.out).mono ?_); (case side1 => exact cs_ ((Kd.R_reads' HO382.out).2.2)); (case side2 => exact (Kd.R_reads' HO382.out).2.1); rintro e w42 ⟨rfl, hb⟩; replace HO382 := A_ (Kd.R_below (kr_ HO382.out) hb); replace HO385 := A_ (Kd.V_below (kv_ HO385.out) hb); replace HO390 := A_ (Kd.R_below (kr_ HO390.out) hb); replace BK377 := A_ (bb_ BK377.out hb); replace BK378 := A_ (bb_ BK378.out hb); replace BK379 := A_ (bb_ BK379.out hb); replace BK386 := A_ (bb_ BK386.out hb); replace BK387 := A_ (bb_ BK387.out hb); replace HB := A_ (below_step (by repeat (first | (with_reducible first | exact HB.out | apply below_alloc | apply pw_below_drewN | apply below_drew1 | refine below_set ?_ GE377.out | refine below_set ?_ GE378.out | refine below_set ?_ GE379.out | refine below_set ?_ GE386.out | refine below_set ?_ GE387.out) | exact HB.out)) hb); (try clear hb); (try clear hb2); (try clear hk); (try clear hi)))
    go_meet
    case rel => exact ⟨_, (((Int.tmod t392 2) == 1)), sm_, H', ⟨by first | omega | exact Nat.le_refl _⟩, ⟨by (with_reducible repeat (first | apply Kd.R_alloc | apply Kd.R_drewN | apply Kd.R_drew)); exact Kd.R_mono HO382.out (fun _ hk => trivial)⟩, ⟨by (with_reducible repeat (first | apply Kd.V_alloc | apply Kd.V_drewN | apply Kd.V_drew)); exact Kd.V_mono HO385.out (fun _ hk => ⟨hk.1.1, ⟨hk.1.2.1, ⟨hk.1.2.2.1, ⟨hk.1.2.2.2.1, ⟨hk.1.2.2.2.2.1, hk.1.2.2.2.2.2⟩⟩⟩⟩⟩)⟩, ⟨bk_ BK377.out⟩, ⟨bk_ BK378.out⟩, ⟨bk_ BK379.out⟩, ⟨bk_ BK386.out⟩, ⟨bk_ BK387.out⟩, ⟨by repeat (first | (with_reducible first | exact HB.out | apply below_alloc | apply pw_below_drewN | apply below_drew1 | refine below_set ?_ GE377.out | refine below_set ?_ GE378.out | refine below_set ?_ GE379.out | refine below_set ?_ GE386.out | refine below_set ?_ GE387.out) | exact HB.out)⟩⟩
   ·rw [if_neg c35] at H
    have c35b0 : (t391 == 0) = false := beq_eq_false_iff_ne.mpr c35
    have c35b1 : (t391 != 0) = true := bne_iff_ne.mpr c35
    have H' := A_ H
    clear H
    go_wp2
    go_meet
    case rel => exact ⟨_, (false), sm_, H', ⟨by first | omega | exact Nat.le_refl _⟩, ⟨by (with_reducible repeat (first | apply Kd.R_alloc | apply Kd.R_drewN | apply Kd.R_drew)); exact Kd.R_mono HO382.out (fun _ hk => trivial)⟩, ⟨by (with_reducible repeat (first | apply Kd.V_alloc | apply Kd.V_drewN | apply Kd.V_drew)); exact Kd.V_mono HO385.out (fun _ hk => ⟨hk.1.1, ⟨hk.1.2.1, ⟨hk.1.2.2.1, ⟨hk.1.2.2.2.1, ⟨hk.1.2.2.2.2.1, hk.1.2.2.2.2.2⟩⟩⟩⟩⟩)⟩, ⟨bk_ BK377.out⟩, ⟨bk_ BK378.out⟩, ⟨bk_ BK379.out⟩, ⟨bk_ BK386.out⟩, ⟨bk_ BK387.out⟩, ⟨by repeat (first | (with_reducible first | exact HB.out | apply below_alloc | apply pw_below_drewN | apply below_drew1 | refine below_set ?_ GE377.out | refine below_set ?_ GE378.out | refine below_set ?_ GE379.out | refine below_set ?_ GE386.out | refine below_set ?_ GE387.out) | exact HB.out)⟩⟩
 case rest =>
  clear HC6
  try clear c1
  try clear c2
  try clear p2
  try clear c3
  try clear c4
  try clear c9
  try clear c10
  try clear c11
  try clear c13
  try clear c19
  try clear c20
  try clear c21
  try clear c22
  try clear c25
  try clear c26
  try clear c27
  try clear c34
  try clear c34b0
  try clear c35
  try clear c35b0
  try clear c35b1
  try clear c37
  try clear c38
  try clear c39
  try clear c40
  try clear hcz12_0
  try clear hcz14_0
  try clear hcz23_0
  try clear hcz28_0
  try clear hcz41_0
  try clear hfz12_0
  try clear hfz14_0
  try clear hfz23_0
  try clear hfz28_0
  try clear hfz41_0
  obtain ⟨kq, x29_5, rfl, HA, HJ5, HO_387000, HO_388000, BK377, BK378, BK379, BK386, BK387, HB⟩ := hcut
  cases kq with
  | zero => exact absurd HA.out (by simp [r3_Quotient.j0])
  | succ kj5 =>
   have H := HA.out
   clear HA
   simp only [r3_Quotient.j0] at H
   by_cases c43 : x29_5 = true
   ·subst c43
    have H1 : ((r1_Of.f kj5 1).bind fun t393 => ((r1_Add.f kj5 t380 t393).bind fun t396 => (some t396))) = some r := by rw [if_pos rfl] at H; exact H
    clear H;have H := H1;clear H1
    replace H := ob_ H
    obtain ⟨t393, A440, H⟩ := H
    replace H : ((r1_Add.f kj5 t380 t393).bind fun t396 => (some t396)) = some r := H
    have A44 := A_ A440;clear A440
    replace H := ob_ H
    obtain ⟨t396, A450, H⟩ := H
    replace H : (some t396) = some r := H
    have A45 := A_ A450;clear A450
    obtain rfl := Option.some.inj H
    try go_wp2
    replace HO_387000 := A_ (Kd.R_drew HO_387000.out)
    replace HO_388000 := A_ (Kd.V_drew HO_388000.out)
    replace BK377 := A_ (blk_drew BK377.out)
    replace BK378 := A_ (blk_drew BK378.out)
    replace BK379 := A_ (blk_drew BK379.out)
    replace BK386 := A_ (blk_drew BK386.out)
    replace BK387 := A_ (blk_drew BK387.out)
    replace HB := A_ (below_drew1 HB.out)
    refine start_ (n := 4) (S := fun w' => w'.cell? ⟨gb386, 0, none⟩ = some (.slice Ao18 t380.length co18)) (ds := []) #[false, false, false, false] (by kernel_rfl) rfl rfl (bc_ BK386.out 0) (fun hHeld => ?_)
    generalize wc.drew = w46 at HO_387000 HO_388000 BK377 BK378 BK379 BK386 BK387 HB hHeld ⊢
    refine tk1_ 0 (some 30) #[true, false, false, false] rfl rfl (by kernel_rfl) hHeld ?_
    refine one_ (i := 1) (N := some 31) #[true, true, false, false] rfl rfl (by kernel_rfl) (by decide) (fun K hK => ?_)
    refine goes_ Try.func34 (by kernel_rfl) rfl #[.int .u64 1] (by rfl) rfl rfl mp_ ?_
    with_reducible refine (r1_Of.calls kj5 1 t393 _ A44.out).mono ?_
    rintro e w47 ⟨v394, rfl, ho0, hb⟩
    refine ⟨_, rfl, ?_⟩
    have HO395 := A_ (Kd.R_lower (Kd.R_new' ho0 (Kd.R_lt (kr_ HO_387000.out))) (below_size (by repeat (first | (with_reducible first | exact HB.out | apply below_alloc | apply pw_below_drewN | apply below_drew1 | refine below_set ?_ GE377.out | refine below_set ?_ GE378.out | refine below_set ?_ GE379.out | refine below_set ?_ GE386.out | refine below_set ?_ GE387.out) | exact HB.out))))
    replace HO_387000 := A_ (Kd.R_elder' (kr_ HO_387000.out) (Kd.R_base ho0) hb)
    replace HO_388000 := A_ (Kd.V_elder' (kv_ HO_388000.out) (Kd.R_base ho0) hb)
    replace BK377 := A_ (bb_ BK377.out hb)
    replace BK378 := A_ (bb_ BK378.out hb)
    replace BK379 := A_ (bb_ BK379.out hb)
    replace BK386 := A_ (bb_ BK386.out hb)
    replace BK387 := A_ (bb_ BK387.out hb)
    replace HB := A_ (below_step (by repeat (first | (with_reducible first | exact HB.out | apply below_alloc | apply pw_below_drewN | apply below_drew1 | refine below_set ?_ GE377.out | refine below_set ?_ GE378.out | refine below_set ?_ GE379.out | refine below_set ?_ GE386.out | refine below_set ?_ GE387.out) | exact HB.out)) hb);(try clear hb);(try clear hb2);(try clear hk);(try clear hi);(try clear ho0)
    obtain ⟨Ao48, co48, eo48⟩ := Kd.R_slice HO395.out
    (first | subst eo48 | (injection eo48 with f1_ f2_ f3_; have f4_ := f1_.symm; have f5_ := f3_.symm; clear f1_ f2_ f3_; subst f4_; subst f5_))
    refine hK.out _ _ (bc_ BK386.out 0) (fun hHeld => ?_)
    clear hK K
    refine norm_ (a' := ?_) ?_ ?_
    rotate_left
    ·show Act.put _ (some 31) _ = _
     simp only [Act.put, lI_, l0_, lS_, i64_w, i32_w]
     rfl
    refine one_ (i := 2) (N := some 32) #[true, true, true, false] rfl rfl (by kernel_rfl) (by decide) (fun K hK => ?_)
    refine goes_ Try.func33 (by kernel_rfl) rfl #[.agg #[.slice Ao18 t380.length co18], .agg #[.slice Ao48 t393.length co48]] (by rfl) rfl rfl mp_ ?_
    with_reducible refine (r1_Add.calls kj5 _ _ t380 _ _ t393 t396 _ ?side1 ?side2 ?side3 ?side4 A45.out).mono ?_
    (case side1 => exact cs_ ((Kd.R_reads' HO_387000.out).2.2))
    (case side2 => exact (Kd.R_reads' HO_387000.out).2.1)
    (case side3 => exact cs_ ((Kd.R_reads' HO395.out).2.2))
    (case side4 => exact (Kd.R_reads' HO395.out).2.1)
    rintro e w49 ⟨v397, rfl, ho0, hb⟩
    refine ⟨_, rfl, ?_⟩
    have HO398 := A_ (Kd.R_lower (Kd.R_new' (Kd.R_new' ho0 (Kd.R_lt (kr_ HO_387000.out))) (Kd.R_lt (kr_ HO395.out))) (below_size (by repeat (first | (with_reducible first | exact HB.out | apply below_alloc | apply pw_below_drewN | apply below_drew1 | refine below_set ?_ GE377.out | refine below_set ?_ GE378.out | refine below_set ?_ GE379.out | refine below_set ?_ GE386.out | refine below_set ?_ GE387.out) | exact HB.out))))
    replace HO_387000 := A_ (Kd.R_elder' (kr_ HO_387000.out) (Kd.R_base ho0) hb)
    replace HO_388000 := A_ (Kd.V_elder' (kv_ HO_388000.out) (Kd.R_base ho0) hb)
    replace HO395 := A_ (Kd.R_elder' (kr_ HO395.out) (Kd.R_base ho0) hb)
    replace BK377 := A_ (bb_ BK377.out hb)
    replace BK378 := A_ (bb_ BK378.out hb)
    replace BK379 := A_ (bb_ BK379.out hb)
    replace BK386 := A_ (bb_ BK386.out hb)
    replace BK387 := A_ (bb_ BK387.out hb)
    replace HB := A_ (below_step (by repeat (first | (with_reducible first | exact HB.out | apply below_alloc | apply pw_below_drewN | apply below_drew1 | refine below_set ?_ GE377.out | refine below_set ?_ GE378.out | refine below_set ?_ GE379.out | refine below_set ?_ GE386.out | refine below_set ?_ GE387.out) | exact HB.out)) hb);(try clear hb);(try clear hb2);(try clear hk);(try clear hi);(try clear ho0)
    obtain ⟨Ao50, co50, eo50⟩ := Kd.R_slice HO398.out
    (first | subst eo50 | (injection eo50 with f1_ f2_ f3_; have f4_ := f1_.symm; have f5_ := f3_.symm; clear f1_ f2_ f3_; subst f4_; subst f5_))
    refine hK.out _ _ (bc_ BK386.out 0) (fun hHeld => ?_)
    clear hK K
    refine norm_ (a' := ?_) ?_ ?_
    rotate_left
    ·show Act.put _ (some 32) _ = _
     simp only [Act.put, lI_, l0_, lS_, i64_w, i32_w]
     rfl
    refine one_ (i := 3) (N := none) #[true, true, true, true] rfl rfl (by kernel_rfl) (by decide) (fun K hK => ?_)
    have hs51 : w49.cell? ⟨gb379, 0, none⟩ = some (.slice none 0 0) := bc_ BK379.out 0
    have hfs51 := blk_frozen BK379.out 0
    have hns51_0 := NB377_379.out
    have hns51_1 := NB378_379.out
    have hns51_3 := NB386_379.out
    have hns51_4 := NB387_379.out
    have hms51_0 := NB379_377.out
    have hms51_1 := NB379_378.out
    have hms51_3 := NB379_386.out
    have hms51_4 := NB379_387.out
    refine skip_ (w1 := ?_) (by rfl) rfl ?_ ?_
    rotate_left
    ·go_simp
     rfl
    refine hK.out _ _ (((cell_far (p := ⟨gb379, _, none⟩) NB386_379.out _).trans (hHeld))) (fun hHeld => ?_)
    clear hK K
    refine done_ (by kernel_rfl) ?_
    try go_wp2
    refine bodyPost_ret (results_cell_row rfl _ _ gb379 33 #[.slice Ao50 t396.length co50] (0, 0) _ rfl (by (with_reducible repeat (first | refine blk_drewN ?_ _ | refine blk_drew ?_ | refine blk_alloc ?_ _)); refine blk_put (cs := #[.slice none 0 0]) ?_ 0 _ rfl; (with_reducible repeat (first | refine blk_drewN ?_ _ | refine blk_drew ?_ | refine blk_alloc ?_ _)); exact BK379.out) Try.underlying33 rfl (by kernel_rfl)) rfl ?_
    exact ⟨_, by first | rfl | (simp [errW_none, errW_some] <;> rfl) | (simp [*, errW_none, errW_some] <;> rfl), by (with_reducible repeat (first | apply Kd.R_alloc | apply Kd.R_drewN | apply Kd.R_drew)); exact Kd.R_mono (Kd.R_far (p := ⟨gb379, 0, none⟩) (Kd.R_types HO398.out BK379.out (by decide)) (fun _ hk => hk.2) (.slice Ao50 t396.length co50)) (fun _ hk => trivial), by repeat (first | (with_reducible first | exact HB.out | apply below_alloc | apply pw_below_drewN | apply below_drew1 | refine below_set ?_ GE377.out | refine below_set ?_ GE378.out | refine below_set ?_ GE379.out | refine below_set ?_ GE386.out | refine below_set ?_ GE387.out) | exact HB.out)⟩
   ·replace c43 := Bool.eq_false_iff.mpr c43
    subst c43
    have H1 : (some t380) = some r := by rw [if_neg (show ¬ (false = true) by decide)] at H; exact H
    clear H;have H := H1;clear H1
    obtain rfl := Option.some.inj H
    have hnb52 := NB386_377.out
    have hnc52 := NB377_386.out
    have hnb53 := NB386_378.out
    have hnc53 := NB378_386.out
    have hnb54 := NB386_379.out
    have hnc54 := NB379_386.out
    have hnb55 := NB386_387.out
    have hnc55 := NB387_386.out
    have hcz56_0 := bv_ BK386.out 0
    have hfz56_0 := blk_frozen BK386.out 0
    have hnb57 := NB379_377.out
    have hnc57 := NB377_379.out
    have hnb58 := NB379_378.out
    have hnc58 := NB378_379.out
    have hnb59 := NB379_387.out
    have hnc59 := NB387_379.out
    have hcz60_0 := bv_ BK379.out 0
    have hfz60_0 := blk_frozen BK379.out 0
    go_wp2
    refine bodyPost_ret (results_cell_row rfl _ _ gb379 33 #[.slice Ao18 t380.length co18] (0, 0) _ rfl (by (with_reducible repeat (first | refine blk_drewN ?_ _ | refine blk_drew ?_ | refine blk_alloc ?_ _)); refine blk_put (cs := #[.slice none 0 0]) ?_ 0 _ rfl; (with_reducible repeat (first | refine blk_drewN ?_ _ | refine blk_drew ?_ | refine blk_alloc ?_ _)); exact BK379.out) Try.underlying33 rfl (by kernel_rfl)) rfl ?_
    exact ⟨_, by first | rfl | (simp [errW_none, errW_some] <;> rfl) | (simp [*, errW_none, errW_some] <;> rfl), by (with_reducible repeat (first | apply Kd.R_alloc | apply Kd.R_drewN | apply Kd.R_drew)); exact Kd.R_mono (Kd.R_far (p := ⟨gb379, 0, none⟩) (Kd.R_types HO_387000.out BK379.out (by decide)) (fun _ hk => hk.2) (.slice Ao18 t380.length co18)) (fun _ hk => trivial), by repeat (first | (with_reducible first | exact HB.out | apply below_alloc | apply pw_below_drewN | apply below_drew1 | refine below_set ?_ GE377.out | refine below_set ?_ GE378.out | refine below_set ?_ GE379.out | refine below_set ?_ GE386.out | refine below_set ?_ GE387.out) | exact HB.out)⟩
def r3_grain.f (k : Nat) (l0_0 : List Int) (l1_0 : List Int) (a2 : Int) : Option (List Int) := if a2 ≥ 0 then ((r1_Shl.f k l0_0 a2).bind fun t402 => ((r3_Quotient.f k t402 l1_0).bind fun t405 => (some t405))) else ((r1_Shl.f k l1_0 (wrap64 (-a2))).bind fun t408 => ((r3_Quotient.f k l0_0 t408).bind fun t411 => (some t411)))
theorem r3_grain.mono : ∀ a0 a1 a2 k, LeO (r3_grain.f k a0 a1 a2) (r3_grain.f (k + 1) a0 a1 a2) := by
 intro a0 a1 a2 k
 unfold r3_grain.f
 repeat' first
   | (with_reducible exact r1_Shl.mono _ _ _)
   | (with_reducible exact r3_Quotient.mono _ _ _)
   | (with_reducible exact LeO.refl _)
   | (with_reducible exact LeO.none _)
   | (with_reducible refine LeO.ite ?_ ?_)
   | (with_reducible refine LeO.bind ?_ (fun _ => ?_))
   | exact r1_Shl.mono _ _ _
   | exact r3_Quotient.mono _ _ _
   | exact LeO.none _
   | refine LeO.ite ?_ ?_
   | refine LeO.bind ?_ (fun _ => ?_)
theorem r3_grain.calls (k : Nat) (A0_0 : Option Addr) (c0_0 : Nat) (l0_0 : List Int) (A1_0 : Option Addr) (c1_0 : Nat) (l1_0 : List Int) (a2 : Int) (r : List Int) (w : World) (hr0_0 : Kd.C (Kd.int .u64) w A0_0 l0_0.length l0_0) (hc0_0 : l0_0.length ≤ c0_0) (hr1_0 : Kd.C (Kd.int .u64) w A1_0 l1_0.length l1_0) (hc1_0 : l1_0.length ≤ c1_0) (h : r3_grain.f k l0_0 l1_0 a2 = some r) :
  Calls Try.prog 83 #[.agg #[.slice A0_0 l0_0.length c0_0], .agg #[.slice A1_0 l1_0.length c1_0], .int .i64 a2] w fun e w' => ∃ v0_ : Value, e = .returned (.agg #[v0_]) ∧ Kd.R (Kd.int .u64) 22 w' w.heap.size (fun _ => True) v0_ r ∧ Below w.heap.size w w' := by
 have hu33 := Try.underlying33
 have HR0_0 := A_ hr0_0;have HC0_0 := A_ hc0_0;clear hr0_0 hc0_0;have HR1_0 := A_ hr1_0;have HC1_0 := A_ hc1_0;clear hr1_0 hc1_0
 have HB := A_ (Below.refl w.heap.size w)
 have H : (if a2 ≥ 0 then ((r1_Shl.f k l0_0 a2).bind fun t402 => ((r3_Quotient.f k t402 l1_0).bind fun t405 => (some t405))) else ((r1_Shl.f k l1_0 (wrap64 (-a2))).bind fun t408 => ((r3_Quotient.f k l0_0 t408).bind fun t411 => (some t411)))) = some r := h
 clear h
 by_cases c4 : a2 ≥ 0
 ·rw [if_pos c4] at H
  have c4b0 : decide (0 ≤ a2) = true := decide_eq_true c4
  clear c4
  replace H := ob_ H
  obtain ⟨t402, A50, H⟩ := H
  replace H : ((r3_Quotient.f k t402 l1_0).bind fun t405 => (some t405)) = some r := H
  have A5 := A_ A50;clear A50
  replace H := ob_ H
  obtain ⟨t405, A60, H⟩ := H
  replace H : (some t405) = some r := H
  have A6 := A_ A60;clear A60
  obtain rfl := Option.some.inj H
  go_enter Try.func83, Try.ntmps83
  try go_wp2_with (first | ((with_reducible refine gate_dst (N := 3) rfl ?_); refine be_ 3 #[.slice A0_0 l0_0.length c0_0] 33 ?_; intro gb399 hg w7 hbox hb; have BK399 := A_ (hbox); have GW399 := A_ (sz_ hg (hb_ HB.out)); have GE399 := A_ (sz_ hg (hb_ HB.out)); replace HB := A_ (below_step (hb_ HB.out) hb); clear hb hbox hg) | ((with_reducible refine gate_dst (N := 4) rfl ?_); refine be_ 4 #[.slice A1_0 l1_0.length c1_0] 33 ?_; intro gb400 hg w8 hbox hb; have BK400 := A_ (hbox); have GW400 := A_ (sz_ hg (hb1_ HB.out GE399.out)); have GE400 := A_ (sz_ hg (hb1_ HB.out GE399.out)); have NB399_400 := A_ (nl_ hg BK399.out); have NB400_399 := A_ (ng_ hg BK399.out); replace BK399 := A_ (bb_ BK399.out hb); replace HB := A_ (below_step (hb1_ HB.out GE399.out) hb); clear hb hbox hg) | ((with_reducible refine gate_dst (N := 6) rfl ?_); refine be_ 6 #[.slice none 0 0] 33 ?_; intro gb401 hg w9 hbox hb; have BK401 := A_ (hbox); have GW401 := A_ (sz_ hg (hb2_ HB.out GE399.out GE400.out)); have GE401 := A_ (sz_ hg (hb2_ HB.out GE399.out GE400.out)); have NB399_401 := A_ (nl_ hg BK399.out); have NB401_399 := A_ (ng_ hg BK399.out); have NB400_401 := A_ (nl_ hg BK400.out); have NB401_400 := A_ (ng_ hg BK400.out); replace BK399 := A_ (bb_ BK399.out hb); replace BK400 := A_ (bb_ BK400.out hb); replace HB := A_ (below_step (hb2_ HB.out GE399.out GE400.out) hb); clear hb hbox hg))
  replace BK399 := A_ (blk_drew BK399.out)
  replace BK400 := A_ (blk_drew BK400.out)
  replace BK401 := A_ (blk_drew BK401.out)
  replace HB := A_ (below_drew1 HB.out)
  refine start_ (n := 6) (S := fun w' => w'.cell? ⟨gb399, 0, none⟩ = some (.slice A0_0 l0_0.length c0_0) ∧ w'.cell? ⟨gb400, 0, none⟩ = some (.slice A1_0 l1_0.length c1_0)) (ds := []) #[false, false, false, false, false, false] (by kernel_rfl) rfl rfl ⟨bc_ BK399.out 0, bc_ BK400.out 0⟩ (fun hHeld => ?_)
  generalize w9.drew = w10 at BK399 BK400 BK401 HB hHeld ⊢
  refine pu_ 1 (some 10) #[false, true, false, false, false, false] rfl rfl (by kernel_rfl) ?_
  refine tk2_ 0 (some 9) #[true, true, false, false, false, false] rfl rfl (by kernel_rfl) hHeld ?_
  refine tk2_ 3 (some 12) #[true, true, false, true, false, false] rfl rfl (by kernel_rfl) hHeld ?_
  refine one_ (i := 2) (N := some 11) #[true, true, true, true, false, false] rfl rfl (by kernel_rfl) (by decide) (fun K hK => ?_)
  refine goes_ Try.func44 (by kernel_rfl) rfl #[.agg #[.slice A0_0 l0_0.length c0_0], .int .i64 a2] (by rfl) rfl rfl mp_ ?_
  with_reducible refine (r1_Shl.calls k _ _ l0_0 a2 t402 _ ?side1 ?side2 A5.out).mono ?_
  (case side1 => exact cs_ ((Kd.C_below HR0_0.out HB.out)))
  (case side2 => exact HC0_0.out)
  rintro e w11 ⟨v403, rfl, ho0, hb⟩
  refine ⟨_, rfl, ?_⟩
  have HO404 := A_ (Kd.R_lower ho0 (below_size (hb3_ HB.out GE399.out GE400.out GE401.out)))
  replace BK399 := A_ (bb_ BK399.out hb)
  replace BK400 := A_ (bb_ BK400.out hb)
  replace BK401 := A_ (bb_ BK401.out hb)
  replace HB := A_ (below_step (hb3_ HB.out GE399.out GE400.out GE401.out) hb);(try clear hb);(try clear hb2);(try clear hk);(try clear hi);(try clear ho0)
  obtain ⟨Ao12, co12, eo12⟩ := Kd.R_slice HO404.out
  (first | subst eo12 | (injection eo12 with f1_ f2_ f3_; have f4_ := f1_.symm; have f5_ := f3_.symm; clear f1_ f2_ f3_; subst f4_; subst f5_))
  refine hK.out _ _ ⟨bc_ BK399.out 0, bc_ BK400.out 0⟩ (fun hHeld => ?_)
  clear hK K
  refine norm_ (a' := ?_) ?_ ?_
  rotate_left
  ·show Act.put _ (some 11) _ = _
   simp only [Act.put, lI_, l0_, lS_, i64_w, i32_w]
   rfl
  refine one_ (i := 4) (N := some 13) #[true, true, true, true, true, false] rfl rfl (by kernel_rfl) (by decide) (fun K hK => ?_)
  refine goes_ Try.func96 (by kernel_rfl) rfl #[.agg #[.slice Ao12 t402.length co12], .agg #[.slice A1_0 l1_0.length c1_0]] (by rfl) rfl rfl mp_ ?_
  with_reducible refine (r3_Quotient.calls k _ _ t402 _ _ l1_0 t405 _ ?side1 ?side2 ?side3 ?side4 A6.out).mono ?_
  (case side1 => exact cs_ ((Kd.R_reads' HO404.out).2.2))
  (case side2 => exact (Kd.R_reads' HO404.out).2.1)
  (case side3 => exact cs_ ((Kd.C_below HR1_0.out HB.out)))
  (case side4 => exact HC1_0.out)
  rintro e w13 ⟨v406, rfl, ho0, hb⟩
  refine ⟨_, rfl, ?_⟩
  have HO407 := A_ (Kd.R_lower (Kd.R_new' ho0 (Kd.R_lt (kr_ HO404.out))) (below_size (hb3_ HB.out GE399.out GE400.out GE401.out)))
  replace HO404 := A_ (Kd.R_elder' (kr_ HO404.out) (Kd.R_base ho0) hb)
  replace BK399 := A_ (bb_ BK399.out hb)
  replace BK400 := A_ (bb_ BK400.out hb)
  replace BK401 := A_ (bb_ BK401.out hb)
  replace HB := A_ (below_step (hb3_ HB.out GE399.out GE400.out GE401.out) hb);(try clear hb);(try clear hb2);(try clear hk);(try clear hi);(try clear ho0)
  obtain ⟨Ao14, co14, eo14⟩ := Kd.R_slice HO407.out
  (first | subst eo14 | (injection eo14 with f1_ f2_ f3_; have f4_ := f1_.symm; have f5_ := f3_.symm; clear f1_ f2_ f3_; subst f4_; subst f5_))
  refine hK.out _ _ ⟨bc_ BK399.out 0, bc_ BK400.out 0⟩ (fun hHeld => ?_)
  clear hK K
  refine norm_ (a' := ?_) ?_ ?_
  rotate_left
  ·show Act.put _ (some 13) _ = _
   simp only [Act.put, lI_, l0_, lS_, i64_w, i32_w]
   rfl
  refine one_ (i := 5) (N := none) #[true, true, true, true, true, true] rfl rfl (by kernel_rfl) (by decide) (fun K hK => ?_)
  have hs15 : w13.cell? ⟨gb401, 0, none⟩ = some (.slice none 0 0) := bc_ BK401.out 0
  have hfs15 := blk_frozen BK401.out 0
  have hns15_0 := NB399_401.out
  have hns15_1 := NB400_401.out
  have hms15_0 := NB401_399.out
  have hms15_1 := NB401_400.out
  refine skip_ (w1 := ?_) (by rfl) rfl ?_ ?_
  rotate_left
  ·go_simp
   rfl
  refine hK.out _ _ ⟨((cell_far (p := ⟨gb401, _, none⟩) NB399_401.out _).trans (hHeld.1)), ((cell_far (p := ⟨gb401, _, none⟩) NB400_401.out _).trans (hHeld.2))⟩ (fun hHeld => ?_)
  clear hK K
  refine done_ (by kernel_rfl) ?_
  try go_wp2
  refine bodyPost_ret (results_cell_row rfl _ _ gb401 33 #[.slice Ao14 t405.length co14] (0, 0) _ rfl (by (with_reducible repeat (first | refine blk_drewN ?_ _ | refine blk_drew ?_ | refine blk_alloc ?_ _)); refine blk_put (cs := #[.slice none 0 0]) ?_ 0 _ rfl; (with_reducible repeat (first | refine blk_drewN ?_ _ | refine blk_drew ?_ | refine blk_alloc ?_ _)); exact BK401.out) Try.underlying33 rfl (by kernel_rfl)) rfl ?_
  exact ⟨_, by first | rfl | (simp [errW_none, errW_some] <;> rfl) | (simp [*, errW_none, errW_some] <;> rfl), by (with_reducible repeat (first | apply Kd.R_alloc | apply Kd.R_drewN | apply Kd.R_drew)); exact Kd.R_mono (Kd.R_far (p := ⟨gb401, 0, none⟩) (Kd.R_types HO407.out BK401.out (by decide)) (fun _ hk => hk.2) (.slice Ao14 t405.length co14)) (fun _ hk => trivial), hb3_ HB.out GE399.out GE400.out GE401.out⟩
 ·rw [if_neg c4] at H
  have c4b0 : decide (0 ≤ a2) = false := decide_eq_false c4
  clear c4
  replace H := ob_ H
  obtain ⟨t408, A160, H⟩ := H
  replace H : ((r3_Quotient.f k l0_0 t408).bind fun t411 => (some t411)) = some r := H
  have A16 := A_ A160;clear A160
  replace H := ob_ H
  obtain ⟨t411, A170, H⟩ := H
  replace H : (some t411) = some r := H
  have A17 := A_ A170;clear A170
  obtain rfl := Option.some.inj H
  go_enter Try.func83, Try.ntmps83
  try go_wp2_with (first | ((with_reducible refine gate_dst (N := 3) rfl ?_); refine be_ 3 #[.slice A0_0 l0_0.length c0_0] 33 ?_; intro gb399 hg w18 hbox hb; have BK399 := A_ (hbox); have GW399 := A_ (sz_ hg (hb_ HB.out)); have GE399 := A_ (sz_ hg (hb_ HB.out)); replace HB := A_ (below_step (hb_ HB.out) hb); clear hb hbox hg) | ((with_reducible refine gate_dst (N := 4) rfl ?_); refine be_ 4 #[.slice A1_0 l1_0.length c1_0] 33 ?_; intro gb400 hg w19 hbox hb; have BK400 := A_ (hbox); have GW400 := A_ (sz_ hg (hb1_ HB.out GE399.out)); have GE400 := A_ (sz_ hg (hb1_ HB.out GE399.out)); have NB399_400 := A_ (nl_ hg BK399.out); have NB400_399 := A_ (ng_ hg BK399.out); replace BK399 := A_ (bb_ BK399.out hb); replace HB := A_ (below_step (hb1_ HB.out GE399.out) hb); clear hb hbox hg) | ((with_reducible refine gate_dst (N := 6) rfl ?_); refine be_ 6 #[.slice none 0 0] 33 ?_; intro gb401 hg w20 hbox hb; have BK401 := A_ (hbox); have GW401 := A_ (sz_ hg (hb2_ HB.out GE399.out GE400.out)); have GE401 := A_ (sz_ hg (hb2_ HB.out GE399.out GE400.out)); have NB399_401 := A_ (nl_ hg BK399.out); have NB401_399 := A_ (ng_ hg BK399.out); have NB400_401 := A_ (nl_ hg BK400.out); have NB401_400 := A_ (ng_ hg BK400.out); replace BK399 := A_ (bb_ BK399.out hb); replace BK400 := A_ (bb_ BK400.out hb); replace HB := A_ (below_step (hb2_ HB.out GE399.out GE400.out) hb); clear hb hbox hg))
  replace BK399 := A_ (blk_drew BK399.out)
  replace BK400 := A_ (blk_drew BK400.out)
  replace BK401 := A_ (blk_drew BK401.out)
  replace HB := A_ (below_drew1 HB.out)
  refine start_ (n := 7) (S := fun w' => w'.cell? ⟨gb399, 0, none⟩ = some (.slice A0_0 l0_0.length c0_0) ∧ w'.cell? ⟨gb400, 0, none⟩ = some (.slice A1_0 l1_0.length c1_0)) (ds := []) #[false, false, false, false, false, false, false] (by kernel_rfl) rfl rfl ⟨bc_ BK399.out 0, bc_ BK400.out 0⟩ (fun hHeld => ?_)
  generalize w20.drew = w21 at BK399 BK400 BK401 HB hHeld ⊢
  refine pu_ 2 (some 16) #[false, false, true, false, false, false, false] rfl rfl (by kernel_rfl) ?_
  refine pu_ 3 (some 17) #[false, false, true, true, false, false, false] rfl rfl (by kernel_rfl) ?_
  refine tk2_ 0 (some 14) #[true, false, true, true, false, false, false] rfl rfl (by kernel_rfl) hHeld ?_
  refine tk2_ 1 (some 15) #[true, true, true, true, false, false, false] rfl rfl (by kernel_rfl) hHeld ?_
  refine one_ (i := 4) (N := some 18) #[true, true, true, true, true, false, false] rfl rfl (by kernel_rfl) (by decide) (fun K hK => ?_)
  refine goes_ Try.func44 (by kernel_rfl) rfl #[.agg #[.slice A1_0 l1_0.length c1_0], .int .i64 (wrap64 (-a2))] (by rfl) rfl rfl mp_ ?_
  with_reducible refine (r1_Shl.calls k _ _ l1_0 (wrap64 (-a2)) t408 _ ?side1 ?side2 A16.out).mono ?_
  (case side1 => exact cs_ ((Kd.C_below HR1_0.out HB.out)))
  (case side2 => exact HC1_0.out)
  rintro e w22 ⟨v409, rfl, ho0, hb⟩
  refine ⟨_, rfl, ?_⟩
  have HO410 := A_ (Kd.R_lower ho0 (below_size (hb3_ HB.out GE399.out GE400.out GE401.out)))
  replace BK399 := A_ (bb_ BK399.out hb)
  replace BK400 := A_ (bb_ BK400.out hb)
  replace BK401 := A_ (bb_ BK401.out hb)
  replace HB := A_ (below_step (hb3_ HB.out GE399.out GE400.out GE401.out) hb);(try clear hb);(try clear hb2);(try clear hk);(try clear hi);(try clear ho0)
  obtain ⟨Ao23, co23, eo23⟩ := Kd.R_slice HO410.out
  (first | subst eo23 | (injection eo23 with f1_ f2_ f3_; have f4_ := f1_.symm; have f5_ := f3_.symm; clear f1_ f2_ f3_; subst f4_; subst f5_))
  refine hK.out _ _ ⟨bc_ BK399.out 0, bc_ BK400.out 0⟩ (fun hHeld => ?_)
  clear hK K
  refine norm_ (a' := ?_) ?_ ?_
  rotate_left
  ·show Act.put _ (some 18) _ = _
   simp only [Act.put, lI_, l0_, lS_, i64_w, i32_w]
   rfl
  refine one_ (i := 5) (N := some 19) #[true, true, true, true, true, true, false] rfl rfl (by kernel_rfl) (by decide) (fun K hK => ?_)
  refine goes_ Try.func96 (by kernel_rfl) rfl #[.agg #[.slice A0_0 l0_0.length c0_0], .agg #[.slice Ao23 t408.length co23]] (by rfl) rfl rfl mp_ ?_
  with_reducible refine (r3_Quotient.calls k _ _ l0_0 _ _ t408 t411 _ ?side1 ?side2 ?side3 ?side4 A17.out).mono ?_
  (case side1 => exact cs_ ((Kd.C_below HR0_0.out HB.out)))
  (case side2 => exact HC0_0.out)
  (case side3 => exact cs_ ((Kd.R_reads' HO410.out).2.2))
  (case side4 => exact (Kd.R_reads' HO410.out).2.1)
  rintro e w24 ⟨v412, rfl, ho0, hb⟩
  refine ⟨_, rfl, ?_⟩
  have HO413 := A_ (Kd.R_lower (Kd.R_new' ho0 (Kd.R_lt (kr_ HO410.out))) (below_size (hb3_ HB.out GE399.out GE400.out GE401.out)))
  replace HO410 := A_ (Kd.R_elder' (kr_ HO410.out) (Kd.R_base ho0) hb)
  replace BK399 := A_ (bb_ BK399.out hb)
  replace BK400 := A_ (bb_ BK400.out hb)
  replace BK401 := A_ (bb_ BK401.out hb)
  replace HB := A_ (below_step (hb3_ HB.out GE399.out GE400.out GE401.out) hb);(try clear hb);(try clear hb2);(try clear hk);(try clear hi);(try clear ho0)
  obtain ⟨Ao25, co25, eo25⟩ := Kd.R_slice HO413.out
  (first | subst eo25 | (injection eo25 with f1_ f2_ f3_; have f4_ := f1_.symm; have f5_ := f3_.symm; clear f1_ f2_ f3_; subst f4_; subst f5_))
  refine hK.out _ _ ⟨bc_ BK399.out 0, bc_ BK400.out 0⟩ (fun hHeld => ?_)
  clear hK K
  refine norm_ (a' := ?_) ?_ ?_
  rotate_left
  ·show Act.put _ (some 19) _ = _
   simp only [Act.put, lI_, l0_, lS_, i64_w, i32_w]
   rfl
  refine one_ (i := 6) (N := none) #[true, true, true, true, true, true, true] rfl rfl (by kernel_rfl) (by decide) (fun K hK => ?_)
  have hs26 : w24.cell? ⟨gb401, 0, none⟩ = some (.slice none 0 0) := bc_ BK401.out 0
  have hfs26 := blk_frozen BK401.out 0
  have hns26_0 := NB399_401.out
  have hns26_1 := NB400_401.out
  have hms26_0 := NB401_399.out
  have hms26_1 := NB401_400.out
  refine skip_ (w1 := ?_) (by rfl) rfl ?_ ?_
  rotate_left
  ·go_simp
   rfl
  refine hK.out _ _ ⟨((cell_far (p := ⟨gb401, _, none⟩) NB399_401.out _).trans (hHeld.1)), ((cell_far (p := ⟨gb401, _, none⟩) NB400_401.out _).trans (hHeld.2))⟩ (fun hHeld => ?_)
  clear hK K
  refine done_ (by kernel_rfl) ?_
  try go_wp2
  refine bodyPost_ret (results_cell_row rfl _ _ gb401 33 #[.slice Ao25 t411.length co25] (0, 0) _ rfl (by (with_reducible repeat (first | refine blk_drewN ?_ _ | refine blk_drew ?_ | refine blk_alloc ?_ _)); refine blk_put (cs := #[.slice none 0 0]) ?_ 0 _ rfl; (with_reducible repeat (first | refine blk_drewN ?_ _ | refine blk_drew ?_ | refine blk_alloc ?_ _)); exact BK401.out) Try.underlying33 rfl (by kernel_rfl)) rfl ?_
  exact ⟨_, by first | rfl | (simp [errW_none, errW_some] <;> rfl) | (simp [*, errW_none, errW_some] <;> rfl), by (with_reducible repeat (first | apply Kd.R_alloc | apply Kd.R_drewN | apply Kd.R_drew)); exact Kd.R_mono (Kd.R_far (p := ⟨gb401, 0, none⟩) (Kd.R_types HO413.out BK401.out (by decide)) (fun _ hk => hk.2) (.slice Ao25 t411.length co25)) (fun _ hk => trivial), hb3_ HB.out GE399.out GE400.out GE401.out⟩
def r3_under.f (k : Nat) (l0_0 : List Int) (l1_0 : List Int) (a2 : Int) : Option (Bool) := if a2 ≥ 0 then ((r1_Shl.f k l0_0 a2).bind fun t369 => ((r1_Cmp.f k t369 l1_0).bind fun t372 => (some (decide (t372 < 0))))) else ((r1_Shl.f k l1_0 (wrap64 (-a2))).bind fun t373 => ((r1_Cmp.f k l0_0 t373).bind fun t376 => (some (decide (t376 < 0)))))
theorem r3_under.mono : ∀ a0 a1 a2 k, LeO (r3_under.f k a0 a1 a2) (r3_under.f (k + 1) a0 a1 a2) := by
 intro a0 a1 a2 k
 unfold r3_under.f
 repeat' first
   | (with_reducible exact r1_Cmp.mono _ _ _)
   | (with_reducible exact r1_Shl.mono _ _ _)
   | (with_reducible exact LeO.refl _)
   | (with_reducible exact LeO.none _)
   | (with_reducible refine LeO.ite ?_ ?_)
   | (with_reducible refine LeO.bind ?_ (fun _ => ?_))
   | exact r1_Cmp.mono _ _ _
   | exact r1_Shl.mono _ _ _
   | exact LeO.none _
   | refine LeO.ite ?_ ?_
   | refine LeO.bind ?_ (fun _ => ?_)
def r3_under.T3 : Bool × List (List Nat × List Nat) := (true, [([], []), ([], []), ([], []), ([2], [2]), ([1, 3], [1, 3]), ([0, 4, 4], [0, 4]), ([5], [5]), ([6, 5, 0, 1, 2, 3, 4, 5, 6], [6])])
def r3_under.B3 : List Nat := [0, 0, 0, 4, 14, 31, 63, 127]
theorem r3_under.tab3 : rtab .any (opsOf Try.f82 3) = r3_under.T3 := by kernel_rfl
theorem r3_under.bits3 : waitsOk r3_under.T3.2 r3_under.B3 = true := by kernel_rfl
theorem r3_under.calls (k : Nat) (A0_0 : Option Addr) (c0_0 : Nat) (l0_0 : List Int) (A1_0 : Option Addr) (c1_0 : Nat) (l1_0 : List Int) (a2 : Int) (r : Bool) (w : World) (hr0_0 : Kd.C (Kd.int .u64) w A0_0 l0_0.length l0_0) (hc0_0 : l0_0.length ≤ c0_0) (hr1_0 : Kd.C (Kd.int .u64) w A1_0 l1_0.length l1_0) (hc1_0 : l1_0.length ≤ c1_0) (h : r3_under.f k l0_0 l1_0 a2 = some r) :
  Calls Try.prog 82 #[.agg #[.slice A0_0 l0_0.length c0_0], .agg #[.slice A1_0 l1_0.length c1_0], .int .i64 a2] w fun e w' => e = .returned (.bool r) ∧ Below w.heap.size w w' := by
 have hu33 := Try.underlying33
 have HR0_0 := A_ hr0_0;have HC0_0 := A_ hc0_0;clear hr0_0 hc0_0;have HR1_0 := A_ hr1_0;have HC1_0 := A_ hc1_0;clear hr1_0 hc1_0
 have HB := A_ (Below.refl w.heap.size w)
 have H : (if a2 ≥ 0 then ((r1_Shl.f k l0_0 a2).bind fun t369 => ((r1_Cmp.f k t369 l1_0).bind fun t372 => (some (decide (t372 < 0))))) else ((r1_Shl.f k l1_0 (wrap64 (-a2))).bind fun t373 => ((r1_Cmp.f k l0_0 t373).bind fun t376 => (some (decide (t376 < 0)))))) = some r := h
 clear h
 by_cases c4 : a2 ≥ 0
 ·rw [if_pos c4] at H
  have c4b0 : decide (0 ≤ a2) = true := decide_eq_true c4
  clear c4
  replace H := ob_ H
  obtain ⟨t369, A50, H⟩ := H
  replace H : ((r1_Cmp.f k t369 l1_0).bind fun t372 => (some (decide (t372 < 0)))) = some r := H
  have A5 := A_ A50;clear A50
  replace H := ob_ H
  obtain ⟨t372, A60, H⟩ := H
  replace H : (some (decide (t372 < 0))) = some r := H
  have A6 := A_ A60;clear A60
  obtain rfl := Option.some.inj H
  go_enter Try.func82, Try.ntmps82
  try go_wp2_with (first | ((with_reducible refine gate_dst (N := 3) rfl ?_); refine be_ 3 #[.slice A0_0 l0_0.length c0_0] 33 ?_; intro gb367 hg w7 hbox hb; have BK367 := A_ (hbox); have GW367 := A_ (sz_ hg (hb_ HB.out)); have GE367 := A_ (sz_ hg (hb_ HB.out)); replace HB := A_ (below_step (hb_ HB.out) hb); clear hb hbox hg) | ((with_reducible refine gate_dst (N := 4) rfl ?_); refine be_ 4 #[.slice A1_0 l1_0.length c1_0] 33 ?_; intro gb368 hg w8 hbox hb; have BK368 := A_ (hbox); have GW368 := A_ (sz_ hg (hb1_ HB.out GE367.out)); have GE368 := A_ (sz_ hg (hb1_ HB.out GE367.out)); have NB367_368 := A_ (nl_ hg BK367.out); have NB368_367 := A_ (ng_ hg BK367.out); replace BK367 := A_ (bb_ BK367.out hb); replace HB := A_ (below_step (hb1_ HB.out GE367.out) hb); clear hb hbox hg))
  replace BK367 := A_ (blk_drew BK367.out)
  replace BK368 := A_ (blk_drew BK368.out)
  replace HB := A_ (below_drew1 HB.out)
  refine start_ (n := 7) (S := fun w' => w'.cell? ⟨gb367, 0, none⟩ = some (.slice A0_0 l0_0.length c0_0) ∧ w'.cell? ⟨gb368, 0, none⟩ = some (.slice A1_0 l1_0.length c1_0)) (ds := []) #[false, false, false, false, false, false, false] (by kernel_rfl) rfl rfl ⟨bc_ BK367.out 0, bc_ BK368.out 0⟩ (fun hHeld => ?_)
  generalize w8.drew = w9 at BK367 BK368 HB hHeld ⊢
  refine pu_ 1 (some 10) #[false, true, false, false, false, false, false] rfl rfl (by kernel_rfl) ?_
  refine tk2_ 0 (some 9) #[true, true, false, false, false, false, false] rfl rfl (by kernel_rfl) hHeld ?_
  refine tk2_ 3 (some 12) #[true, true, false, true, false, false, false] rfl rfl (by kernel_rfl) hHeld ?_
  refine one_ (i := 2) (N := some 11) #[true, true, true, true, false, false, false] rfl rfl (by kernel_rfl) (by decide) (fun K hK => ?_)
  refine goes_ Try.func44 (by kernel_rfl) rfl #[.agg #[.slice A0_0 l0_0.length c0_0], .int .i64 a2] (by rfl) rfl rfl mp_ ?_
  with_reducible refine (r1_Shl.calls k _ _ l0_0 a2 t369 _ ?side1 ?side2 A5.out).mono ?_
  (case side1 => exact cs_ ((Kd.C_below HR0_0.out HB.out)))
  (case side2 => exact HC0_0.out)
  rintro e w10 ⟨v370, rfl, ho0, hb⟩
  refine ⟨_, rfl, ?_⟩
  have HO371 := A_ (Kd.R_lower ho0 (below_size (hb2_ HB.out GE367.out GE368.out)))
  replace BK367 := A_ (bb_ BK367.out hb)
  replace BK368 := A_ (bb_ BK368.out hb)
  replace HB := A_ (below_step (hb2_ HB.out GE367.out GE368.out) hb);(try clear hb);(try clear hb2);(try clear hk);(try clear hi);(try clear ho0)
  obtain ⟨Ao11, co11, eo11⟩ := Kd.R_slice HO371.out
  (first | subst eo11 | (injection eo11 with f1_ f2_ f3_; have f4_ := f1_.symm; have f5_ := f3_.symm; clear f1_ f2_ f3_; subst f4_; subst f5_))
  refine hK.out _ _ ⟨bc_ BK367.out 0, bc_ BK368.out 0⟩ (fun hHeld => ?_)
  clear hK K
  refine norm_ (a' := ?_) ?_ ?_
  rotate_left
  ·show Act.put _ (some 11) _ = _
   simp only [Act.put, lI_, l0_, lS_, i64_w, i32_w]
   rfl
  refine one_ (i := 4) (N := some 13) #[true, true, true, true, true, false, false] rfl rfl (by kernel_rfl) (by decide) (fun K hK => ?_)
  refine goes_ Try.func46 (by kernel_rfl) rfl #[.agg #[.slice Ao11 t369.length co11], .agg #[.slice A1_0 l1_0.length c1_0]] (by rfl) rfl rfl mp_ ?_
  with_reducible refine (r1_Cmp.calls k _ _ t369 _ _ l1_0 t372 _ ?side1 ?side2 ?side3 ?side4 A6.out).mono ?_
  (case side1 => exact cs_ ((Kd.R_reads' HO371.out).2.2))
  (case side2 => exact (Kd.R_reads' HO371.out).2.1)
  (case side3 => exact cs_ ((Kd.C_below HR1_0.out HB.out)))
  (case side4 => exact HC1_0.out)
  rintro e w12 ⟨rfl, hb⟩
  refine ⟨_, rfl, ?_⟩
  replace HO371 := A_ (Kd.R_below (kr_ HO371.out) hb)
  replace BK367 := A_ (bb_ BK367.out hb)
  replace BK368 := A_ (bb_ BK368.out hb)
  replace HB := A_ (below_step (hb2_ HB.out GE367.out GE368.out) hb);(try clear hb);(try clear hb2);(try clear hk);(try clear hi)
  refine hK.out _ _ ⟨bc_ BK367.out 0, bc_ BK368.out 0⟩ (fun hHeld => ?_)
  clear hK K
  refine norm_ (a' := ?_) ?_ ?_
  rotate_left
  ·show Act.put _ (some 13) _ = _
   simp only [Act.put, lI_, l0_, lS_, i64_w, i32_w]
   rfl
  refine pu_ 5 (some 14) #[true, true, true, true, true, true, false] rfl rfl (by kernel_rfl) ?_
  refine pu_ 6 (some 6) #[true, true, true, true, true, true, true] rfl rfl (by kernel_rfl) ?_
  refine done_ (by kernel_rfl) ?_
  try go_wp2
  go_ret
  exact ⟨er_, hb2_ HB.out GE367.out GE368.out⟩
 ·rw [if_neg c4] at H
  have c4b0 : decide (0 ≤ a2) = false := decide_eq_false c4
  clear c4
  replace H := ob_ H
  obtain ⟨t373, A130, H⟩ := H
  replace H : ((r1_Cmp.f k l0_0 t373).bind fun t376 => (some (decide (t376 < 0)))) = some r := H
  have A13 := A_ A130;clear A130
  replace H := ob_ H
  obtain ⟨t376, A140, H⟩ := H
  replace H : (some (decide (t376 < 0))) = some r := H
  have A14 := A_ A140;clear A140
  obtain rfl := Option.some.inj H
  go_enter Try.func82, Try.ntmps82
  try go_wp2_with (first | ((with_reducible refine gate_dst (N := 3) rfl ?_); refine be_ 3 #[.slice A0_0 l0_0.length c0_0] 33 ?_; intro gb367 hg w15 hbox hb; have BK367 := A_ (hbox); have GW367 := A_ (sz_ hg (hb_ HB.out)); have GE367 := A_ (sz_ hg (hb_ HB.out)); replace HB := A_ (below_step (hb_ HB.out) hb); clear hb hbox hg) | ((with_reducible refine gate_dst (N := 4) rfl ?_); refine be_ 4 #[.slice A1_0 l1_0.length c1_0] 33 ?_; intro gb368 hg w16 hbox hb; have BK368 := A_ (hbox); have GW368 := A_ (sz_ hg (hb1_ HB.out GE367.out)); have GE368 := A_ (sz_ hg (hb1_ HB.out GE367.out)); have NB367_368 := A_ (nl_ hg BK367.out); have NB368_367 := A_ (ng_ hg BK367.out); replace BK367 := A_ (bb_ BK367.out hb); replace HB := A_ (below_step (hb1_ HB.out GE367.out) hb); clear hb hbox hg))
  replace BK367 := A_ (blk_drew BK367.out)
  replace BK368 := A_ (blk_drew BK368.out)
  replace HB := A_ (below_drew1 HB.out)
  refine start_ (n := 8) (S := fun w' => w'.cell? ⟨gb367, 0, none⟩ = some (.slice A0_0 l0_0.length c0_0) ∧ w'.cell? ⟨gb368, 0, none⟩ = some (.slice A1_0 l1_0.length c1_0)) (ds := []) #[false, false, false, false, false, false, false, false] (by kernel_rfl) rfl rfl ⟨bc_ BK367.out 0, bc_ BK368.out 0⟩ (fun hHeld => ?_); refine with_tabW r3_under.tab3 r3_under.bits3 (fun HT_ HW_ => ?_)
  generalize w16.drew = w17 at BK367 BK368 HB hHeld ⊢
  refine pu_ 2 (some 17) #[false, false, true, false, false, false, false, false] rfl rfl (any_of HT_.out (by kernel_rfl)) ?_
  refine pu_ 3 (some 18) #[false, false, true, true, false, false, false, false] rfl rfl (any_of HT_.out (by kernel_rfl)) ?_
  refine tk2_ 0 (some 15) #[true, false, true, true, false, false, false, false] rfl rfl (take_ofW HT_.out HW_.out (by kernel_rfl)) hHeld ?_
  refine tk2_ 1 (some 16) #[true, true, true, true, false, false, false, false] rfl rfl (take_ofW HT_.out HW_.out (by kernel_rfl)) hHeld ?_
  refine one_ (i := 4) (N := some 19) #[true, true, true, true, true, false, false, false] rfl rfl (one_of HT_.out (by kernel_rfl)) (by decide) (fun K hK => ?_)
  refine goes_ Try.func44 (by kernel_rfl) rfl #[.agg #[.slice A1_0 l1_0.length c1_0], .int .i64 (wrap64 (-a2))] (by rfl) rfl rfl mp_ ?_
  with_reducible refine (r1_Shl.calls k _ _ l1_0 (wrap64 (-a2)) t373 _ ?side1 ?side2 A13.out).mono ?_
  (case side1 => exact cs_ ((Kd.C_below HR1_0.out HB.out)))
  (case side2 => exact HC1_0.out)
  rintro e w18 ⟨v374, rfl, ho0, hb⟩
  refine ⟨_, rfl, ?_⟩
  have HO375 := A_ (Kd.R_lower ho0 (below_size (hb2_ HB.out GE367.out GE368.out)))
  replace BK367 := A_ (bb_ BK367.out hb)
  replace BK368 := A_ (bb_ BK368.out hb)
  replace HB := A_ (below_step (hb2_ HB.out GE367.out GE368.out) hb);(try clear hb);(try clear hb2);(try clear hk);(try clear hi);(try clear ho0)
  obtain ⟨Ao19, co19, eo19⟩ := Kd.R_slice HO375.out
  (first | subst eo19 | (injection eo19 with f1_ f2_ f3_; have f4_ := f1_.symm; have f5_ := f3_.symm; clear f1_ f2_ f3_; subst f4_; subst f5_))
  refine hK.out _ _ ⟨bc_ BK367.out 0, bc_ BK368.out 0⟩ (fun hHeld => ?_)
  clear hK K
  refine norm_ (a' := ?_) ?_ ?_
  rotate_left
  ·show Act.put _ (some 19) _ = _
   simp only [Act.put, lI_, l0_, lS_, i64_w, i32_w]
   rfl
  refine one_ (i := 5) (N := some 20) #[true, true, true, true, true, true, false, false] rfl rfl (one_of HT_.out (by kernel_rfl)) (by decide) (fun K hK => ?_)
  refine goes_ Try.func46 (by kernel_rfl) rfl #[.agg #[.slice A0_0 l0_0.length c0_0], .agg #[.slice Ao19 t373.length co19]] (by rfl) rfl rfl mp_ ?_
  with_reducible refine (r1_Cmp.calls k _ _ l0_0 _ _ t373 t376 _ ?side1 ?side2 ?side3 ?side4 A14.out).mono ?_
  (case side1 => exact cs_ ((Kd.C_below HR0_0.out HB.out)))
  (case side2 => exact HC0_0.out)
  (case side3 => exact cs_ ((Kd.R_reads' HO375.out).2.2))
  (case side4 => exact (Kd.R_reads' HO375.out).2.1)
  rintro e w20 ⟨rfl, hb⟩
  refine ⟨_, rfl, ?_⟩
  replace HO375 := A_ (Kd.R_below (kr_ HO375.out) hb)
  replace BK367 := A_ (bb_ BK367.out hb)
  replace BK368 := A_ (bb_ BK368.out hb)
  replace HB := A_ (below_step (hb2_ HB.out GE367.out GE368.out) hb);(try clear hb);(try clear hb2);(try clear hk);(try clear hi)
  refine hK.out _ _ ⟨bc_ BK367.out 0, bc_ BK368.out 0⟩ (fun hHeld => ?_)
  clear hK K
  refine norm_ (a' := ?_) ?_ ?_
  rotate_left
  ·show Act.put _ (some 20) _ = _
   simp only [Act.put, lI_, l0_, lS_, i64_w, i32_w]
   rfl
  refine pu_ 6 (some 21) #[true, true, true, true, true, true, true, false] rfl rfl (any_of HT_.out (by kernel_rfl)) ?_
  refine pu_ 7 (some 6) #[true, true, true, true, true, true, true, true] rfl rfl (any_of HT_.out (by kernel_rfl)) ?_
  refine done_ (done_of HT_.out (by kernel_rfl)) ?_
  try go_wp2
  go_ret
  exact ⟨er_, hb2_ HB.out GE367.out GE368.out⟩
end Go.Proofs.Ythdeeoallfbjmaa.PA
