/- What the Go functions that the statement IntsCounts reaches compute, and the mathematics on it, in the order in which one leans on the other; for every input. -/
import Derived.Test.YthdeeoallfbjmaaDoorVIntsCounts0
import Derived.Test.YthdeeoallfbjmaaDoorMIntsCounts0
import Derived.Test.YthdeeoallfbjmaaDoorMIntsCounts1
import Derived.Laws.BitsAllLaws
namespace Go.Proofs.YthdeeoallfbjmaaDoor.PA
open Go.RowKit Go.Proofs.YthdeeoallfbjmaaDoorW.PrintWords Go.Proofs.YthdeeoallfbjmaaDoorW.PrintLast Go.Proofs.YthdeeoallfbjmaaDoorW.PrintMore
attribute [local go_sem] max2_int min2_int max_two min_two max_three min_three max_four min_four   -- for this text's walks alone
set_option linter.unusedVariables false
set_option linter.unusedSimpArgs false
set_option maxHeartbeats 8000000
set_option maxRecDepth 100000
def L13_IntsCounts.f (k : Nat) (a0 : Int) (a1 : Int) (a2_0 : Int) (a2_1 : Int) : Option (Bool) := (L13_awake.f).bind fun t181 => (if t181 = true then ((ints_Clz.f a0 a1).bind fun t182 => ((ints_Ctz.f a0 a1).bind fun t183 => ((ints_Popcnt.f a0 a1).bind fun t184 => ((ints_LtS.f a0 a1 a2_0).bind fun t185 => ((ints_LtU.f a0 a1 a2_0).bind fun t186 => ((ints_Extend.f k a0 a2_1 a1 true).bind fun t187 => ((ints_Extend.f k a0 a2_1 a1 false).bind fun t188 => ((r2_Known.f a0).bind fun t189 => (if t189 = true then ((trunnionref13_Run.f k a0 a1 true).bind fun t190 => (if t182 = t190 then ((trunnionref13_Run.f k a0 a1 false).bind fun t191 => (if t183 = t191 then ((trunnionref13_Count.f k a0 a1).bind fun t192 => (if t184 = t192 then ((trunnionref13_LtS.f k a0 a1 a2_0).bind fun t193 => (if (t185 == t193) = true then ((r2_Cut.f a0 a1).bind fun t194 => ((r2_Cut.f a0 a2_0).bind fun t195 => (if (t186 == (decide (t194 < t195))) = true then ((trunnionref13_Extend.f k a0 a2_1 a1 true).bind fun t196 => (if t187 = t196 then ((trunnionref13_Extend.f k a0 a2_1 a1 false).bind fun t197 => (some (t188 == t197))) else (some false))) else (some false)))) else (some false))) else (some false))) else (some false))) else (some false))) else (if (IntKind.u64.wrap ((IntKind.u64.wrap ((IntKind.u64.wrap ((IntKind.u64.wrap (t182 + t183)) + t184)) + t187)) + t188)) = 0 then (if t185 = true then (some false) else (some (!t186))) else (some false))))))))))) else (some false))
theorem L13_IntsCounts.mono : ∀ a0 a1 a2 a3 k, LeO (L13_IntsCounts.f k a0 a1 a2 a3) (L13_IntsCounts.f (k + 1) a0 a1 a2 a3) := by
 intro a0 a1 a2 a3 k
 unfold L13_IntsCounts.f
 repeat' first
   | (with_reducible exact ints_Extend.mono _ _ _ _ _)
   | (with_reducible exact trunnionref13_Count.mono _ _ _)
   | (with_reducible exact trunnionref13_Extend.mono _ _ _ _ _)
   | (with_reducible exact trunnionref13_LtS.mono _ _ _ _)
   | (with_reducible exact trunnionref13_Run.mono _ _ _ _)
   | (with_reducible exact LeO.refl _)
   | (with_reducible exact LeO.none _)
   | (with_reducible refine LeO.ite ?_ ?_)
   | (with_reducible refine LeO.bind ?_ (fun _ => ?_))
   | exact ints_Extend.mono _ _ _ _ _
   | exact trunnionref13_Count.mono _ _ _
   | exact trunnionref13_Extend.mono _ _ _ _ _
   | exact trunnionref13_LtS.mono _ _ _ _
   | exact trunnionref13_Run.mono _ _ _ _
   | exact LeO.none _
   | refine LeO.ite ?_ ?_
   | refine LeO.bind ?_ (fun _ => ?_)
def L13_IntsCounts.T4 : Bool × List (List Nat × List Nat) := (true, [([], []), ([], []), ([], []), ([2], [2]), ([0, 1, 3], [0, 1, 3]), ([], []), ([], []), ([], []), ([7], [7]), ([5, 6, 8, 4], [5, 6, 8]), ([4, 9, 0, 1, 2, 3, 4], [4]), ([9, 10, 0, 1, 2, 3, 4, 5, 6, 7, 8, 9, 10], [9])])
def L13_IntsCounts.B4 : List Nat := [0, 0, 0, 4, 15, 0, 0, 0, 128, 511, 1023, 2047]
theorem L13_IntsCounts.tab4 : rtab .any (opsOf Tryd.f4 4) = L13_IntsCounts.T4 := by kernel_rfl
theorem L13_IntsCounts.bits4 : waitsOk L13_IntsCounts.T4.2 L13_IntsCounts.B4 = true := by kernel_rfl
def L13_IntsCounts.T5 : Bool × List (List Nat × List Nat) := (true, [([], []), ([], []), ([1], [1]), ([], []), ([0, 2, 3], [0, 2, 3]), ([], []), ([], []), ([6], [6]), ([], []), ([5, 7, 8, 4], [5, 7, 8]), ([4, 9, 0, 1, 2, 3, 4], [4]), ([9, 10, 0, 1, 2, 3, 4, 5, 6, 7, 8, 9, 10], [9])])
def L13_IntsCounts.B5 : List Nat := [0, 0, 2, 0, 15, 0, 0, 64, 0, 511, 1023, 2047]
theorem L13_IntsCounts.tab5 : rtab .any (opsOf Tryd.f4 5) = L13_IntsCounts.T5 := by kernel_rfl
theorem L13_IntsCounts.bits5 : waitsOk L13_IntsCounts.T5.2 L13_IntsCounts.B5 = true := by kernel_rfl
def L13_IntsCounts.T8 : Bool × List (List Nat × List Nat) := (true, [([], []), ([], []), ([], []), ([1, 2], [1, 2]), ([0, 3], [0, 3]), ([4, 3], [4]), ([5], [5]), ([5], [5]), ([5], [5]), ([7, 8, 5, 5], [5, 7, 8]), ([6, 9, 5], [5, 6, 9]), ([5, 10], [5, 10]), ([11, 9], [11]), ([12], [12]), ([12], [12]), ([12], [12]), ([14, 15, 12, 12], [12, 14, 15]), ([13, 16, 12], [12, 13, 16]), ([12, 17], [12, 17]), ([18, 16], [18]), ([19], [19]), ([19], [19]), ([19], [19]), ([19], [19]), ([23, 19], [19, 23]), ([21, 22, 24, 19, 19], [19, 21, 22, 24]), ([20, 25, 19], [19, 20, 25]), ([19, 26], [19, 26]), ([27, 25], [27]), ([28], [28]), ([28], [28]), ([28], [28]), ([30, 31, 28, 28], [28, 30, 31]), ([28], [28]), ([28], [28]), ([34, 28], [28, 34]), ([33, 35, 32, 28], [28, 33, 35]), ([32, 36, 28], [28, 32, 36]), ([29, 37, 28], [28, 29, 37]), ([28, 38], [28, 38]), ([39, 36], [39]), ([40], [40]), ([40], [40]), ([40], [40]), ([43, 40], [40, 43]), ([40], [40]), ([42, 44, 45, 40, 40], [40, 42, 44, 45]), ([41, 46, 40], [40, 41, 46]), ([40, 47], [40, 47]), ([48, 46], [48]), ([49], [49]), ([49], [49]), ([49], [49]), ([52, 49], [49, 52]), ([49], [49]), ([51, 53, 54, 49, 49], [49, 51, 53, 54]), ([50, 55, 49], [49, 50, 55]), ([49, 56], [49, 56]), ([57, 55, 0, 1, 2, 3, 4, 5, 6, 7, 8, 9, 10, 11, 12, 13, 14, 15, 16, 17, 18, 19, 20, 21, 22, 23, 24, 25, 26, 27, 28, 29, 30, 31, 32, 33, 34, 35, 36, 37, 38, 39, 40, 41, 42, 43, 44, 45, 46, 47, 48, 49, 50, 51, 52, 53, 54, 55, 56, 57], [57])])
def L13_IntsCounts.B8 : List Nat := [0, 0, 0, 6, 15, 31, 63, 63, 63, 447, 1023, 2047, 4095, 8191, 8191, 8191, 57343, 131071, 262143, 524287, 1048575, 1048575, 1048575, 1048575, 9437183, 32505855, 67108863, 134217727, 268435455, 536870911, 536870911, 536870911, 3758096383, 536870911, 536870911, 17716740095, 68182605823, 136902082559, 274877906943, 549755813887, 1099511627775, 2199023255551, 2199023255551, 2199023255551, 10995116277759, 2199023255551, 68169720922111, 140737488355327, 281474976710655, 562949953421311, 1125899906842623, 1125899906842623, 1125899906842623, 5629499534213119, 1125899906842623, 34902897112121343, 72057594037927935, 144115188075855871, 288230376151711743]
theorem L13_IntsCounts.tab8 : rtab .any (opsOf Tryd.f4 8) = L13_IntsCounts.T8 := by kernel_rfl
theorem L13_IntsCounts.bits8 : waitsOk L13_IntsCounts.T8.2 L13_IntsCounts.B8 = true := by kernel_rfl
theorem L13_IntsCounts.calls (k : Nat) (a0 : Int) (a1 : Int) (a2_0 : Int) (a2_1 : Int) (r : Bool) (w : World) (h : L13_IntsCounts.f k a0 a1 a2_0 a2_1 = some r) (hr_ : Aside0 (r = true)) (T_ : Aside0 (TT w)) :
  Calls Tryd.prog 4 #[.int .i64 a0, .int .u64 a1, .agg #[.int .u64 a2_0, .int .i64 a2_1]] w fun e w' => e = .returned (.bool r) ∧ Below w.heap.size w w' := by
 have hu28 := Tryd.underlying28
 have HB := A_ (Below.refl w.heap.size w)
 have H : ((L13_awake.f).bind fun t181 => (if t181 = true then ((ints_Clz.f a0 a1).bind fun t182 => ((ints_Ctz.f a0 a1).bind fun t183 => ((ints_Popcnt.f a0 a1).bind fun t184 => ((ints_LtS.f a0 a1 a2_0).bind fun t185 => ((ints_LtU.f a0 a1 a2_0).bind fun t186 => ((ints_Extend.f k a0 a2_1 a1 true).bind fun t187 => ((ints_Extend.f k a0 a2_1 a1 false).bind fun t188 => ((r2_Known.f a0).bind fun t189 => (if t189 = true then ((trunnionref13_Run.f k a0 a1 true).bind fun t190 => (if t182 = t190 then ((trunnionref13_Run.f k a0 a1 false).bind fun t191 => (if t183 = t191 then ((trunnionref13_Count.f k a0 a1).bind fun t192 => (if t184 = t192 then ((trunnionref13_LtS.f k a0 a1 a2_0).bind fun t193 => (if (t185 == t193) = true then ((r2_Cut.f a0 a1).bind fun t194 => ((r2_Cut.f a0 a2_0).bind fun t195 => (if (t186 == (decide (t194 < t195))) = true then ((trunnionref13_Extend.f k a0 a2_1 a1 true).bind fun t196 => (if t187 = t196 then ((trunnionref13_Extend.f k a0 a2_1 a1 false).bind fun t197 => (some (t188 == t197))) else (some false))) else (some false)))) else (some false))) else (some false))) else (some false))) else (some false))) else (if (IntKind.u64.wrap ((IntKind.u64.wrap ((IntKind.u64.wrap ((IntKind.u64.wrap (t182 + t183)) + t184)) + t187)) + t188)) = 0 then (if t185 = true then (some false) else (some (!t186))) else (some false))))))))))) else (some false))) = some r := h
 clear h
 replace H := ob_ H
 obtain ⟨t181, A40, H⟩ := H
 replace H : (if t181 = true then ((ints_Clz.f a0 a1).bind fun t182 => ((ints_Ctz.f a0 a1).bind fun t183 => ((ints_Popcnt.f a0 a1).bind fun t184 => ((ints_LtS.f a0 a1 a2_0).bind fun t185 => ((ints_LtU.f a0 a1 a2_0).bind fun t186 => ((ints_Extend.f k a0 a2_1 a1 true).bind fun t187 => ((ints_Extend.f k a0 a2_1 a1 false).bind fun t188 => ((r2_Known.f a0).bind fun t189 => (if t189 = true then ((trunnionref13_Run.f k a0 a1 true).bind fun t190 => (if t182 = t190 then ((trunnionref13_Run.f k a0 a1 false).bind fun t191 => (if t183 = t191 then ((trunnionref13_Count.f k a0 a1).bind fun t192 => (if t184 = t192 then ((trunnionref13_LtS.f k a0 a1 a2_0).bind fun t193 => (if (t185 == t193) = true then ((r2_Cut.f a0 a1).bind fun t194 => ((r2_Cut.f a0 a2_0).bind fun t195 => (if (t186 == (decide (t194 < t195))) = true then ((trunnionref13_Extend.f k a0 a2_1 a1 true).bind fun t196 => (if t187 = t196 then ((trunnionref13_Extend.f k a0 a2_1 a1 false).bind fun t197 => (some (t188 == t197))) else (some false))) else (some false)))) else (some false))) else (some false))) else (some false))) else (some false))) else (if (IntKind.u64.wrap ((IntKind.u64.wrap ((IntKind.u64.wrap ((IntKind.u64.wrap (t182 + t183)) + t184)) + t187)) + t188)) = 0 then (if t185 = true then (some false) else (some (!t186))) else (some false))))))))))) else (some false)) = some r := H
 have A4 := A_ A40;clear A40
 by_cases c5 : t181 = true
 ·subst c5
  have H1 : ((ints_Clz.f a0 a1).bind fun t182 => ((ints_Ctz.f a0 a1).bind fun t183 => ((ints_Popcnt.f a0 a1).bind fun t184 => ((ints_LtS.f a0 a1 a2_0).bind fun t185 => ((ints_LtU.f a0 a1 a2_0).bind fun t186 => ((ints_Extend.f k a0 a2_1 a1 true).bind fun t187 => ((ints_Extend.f k a0 a2_1 a1 false).bind fun t188 => ((r2_Known.f a0).bind fun t189 => (if t189 = true then ((trunnionref13_Run.f k a0 a1 true).bind fun t190 => (if t182 = t190 then ((trunnionref13_Run.f k a0 a1 false).bind fun t191 => (if t183 = t191 then ((trunnionref13_Count.f k a0 a1).bind fun t192 => (if t184 = t192 then ((trunnionref13_LtS.f k a0 a1 a2_0).bind fun t193 => (if (t185 == t193) = true then ((r2_Cut.f a0 a1).bind fun t194 => ((r2_Cut.f a0 a2_0).bind fun t195 => (if (t186 == (decide (t194 < t195))) = true then ((trunnionref13_Extend.f k a0 a2_1 a1 true).bind fun t196 => (if t187 = t196 then ((trunnionref13_Extend.f k a0 a2_1 a1 false).bind fun t197 => (some (t188 == t197))) else (some false))) else (some false)))) else (some false))) else (some false))) else (some false))) else (some false))) else (if (IntKind.u64.wrap ((IntKind.u64.wrap ((IntKind.u64.wrap ((IntKind.u64.wrap (t182 + t183)) + t184)) + t187)) + t188)) = 0 then (if t185 = true then (some false) else (some (!t186))) else (some false))))))))))) = some r := by rw [if_pos rfl] at H; exact H
  clear H;have H := H1;clear H1
  replace H := ob_ H
  obtain ⟨t182, A60, H⟩ := H
  replace H : ((ints_Ctz.f a0 a1).bind fun t183 => ((ints_Popcnt.f a0 a1).bind fun t184 => ((ints_LtS.f a0 a1 a2_0).bind fun t185 => ((ints_LtU.f a0 a1 a2_0).bind fun t186 => ((ints_Extend.f k a0 a2_1 a1 true).bind fun t187 => ((ints_Extend.f k a0 a2_1 a1 false).bind fun t188 => ((r2_Known.f a0).bind fun t189 => (if t189 = true then ((trunnionref13_Run.f k a0 a1 true).bind fun t190 => (if t182 = t190 then ((trunnionref13_Run.f k a0 a1 false).bind fun t191 => (if t183 = t191 then ((trunnionref13_Count.f k a0 a1).bind fun t192 => (if t184 = t192 then ((trunnionref13_LtS.f k a0 a1 a2_0).bind fun t193 => (if (t185 == t193) = true then ((r2_Cut.f a0 a1).bind fun t194 => ((r2_Cut.f a0 a2_0).bind fun t195 => (if (t186 == (decide (t194 < t195))) = true then ((trunnionref13_Extend.f k a0 a2_1 a1 true).bind fun t196 => (if t187 = t196 then ((trunnionref13_Extend.f k a0 a2_1 a1 false).bind fun t197 => (some (t188 == t197))) else (some false))) else (some false)))) else (some false))) else (some false))) else (some false))) else (some false))) else (if (IntKind.u64.wrap ((IntKind.u64.wrap ((IntKind.u64.wrap ((IntKind.u64.wrap (t182 + t183)) + t184)) + t187)) + t188)) = 0 then (if t185 = true then (some false) else (some (!t186))) else (some false)))))))))) = some r := H
  have A6 := A_ A60;clear A60
  replace H := ob_ H
  obtain ⟨t183, A70, H⟩ := H
  replace H : ((ints_Popcnt.f a0 a1).bind fun t184 => ((ints_LtS.f a0 a1 a2_0).bind fun t185 => ((ints_LtU.f a0 a1 a2_0).bind fun t186 => ((ints_Extend.f k a0 a2_1 a1 true).bind fun t187 => ((ints_Extend.f k a0 a2_1 a1 false).bind fun t188 => ((r2_Known.f a0).bind fun t189 => (if t189 = true then ((trunnionref13_Run.f k a0 a1 true).bind fun t190 => (if t182 = t190 then ((trunnionref13_Run.f k a0 a1 false).bind fun t191 => (if t183 = t191 then ((trunnionref13_Count.f k a0 a1).bind fun t192 => (if t184 = t192 then ((trunnionref13_LtS.f k a0 a1 a2_0).bind fun t193 => (if (t185 == t193) = true then ((r2_Cut.f a0 a1).bind fun t194 => ((r2_Cut.f a0 a2_0).bind fun t195 => (if (t186 == (decide (t194 < t195))) = true then ((trunnionref13_Extend.f k a0 a2_1 a1 true).bind fun t196 => (if t187 = t196 then ((trunnionref13_Extend.f k a0 a2_1 a1 false).bind fun t197 => (some (t188 == t197))) else (some false))) else (some false)))) else (some false))) else (some false))) else (some false))) else (some false))) else (if (IntKind.u64.wrap ((IntKind.u64.wrap ((IntKind.u64.wrap ((IntKind.u64.wrap (t182 + t183)) + t184)) + t187)) + t188)) = 0 then (if t185 = true then (some false) else (some (!t186))) else (some false))))))))) = some r := H
  have A7 := A_ A70;clear A70
  replace H := ob_ H
  obtain ⟨t184, A80, H⟩ := H
  replace H : ((ints_LtS.f a0 a1 a2_0).bind fun t185 => ((ints_LtU.f a0 a1 a2_0).bind fun t186 => ((ints_Extend.f k a0 a2_1 a1 true).bind fun t187 => ((ints_Extend.f k a0 a2_1 a1 false).bind fun t188 => ((r2_Known.f a0).bind fun t189 => (if t189 = true then ((trunnionref13_Run.f k a0 a1 true).bind fun t190 => (if t182 = t190 then ((trunnionref13_Run.f k a0 a1 false).bind fun t191 => (if t183 = t191 then ((trunnionref13_Count.f k a0 a1).bind fun t192 => (if t184 = t192 then ((trunnionref13_LtS.f k a0 a1 a2_0).bind fun t193 => (if (t185 == t193) = true then ((r2_Cut.f a0 a1).bind fun t194 => ((r2_Cut.f a0 a2_0).bind fun t195 => (if (t186 == (decide (t194 < t195))) = true then ((trunnionref13_Extend.f k a0 a2_1 a1 true).bind fun t196 => (if t187 = t196 then ((trunnionref13_Extend.f k a0 a2_1 a1 false).bind fun t197 => (some (t188 == t197))) else (some false))) else (some false)))) else (some false))) else (some false))) else (some false))) else (some false))) else (if (IntKind.u64.wrap ((IntKind.u64.wrap ((IntKind.u64.wrap ((IntKind.u64.wrap (t182 + t183)) + t184)) + t187)) + t188)) = 0 then (if t185 = true then (some false) else (some (!t186))) else (some false)))))))) = some r := H
  have A8 := A_ A80;clear A80
  replace H := ob_ H
  obtain ⟨t185, A90, H⟩ := H
  replace H : ((ints_LtU.f a0 a1 a2_0).bind fun t186 => ((ints_Extend.f k a0 a2_1 a1 true).bind fun t187 => ((ints_Extend.f k a0 a2_1 a1 false).bind fun t188 => ((r2_Known.f a0).bind fun t189 => (if t189 = true then ((trunnionref13_Run.f k a0 a1 true).bind fun t190 => (if t182 = t190 then ((trunnionref13_Run.f k a0 a1 false).bind fun t191 => (if t183 = t191 then ((trunnionref13_Count.f k a0 a1).bind fun t192 => (if t184 = t192 then ((trunnionref13_LtS.f k a0 a1 a2_0).bind fun t193 => (if (t185 == t193) = true then ((r2_Cut.f a0 a1).bind fun t194 => ((r2_Cut.f a0 a2_0).bind fun t195 => (if (t186 == (decide (t194 < t195))) = true then ((trunnionref13_Extend.f k a0 a2_1 a1 true).bind fun t196 => (if t187 = t196 then ((trunnionref13_Extend.f k a0 a2_1 a1 false).bind fun t197 => (some (t188 == t197))) else (some false))) else (some false)))) else (some false))) else (some false))) else (some false))) else (some false))) else (if (IntKind.u64.wrap ((IntKind.u64.wrap ((IntKind.u64.wrap ((IntKind.u64.wrap (t182 + t183)) + t184)) + t187)) + t188)) = 0 then (if t185 = true then (some false) else (some (!t186))) else (some false))))))) = some r := H
  have A9 := A_ A90;clear A90
  replace H := ob_ H
  obtain ⟨t186, A100, H⟩ := H
  replace H : ((ints_Extend.f k a0 a2_1 a1 true).bind fun t187 => ((ints_Extend.f k a0 a2_1 a1 false).bind fun t188 => ((r2_Known.f a0).bind fun t189 => (if t189 = true then ((trunnionref13_Run.f k a0 a1 true).bind fun t190 => (if t182 = t190 then ((trunnionref13_Run.f k a0 a1 false).bind fun t191 => (if t183 = t191 then ((trunnionref13_Count.f k a0 a1).bind fun t192 => (if t184 = t192 then ((trunnionref13_LtS.f k a0 a1 a2_0).bind fun t193 => (if (t185 == t193) = true then ((r2_Cut.f a0 a1).bind fun t194 => ((r2_Cut.f a0 a2_0).bind fun t195 => (if (t186 == (decide (t194 < t195))) = true then ((trunnionref13_Extend.f k a0 a2_1 a1 true).bind fun t196 => (if t187 = t196 then ((trunnionref13_Extend.f k a0 a2_1 a1 false).bind fun t197 => (some (t188 == t197))) else (some false))) else (some false)))) else (some false))) else (some false))) else (some false))) else (some false))) else (if (IntKind.u64.wrap ((IntKind.u64.wrap ((IntKind.u64.wrap ((IntKind.u64.wrap (t182 + t183)) + t184)) + t187)) + t188)) = 0 then (if t185 = true then (some false) else (some (!t186))) else (some false)))))) = some r := H
  have A10 := A_ A100;clear A100
  replace H := ob_ H
  obtain ⟨t187, A110, H⟩ := H
  replace H : ((ints_Extend.f k a0 a2_1 a1 false).bind fun t188 => ((r2_Known.f a0).bind fun t189 => (if t189 = true then ((trunnionref13_Run.f k a0 a1 true).bind fun t190 => (if t182 = t190 then ((trunnionref13_Run.f k a0 a1 false).bind fun t191 => (if t183 = t191 then ((trunnionref13_Count.f k a0 a1).bind fun t192 => (if t184 = t192 then ((trunnionref13_LtS.f k a0 a1 a2_0).bind fun t193 => (if (t185 == t193) = true then ((r2_Cut.f a0 a1).bind fun t194 => ((r2_Cut.f a0 a2_0).bind fun t195 => (if (t186 == (decide (t194 < t195))) = true then ((trunnionref13_Extend.f k a0 a2_1 a1 true).bind fun t196 => (if t187 = t196 then ((trunnionref13_Extend.f k a0 a2_1 a1 false).bind fun t197 => (some (t188 == t197))) else (some false))) else (some false)))) else (some false))) else (some false))) else (some false))) else (some false))) else (if (IntKind.u64.wrap ((IntKind.u64.wrap ((IntKind.u64.wrap ((IntKind.u64.wrap (t182 + t183)) + t184)) + t187)) + t188)) = 0 then (if t185 = true then (some false) else (some (!t186))) else (some false))))) = some r := H
  have A11 := A_ A110;clear A110
  replace H := ob_ H
  obtain ⟨t188, A120, H⟩ := H
  replace H : ((r2_Known.f a0).bind fun t189 => (if t189 = true then ((trunnionref13_Run.f k a0 a1 true).bind fun t190 => (if t182 = t190 then ((trunnionref13_Run.f k a0 a1 false).bind fun t191 => (if t183 = t191 then ((trunnionref13_Count.f k a0 a1).bind fun t192 => (if t184 = t192 then ((trunnionref13_LtS.f k a0 a1 a2_0).bind fun t193 => (if (t185 == t193) = true then ((r2_Cut.f a0 a1).bind fun t194 => ((r2_Cut.f a0 a2_0).bind fun t195 => (if (t186 == (decide (t194 < t195))) = true then ((trunnionref13_Extend.f k a0 a2_1 a1 true).bind fun t196 => (if t187 = t196 then ((trunnionref13_Extend.f k a0 a2_1 a1 false).bind fun t197 => (some (t188 == t197))) else (some false))) else (some false)))) else (some false))) else (some false))) else (some false))) else (some false))) else (if (IntKind.u64.wrap ((IntKind.u64.wrap ((IntKind.u64.wrap ((IntKind.u64.wrap (t182 + t183)) + t184)) + t187)) + t188)) = 0 then (if t185 = true then (some false) else (some (!t186))) else (some false)))) = some r := H
  have A12 := A_ A120;clear A120
  replace H := ob_ H
  obtain ⟨t189, A130, H⟩ := H
  replace H : (if t189 = true then ((trunnionref13_Run.f k a0 a1 true).bind fun t190 => (if t182 = t190 then ((trunnionref13_Run.f k a0 a1 false).bind fun t191 => (if t183 = t191 then ((trunnionref13_Count.f k a0 a1).bind fun t192 => (if t184 = t192 then ((trunnionref13_LtS.f k a0 a1 a2_0).bind fun t193 => (if (t185 == t193) = true then ((r2_Cut.f a0 a1).bind fun t194 => ((r2_Cut.f a0 a2_0).bind fun t195 => (if (t186 == (decide (t194 < t195))) = true then ((trunnionref13_Extend.f k a0 a2_1 a1 true).bind fun t196 => (if t187 = t196 then ((trunnionref13_Extend.f k a0 a2_1 a1 false).bind fun t197 => (some (t188 == t197))) else (some false))) else (some false)))) else (some false))) else (some false))) else (some false))) else (some false))) else (if (IntKind.u64.wrap ((IntKind.u64.wrap ((IntKind.u64.wrap ((IntKind.u64.wrap (t182 + t183)) + t184)) + t187)) + t188)) = 0 then (if t185 = true then (some false) else (some (!t186))) else (some false))) = some r := H
  have A13 := A_ A130;clear A130
  by_cases c14 : t189 = true
  ·subst c14
   have H1 : ((trunnionref13_Run.f k a0 a1 true).bind fun t190 => (if t182 = t190 then ((trunnionref13_Run.f k a0 a1 false).bind fun t191 => (if t183 = t191 then ((trunnionref13_Count.f k a0 a1).bind fun t192 => (if t184 = t192 then ((trunnionref13_LtS.f k a0 a1 a2_0).bind fun t193 => (if (t185 == t193) = true then ((r2_Cut.f a0 a1).bind fun t194 => ((r2_Cut.f a0 a2_0).bind fun t195 => (if (t186 == (decide (t194 < t195))) = true then ((trunnionref13_Extend.f k a0 a2_1 a1 true).bind fun t196 => (if t187 = t196 then ((trunnionref13_Extend.f k a0 a2_1 a1 false).bind fun t197 => (some (t188 == t197))) else (some false))) else (some false)))) else (some false))) else (some false))) else (some false))) else (some false))) = some r := by rw [if_pos rfl] at H; exact H
   clear H;have H := H1;clear H1
   replace H := ob_ H
   obtain ⟨t190, A150, H⟩ := H
   replace H : (if t182 = t190 then ((trunnionref13_Run.f k a0 a1 false).bind fun t191 => (if t183 = t191 then ((trunnionref13_Count.f k a0 a1).bind fun t192 => (if t184 = t192 then ((trunnionref13_LtS.f k a0 a1 a2_0).bind fun t193 => (if (t185 == t193) = true then ((r2_Cut.f a0 a1).bind fun t194 => ((r2_Cut.f a0 a2_0).bind fun t195 => (if (t186 == (decide (t194 < t195))) = true then ((trunnionref13_Extend.f k a0 a2_1 a1 true).bind fun t196 => (if t187 = t196 then ((trunnionref13_Extend.f k a0 a2_1 a1 false).bind fun t197 => (some (t188 == t197))) else (some false))) else (some false)))) else (some false))) else (some false))) else (some false))) else (some false)) = some r := H
   have A15 := A_ A150;clear A150
   by_cases c16 : t182 = t190
   ·rw [if_pos c16] at H
    have c16b0 : (t182 == t190) = true := beq_iff_eq.mpr c16
    have c16b1 : (t182 != t190) = false := bne_eq_false_iff_eq.mpr c16
    clear c16
    replace H := ob_ H
    obtain ⟨t191, A170, H⟩ := H
    replace H : (if t183 = t191 then ((trunnionref13_Count.f k a0 a1).bind fun t192 => (if t184 = t192 then ((trunnionref13_LtS.f k a0 a1 a2_0).bind fun t193 => (if (t185 == t193) = true then ((r2_Cut.f a0 a1).bind fun t194 => ((r2_Cut.f a0 a2_0).bind fun t195 => (if (t186 == (decide (t194 < t195))) = true then ((trunnionref13_Extend.f k a0 a2_1 a1 true).bind fun t196 => (if t187 = t196 then ((trunnionref13_Extend.f k a0 a2_1 a1 false).bind fun t197 => (some (t188 == t197))) else (some false))) else (some false)))) else (some false))) else (some false))) else (some false)) = some r := H
    have A17 := A_ A170;clear A170
    by_cases c18 : t183 = t191
    ·rw [if_pos c18] at H
     have c18b0 : (t183 == t191) = true := beq_iff_eq.mpr c18
     have c18b1 : (t183 != t191) = false := bne_eq_false_iff_eq.mpr c18
     clear c18
     replace H := ob_ H
     obtain ⟨t192, A190, H⟩ := H
     replace H : (if t184 = t192 then ((trunnionref13_LtS.f k a0 a1 a2_0).bind fun t193 => (if (t185 == t193) = true then ((r2_Cut.f a0 a1).bind fun t194 => ((r2_Cut.f a0 a2_0).bind fun t195 => (if (t186 == (decide (t194 < t195))) = true then ((trunnionref13_Extend.f k a0 a2_1 a1 true).bind fun t196 => (if t187 = t196 then ((trunnionref13_Extend.f k a0 a2_1 a1 false).bind fun t197 => (some (t188 == t197))) else (some false))) else (some false)))) else (some false))) else (some false)) = some r := H
     have A19 := A_ A190;clear A190
     by_cases c20 : t184 = t192
     ·rw [if_pos c20] at H
      have c20b0 : (t184 == t192) = true := beq_iff_eq.mpr c20
      have c20b1 : (t184 != t192) = false := bne_eq_false_iff_eq.mpr c20
      clear c20
      replace H := ob_ H
      obtain ⟨t193, A210, H⟩ := H
      replace H : (if (t185 == t193) = true then ((r2_Cut.f a0 a1).bind fun t194 => ((r2_Cut.f a0 a2_0).bind fun t195 => (if (t186 == (decide (t194 < t195))) = true then ((trunnionref13_Extend.f k a0 a2_1 a1 true).bind fun t196 => (if t187 = t196 then ((trunnionref13_Extend.f k a0 a2_1 a1 false).bind fun t197 => (some (t188 == t197))) else (some false))) else (some false)))) else (some false)) = some r := H
      have A21 := A_ A210;clear A210
      by_cases c22 : (t185 == t193) = true
      ·rw [if_pos c22] at H
       have c22b0 : (t185 == t193) = true := c22
       (try (have c22b1 : decide (t185 = t193) = true := by simpa using c22))
       (try (have c22b2 : (t185 == t193) = true := by simpa using c22))
       clear c22
       replace H := ob_ H
       obtain ⟨t194, A230, H⟩ := H
       replace H : ((r2_Cut.f a0 a2_0).bind fun t195 => (if (t186 == (decide (t194 < t195))) = true then ((trunnionref13_Extend.f k a0 a2_1 a1 true).bind fun t196 => (if t187 = t196 then ((trunnionref13_Extend.f k a0 a2_1 a1 false).bind fun t197 => (some (t188 == t197))) else (some false))) else (some false))) = some r := H
       have A23 := A_ A230;clear A230
       replace H := ob_ H
       obtain ⟨t195, A240, H⟩ := H
       replace H : (if (t186 == (decide (t194 < t195))) = true then ((trunnionref13_Extend.f k a0 a2_1 a1 true).bind fun t196 => (if t187 = t196 then ((trunnionref13_Extend.f k a0 a2_1 a1 false).bind fun t197 => (some (t188 == t197))) else (some false))) else (some false)) = some r := H
       have A24 := A_ A240;clear A240
       by_cases c25 : (t186 == (decide (t194 < t195))) = true
       ·rw [if_pos c25] at H
        have c25b0 : (t186 == (decide (t194 < t195))) = true := c25
        (try (have c25b1 : decide (t186 = (decide (t194 < t195))) = true := by simpa using c25))
        (try (have c25b2 : (t186 == (decide (t194 < t195))) = true := by simpa using c25))
        clear c25
        replace H := ob_ H
        obtain ⟨t196, A260, H⟩ := H
        replace H : (if t187 = t196 then ((trunnionref13_Extend.f k a0 a2_1 a1 false).bind fun t197 => (some (t188 == t197))) else (some false)) = some r := H
        have A26 := A_ A260;clear A260
        by_cases c27 : t187 = t196
        ·rw [if_pos c27] at H
         have c27b0 : (t187 == t196) = true := beq_iff_eq.mpr c27
         have c27b1 : (t187 != t196) = false := bne_eq_false_iff_eq.mpr c27
         clear c27
         replace H := ob_ H
         obtain ⟨t197, A280, H⟩ := H
         replace H : (some (t188 == t197)) = some r := H
         have A28 := A_ A280;clear A280
         obtain rfl := Option.some.inj H
         go_enter Tryd.func4, Tryd.ntmps4
         try go_wp2_with (first | ((with_reducible refine gate_dst (N := 5) rfl ?_); refine be_ 5 #[.int .u64 a2_0, .int .i64 a2_1] 28 ?_; intro gb180 hg w29 hbox hb; have BK180 := A_ (hbox); have GW180 := A_ (sz_ hg (hb_ HB.out)); have GE180 := A_ (sz_ hg (hb_ HB.out)); replace HB := A_ (below_step (hb_ HB.out) hb); clear hb hbox hg) | ((with_reducible refine gate_callee (f := 8) rfl ?_); refine goesL_ (some 14) rfl rfl Tryd.func8 (by kernel_rfl) rfl #[] rfl mp_ ?_; (with_reducible refine (L13_awake.calls  true _ A4.out).mono ?_); rintro e w' ⟨rfl, ⟨nd, rfl⟩⟩; refine ⟨_, rfl, ?_⟩) | ((with_reducible refine gate_callee (f := 9) rfl ?_); refine goesL_ (some 18) rfl rfl Tryd.func9 (by kernel_rfl) rfl #[.int .i64 a0, .int .u64 a1] rfl mp_ ?_; (with_reducible refine (ints_Clz.calls a0 a1 t182 _ A6.out).mono ?_); rintro e w' ⟨rfl, ⟨nd, rfl⟩⟩; refine ⟨_, rfl, ?_⟩) | ((with_reducible refine gate_callee (f := 10) rfl ?_); refine goesL_ (some 21) rfl rfl Tryd.func10 (by kernel_rfl) rfl #[.int .i64 a0, .int .u64 a1] rfl mp_ ?_; (refine (ints_Ctz.calls a0 a1 t183 _ A7.out (TT.go (hb1_ HB.out GE180.out) T_)).mono ?_); rintro e w30 ⟨rfl, hb⟩; refine ⟨_, rfl, ?_⟩; replace BK180 := A_ (bb_ BK180.out hb); replace HB := A_ (below_step (hb1_ HB.out GE180.out) hb); (try clear hb); (try clear hb2); (try clear hk); (try clear hi)) | ((with_reducible refine gate_callee (f := 11) rfl ?_); refine goesL_ (some 24) rfl rfl Tryd.func11 (by kernel_rfl) rfl #[.int .i64 a0, .int .u64 a1] rfl mp_ ?_; (with_reducible refine (ints_Popcnt.calls a0 a1 t184 _ A8.out).mono ?_); rintro e w' ⟨rfl, ⟨nd, rfl⟩⟩; refine ⟨_, rfl, ?_⟩))
         (try (repeat (rw [World.drewN_drewN]))); (try (rw [drewN_self w30]; generalize hq_ : World.drewN w30 _ = w30; have n0_ : Aside0 (w30.heap[gb180]? = some (.cells #[.int .u64 a2_0, .int .i64 a2_1] 28 (0, 0))) := ⟨by rw [← hq_]; exact (bk_ BK180.out)⟩; have n1_ : Aside0 (Below w.heap.size w w30) := ⟨by rw [← hq_]; exact (hb1_ HB.out GE180.out)⟩; clear BK180 HB hq_; have BK180 := n0_; have HB := n1_; clear n0_ n1_))
         replace BK180 := A_ (blk_drew BK180.out)
         replace HB := A_ (below_drew1 HB.out)
         refine start_ (n := 12) (S := fun w' => w'.cell? ⟨gb180, 0, none⟩ = some (.int .u64 a2_0) ∧ w'.cell? ⟨gb180, 1, none⟩ = some (.int .i64 a2_1)) (ds := []) #[false, false, false, false, false, false, false, false, false, false, false, false] (by kernel_rfl) rfl rfl ⟨bc_ BK180.out 0, bc_ BK180.out 1⟩ (fun hHeld => ?_); refine with_tabW L13_IntsCounts.tab4 L13_IntsCounts.bits4 (fun HT_ HW_ => ?_)
         generalize w30.drew = w31 at BK180 HB hHeld ⊢
         refine pu_ 0 (some 25) #[true, false, false, false, false, false, false, false, false, false, false, false] rfl rfl (any_of HT_.out (by kernel_rfl)) ?_
         refine pu_ 1 (some 26) #[true, true, false, false, false, false, false, false, false, false, false, false] rfl rfl (any_of HT_.out (by kernel_rfl)) ?_
         refine pu_ 2 (some 27) #[true, true, true, false, false, false, false, false, false, false, false, false] rfl rfl (any_of HT_.out (by kernel_rfl)) ?_
         refine pu_ 5 (some 30) #[true, true, true, false, false, true, false, false, false, false, false, false] rfl rfl (any_of HT_.out (by kernel_rfl)) ?_
         refine pu_ 6 (some 31) #[true, true, true, false, false, true, true, false, false, false, false, false] rfl rfl (any_of HT_.out (by kernel_rfl)) ?_
         refine pu_ 7 (some 32) #[true, true, true, false, false, true, true, true, false, false, false, false] rfl rfl (any_of HT_.out (by kernel_rfl)) ?_
         refine tk2_ 3 (some 28) #[true, true, true, true, false, true, true, true, false, false, false, false] rfl rfl (take_ofW HT_.out HW_.out (by kernel_rfl)) hHeld ?_
         refine tk2_ 8 (some 33) #[true, true, true, true, false, true, true, true, true, false, false, false] rfl rfl (take_ofW HT_.out HW_.out (by kernel_rfl)) hHeld ?_
         refine one_ (i := 4) (N := some 29) #[true, true, true, true, true, true, true, true, true, false, false, false] rfl rfl (one_of HT_.out (by kernel_rfl)) (by decide) (fun K hK => ?_)
         refine goes_ Tryd.func15 (by kernel_rfl) rfl #[.int .i64 a0, .int .u64 a1, .int .u64 a2_0] (by rfl) rfl rfl mp_ ?_
         with_reducible refine (ints_LtS.calls a0 a1 a2_0 t185 _ A9.out).mono ?_
         rintro e w' ⟨rfl, ⟨nd, rfl⟩⟩
         refine ⟨_, rfl, ?_⟩
         refine hK.out _ _ ⟨bc_ BK180.out 0, bc_ BK180.out 1⟩ (fun hHeld => ?_)
         clear hK K
         refine norm_ (a' := ?_) ?_ ?_
         rotate_left
         ·show Act.put _ (some 29) _ = _
          simp only [Act.put, lI_, l0_, lS_, i64_w, i32_w]
          rfl
         refine one_ (i := 9) (N := some 34) #[true, true, true, true, true, true, true, true, true, true, false, false] rfl rfl (one_of HT_.out (by kernel_rfl)) (by decide) (fun K hK => ?_)
         refine goes_ Tryd.func16 (by kernel_rfl) rfl #[.int .i64 a0, .int .u64 a1, .int .u64 a2_0] (by rfl) rfl rfl mp_ ?_
         with_reducible refine (ints_LtU.calls a0 a1 a2_0 t186 _ A10.out).mono ?_
         rintro e w' ⟨rfl, ⟨nd, rfl⟩⟩
         refine ⟨_, rfl, ?_⟩
         refine hK.out _ _ ⟨bc_ BK180.out 0, bc_ BK180.out 1⟩ (fun hHeld => ?_)
         clear hK K
         refine norm_ (a' := ?_) ?_ ?_
         rotate_left
         ·show Act.put _ (some 34) _ = _
          simp only [Act.put, lI_, l0_, lS_, i64_w, i32_w]
          rfl
         refine pu_ 10 (some 10) #[true, true, true, true, true, true, true, true, true, true, true, false] rfl rfl (any_of HT_.out (by kernel_rfl)) ?_
         refine pu_ 11 (some 11) #[true, true, true, true, true, true, true, true, true, true, true, true] rfl rfl (any_of HT_.out (by kernel_rfl)) ?_
         refine done_ (done_of HT_.out (by kernel_rfl)) ?_
         try go_wp2
         (try (repeat (rw [World.drewN_drewN]))); (try (rw [drewN_self w31]; generalize hq_ : World.drewN w31 _ = w31; have n0_ : Aside0 (w31.heap[gb180]? = some (.cells #[.int .u64 a2_0, .int .i64 a2_1] 28 (0, 0))) := ⟨by rw [← hq_]; exact (bk_ BK180.out)⟩; have n1_ : Aside0 (Below w.heap.size w w31) := ⟨by rw [← hq_]; exact (hb1_ HB.out GE180.out)⟩; clear BK180 HB hq_; have BK180 := n0_; have HB := n1_; clear n0_ n1_))
         replace BK180 := A_ (blk_drew BK180.out)
         replace HB := A_ (below_drew1 HB.out)
         refine start_ (n := 12) (S := fun w' => w'.cell? ⟨gb180, 0, none⟩ = some (.int .u64 a2_0) ∧ w'.cell? ⟨gb180, 1, none⟩ = some (.int .i64 a2_1)) (ds := []) #[false, false, false, false, false, false, false, false, false, false, false, false] (by kernel_rfl) rfl rfl ⟨bc_ BK180.out 0, bc_ BK180.out 1⟩ (fun hHeld => ?_); refine with_tabW L13_IntsCounts.tab5 L13_IntsCounts.bits5 (fun HT_ HW_ => ?_)
         generalize w31.drew = w32 at BK180 HB hHeld ⊢
         refine pu_ 0 (some 35) #[true, false, false, false, false, false, false, false, false, false, false, false] rfl rfl (any_of HT_.out (by kernel_rfl)) ?_
         refine pu_ 1 (some 36) #[true, true, false, false, false, false, false, false, false, false, false, false] rfl rfl (any_of HT_.out (by kernel_rfl)) ?_
         refine pu_ 3 (some 38) #[true, true, false, true, false, false, false, false, false, false, false, false] rfl rfl (any_of HT_.out (by kernel_rfl)) ?_
         refine pu_ 5 (some 40) #[true, true, false, true, false, true, false, false, false, false, false, false] rfl rfl (any_of HT_.out (by kernel_rfl)) ?_
         refine pu_ 6 (some 41) #[true, true, false, true, false, true, true, false, false, false, false, false] rfl rfl (any_of HT_.out (by kernel_rfl)) ?_
         refine pu_ 8 (some 43) #[true, true, false, true, false, true, true, false, true, false, false, false] rfl rfl (any_of HT_.out (by kernel_rfl)) ?_
         refine tk2_ 2 (some 37) #[true, true, true, true, false, true, true, false, true, false, false, false] rfl rfl (take_ofW HT_.out HW_.out (by kernel_rfl)) hHeld ?_
         refine tk2_ 7 (some 42) #[true, true, true, true, false, true, true, true, true, false, false, false] rfl rfl (take_ofW HT_.out HW_.out (by kernel_rfl)) hHeld ?_
         refine one_ (i := 4) (N := some 39) #[true, true, true, true, true, true, true, true, true, false, false, false] rfl rfl (one_of HT_.out (by kernel_rfl)) (by decide) (fun K hK => ?_)
         refine goes_ Tryd.func17 (by kernel_rfl) rfl #[.int .i64 a0, .int .i64 a2_1, .int .u64 a1, .bool true] (by rfl) rfl rfl mp_ ?_
         with_reducible refine (ints_Extend.calls k a0 a2_1 a1 true t187 _ A11.out).mono ?_
         rintro e w' ⟨rfl, ⟨nd, rfl⟩⟩
         refine ⟨_, rfl, ?_⟩
         refine hK.out _ _ ⟨bc_ BK180.out 0, bc_ BK180.out 1⟩ (fun hHeld => ?_)
         clear hK K
         refine norm_ (a' := ?_) ?_ ?_
         rotate_left
         ·show Act.put _ (some 39) _ = _
          simp only [Act.put, lI_, l0_, lS_, i64_w, i32_w]
          rfl
         refine one_ (i := 9) (N := some 44) #[true, true, true, true, true, true, true, true, true, true, false, false] rfl rfl (one_of HT_.out (by kernel_rfl)) (by decide) (fun K hK => ?_)
         refine goes_ Tryd.func17 (by kernel_rfl) rfl #[.int .i64 a0, .int .i64 a2_1, .int .u64 a1, .bool false] (by rfl) rfl rfl mp_ ?_
         with_reducible refine (ints_Extend.calls k a0 a2_1 a1 false t188 _ A12.out).mono ?_
         rintro e w' ⟨rfl, ⟨nd, rfl⟩⟩
         refine ⟨_, rfl, ?_⟩
         refine hK.out _ _ ⟨bc_ BK180.out 0, bc_ BK180.out 1⟩ (fun hHeld => ?_)
         clear hK K
         refine norm_ (a' := ?_) ?_ ?_
         rotate_left
         ·show Act.put _ (some 44) _ = _
          simp only [Act.put, lI_, l0_, lS_, i64_w, i32_w]
          rfl
         refine pu_ 10 (some 12) #[true, true, true, true, true, true, true, true, true, true, true, false] rfl rfl (any_of HT_.out (by kernel_rfl)) ?_
         refine pu_ 11 (some 13) #[true, true, true, true, true, true, true, true, true, true, true, true] rfl rfl (any_of HT_.out (by kernel_rfl)) ?_
         refine done_ (done_of HT_.out (by kernel_rfl)) ?_
         try go_wp2_with (first | ((with_reducible refine gate_callee (f := 18) rfl ?_); refine goesL_ (some 46) rfl rfl Tryd.func18 (by kernel_rfl) rfl #[.int .i64 a0] rfl mp_ ?_; (with_reducible refine (r2_Known.calls a0 true _ A13.out).mono ?_); rintro e w' ⟨rfl, ⟨nd, rfl⟩⟩; refine ⟨_, rfl, ?_⟩))
         (try (repeat (rw [World.drewN_drewN]))); (try (rw [drewN_self w32]; generalize hq_ : World.drewN w32 _ = w32; have n0_ : Aside0 (w32.heap[gb180]? = some (.cells #[.int .u64 a2_0, .int .i64 a2_1] 28 (0, 0))) := ⟨by rw [← hq_]; exact (bk_ BK180.out)⟩; have n1_ : Aside0 (Below w.heap.size w w32) := ⟨by rw [← hq_]; exact (hb1_ HB.out GE180.out)⟩; clear BK180 HB hq_; have BK180 := n0_; have HB := n1_; clear n0_ n1_))
         replace BK180 := A_ (blk_drew BK180.out)
         replace HB := A_ (below_drew1 HB.out)
         refine start_ (n := 59) (S := fun w' => w'.cell? ⟨gb180, 0, none⟩ = some (.int .u64 a2_0) ∧ w'.cell? ⟨gb180, 1, none⟩ = some (.int .i64 a2_1)) (ds := []) #[false, false, false, false, false, false, false, false, false, false, false, false, false, false, false, false, false, false, false, false, false, false, false, false, false, false, false, false, false, false, false, false, false, false, false, false, false, false, false, false, false, false, false, false, false, false, false, false, false, false, false, false, false, false, false, false, false, false, false] (by kernel_rfl) rfl rfl ⟨bc_ BK180.out 0, bc_ BK180.out 1⟩ (fun hHeld => ?_); refine with_tabW L13_IntsCounts.tab8 L13_IntsCounts.bits8 (fun HT_ HW_ => ?_)
         generalize w32.drew = w33 at BK180 HB hHeld ⊢
         refine pu_ 0 (some 66) #[true, false, false, false, false, false, false, false, false, false, false, false, false, false, false, false, false, false, false, false, false, false, false, false, false, false, false, false, false, false, false, false, false, false, false, false, false, false, false, false, false, false, false, false, false, false, false, false, false, false, false, false, false, false, false, false, false, false, false] rfl rfl (any_of HT_.out (by kernel_rfl)) ?_
         refine pu_ 1 (some 67) #[true, true, false, false, false, false, false, false, false, false, false, false, false, false, false, false, false, false, false, false, false, false, false, false, false, false, false, false, false, false, false, false, false, false, false, false, false, false, false, false, false, false, false, false, false, false, false, false, false, false, false, false, false, false, false, false, false, false, false] rfl rfl (any_of HT_.out (by kernel_rfl)) ?_
         refine pu_ 2 (some 68) #[true, true, true, false, false, false, false, false, false, false, false, false, false, false, false, false, false, false, false, false, false, false, false, false, false, false, false, false, false, false, false, false, false, false, false, false, false, false, false, false, false, false, false, false, false, false, false, false, false, false, false, false, false, false, false, false, false, false, false] rfl rfl (any_of HT_.out (by kernel_rfl)) ?_
         refine one_ (i := 3) (N := some 69) #[true, true, true, true, false, false, false, false, false, false, false, false, false, false, false, false, false, false, false, false, false, false, false, false, false, false, false, false, false, false, false, false, false, false, false, false, false, false, false, false, false, false, false, false, false, false, false, false, false, false, false, false, false, false, false, false, false, false, false] rfl rfl (one_of HT_.out (by kernel_rfl)) (by decide) (fun K hK => ?_)
         refine goes_ Tryd.func19 (by kernel_rfl) rfl #[.int .i64 a0, .int .u64 a1, .bool true] (by rfl) rfl rfl mp_ ?_
         with_reducible refine (trunnionref13_Run.calls k a0 a1 true t190 _ A15.out).mono ?_
         rintro e w34 ⟨rfl, hb⟩
         refine ⟨_, rfl, ?_⟩
         replace BK180 := A_ (bb_ BK180.out hb)
         replace HB := A_ (below_step (hb1_ HB.out GE180.out) hb);(try clear hb);(try clear hb2);(try clear hk);(try clear hi)
         refine hK.out _ _ ⟨bc_ BK180.out 0, bc_ BK180.out 1⟩ (fun hHeld => ?_)
         clear hK K
         refine norm_ (a' := ?_) ?_ ?_
         rotate_left
         ·show Act.put _ (some 69) _ = _
          simp only [Act.put, lI_, l0_, lS_, i64_w, i32_w]
          rfl
         refine pu_ 4 (some 70) #[true, true, true, true, true, false, false, false, false, false, false, false, false, false, false, false, false, false, false, false, false, false, false, false, false, false, false, false, false, false, false, false, false, false, false, false, false, false, false, false, false, false, false, false, false, false, false, false, false, false, false, false, false, false, false, false, false, false, false] rfl rfl (any_of HT_.out (by kernel_rfl)) ?_
         refine pu_ 5 (some 71) #[true, true, true, true, true, true, false, false, false, false, false, false, false, false, false, false, false, false, false, false, false, false, false, false, false, false, false, false, false, false, false, false, false, false, false, false, false, false, false, false, false, false, false, false, false, false, false, false, false, false, false, false, false, false, false, false, false, false, false] rfl rfl (any_of HT_.out (by kernel_rfl)) ?_
         refine pu_ 6 (some 72) #[true, true, true, true, true, true, true, false, false, false, false, false, false, false, false, false, false, false, false, false, false, false, false, false, false, false, false, false, false, false, false, false, false, false, false, false, false, false, false, false, false, false, false, false, false, false, false, false, false, false, false, false, false, false, false, false, false, false, false] rfl rfl (any_of HT_.out (by kernel_rfl)) ?_
         refine pu_ 7 (some 73) #[true, true, true, true, true, true, true, true, false, false, false, false, false, false, false, false, false, false, false, false, false, false, false, false, false, false, false, false, false, false, false, false, false, false, false, false, false, false, false, false, false, false, false, false, false, false, false, false, false, false, false, false, false, false, false, false, false, false, false] rfl rfl (any_of HT_.out (by kernel_rfl)) ?_
         refine pu_ 8 (some 74) #[true, true, true, true, true, true, true, true, true, false, false, false, false, false, false, false, false, false, false, false, false, false, false, false, false, false, false, false, false, false, false, false, false, false, false, false, false, false, false, false, false, false, false, false, false, false, false, false, false, false, false, false, false, false, false, false, false, false, false] rfl rfl (any_of HT_.out (by kernel_rfl)) ?_
         refine one_ (i := 9) (N := some 75) #[true, true, true, true, true, true, true, true, true, true, false, false, false, false, false, false, false, false, false, false, false, false, false, false, false, false, false, false, false, false, false, false, false, false, false, false, false, false, false, false, false, false, false, false, false, false, false, false, false, false, false, false, false, false, false, false, false, false, false] rfl rfl (one_of HT_.out (by kernel_rfl)) (by decide) (fun K hK => ?_)
         refine goes_ Tryd.func19 (by kernel_rfl) rfl #[.int .i64 a0, .int .u64 a1, .bool false] (by rfl) rfl rfl mp_ ?_
         with_reducible refine (trunnionref13_Run.calls k a0 a1 false t191 _ A17.out).mono ?_
         rintro e w35 ⟨rfl, hb⟩
         refine ⟨_, rfl, ?_⟩
         replace BK180 := A_ (bb_ BK180.out hb)
         replace HB := A_ (below_step (hb1_ HB.out GE180.out) hb);(try clear hb);(try clear hb2);(try clear hk);(try clear hi)
         refine hK.out _ _ ⟨bc_ BK180.out 0, bc_ BK180.out 1⟩ (fun hHeld => ?_)
         clear hK K
         refine norm_ (a' := ?_) ?_ ?_
         rotate_left
         ·show Act.put _ (some 75) _ = _
          simp only [Act.put, lI_, l0_, lS_, i64_w, i32_w]
          rfl
         refine pu_ 10 (some 76) #[true, true, true, true, true, true, true, true, true, true, true, false, false, false, false, false, false, false, false, false, false, false, false, false, false, false, false, false, false, false, false, false, false, false, false, false, false, false, false, false, false, false, false, false, false, false, false, false, false, false, false, false, false, false, false, false, false, false, false] rfl rfl (any_of HT_.out (by kernel_rfl)) ?_
         refine pu_ 11 (some 77) #[true, true, true, true, true, true, true, true, true, true, true, true, false, false, false, false, false, false, false, false, false, false, false, false, false, false, false, false, false, false, false, false, false, false, false, false, false, false, false, false, false, false, false, false, false, false, false, false, false, false, false, false, false, false, false, false, false, false, false] rfl rfl (any_of HT_.out (by kernel_rfl)) ?_
         refine pu_ 12 (some 78) #[true, true, true, true, true, true, true, true, true, true, true, true, true, false, false, false, false, false, false, false, false, false, false, false, false, false, false, false, false, false, false, false, false, false, false, false, false, false, false, false, false, false, false, false, false, false, false, false, false, false, false, false, false, false, false, false, false, false, false] rfl rfl (any_of HT_.out (by kernel_rfl)) ?_
         refine pu_ 13 (some 79) #[true, true, true, true, true, true, true, true, true, true, true, true, true, true, false, false, false, false, false, false, false, false, false, false, false, false, false, false, false, false, false, false, false, false, false, false, false, false, false, false, false, false, false, false, false, false, false, false, false, false, false, false, false, false, false, false, false, false, false] rfl rfl (any_of HT_.out (by kernel_rfl)) ?_
         refine pu_ 14 (some 80) #[true, true, true, true, true, true, true, true, true, true, true, true, true, true, true, false, false, false, false, false, false, false, false, false, false, false, false, false, false, false, false, false, false, false, false, false, false, false, false, false, false, false, false, false, false, false, false, false, false, false, false, false, false, false, false, false, false, false, false] rfl rfl (any_of HT_.out (by kernel_rfl)) ?_
         refine pu_ 15 (some 81) #[true, true, true, true, true, true, true, true, true, true, true, true, true, true, true, true, false, false, false, false, false, false, false, false, false, false, false, false, false, false, false, false, false, false, false, false, false, false, false, false, false, false, false, false, false, false, false, false, false, false, false, false, false, false, false, false, false, false, false] rfl rfl (any_of HT_.out (by kernel_rfl)) ?_
         refine one_ (i := 16) (N := some 82) #[true, true, true, true, true, true, true, true, true, true, true, true, true, true, true, true, true, false, false, false, false, false, false, false, false, false, false, false, false, false, false, false, false, false, false, false, false, false, false, false, false, false, false, false, false, false, false, false, false, false, false, false, false, false, false, false, false, false, false] rfl rfl (one_of HT_.out (by kernel_rfl)) (by decide) (fun K hK => ?_)
         refine goes_ Tryd.func20 (by kernel_rfl) rfl #[.int .i64 a0, .int .u64 a1] (by rfl) rfl rfl mp_ ?_
         with_reducible refine (trunnionref13_Count.calls k a0 a1 t192 _ A19.out).mono ?_
         rintro e w36 ⟨rfl, hb⟩
         refine ⟨_, rfl, ?_⟩
         replace BK180 := A_ (bb_ BK180.out hb)
         replace HB := A_ (below_step (hb1_ HB.out GE180.out) hb);(try clear hb);(try clear hb2);(try clear hk);(try clear hi)
         refine hK.out _ _ ⟨bc_ BK180.out 0, bc_ BK180.out 1⟩ (fun hHeld => ?_)
         clear hK K
         refine norm_ (a' := ?_) ?_ ?_
         rotate_left
         ·show Act.put _ (some 82) _ = _
          simp only [Act.put, lI_, l0_, lS_, i64_w, i32_w]
          rfl
         refine pu_ 17 (some 83) #[true, true, true, true, true, true, true, true, true, true, true, true, true, true, true, true, true, true, false, false, false, false, false, false, false, false, false, false, false, false, false, false, false, false, false, false, false, false, false, false, false, false, false, false, false, false, false, false, false, false, false, false, false, false, false, false, false, false, false] rfl rfl (any_of HT_.out (by kernel_rfl)) ?_
         refine pu_ 18 (some 84) #[true, true, true, true, true, true, true, true, true, true, true, true, true, true, true, true, true, true, true, false, false, false, false, false, false, false, false, false, false, false, false, false, false, false, false, false, false, false, false, false, false, false, false, false, false, false, false, false, false, false, false, false, false, false, false, false, false, false, false] rfl rfl (any_of HT_.out (by kernel_rfl)) ?_
         refine pu_ 19 (some 85) #[true, true, true, true, true, true, true, true, true, true, true, true, true, true, true, true, true, true, true, true, false, false, false, false, false, false, false, false, false, false, false, false, false, false, false, false, false, false, false, false, false, false, false, false, false, false, false, false, false, false, false, false, false, false, false, false, false, false, false] rfl rfl (any_of HT_.out (by kernel_rfl)) ?_
         refine pu_ 20 (some 86) #[true, true, true, true, true, true, true, true, true, true, true, true, true, true, true, true, true, true, true, true, true, false, false, false, false, false, false, false, false, false, false, false, false, false, false, false, false, false, false, false, false, false, false, false, false, false, false, false, false, false, false, false, false, false, false, false, false, false, false] rfl rfl (any_of HT_.out (by kernel_rfl)) ?_
         refine pu_ 21 (some 87) #[true, true, true, true, true, true, true, true, true, true, true, true, true, true, true, true, true, true, true, true, true, true, false, false, false, false, false, false, false, false, false, false, false, false, false, false, false, false, false, false, false, false, false, false, false, false, false, false, false, false, false, false, false, false, false, false, false, false, false] rfl rfl (any_of HT_.out (by kernel_rfl)) ?_
         refine pu_ 22 (some 88) #[true, true, true, true, true, true, true, true, true, true, true, true, true, true, true, true, true, true, true, true, true, true, true, false, false, false, false, false, false, false, false, false, false, false, false, false, false, false, false, false, false, false, false, false, false, false, false, false, false, false, false, false, false, false, false, false, false, false, false] rfl rfl (any_of HT_.out (by kernel_rfl)) ?_
         refine pu_ 23 (some 89) #[true, true, true, true, true, true, true, true, true, true, true, true, true, true, true, true, true, true, true, true, true, true, true, true, false, false, false, false, false, false, false, false, false, false, false, false, false, false, false, false, false, false, false, false, false, false, false, false, false, false, false, false, false, false, false, false, false, false, false] rfl rfl (any_of HT_.out (by kernel_rfl)) ?_
         refine tk2_ 24 (some 90) #[true, true, true, true, true, true, true, true, true, true, true, true, true, true, true, true, true, true, true, true, true, true, true, true, true, false, false, false, false, false, false, false, false, false, false, false, false, false, false, false, false, false, false, false, false, false, false, false, false, false, false, false, false, false, false, false, false, false, false] rfl rfl (take_ofW HT_.out HW_.out (by kernel_rfl)) hHeld ?_
         refine one_ (i := 25) (N := some 91) #[true, true, true, true, true, true, true, true, true, true, true, true, true, true, true, true, true, true, true, true, true, true, true, true, true, true, false, false, false, false, false, false, false, false, false, false, false, false, false, false, false, false, false, false, false, false, false, false, false, false, false, false, false, false, false, false, false, false, false] rfl rfl (one_of HT_.out (by kernel_rfl)) (by decide) (fun K hK => ?_)
         refine goes_ Tryd.func21 (by kernel_rfl) rfl #[.int .i64 a0, .int .u64 a1, .int .u64 a2_0] (by rfl) rfl rfl mp_ ?_
         with_reducible refine (trunnionref13_LtS.calls k a0 a1 a2_0 t193 _ A21.out).mono ?_
         rintro e w' ⟨rfl, ⟨nd, rfl⟩⟩
         refine ⟨_, rfl, ?_⟩
         refine hK.out _ _ ⟨bc_ BK180.out 0, bc_ BK180.out 1⟩ (fun hHeld => ?_)
         clear hK K
         refine norm_ (a' := ?_) ?_ ?_
         rotate_left
         ·show Act.put _ (some 91) _ = _
          simp only [Act.put, lI_, l0_, lS_, i64_w, i32_w]
          rfl
         refine pu_ 26 (some 92) #[true, true, true, true, true, true, true, true, true, true, true, true, true, true, true, true, true, true, true, true, true, true, true, true, true, true, true, false, false, false, false, false, false, false, false, false, false, false, false, false, false, false, false, false, false, false, false, false, false, false, false, false, false, false, false, false, false, false, false] rfl rfl (any_of HT_.out (by kernel_rfl)) ?_
         refine pu_ 27 (some 93) #[true, true, true, true, true, true, true, true, true, true, true, true, true, true, true, true, true, true, true, true, true, true, true, true, true, true, true, true, false, false, false, false, false, false, false, false, false, false, false, false, false, false, false, false, false, false, false, false, false, false, false, false, false, false, false, false, false, false, false] rfl rfl (any_of HT_.out (by kernel_rfl)) ?_
         refine pu_ 28 (some 94) #[true, true, true, true, true, true, true, true, true, true, true, true, true, true, true, true, true, true, true, true, true, true, true, true, true, true, true, true, true, false, false, false, false, false, false, false, false, false, false, false, false, false, false, false, false, false, false, false, false, false, false, false, false, false, false, false, false, false, false] rfl rfl (any_of HT_.out (by kernel_rfl)) ?_
         refine pu_ 29 (some 95) #[true, true, true, true, true, true, true, true, true, true, true, true, true, true, true, true, true, true, true, true, true, true, true, true, true, true, true, true, true, true, false, false, false, false, false, false, false, false, false, false, false, false, false, false, false, false, false, false, false, false, false, false, false, false, false, false, false, false, false] rfl rfl (any_of HT_.out (by kernel_rfl)) ?_
         refine pu_ 30 (some 96) #[true, true, true, true, true, true, true, true, true, true, true, true, true, true, true, true, true, true, true, true, true, true, true, true, true, true, true, true, true, true, true, false, false, false, false, false, false, false, false, false, false, false, false, false, false, false, false, false, false, false, false, false, false, false, false, false, false, false, false] rfl rfl (any_of HT_.out (by kernel_rfl)) ?_
         refine pu_ 31 (some 97) #[true, true, true, true, true, true, true, true, true, true, true, true, true, true, true, true, true, true, true, true, true, true, true, true, true, true, true, true, true, true, true, true, false, false, false, false, false, false, false, false, false, false, false, false, false, false, false, false, false, false, false, false, false, false, false, false, false, false, false] rfl rfl (any_of HT_.out (by kernel_rfl)) ?_
         refine pu_ 33 (some 99) #[true, true, true, true, true, true, true, true, true, true, true, true, true, true, true, true, true, true, true, true, true, true, true, true, true, true, true, true, true, true, true, true, false, true, false, false, false, false, false, false, false, false, false, false, false, false, false, false, false, false, false, false, false, false, false, false, false, false, false] rfl rfl (any_of HT_.out (by kernel_rfl)) ?_
         refine pu_ 34 (some 100) #[true, true, true, true, true, true, true, true, true, true, true, true, true, true, true, true, true, true, true, true, true, true, true, true, true, true, true, true, true, true, true, true, false, true, true, false, false, false, false, false, false, false, false, false, false, false, false, false, false, false, false, false, false, false, false, false, false, false, false] rfl rfl (any_of HT_.out (by kernel_rfl)) ?_
         refine tk2_ 35 (some 101) #[true, true, true, true, true, true, true, true, true, true, true, true, true, true, true, true, true, true, true, true, true, true, true, true, true, true, true, true, true, true, true, true, false, true, true, true, false, false, false, false, false, false, false, false, false, false, false, false, false, false, false, false, false, false, false, false, false, false, false] rfl rfl (take_ofW HT_.out HW_.out (by kernel_rfl)) hHeld ?_
         refine one_ (i := 32) (N := some 98) #[true, true, true, true, true, true, true, true, true, true, true, true, true, true, true, true, true, true, true, true, true, true, true, true, true, true, true, true, true, true, true, true, true, true, true, true, false, false, false, false, false, false, false, false, false, false, false, false, false, false, false, false, false, false, false, false, false, false, false] rfl rfl (one_of HT_.out (by kernel_rfl)) (by decide) (fun K hK => ?_)
         refine goes_ Tryd.func22 (by kernel_rfl) rfl #[.int .i64 a0, .int .u64 a1] (by rfl) rfl rfl mp_ ?_
         with_reducible refine (r2_Cut.calls a0 a1 t194 _ A23.out).mono ?_
         rintro e w' ⟨rfl, ⟨nd, rfl⟩⟩
         refine ⟨_, rfl, ?_⟩
         refine hK.out _ _ ⟨bc_ BK180.out 0, bc_ BK180.out 1⟩ (fun hHeld => ?_)
         clear hK K
         refine norm_ (a' := ?_) ?_ ?_
         rotate_left
         ·show Act.put _ (some 98) _ = _
          simp only [Act.put, lI_, l0_, lS_, i64_w, i32_w]
          rfl
         refine one_ (i := 36) (N := some 102) #[true, true, true, true, true, true, true, true, true, true, true, true, true, true, true, true, true, true, true, true, true, true, true, true, true, true, true, true, true, true, true, true, true, true, true, true, true, false, false, false, false, false, false, false, false, false, false, false, false, false, false, false, false, false, false, false, false, false, false] rfl rfl (one_of HT_.out (by kernel_rfl)) (by decide) (fun K hK => ?_)
         refine goes_ Tryd.func22 (by kernel_rfl) rfl #[.int .i64 a0, .int .u64 a2_0] (by rfl) rfl rfl mp_ ?_
         with_reducible refine (r2_Cut.calls a0 a2_0 t195 _ A24.out).mono ?_
         rintro e w' ⟨rfl, ⟨nd, rfl⟩⟩
         refine ⟨_, rfl, ?_⟩
         refine hK.out _ _ ⟨bc_ BK180.out 0, bc_ BK180.out 1⟩ (fun hHeld => ?_)
         clear hK K
         refine norm_ (a' := ?_) ?_ ?_
         rotate_left
         ·show Act.put _ (some 102) _ = _
          simp only [Act.put, lI_, l0_, lS_, i64_w, i32_w]
          rfl
         refine pu_ 37 (some 103) #[true, true, true, true, true, true, true, true, true, true, true, true, true, true, true, true, true, true, true, true, true, true, true, true, true, true, true, true, true, true, true, true, true, true, true, true, true, true, false, false, false, false, false, false, false, false, false, false, false, false, false, false, false, false, false, false, false, false, false] rfl rfl (any_of HT_.out (by kernel_rfl)) ?_
         refine pu_ 38 (some 104) #[true, true, true, true, true, true, true, true, true, true, true, true, true, true, true, true, true, true, true, true, true, true, true, true, true, true, true, true, true, true, true, true, true, true, true, true, true, true, true, false, false, false, false, false, false, false, false, false, false, false, false, false, false, false, false, false, false, false, false] rfl rfl (any_of HT_.out (by kernel_rfl)) ?_
         refine pu_ 39 (some 105) #[true, true, true, true, true, true, true, true, true, true, true, true, true, true, true, true, true, true, true, true, true, true, true, true, true, true, true, true, true, true, true, true, true, true, true, true, true, true, true, true, false, false, false, false, false, false, false, false, false, false, false, false, false, false, false, false, false, false, false] rfl rfl (any_of HT_.out (by kernel_rfl)) ?_
         refine pu_ 40 (some 106) #[true, true, true, true, true, true, true, true, true, true, true, true, true, true, true, true, true, true, true, true, true, true, true, true, true, true, true, true, true, true, true, true, true, true, true, true, true, true, true, true, true, false, false, false, false, false, false, false, false, false, false, false, false, false, false, false, false, false, false] rfl rfl (any_of HT_.out (by kernel_rfl)) ?_
         refine pu_ 41 (some 107) #[true, true, true, true, true, true, true, true, true, true, true, true, true, true, true, true, true, true, true, true, true, true, true, true, true, true, true, true, true, true, true, true, true, true, true, true, true, true, true, true, true, true, false, false, false, false, false, false, false, false, false, false, false, false, false, false, false, false, false] rfl rfl (any_of HT_.out (by kernel_rfl)) ?_
         refine pu_ 42 (some 108) #[true, true, true, true, true, true, true, true, true, true, true, true, true, true, true, true, true, true, true, true, true, true, true, true, true, true, true, true, true, true, true, true, true, true, true, true, true, true, true, true, true, true, true, false, false, false, false, false, false, false, false, false, false, false, false, false, false, false, false] rfl rfl (any_of HT_.out (by kernel_rfl)) ?_
         refine pu_ 43 (some 109) #[true, true, true, true, true, true, true, true, true, true, true, true, true, true, true, true, true, true, true, true, true, true, true, true, true, true, true, true, true, true, true, true, true, true, true, true, true, true, true, true, true, true, true, true, false, false, false, false, false, false, false, false, false, false, false, false, false, false, false] rfl rfl (any_of HT_.out (by kernel_rfl)) ?_
         refine pu_ 45 (some 111) #[true, true, true, true, true, true, true, true, true, true, true, true, true, true, true, true, true, true, true, true, true, true, true, true, true, true, true, true, true, true, true, true, true, true, true, true, true, true, true, true, true, true, true, true, false, true, false, false, false, false, false, false, false, false, false, false, false, false, false] rfl rfl (any_of HT_.out (by kernel_rfl)) ?_
         refine tk2_ 44 (some 110) #[true, true, true, true, true, true, true, true, true, true, true, true, true, true, true, true, true, true, true, true, true, true, true, true, true, true, true, true, true, true, true, true, true, true, true, true, true, true, true, true, true, true, true, true, true, true, false, false, false, false, false, false, false, false, false, false, false, false, false] rfl rfl (take_ofW HT_.out HW_.out (by kernel_rfl)) hHeld ?_
         refine one_ (i := 46) (N := some 112) #[true, true, true, true, true, true, true, true, true, true, true, true, true, true, true, true, true, true, true, true, true, true, true, true, true, true, true, true, true, true, true, true, true, true, true, true, true, true, true, true, true, true, true, true, true, true, true, false, false, false, false, false, false, false, false, false, false, false, false] rfl rfl (one_of HT_.out (by kernel_rfl)) (by decide) (fun K hK => ?_)
         refine goes_ Tryd.func23 (by kernel_rfl) rfl #[.int .i64 a0, .int .i64 a2_1, .int .u64 a1, .bool true] (by rfl) rfl rfl mp_ ?_
         with_reducible refine (trunnionref13_Extend.calls k a0 a2_1 a1 true t196 _ A26.out).mono ?_
         rintro e w37 ⟨rfl, hb⟩
         refine ⟨_, rfl, ?_⟩
         replace BK180 := A_ (bb_ BK180.out hb)
         replace HB := A_ (below_step (hb1_ HB.out GE180.out) hb);(try clear hb);(try clear hb2);(try clear hk);(try clear hi)
         refine hK.out _ _ ⟨bc_ BK180.out 0, bc_ BK180.out 1⟩ (fun hHeld => ?_)
         clear hK K
         refine norm_ (a' := ?_) ?_ ?_
         rotate_left
         ·show Act.put _ (some 112) _ = _
          simp only [Act.put, lI_, l0_, lS_, i64_w, i32_w]
          rfl
         refine pu_ 47 (some 113) #[true, true, true, true, true, true, true, true, true, true, true, true, true, true, true, true, true, true, true, true, true, true, true, true, true, true, true, true, true, true, true, true, true, true, true, true, true, true, true, true, true, true, true, true, true, true, true, true, false, false, false, false, false, false, false, false, false, false, false] rfl rfl (any_of HT_.out (by kernel_rfl)) ?_
         refine pu_ 48 (some 114) #[true, true, true, true, true, true, true, true, true, true, true, true, true, true, true, true, true, true, true, true, true, true, true, true, true, true, true, true, true, true, true, true, true, true, true, true, true, true, true, true, true, true, true, true, true, true, true, true, true, false, false, false, false, false, false, false, false, false, false] rfl rfl (any_of HT_.out (by kernel_rfl)) ?_
         refine pu_ 49 (some 115) #[true, true, true, true, true, true, true, true, true, true, true, true, true, true, true, true, true, true, true, true, true, true, true, true, true, true, true, true, true, true, true, true, true, true, true, true, true, true, true, true, true, true, true, true, true, true, true, true, true, true, false, false, false, false, false, false, false, false, false] rfl rfl (any_of HT_.out (by kernel_rfl)) ?_
         refine pu_ 50 (some 116) #[true, true, true, true, true, true, true, true, true, true, true, true, true, true, true, true, true, true, true, true, true, true, true, true, true, true, true, true, true, true, true, true, true, true, true, true, true, true, true, true, true, true, true, true, true, true, true, true, true, true, true, false, false, false, false, false, false, false, false] rfl rfl (any_of HT_.out (by kernel_rfl)) ?_
         refine pu_ 51 (some 117) #[true, true, true, true, true, true, true, true, true, true, true, true, true, true, true, true, true, true, true, true, true, true, true, true, true, true, true, true, true, true, true, true, true, true, true, true, true, true, true, true, true, true, true, true, true, true, true, true, true, true, true, true, false, false, false, false, false, false, false] rfl rfl (any_of HT_.out (by kernel_rfl)) ?_
         refine pu_ 52 (some 118) #[true, true, true, true, true, true, true, true, true, true, true, true, true, true, true, true, true, true, true, true, true, true, true, true, true, true, true, true, true, true, true, true, true, true, true, true, true, true, true, true, true, true, true, true, true, true, true, true, true, true, true, true, true, false, false, false, false, false, false] rfl rfl (any_of HT_.out (by kernel_rfl)) ?_
         refine pu_ 54 (some 120) #[true, true, true, true, true, true, true, true, true, true, true, true, true, true, true, true, true, true, true, true, true, true, true, true, true, true, true, true, true, true, true, true, true, true, true, true, true, true, true, true, true, true, true, true, true, true, true, true, true, true, true, true, true, false, true, false, false, false, false] rfl rfl (any_of HT_.out (by kernel_rfl)) ?_
         refine tk2_ 53 (some 119) #[true, true, true, true, true, true, true, true, true, true, true, true, true, true, true, true, true, true, true, true, true, true, true, true, true, true, true, true, true, true, true, true, true, true, true, true, true, true, true, true, true, true, true, true, true, true, true, true, true, true, true, true, true, true, true, false, false, false, false] rfl rfl (take_ofW HT_.out HW_.out (by kernel_rfl)) hHeld ?_
         refine one_ (i := 55) (N := some 121) #[true, true, true, true, true, true, true, true, true, true, true, true, true, true, true, true, true, true, true, true, true, true, true, true, true, true, true, true, true, true, true, true, true, true, true, true, true, true, true, true, true, true, true, true, true, true, true, true, true, true, true, true, true, true, true, true, false, false, false] rfl rfl (one_of HT_.out (by kernel_rfl)) (by decide) (fun K hK => ?_)
         refine goes_ Tryd.func23 (by kernel_rfl) rfl #[.int .i64 a0, .int .i64 a2_1, .int .u64 a1, .bool false] (by rfl) rfl rfl mp_ ?_
         with_reducible refine (trunnionref13_Extend.calls k a0 a2_1 a1 false t197 _ A28.out).mono ?_
         rintro e w38 ⟨rfl, hb⟩
         refine ⟨_, rfl, ?_⟩
         replace BK180 := A_ (bb_ BK180.out hb)
         replace HB := A_ (below_step (hb1_ HB.out GE180.out) hb);(try clear hb);(try clear hb2);(try clear hk);(try clear hi)
         refine hK.out _ _ ⟨bc_ BK180.out 0, bc_ BK180.out 1⟩ (fun hHeld => ?_)
         clear hK K
         refine norm_ (a' := ?_) ?_ ?_
         rotate_left
         ·show Act.put _ (some 121) _ = _
          simp only [Act.put, lI_, l0_, lS_, i64_w, i32_w]
          rfl
         refine pu_ 56 (some 122) #[true, true, true, true, true, true, true, true, true, true, true, true, true, true, true, true, true, true, true, true, true, true, true, true, true, true, true, true, true, true, true, true, true, true, true, true, true, true, true, true, true, true, true, true, true, true, true, true, true, true, true, true, true, true, true, true, true, false, false] rfl rfl (any_of HT_.out (by kernel_rfl)) ?_
         refine pu_ 57 (some 123) #[true, true, true, true, true, true, true, true, true, true, true, true, true, true, true, true, true, true, true, true, true, true, true, true, true, true, true, true, true, true, true, true, true, true, true, true, true, true, true, true, true, true, true, true, true, true, true, true, true, true, true, true, true, true, true, true, true, true, false] rfl rfl (any_of HT_.out (by kernel_rfl)) ?_
         refine pu_ 58 (some 6) #[true, true, true, true, true, true, true, true, true, true, true, true, true, true, true, true, true, true, true, true, true, true, true, true, true, true, true, true, true, true, true, true, true, true, true, true, true, true, true, true, true, true, true, true, true, true, true, true, true, true, true, true, true, true, true, true, true, true, true] rfl rfl (any_of HT_.out (by kernel_rfl)) ?_
         refine done_ (done_of HT_.out (by kernel_rfl)) ?_
         try go_wp2
         go_ret
         exact ⟨er_, hb1_ HB.out GE180.out⟩
        ·rw [if_neg c27] at H
         have c27b0 : (t187 == t196) = false := beq_eq_false_iff_ne.mpr c27
         have c27b1 : (t187 != t196) = true := bne_iff_ne.mpr c27
         exact absurd ((Option.some.inj H).trans hr_.out) (by decide)
       ·rw [if_neg c25] at H
        have c25b0 : (t186 == (decide (t194 < t195))) = false := by simpa using c25
        (try (have c25b1 : decide (t186 = (decide (t194 < t195))) = false := by simpa using c25))
        (try (have c25b2 : (t186 == (decide (t194 < t195))) = false := by simpa using c25))
        (try (have c25b3 : ¬ (t186 = (decide (t194 < t195))) := by simpa using c25))
        clear c25
        exact absurd ((Option.some.inj H).trans hr_.out) (by decide)
      ·rw [if_neg c22] at H
       have c22b0 : (t185 == t193) = false := by simpa using c22
       (try (have c22b1 : decide (t185 = t193) = false := by simpa using c22))
       (try (have c22b2 : (t185 == t193) = false := by simpa using c22))
       (try (have c22b3 : ¬ (t185 = t193) := by simpa using c22))
       clear c22
       exact absurd ((Option.some.inj H).trans hr_.out) (by decide)
     ·rw [if_neg c20] at H
      have c20b0 : (t184 == t192) = false := beq_eq_false_iff_ne.mpr c20
      have c20b1 : (t184 != t192) = true := bne_iff_ne.mpr c20
      exact absurd ((Option.some.inj H).trans hr_.out) (by decide)
    ·rw [if_neg c18] at H
     have c18b0 : (t183 == t191) = false := beq_eq_false_iff_ne.mpr c18
     have c18b1 : (t183 != t191) = true := bne_iff_ne.mpr c18
     exact absurd ((Option.some.inj H).trans hr_.out) (by decide)
   ·rw [if_neg c16] at H
    have c16b0 : (t182 == t190) = false := beq_eq_false_iff_ne.mpr c16
    have c16b1 : (t182 != t190) = true := bne_iff_ne.mpr c16
    exact absurd ((Option.some.inj H).trans hr_.out) (by decide)
  ·replace c14 := Bool.eq_false_iff.mpr c14
   subst c14
   have H1 : (if (IntKind.u64.wrap ((IntKind.u64.wrap ((IntKind.u64.wrap ((IntKind.u64.wrap (t182 + t183)) + t184)) + t187)) + t188)) = 0 then (if t185 = true then (some false) else (some (!t186))) else (some false)) = some r := by rw [if_neg (show ¬ (false = true) by decide)] at H; exact H
   clear H;have H := H1;clear H1
   by_cases c39 : (IntKind.u64.wrap ((IntKind.u64.wrap ((IntKind.u64.wrap ((IntKind.u64.wrap (t182 + t183)) + t184)) + t187)) + t188)) = 0
   ·rw [if_pos c39] at H
    have c39b0 : ((IntKind.u64.wrap ((IntKind.u64.wrap ((IntKind.u64.wrap ((IntKind.u64.wrap (t182 + t183)) + t184)) + t187)) + t188)) == 0) = true := beq_iff_eq.mpr c39
    have c39b1 : ((IntKind.u64.wrap ((IntKind.u64.wrap ((IntKind.u64.wrap ((IntKind.u64.wrap (t182 + t183)) + t184)) + t187)) + t188)) != 0) = false := bne_eq_false_iff_eq.mpr c39
    clear c39
    by_cases c40 : t185 = true
    ·subst c40
     have H1 : (some false) = some r := by rw [if_pos rfl] at H; exact H
     clear H;have H := H1;clear H1
     exact absurd ((Option.some.inj H).trans hr_.out) (by decide)
    ·replace c40 := Bool.eq_false_iff.mpr c40
     subst c40
     have H1 : (some (!t186)) = some r := by rw [if_neg (show ¬ (false = true) by decide)] at H; exact H
     clear H;have H := H1;clear H1
     obtain rfl := Option.some.inj H
     go_enter Tryd.func4, Tryd.ntmps4
     try go_wp2_with (first | ((with_reducible refine gate_dst (N := 5) rfl ?_); refine be_ 5 #[.int .u64 a2_0, .int .i64 a2_1] 28 ?_; intro gb180 hg w41 hbox hb; have BK180 := A_ (hbox); have GW180 := A_ (sz_ hg (hb_ HB.out)); have GE180 := A_ (sz_ hg (hb_ HB.out)); replace HB := A_ (below_step (hb_ HB.out) hb); clear hb hbox hg) | ((with_reducible refine gate_callee (f := 8) rfl ?_); refine goesL_ (some 14) rfl rfl Tryd.func8 (by kernel_rfl) rfl #[] rfl mp_ ?_; (with_reducible refine (L13_awake.calls  true _ A4.out).mono ?_); rintro e w' ⟨rfl, ⟨nd, rfl⟩⟩; refine ⟨_, rfl, ?_⟩) | ((with_reducible refine gate_callee (f := 9) rfl ?_); refine goesL_ (some 18) rfl rfl Tryd.func9 (by kernel_rfl) rfl #[.int .i64 a0, .int .u64 a1] rfl mp_ ?_; (with_reducible refine (ints_Clz.calls a0 a1 t182 _ A6.out).mono ?_); rintro e w' ⟨rfl, ⟨nd, rfl⟩⟩; refine ⟨_, rfl, ?_⟩) | ((with_reducible refine gate_callee (f := 10) rfl ?_); refine goesL_ (some 21) rfl rfl Tryd.func10 (by kernel_rfl) rfl #[.int .i64 a0, .int .u64 a1] rfl mp_ ?_; (refine (ints_Ctz.calls a0 a1 t183 _ A7.out (TT.go (hb1_ HB.out GE180.out) T_)).mono ?_); rintro e w42 ⟨rfl, hb⟩; refine ⟨_, rfl, ?_⟩; replace BK180 := A_ (bb_ BK180.out hb); replace HB := A_ (below_step (hb1_ HB.out GE180.out) hb); (try clear hb); (try clear hb2); (try clear hk); (try clear hi)) | ((with_reducible refine gate_callee (f := 11) rfl ?_); refine goesL_ (some 24) rfl rfl Tryd.func11 (by kernel_rfl) rfl #[.int .i64 a0, .int .u64 a1] rfl mp_ ?_; (with_reducible refine (ints_Popcnt.calls a0 a1 t184 _ A8.out).mono ?_); rintro e w' ⟨rfl, ⟨nd, rfl⟩⟩; refine ⟨_, rfl, ?_⟩))
     (try (repeat (rw [World.drewN_drewN]))); (try (rw [drewN_self w42]; generalize hq_ : World.drewN w42 _ = w42; have n0_ : Aside0 (w42.heap[gb180]? = some (.cells #[.int .u64 a2_0, .int .i64 a2_1] 28 (0, 0))) := ⟨by rw [← hq_]; exact (bk_ BK180.out)⟩; have n1_ : Aside0 (Below w.heap.size w w42) := ⟨by rw [← hq_]; exact (hb1_ HB.out GE180.out)⟩; clear BK180 HB hq_; have BK180 := n0_; have HB := n1_; clear n0_ n1_))
     replace BK180 := A_ (blk_drew BK180.out)
     replace HB := A_ (below_drew1 HB.out)
     refine start_ (n := 12) (S := fun w' => w'.cell? ⟨gb180, 0, none⟩ = some (.int .u64 a2_0) ∧ w'.cell? ⟨gb180, 1, none⟩ = some (.int .i64 a2_1)) (ds := []) #[false, false, false, false, false, false, false, false, false, false, false, false] (by kernel_rfl) rfl rfl ⟨bc_ BK180.out 0, bc_ BK180.out 1⟩ (fun hHeld => ?_); refine with_tabW L13_IntsCounts.tab4 L13_IntsCounts.bits4 (fun HT_ HW_ => ?_)
     generalize w42.drew = w43 at BK180 HB hHeld ⊢
     refine pu_ 0 (some 25) #[true, false, false, false, false, false, false, false, false, false, false, false] rfl rfl (any_of HT_.out (by kernel_rfl)) ?_
     refine pu_ 1 (some 26) #[true, true, false, false, false, false, false, false, false, false, false, false] rfl rfl (any_of HT_.out (by kernel_rfl)) ?_
     refine pu_ 2 (some 27) #[true, true, true, false, false, false, false, false, false, false, false, false] rfl rfl (any_of HT_.out (by kernel_rfl)) ?_
     refine pu_ 5 (some 30) #[true, true, true, false, false, true, false, false, false, false, false, false] rfl rfl (any_of HT_.out (by kernel_rfl)) ?_
     refine pu_ 6 (some 31) #[true, true, true, false, false, true, true, false, false, false, false, false] rfl rfl (any_of HT_.out (by kernel_rfl)) ?_
     refine pu_ 7 (some 32) #[true, true, true, false, false, true, true, true, false, false, false, false] rfl rfl (any_of HT_.out (by kernel_rfl)) ?_
     refine tk2_ 3 (some 28) #[true, true, true, true, false, true, true, true, false, false, false, false] rfl rfl (take_ofW HT_.out HW_.out (by kernel_rfl)) hHeld ?_
     refine tk2_ 8 (some 33) #[true, true, true, true, false, true, true, true, true, false, false, false] rfl rfl (take_ofW HT_.out HW_.out (by kernel_rfl)) hHeld ?_
     refine one_ (i := 4) (N := some 29) #[true, true, true, true, true, true, true, true, true, false, false, false] rfl rfl (one_of HT_.out (by kernel_rfl)) (by decide) (fun K hK => ?_)
     refine goes_ Tryd.func15 (by kernel_rfl) rfl #[.int .i64 a0, .int .u64 a1, .int .u64 a2_0] (by rfl) rfl rfl mp_ ?_
     with_reducible refine (ints_LtS.calls a0 a1 a2_0 false _ A9.out).mono ?_
     rintro e w' ⟨rfl, ⟨nd, rfl⟩⟩
     refine ⟨_, rfl, ?_⟩
     refine hK.out _ _ ⟨bc_ BK180.out 0, bc_ BK180.out 1⟩ (fun hHeld => ?_)
     clear hK K
     refine norm_ (a' := ?_) ?_ ?_
     rotate_left
     ·show Act.put _ (some 29) _ = _
      simp only [Act.put, lI_, l0_, lS_, i64_w, i32_w]
      rfl
     refine one_ (i := 9) (N := some 34) #[true, true, true, true, true, true, true, true, true, true, false, false] rfl rfl (one_of HT_.out (by kernel_rfl)) (by decide) (fun K hK => ?_)
     refine goes_ Tryd.func16 (by kernel_rfl) rfl #[.int .i64 a0, .int .u64 a1, .int .u64 a2_0] (by rfl) rfl rfl mp_ ?_
     with_reducible refine (ints_LtU.calls a0 a1 a2_0 t186 _ A10.out).mono ?_
     rintro e w' ⟨rfl, ⟨nd, rfl⟩⟩
     refine ⟨_, rfl, ?_⟩
     refine hK.out _ _ ⟨bc_ BK180.out 0, bc_ BK180.out 1⟩ (fun hHeld => ?_)
     clear hK K
     refine norm_ (a' := ?_) ?_ ?_
     rotate_left
     ·show Act.put _ (some 34) _ = _
      simp only [Act.put, lI_, l0_, lS_, i64_w, i32_w]
      rfl
     refine pu_ 10 (some 10) #[true, true, true, true, true, true, true, true, true, true, true, false] rfl rfl (any_of HT_.out (by kernel_rfl)) ?_
     refine pu_ 11 (some 11) #[true, true, true, true, true, true, true, true, true, true, true, true] rfl rfl (any_of HT_.out (by kernel_rfl)) ?_
     refine done_ (done_of HT_.out (by kernel_rfl)) ?_
     try go_wp2
     (try (repeat (rw [World.drewN_drewN]))); (try (rw [drewN_self w43]; generalize hq_ : World.drewN w43 _ = w43; have n0_ : Aside0 (w43.heap[gb180]? = some (.cells #[.int .u64 a2_0, .int .i64 a2_1] 28 (0, 0))) := ⟨by rw [← hq_]; exact (bk_ BK180.out)⟩; have n1_ : Aside0 (Below w.heap.size w w43) := ⟨by rw [← hq_]; exact (hb1_ HB.out GE180.out)⟩; clear BK180 HB hq_; have BK180 := n0_; have HB := n1_; clear n0_ n1_))
     replace BK180 := A_ (blk_drew BK180.out)
     replace HB := A_ (below_drew1 HB.out)
     refine start_ (n := 12) (S := fun w' => w'.cell? ⟨gb180, 0, none⟩ = some (.int .u64 a2_0) ∧ w'.cell? ⟨gb180, 1, none⟩ = some (.int .i64 a2_1)) (ds := []) #[false, false, false, false, false, false, false, false, false, false, false, false] (by kernel_rfl) rfl rfl ⟨bc_ BK180.out 0, bc_ BK180.out 1⟩ (fun hHeld => ?_); refine with_tabW L13_IntsCounts.tab5 L13_IntsCounts.bits5 (fun HT_ HW_ => ?_)
     generalize w43.drew = w44 at BK180 HB hHeld ⊢
     refine pu_ 0 (some 35) #[true, false, false, false, false, false, false, false, false, false, false, false] rfl rfl (any_of HT_.out (by kernel_rfl)) ?_
     refine pu_ 1 (some 36) #[true, true, false, false, false, false, false, false, false, false, false, false] rfl rfl (any_of HT_.out (by kernel_rfl)) ?_
     refine pu_ 3 (some 38) #[true, true, false, true, false, false, false, false, false, false, false, false] rfl rfl (any_of HT_.out (by kernel_rfl)) ?_
     refine pu_ 5 (some 40) #[true, true, false, true, false, true, false, false, false, false, false, false] rfl rfl (any_of HT_.out (by kernel_rfl)) ?_
     refine pu_ 6 (some 41) #[true, true, false, true, false, true, true, false, false, false, false, false] rfl rfl (any_of HT_.out (by kernel_rfl)) ?_
     refine pu_ 8 (some 43) #[true, true, false, true, false, true, true, false, true, false, false, false] rfl rfl (any_of HT_.out (by kernel_rfl)) ?_
     refine tk2_ 2 (some 37) #[true, true, true, true, false, true, true, false, true, false, false, false] rfl rfl (take_ofW HT_.out HW_.out (by kernel_rfl)) hHeld ?_
     refine tk2_ 7 (some 42) #[true, true, true, true, false, true, true, true, true, false, false, false] rfl rfl (take_ofW HT_.out HW_.out (by kernel_rfl)) hHeld ?_
     refine one_ (i := 4) (N := some 39) #[true, true, true, true, true, true, true, true, true, false, false, false] rfl rfl (one_of HT_.out (by kernel_rfl)) (by decide) (fun K hK => ?_)
     refine goes_ Tryd.func17 (by kernel_rfl) rfl #[.int .i64 a0, .int .i64 a2_1, .int .u64 a1, .bool true] (by rfl) rfl rfl mp_ ?_
     with_reducible refine (ints_Extend.calls k a0 a2_1 a1 true t187 _ A11.out).mono ?_
     rintro e w' ⟨rfl, ⟨nd, rfl⟩⟩
     refine ⟨_, rfl, ?_⟩
     refine hK.out _ _ ⟨bc_ BK180.out 0, bc_ BK180.out 1⟩ (fun hHeld => ?_)
     clear hK K
     refine norm_ (a' := ?_) ?_ ?_
     rotate_left
     ·show Act.put _ (some 39) _ = _
      simp only [Act.put, lI_, l0_, lS_, i64_w, i32_w]
      rfl
     refine one_ (i := 9) (N := some 44) #[true, true, true, true, true, true, true, true, true, true, false, false] rfl rfl (one_of HT_.out (by kernel_rfl)) (by decide) (fun K hK => ?_)
     refine goes_ Tryd.func17 (by kernel_rfl) rfl #[.int .i64 a0, .int .i64 a2_1, .int .u64 a1, .bool false] (by rfl) rfl rfl mp_ ?_
     with_reducible refine (ints_Extend.calls k a0 a2_1 a1 false t188 _ A12.out).mono ?_
     rintro e w' ⟨rfl, ⟨nd, rfl⟩⟩
     refine ⟨_, rfl, ?_⟩
     refine hK.out _ _ ⟨bc_ BK180.out 0, bc_ BK180.out 1⟩ (fun hHeld => ?_)
     clear hK K
     refine norm_ (a' := ?_) ?_ ?_
     rotate_left
     ·show Act.put _ (some 44) _ = _
      simp only [Act.put, lI_, l0_, lS_, i64_w, i32_w]
      rfl
     refine pu_ 10 (some 12) #[true, true, true, true, true, true, true, true, true, true, true, false] rfl rfl (any_of HT_.out (by kernel_rfl)) ?_
     refine pu_ 11 (some 13) #[true, true, true, true, true, true, true, true, true, true, true, true] rfl rfl (any_of HT_.out (by kernel_rfl)) ?_
     refine done_ (done_of HT_.out (by kernel_rfl)) ?_
     try go_wp2_with (first | ((with_reducible refine gate_callee (f := 18) rfl ?_); refine goesL_ (some 46) rfl rfl Tryd.func18 (by kernel_rfl) rfl #[.int .i64 a0] rfl mp_ ?_; (with_reducible refine (r2_Known.calls a0 false _ A13.out).mono ?_); rintro e w' ⟨rfl, ⟨nd, rfl⟩⟩; refine ⟨_, rfl, ?_⟩))
     go_ret
     exact ⟨er_, hb1_ HB.out GE180.out⟩
   ·rw [if_neg c39] at H
    have c39b0 : ((IntKind.u64.wrap ((IntKind.u64.wrap ((IntKind.u64.wrap ((IntKind.u64.wrap (t182 + t183)) + t184)) + t187)) + t188)) == 0) = false := beq_eq_false_iff_ne.mpr c39
    have c39b1 : ((IntKind.u64.wrap ((IntKind.u64.wrap ((IntKind.u64.wrap ((IntKind.u64.wrap (t182 + t183)) + t184)) + t187)) + t188)) != 0) = true := bne_iff_ne.mpr c39
    exact absurd ((Option.some.inj H).trans hr_.out) (by decide)
 ·replace c5 := Bool.eq_false_iff.mpr c5
  subst c5
  have H1 : (some false) = some r := by rw [if_neg (show ¬ (false = true) by decide)] at H; exact H
  clear H;have H := H1;clear H1
  exact absurd ((Option.some.inj H).trans hr_.out) (by decide)
def L13_IntsCounts.Pure : Prop := ∀ (a0 : Int) (a1 : Int) (a2_0 : Int) (a2_1 : Int), (Lit.int .i64 a0).wf = true → (Lit.int .u64 a1).wf = true → (Lit.int .u64 a2_0).wf = true → (Lit.int .i64 a2_1).wf = true → ∃ k, L13_IntsCounts.f k a0 a1 a2_0 a2_1 = some true
theorem L13_IntsCounts.walk (P : L13_IntsCounts.Pure) (a0 : Int) (a1 : Int) (a2_0 : Int) (a2_1 : Int) (w : World) (w0 : (Lit.int .i64 a0).wf = true) (w1 : (Lit.int .u64 a1).wf = true) (w2_0 : (Lit.int .u64 a2_0).wf = true) (w2_1 : (Lit.int .i64 a2_1).wf = true) (T_ : Aside0 (TT w)) :
  Calls Tryd.prog 4 #[.int .i64 a0, .int .u64 a1, .agg #[.int .u64 a2_0, .int .i64 a2_1]] w fun e w' => e = .returned (.bool true) ∧ Below w.heap.size w w' := by
 obtain ⟨k, h⟩ := P a0 a1 a2_0 a2_1 w0 w1 w2_0 w2_1
 refine (L13_IntsCounts.calls k a0 a1 a2_0 a2_1 true w h ⟨rfl⟩ T_).mono ?_
 rintro e w' ⟨rfl, hd⟩
 exact ⟨rfl, hd⟩
end Go.Proofs.YthdeeoallfbjmaaDoor.PA
namespace Bit
theorem and_low (a k : Nat) : a &&& (2 ^ k - 1) = a % 2 ^ k := Nat.and_two_pow_sub_one_eq_mod a k
end Bit
section
set_option linter.unusedVariables false
set_option linter.unusedSimpArgs false
namespace Go.Proofs.YthdeeoallfbjmaaDoor.Th
open Go.RowKit Go.Proofs.YthdeeoallfbjmaaDoorW.PrintWords Go.Proofs.YthdeeoallfbjmaaDoorW.PrintLast Go.Proofs.YthdeeoallfbjmaaDoorW.PrintMore Go.Proofs.YthdeeoallfbjmaaDoor.PA Bit
theorem wf_u64 {a : Int} (h : (Lit.int .u64 a).wf = true) : 0 ≤ a ∧ a < 18446744073709551616 := by
  simp [Lit.wf, IntKind.min, IntKind.max, IntKind.signed, IntKind.bits] at h; omega
def cutN (w : Int) (a : Nat) : Nat := if w = 32 then a % 4294967296 else if w = 64 then a else 0
theorem shCut (w : Int) (a : Nat) (ha : a < 18446744073709551616) : shape_Cut.f w a = some ((cutN w a : Nat) : Int) := by
  unfold shape_Cut.f cutN
  by_cases h : w = 32
  · rw [if_pos h, if_pos h, show (4294967295 : Int) = ((4294967295 : Nat) : Int) from rfl, u64_and_nat a _ ha (by decide)]
    rw [show (4294967295 : Nat) = 2 ^ 32 - 1 by decide, and_low]
  · rw [if_neg h, if_neg h]
    by_cases h2 : w = 64
    · rw [if_pos h2, if_pos h2]
    · rw [if_neg h2, if_neg h2]; rfl
theorem r2Cut (w : Int) (a : Nat) (hw : w = 32 ∨ w = 64) : r2_Cut.f w a = some ((cutN w a : Nat) : Int) := by
  unfold r2_Cut.f cutN
  rcases hw with rfl | rfl
  · rw [if_pos rfl, if_pos rfl, Int.tmod_eq_emod_of_nonneg (by omega)]; congr 1
  · rw [if_neg (by decide), if_neg (by decide), if_pos rfl]
def sb (w : Int) : Nat := if w = 32 then 2147483648 else 9223372036854775808
def sgB (w : Int) (a : Nat) : Bool := decide (a / sb w % 2 = 1)
theorem known_f (w : Int) : r2_Known.f w = some (decide (w = 32 ∨ w = 64)) := by
  unfold r2_Known.f
  by_cases h : w = 32
  · rw [if_pos h]; simp [h]
  · rw [if_neg h]; congr 1; by_cases h2 : w = 64 <;> simp [h, h2]
theorem Ev.pos {α : Type} {c : Prop} [Decidable c] {f g : Nat → Option α} {r : α} (h : c) (k : Ev f r) : Ev (fun n => if c then f n else g n) r := Ev.congr (fun _ => if_pos h) k
theorem Ev.neg {α : Type} {c : Prop} [Decidable c] {f g : Nat → Option α} {r : α} (h : ¬ c) (k : Ev g r) : Ev (fun n => if c then f n else g n) r := Ev.congr (fun _ => if_neg h) k
theorem Ev.bs {α β : Type} {g : Option α} {a : α} {f : Nat → α → Option β} {r : β} (h : g = some a) (k : Ev (fun n => f n a) r) : Ev (fun n => g.bind (f n)) r := by subst h; exact k
theorem Ev.out {α : Type} {r s : α} (h : r = s) : Ev (fun _ => some r) s := by subst h; exact Ev.now _
theorem u64_id {n : Int} (h : 0 ≤ n) (h2 : n < 18446744073709551616) : IntKind.u64.wrap n = n := by rw [IntKind.wrap_u64]; omega
theorem w64_id {n : Int} (h : -9223372036854775808 ≤ n) (h2 : n < 9223372036854775808) : wrap64 n = n := by unfold wrap64; omega
theorem two_loop (n : Nat) (hn : n < 64) (d : Nat) : ∀ i : Nat, i ≤ n → n - i = d → Ev (fun k => r2_Two.l0 k n (2 ^ i : Nat) i) ((2 ^ n : Nat) : Int) := by
  induction d with
  | zero =>
    intro i hi hd
    obtain rfl : i = n := by omega
    refine Ev.step (fun _ => r2_Two.l0.eq_2 ..) ?_
    exact Ev.neg (by omega) (Ev.out rfl)
  | succ d ih =>
    intro i hi hd
    refine Ev.step (fun _ => r2_Two.l0.eq_2 ..) ?_
    refine Ev.pos (by omega) ?_
    have h := ih (i + 1) (by omega) (by omega)
    have hp : 2 ^ i ≤ 4611686018427387904 * 2 := by
      have : 2 ^ i ≤ 2 ^ 63 := Nat.pow_le_pow_right (by decide) (by omega)
      simpa using this
    have hp2 : 2 ^ (i + 1) ≤ 9223372036854775808 := by
      have : 2 ^ (i + 1) ≤ 2 ^ 63 := Nat.pow_le_pow_right (by decide) (by omega)
      simpa using this
    rw [Nat.pow_succ] at h hp2
    generalize 2 ^ i = P at *
    rw [u64_id (by omega) (by omega), w64_id (by omega) (by omega), show (2 : Int) * (P : Int) = ((P * 2 : Nat) : Int) by omega, show (i : Int) + 1 = ((i + 1 : Nat) : Int) by omega]
    exact h
theorem two_f (n : Nat) (hn : n < 64) : Ev (fun k => r2_Two.f k n) ((2 ^ n : Nat) : Int) := two_loop n hn _ 0 (by omega) rfl
theorem twoS (w : Int) (hw : w = 32 ∨ w = 64) : Ev (fun k => r2_Two.f k (wrap64 (w - 1))) ((sb w : Nat) : Int) := by
  rcases hw with rfl | rfl
  · rw [show wrap64 (32 - 1) = ((31 : Nat) : Int) by decide +kernel]; exact two_f 31 (by decide)
  · rw [show wrap64 (64 - 1) = ((63 : Nat) : Int) by decide +kernel]; exact two_f 63 (by decide)
end Go.Proofs.YthdeeoallfbjmaaDoor.Th
end
namespace Dig
def OkB (B : Nat) (l : List Int) : Prop := ∀ d ∈ l, 0 ≤ d ∧ d < B
section
variable {B : Nat}
theorem OkB.nil : OkB B [] := fun _ h => by cases h
theorem OkB.cons {d : Int} {l : List Int} (h : 0 ≤ d ∧ d < B) (k : OkB B l) : OkB B (d :: l) := fun x hx => by
  rcases List.mem_cons.1 hx with rfl | hx
  · exact h
  · exact k x hx
theorem OkB.head {d : Int} {l : List Int} (k : OkB B (d :: l)) : 0 ≤ d ∧ d < B := k d List.mem_cons_self
theorem OkB.take {l : List Int} (k : OkB B l) (i : Nat) : OkB B (l.take i) := fun x hx => k x (List.mem_of_mem_take hx)
end
theorem W2 : 2 ≤ 4294967296 := by decide
def Ok (l : List Int) : Prop := ∀ d ∈ l, 0 ≤ d ∧ d < 4294967296
theorem Ok.up {l : List Int} (h : Ok l) : OkB 4294967296 l := h
theorem Ok.nil : Ok [] := fun _ h => by cases h
theorem Ok.cons {d : Int} {l : List Int} (h : 0 ≤ d ∧ d < 4294967296) (k : Ok l) : Ok (d :: l) := OkB.cons (B := 4294967296) h k
theorem Ok.take {l : List Int} (k : Ok l) (i : Nat) : Ok (l.take i) := OkB.take (B := 4294967296) k i
end Dig
section
set_option linter.unusedVariables false
set_option linter.unusedSimpArgs false
namespace Go.Proofs.YthdeeoallfbjmaaDoor.Th
open Go.RowKit Go.Proofs.YthdeeoallfbjmaaDoorW.PrintWords Go.Proofs.YthdeeoallfbjmaaDoorW.PrintLast Go.Proofs.YthdeeoallfbjmaaDoorW.PrintMore Go.Proofs.YthdeeoallfbjmaaDoor.PA Dig

def bl (n : Nat) : Nat := if n = 0 then 0 else n.log2 + 1
theorem bl_zero : bl 0 = 0 := rfl
theorem bl_half {n : Nat} (h : 0 < n) : bl n = bl (n / 2) + 1 := by
  unfold bl
  rw [if_neg (by omega)]
  by_cases h2 : n < 2
  · obtain rfl : n = 1 := by omega
    rfl
  · rw [if_neg (by omega), Nat.log2_def, if_pos (by omega)]
theorem bl_le {n k : Nat} : bl n ≤ k ↔ n < 2 ^ k := by
  unfold bl
  split
  · subst_vars; simp [Nat.pow_pos]
  · rw [← Nat.log2_lt ‹_›]; omega
end Go.Proofs.YthdeeoallfbjmaaDoor.Th
end
section
set_option linter.unusedVariables false
set_option linter.unusedSimpArgs false
namespace Go.Proofs.YthdeeoallfbjmaaDoor.Th
open Go.RowKit Go.Proofs.YthdeeoallfbjmaaDoorW.PrintWords Go.Proofs.YthdeeoallfbjmaaDoorW.PrintLast Go.Proofs.YthdeeoallfbjmaaDoorW.PrintMore Go.Proofs.YthdeeoallfbjmaaDoor.PA Bit Dig
def pw (w : Int) : Nat := if w = 32 then 4294967296 else 18446744073709551616
theorem cutP (w : Int) (hw : w = 32 ∨ w = 64) (a : Nat) (ha : a < 18446744073709551616) : cutN w a = a % pw w := by
  unfold cutN pw; rcases hw with rfl | rfl
  · rfl
  · rw [if_neg (by decide), if_pos rfl, if_neg (by decide)]; omega
theorem u64_nat (n : Nat) : IntKind.u64.wrap (n : Int) = ((n % 18446744073709551616 : Nat) : Int) := by rw [IntKind.wrap_u64]; omega
theorem awake13 : L13_awake.f = some true := by decide +kernel
theorem pw_64 (w : Int) : pw w ≤ 18446744073709551616 := by unfold pw; split <;> omega
theorem pw_0 (w : Int) : 0 < pw w := by unfold pw; split <;> decide
theorem pw_two (w : Int) (hw : w = 32 ∨ w = 64) : pw w = 2 ^ w.toNat := by rcases hw with rfl | rfl <;> decide
def vb : List Bool → Nat
  | [] => 0
  | b :: l => 2 * vb l + b.toNat
theorem getD_in {α : Type} (d : α) (l : List α) (i : Nat) (h : i < l.length) : l.getD i d = l[i] := by simp [List.getD, h]
theorem getD_out {α : Type} (d : α) (l : List α) (i : Nat) (h : l.length ≤ i) : l.getD i d = d := by simp [List.getD, h]
theorem vb_lt (l : List Bool) : vb l < 2 ^ l.length := by
  induction l with
  | nil => decide
  | cons b l ih => simp only [vb, List.length_cons, Nat.pow_succ]; have := Bool.toNat_le b; omega
theorem vb_bit (l : List Bool) : ∀ i, (vb l).testBit i = l.getD i false := by
  induction l with
  | nil => intro i; simp [vb]
  | cons b l ih =>
    intro i
    cases i with
    | zero => simp only [vb, Nat.testBit_zero]; cases b <;> simp
    | succ i =>
      rw [Nat.testBit_succ, show vb (b :: l) / 2 = vb l by simp only [vb]; have := Bool.toNat_le b; omega, ih]
      rfl
theorem of_loop (l : List Bool) (hl : l.length ≤ 64) (i : Nat) : i ≤ l.length → Ev (fun k => trunnionref13_Of.l0 k l (vb (l.drop i) : Nat) ((i : Int) - 1)) ((vb l : Nat) : Int) := by
  induction i with
  | zero =>
    intro _
    exact Ev.step (fun _ => trunnionref13_Of.l0.eq_2 ..) (Ev.neg (by omega) (Ev.out (by rw [List.drop_zero])))
  | succ i ih =>
    intro hi
    have h1 : vb (l.drop i) = 2 * vb (l.drop (i + 1)) + (l.getD i false).toNat := by
      rw [List.drop_eq_getElem_cons (by omega : i < l.length), vb, getD_in _ _ _ (by omega)]
    have h2 := vb_lt (l.drop i)
    have h3 : 2 ^ (l.drop i).length ≤ 2 ^ 64 := Nat.pow_le_pow_right (by decide) (by rw [List.length_drop]; omega)
    have h4 : (2 : Nat) ^ 64 = 18446744073709551616 := by decide
    have h5 : rdOf false l (((i + 1 : Nat) : Int) - 1) = l.getD i false := by unfold rdOf; congr 1; omega
    refine Ev.step (fun _ => trunnionref13_Of.l0.eq_2 ..) (Ev.pos (by omega) (Ev.pos (by omega) (Ev.pos (by omega) ?_)))
    rw [h5]
    have h6 := ih (by omega)
    have e1 : wrap64 (((i + 1 : Nat) : Int) - 1 - 1) = (i : Int) - 1 := by rw [w64_id (by omega) (by omega)]; omega
    rw [e1]
    cases hb : l.getD i false with
    | true =>
      rw [hb] at h1
      simp only [Bool.toNat_true] at h1
      refine Ev.pos rfl ?_
      rw [u64_id (n := 2 * _) (by omega) (by omega), u64_id (by omega) (by omega), show 2 * ((vb (l.drop (i + 1)) : Nat) : Int) + 1 = ((vb (l.drop i) : Nat) : Int) by omega]
      exact h6
    | false =>
      rw [hb] at h1
      simp only [Bool.toNat_false] at h1
      refine Ev.neg (by decide) ?_
      rw [u64_id (n := 2 * _) (by omega) (by omega), show 2 * ((vb (l.drop (i + 1)) : Nat) : Int) = ((vb (l.drop i) : Nat) : Int) by omega]
      exact h6
theorem ofB (l : List Bool) (hl : l.length ≤ 64) : Ev (fun k => trunnionref13_Of.f k l) ((vb l : Nat) : Int) := by
  unfold trunnionref13_Of.f
  rw [w64_id (by omega) (by omega)]
  have h := of_loop l hl l.length (Nat.le_refl _)
  rw [List.drop_length] at h
  exact h
def bts (c n : Nat) : List Bool := (List.range n).map c.testBit
theorem bts_len (c n : Nat) : (bts c n).length = n := by simp [bts]
theorem bts_get (c n i : Nat) (h : i < n) : (bts c n).getD i false = c.testBit i := by
  rw [getD_in _ _ _ (by rw [bts_len]; exact h)]; simp [bts]
theorem bits_loop (w : Int) (hw : w = 32 ∨ w = 64) (a : Int) (c : Nat) (hc : c < 18446744073709551616) (d : Nat) : ∀ i : Nat, i ≤ w.toNat → w.toNat - i = d → Ev (fun k => trunnionref13_Bits.l0 k w (c / 2 ^ i : Nat) (bts c i) i) (bts c w.toNat) := by
  induction d with
  | zero =>
    intro i h1 h2
    exact Ev.step (fun _ => trunnionref13_Bits.l0.eq_2 ..) (Ev.neg (by omega) (Ev.out (by rw [show i = w.toNat by omega])))
  | succ d ih =>
    intro i h1 h2
    have hd : c / 2 ^ i < 18446744073709551616 := Nat.lt_of_le_of_lt (Nat.div_le_self _ _) hc
    refine Ev.step (fun _ => trunnionref13_Bits.l0.eq_2 ..) (Ev.pos (by omega) (Ev.pos (by rw [bts_len]; omega) ?_))
    have hs := ih (i + 1) (by omega) (by omega)
    have e1 : c / 2 ^ i / 2 = c / 2 ^ (i + 1) := by rw [Nat.pow_succ, ← Nat.div_div_eq_div_mul]
    have e3 : c.testBit i = decide (c / 2 ^ i % 2 = 1) := Nat.testBit_eq_decide_div_mod_eq
    rw [← e1] at hs
    generalize c / 2 ^ i = q at hd hs e3 ⊢
    rw [w64_id (by omega) (by omega), Int.tdiv_eq_ediv_of_nonneg (by omega), Int.tmod_eq_emod_of_nonneg (by omega), u64_id (by omega) (by omega)]
    have e2 : bts c i ++ [((q : Int) % 2 == 1)] = bts c (i + 1) := by
      unfold bts
      rw [List.range_succ, List.map_append]
      congr 1
      simp only [List.map_cons, List.map_nil, e3]
      congr 1
      rw [Bool.eq_iff_iff]; simp; omega
    rw [e2, show (q : Int) / 2 = ((q / 2 : Nat) : Int) by omega]
    exact hs
theorem bitsB (w : Int) (hw : w = 32 ∨ w = 64) (a : Nat) (ha : a < 18446744073709551616) : Ev (fun k => trunnionref13_Bits.f k w a) (bts (a % pw w) w.toNat) := by
  unfold trunnionref13_Bits.f
  refine Ev.bs (r2Cut w a hw) ?_
  rw [cutP w hw a ha]
  have h := bits_loop w hw a (a % pw w) (Nat.lt_of_le_of_lt (Nat.mod_le _ _) ha) w.toNat 0 (Nat.zero_le _) rfl
  simpa [bts] using h
theorem known13 (w : Int) : ints_known.f w = some (decide (w = 32 ∨ w = 64)) := by
  unfold ints_known.f
  by_cases h : w = 32
  · subst h; rfl
  · by_cases h2 : w = 64
    · subst h2; rfl
    · rw [decide_eq_false (by omega)]; simp [h, h2]
theorem shrN (c n : Nat) (hn : n < 64) : shr .u64 (c : Int) (n : Int) = ((c / 2 ^ n : Nat) : Int) := by
  unfold shr
  rw [show min ((n : Int)).toNat IntKind.u64.bits = n by rw [show IntKind.u64.bits = 64 by decide]; omega]
  rw [Int.natCast_ediv, Int.natCast_pow]; rfl
def sgn (w : Int) (a : Nat) : Int := (a % pw w : Nat) - (if sgB w a then (pw w : Int) else 0)
theorem signedS (w : Int) (hw : w = 32 ∨ w = 64) (a : Nat) (ha : a < 18446744073709551616) : ints_signed.f w a = some (sgn w a) := by
  unfold ints_signed.f sgn sgB pw sb
  rcases hw with rfl | rfl
  · simp only [if_true, decide_eq_true_eq]
    rw [show wrap32 ((a : Int) % 4294967296) = if a / 2147483648 % 2 = 1 then ((a % 4294967296 : Nat) : Int) - 4294967296 else ((a % 4294967296 : Nat) : Int) by unfold wrap32; split <;> omega]
    congr 1
    split
    · rw [w64_id (by omega) (by omega)]; rfl
    · rw [w64_id (by omega) (by omega)]; omega
  · simp only [show ¬ ((64 : Int) = 32) by decide, if_false, decide_eq_true_eq]
    congr 1
    unfold wrap64
    split <;> omega
theorem pw_pow (w : Int) (hw : w = 32 ∨ w = 64) : pw w = 2 ^ w.toNat := pw_two w hw
end Go.Proofs.YthdeeoallfbjmaaDoor.Th
end
