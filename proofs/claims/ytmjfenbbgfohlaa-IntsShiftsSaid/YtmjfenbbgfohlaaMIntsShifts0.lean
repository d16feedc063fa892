/- What the Go functions that the statement IntsShifts reaches compute, and the mathematics on it, in the order in which one leans on the other; for every input. -/
import Derived.Test.YtmjfenbbgfohlaaProg
import Derived.Below
import Derived.Deep.Draws
import Derived.Deep.AppendLies
import Derived.Maps.AppendAt
import Derived.OwnWalk
import Derived.Laws.BytesArg
import Derived.Laws.MakeOwn
import Derived.Laws.OwnMore
import Derived.Deep.OwnRows
import Derived.Tactics
import Derived.Lib.ConvBytes
import Derived.Laws.Slices
import Derived.WalkKit
import Derived.KernelRfl
import Derived.RowKit3
import Derived.Deep.LoopGhost
import Derived.Deep.QuietTactic
import Derived.BigQuiet
import Derived.WideLaws
import Derived.Deep.DeepCutAuto
import Derived.Deep.CutBlock
import Derived.Deep.RegionHeld3
import Derived.Laws.Rows
import Derived.Lib.AppendStr
import Derived.ArgAppend
import Derived.Laws.IdiomCopy
import Derived.OrdersHeld
import Derived.Laws.BitsLemmas
import Derived.RowKit
import Derived.Test.YtmjfenbbgfohlaaWWords
import Derived.Test.YtmjfenbbgfohlaaWLast
import Derived.Test.YtmjfenbbgfohlaaWTab
import Derived.Test.YtmjfenbbgfohlaaWFour
import Derived.Test.YtmjfenbbgfohlaaWQPut
import Derived.Test.YtmjfenbbgfohlaaWApart
import Derived.Test.YtmjfenbbgfohlaaWArr
import Derived.Test.YtmjfenbbgfohlaaWZeros
import Derived.Test.YtmjfenbbgfohlaaWFoot
import Derived.Test.YtmjfenbbgfohlaaWKept
import Derived.Test.YtmjfenbbgfohlaaWShare
import Derived.Test.YtmjfenbbgfohlaaWN
import Derived.Test.YtmjfenbbgfohlaaWFootNe
import Derived.Test.YtmjfenbbgfohlaaWAt
import Derived.Test.YtmjfenbbgfohlaaWEqStruct
import Derived.Test.YtmjfenbbgfohlaaWRepsOne
import Derived.Test.YtmjfenbbgfohlaaWInv
import Derived.Test.YtmjfenbbgfohlaaWInvWords
import Derived.Test.YtmjfenbbgfohlaaWGuard
import Derived.Test.YtmjfenbbgfohlaaWNEv
import Derived.Test.YtmjfenbbgfohlaaWMore
import Derived.Laws.BitsAllLaws
import Derived.Test.YtmjfenbbgfohlaaRows
import Derived.ProofKit
import Derived.JoinedOf
namespace Go.Proofs.Ytmjfenbbgfohlaa.PA
open Go.RowKit Go.Proofs.YtmjfenbbgfohlaaW.PrintWords Go.Proofs.YtmjfenbbgfohlaaW.PrintLast Go.Proofs.YtmjfenbbgfohlaaW.PrintMore
attribute [local go_sem] max2_int min2_int max_two min_two max_three min_three max_four min_four   -- for this text's walks alone
set_option linter.unusedVariables false
set_option linter.unusedSimpArgs false



def errW : Option Int → Value
  | none => .nilIface
  | some c => .iface 0 (.int .i64 c)
theorem errW_none : errW none = .nilIface := rfl
theorem errW_some (c : Int) : errW (some c) = .iface 0 (.int .i64 c) := rfl

theorem info4 : (Try.prog.info? 4).map (fun i => (i.zero, i.size, i.bytes)) = some (some (.bool false), 1, 1) := by kernel_rfl
theorem info22 : (Try.prog.info? 22).map (fun i => (i.zero, i.size, i.bytes)) = some (some (.int .u64 0), 1, 8) := by kernel_rfl
-- the values' own types

end Go.Proofs.Ytmjfenbbgfohlaa.PA

namespace Go.Proofs.Ytmjfenbbgfohlaa.PA
open Go.RowKit Go.Proofs.YtmjfenbbgfohlaaW.PrintWords Go.Proofs.YtmjfenbbgfohlaaW.PrintLast Go.Proofs.YtmjfenbbgfohlaaW.PrintMore
attribute [local go_sem] max2_int min2_int max_two min_two max_three min_three max_four min_four   -- for this text's walks alone
set_option linter.unusedVariables false
set_option linter.unusedSimpArgs false

/-! ### ints_Rotl: function 49 -/
def ints_Rotl.f (a0 : Int) (a1 : Int) (a2 : Int) : Option (Int) := if a0 = 32 then some (IntKind.u64.wrap (Go.bits .or .u32 ((a1 % 4294967296) * 2 ^ min (Go.bits .and .u64 (IntKind.u64.wrap (wrap64 (Int.tmod a2 32))) 31).toNat 32 % 4294967296) ((a1 % 4294967296) / 2 ^ min (IntKind.u64.wrap (32 - Go.bits .and .u64 (IntKind.u64.wrap (wrap64 (Int.tmod a2 32))) 31)).toNat 32))) else if a0 = 64 then some (Go.bits .or .u64 (IntKind.u64.wrap (a1 * 2 ^ min (Go.bits .and .u64 (IntKind.u64.wrap (wrap64 (Int.tmod a2 64))) 63).toNat 64)) (a1 / 2 ^ min (IntKind.u64.wrap (64 - Go.bits .and .u64 (IntKind.u64.wrap (wrap64 (Int.tmod a2 64))) 63)).toNat 64)) else some 0
theorem ints_Rotl.pos (x y : Int) : 0 ≤ Go.bits .and .u64 x y := by
 unfold Go.bits; rw [IntKind.wrap_u64]; omega
theorem ints_Rotl.posw (x : Int) : 0 ≤ IntKind.u64.wrap x := by rw [IntKind.wrap_u64]; omega
set_option maxHeartbeats 8000000 in
set_option maxRecDepth 100000 in
theorem ints_Rotl.calls (a0 : Int) (a1 : Int) (a2 : Int) (r : Int) (w : World) (h : ints_Rotl.f a0 a1 a2 = some r) :
  Calls Try.prog 49 #[.int .i64 a0, .int .u64 a1, .int .u64 a2] w fun e w' => e = .returned (.int .u64 r) ∧ Below w.heap.size w w' := by
 unfold ints_Rotl.f at h
 by_cases c3 : a0 = 32
 ·rw [if_pos c3] at h
  subst c3
  have p0 := eq_true (ints_Rotl.pos (IntKind.u64.wrap (wrap64 (Int.tmod a2 32))) 31)
  have p1 := eq_true (ints_Rotl.posw (32 - Go.bits .and .u64 (IntKind.u64.wrap (wrap64 (Int.tmod a2 32))) 31))
  have H := Aside0.mk (Option.some.inj h)
  clear h
  go_enter Try.func49, Try.ntmps49
  go_wp2_with go_in
  go_ret
  exact ⟨by rw [← H.out]; first | rfl | (simp; done) | (go_simp; done), below_alloc (Below.refl _ _) _⟩
 ·rw [if_neg c3] at h
  by_cases c4 : a0 = 64
  ·rw [if_pos c4] at h
   subst c4
   clear c3
   have p0 := eq_true (ints_Rotl.pos (IntKind.u64.wrap (wrap64 (Int.tmod a2 64))) 63)
   have p1 := eq_true (ints_Rotl.posw (64 - Go.bits .and .u64 (IntKind.u64.wrap (wrap64 (Int.tmod a2 64))) 63))
   have H := Aside0.mk (Option.some.inj h)
   clear h
   go_enter Try.func49, Try.ntmps49
   go_wp2_with go_in
   go_ret
   exact ⟨by rw [← H.out]; first | rfl | (simp; done) | (go_simp; done), below_alloc (Below.refl _ _) _⟩
  ·rw [if_neg c4] at h
   have c3b0 : (a0 == 32) = false := beq_eq_false_iff_ne.mpr c3
   have c4b0 : (a0 == 64) = false := beq_eq_false_iff_ne.mpr c4
   clear c3 c4
   obtain rfl := Option.some.inj h
   clear h
   go_enter Try.func49, Try.ntmps49
   go_wp2_with go_in
   go_ret
   exact ⟨by first | rfl | (simp; done), below_alloc (Below.refl _ _) _⟩

end Go.Proofs.Ytmjfenbbgfohlaa.PA

namespace Go.Proofs.Ytmjfenbbgfohlaa.PA
open Go.RowKit Go.Proofs.YtmjfenbbgfohlaaW.PrintWords Go.Proofs.YtmjfenbbgfohlaaW.PrintLast Go.Proofs.YtmjfenbbgfohlaaW.PrintMore
attribute [local go_sem] max2_int min2_int max_two min_two max_three min_three max_four min_four   -- for this text's walks alone
set_option linter.unusedVariables false
set_option linter.unusedSimpArgs false

/-! ### ints_Rotr: function 50 -/
def ints_Rotr.f (a0 : Int) (a1 : Int) (a2 : Int) : Option (Int) := if a0 = 32 then some (IntKind.u64.wrap (Go.bits .or .u32 ((a1 % 4294967296) * 2 ^ min (Go.bits .and .u64 (IntKind.u64.wrap (wrap64 (-(wrap64 (Int.tmod a2 32))))) 31).toNat 32 % 4294967296) ((a1 % 4294967296) / 2 ^ min (IntKind.u64.wrap (32 - Go.bits .and .u64 (IntKind.u64.wrap (wrap64 (-(wrap64 (Int.tmod a2 32))))) 31)).toNat 32))) else if a0 = 64 then some (Go.bits .or .u64 (IntKind.u64.wrap (a1 * 2 ^ min (Go.bits .and .u64 (IntKind.u64.wrap (wrap64 (-(wrap64 (Int.tmod a2 64))))) 63).toNat 64)) (a1 / 2 ^ min (IntKind.u64.wrap (64 - Go.bits .and .u64 (IntKind.u64.wrap (wrap64 (-(wrap64 (Int.tmod a2 64))))) 63)).toNat 64)) else some 0
theorem ints_Rotr.pos (x y : Int) : 0 ≤ Go.bits .and .u64 x y := by
 unfold Go.bits; rw [IntKind.wrap_u64]; omega
theorem ints_Rotr.posw (x : Int) : 0 ≤ IntKind.u64.wrap x := by rw [IntKind.wrap_u64]; omega
set_option maxHeartbeats 8000000 in
set_option maxRecDepth 100000 in
theorem ints_Rotr.calls (a0 : Int) (a1 : Int) (a2 : Int) (r : Int) (w : World) (h : ints_Rotr.f a0 a1 a2 = some r) :
  Calls Try.prog 50 #[.int .i64 a0, .int .u64 a1, .int .u64 a2] w fun e w' => e = .returned (.int .u64 r) ∧ Below w.heap.size w w' := by
 unfold ints_Rotr.f at h
 by_cases c3 : a0 = 32
 ·rw [if_pos c3] at h
  subst c3
  have p0 := eq_true (ints_Rotr.pos (IntKind.u64.wrap (wrap64 (-(wrap64 (Int.tmod a2 32))))) 31)
  have p1 := eq_true (ints_Rotr.posw (32 - Go.bits .and .u64 (IntKind.u64.wrap (wrap64 (-(wrap64 (Int.tmod a2 32))))) 31))
  have H := Aside0.mk (Option.some.inj h)
  clear h
  go_enter Try.func50, Try.ntmps50
  go_wp2_with go_in
  go_ret
  exact ⟨by rw [← H.out]; first | rfl | (simp; done) | (go_simp; done), below_alloc (Below.refl _ _) _⟩
 ·rw [if_neg c3] at h
  by_cases c4 : a0 = 64
  ·rw [if_pos c4] at h
   subst c4
   clear c3
   have p0 := eq_true (ints_Rotr.pos (IntKind.u64.wrap (wrap64 (-(wrap64 (Int.tmod a2 64))))) 63)
   have p1 := eq_true (ints_Rotr.posw (64 - Go.bits .and .u64 (IntKind.u64.wrap (wrap64 (-(wrap64 (Int.tmod a2 64))))) 63))
   have H := Aside0.mk (Option.some.inj h)
   clear h
   go_enter Try.func50, Try.ntmps50
   go_wp2_with go_in
   go_ret
   exact ⟨by rw [← H.out]; first | rfl | (simp; done) | (go_simp; done), below_alloc (Below.refl _ _) _⟩
  ·rw [if_neg c4] at h
   have c3b0 : (a0 == 32) = false := beq_eq_false_iff_ne.mpr c3
   have c4b0 : (a0 == 64) = false := beq_eq_false_iff_ne.mpr c4
   clear c3 c4
   obtain rfl := Option.some.inj h
   clear h
   go_enter Try.func50, Try.ntmps50
   go_wp2_with go_in
   go_ret
   exact ⟨by first | rfl | (simp; done), below_alloc (Below.refl _ _) _⟩

end Go.Proofs.Ytmjfenbbgfohlaa.PA

namespace Go.Proofs.Ytmjfenbbgfohlaa.PA
open Go.RowKit Go.Proofs.YtmjfenbbgfohlaaW.PrintWords Go.Proofs.YtmjfenbbgfohlaaW.PrintLast Go.Proofs.YtmjfenbbgfohlaaW.PrintMore
attribute [local go_sem] max2_int min2_int max_two min_two max_three min_three max_four min_four   -- for this text's walks alone
set_option linter.unusedVariables false
set_option linter.unusedSimpArgs false

/-! ### ints_known: function 142 -/
def ints_known.f (a0 : Int) : Option (Bool) := if a0 = 32 then (some true) else (some (a0 == 64))
set_option maxHeartbeats 8000000 in
set_option maxRecDepth 100000 in
theorem ints_known.calls (a0 : Int) (r : Bool) (w : World) (h : ints_known.f a0 = some r) :
  Calls Try.prog 142 #[.int .i64 a0] w fun e w' => e = .returned (.bool r) ∧ Drawn0 w w' := by
 have H : (if a0 = 32 then (some true) else (some (a0 == 64))) = some r := h
 clear h
 by_cases c2 : a0 = 32
 ·rw [if_pos c2] at H
  have c2b0 : (a0 == 32) = true := beq_iff_eq.mpr c2
  have c2b1 : (a0 != 32) = false := bne_eq_false_iff_eq.mpr c2
  clear c2
  obtain rfl := Option.some.inj H
  go_enter Try.func142, Try.ntmps142
  go_wp2
  go_ret
  exact ⟨by first | rfl | (simp; done) | (simp [*]; done), by repeat (first | exact Drawn0.refl _ | apply Drawn0.step)⟩
 ·rw [if_neg c2] at H
  have c2b0 : (a0 == 32) = false := beq_eq_false_iff_ne.mpr c2
  have c2b1 : (a0 != 32) = true := bne_iff_ne.mpr c2
  obtain rfl := Option.some.inj H
  go_enter Try.func142, Try.ntmps142
  go_wp2
  go_ret
  exact ⟨by first | rfl | (simp; done) | (simp [*]; done), by repeat (first | exact Drawn0.refl _ | apply Drawn0.step)⟩

end Go.Proofs.Ytmjfenbbgfohlaa.PA

namespace Go.Proofs.Ytmjfenbbgfohlaa.PA
open Go.RowKit Go.Proofs.YtmjfenbbgfohlaaW.PrintWords Go.Proofs.YtmjfenbbgfohlaaW.PrintLast Go.Proofs.YtmjfenbbgfohlaaW.PrintMore
attribute [local go_sem] max2_int min2_int max_two min_two max_three min_three max_four min_four   -- for this text's walks alone
set_option linter.unusedVariables false
set_option linter.unusedSimpArgs false

/-! ### ints_by: function 127 -/
def ints_by.f (a0 : Int) (a1 : Int) : Option (Int) := (ints_known.f a0).bind fun t154 => (if t154 = true then (if (IntKind.u64.wrap (a0)) = 0 then (none) else (some (wrap64 (Int.tmod a1 (IntKind.u64.wrap (a0)))))) else (some 0))
set_option maxHeartbeats 8000000 in
set_option maxRecDepth 100000 in
theorem ints_by.calls (a0 : Int) (a1 : Int) (r : Int) (w : World) (h : ints_by.f a0 a1 = some r) :
  Calls Try.prog 127 #[.int .i64 a0, .int .u64 a1] w fun e w' => e = .returned (.int .i64 r) ∧ Drawn0 w w' := by
 have H : ((ints_known.f a0).bind fun t154 => (if t154 = true then (if (IntKind.u64.wrap (a0)) = 0 then (none) else (some (wrap64 (Int.tmod a1 (IntKind.u64.wrap (a0)))))) else (some 0))) = some r := h
 clear h
 replace H := Option.bind_eq_some_iff.mp H
 obtain ⟨t154, A30, H⟩ := H
 replace H : (if t154 = true then (if (IntKind.u64.wrap (a0)) = 0 then (none) else (some (wrap64 (Int.tmod a1 (IntKind.u64.wrap (a0)))))) else (some 0)) = some r := H
 have A3 := Aside0.mk A30
 clear A30
 by_cases c4 : t154 = true
 ·subst c4
  have H1 : (if (IntKind.u64.wrap (a0)) = 0 then (none) else (some (wrap64 (Int.tmod a1 (IntKind.u64.wrap (a0)))))) = some r := by rw [if_pos rfl] at H; exact H
  clear H
  have H := H1
  clear H1
  by_cases c5 : (IntKind.u64.wrap (a0)) = 0
  ·rw [if_pos c5] at H
   exact absurd H (by simp)
  ·rw [if_neg c5] at H
   have c5b0 : ((IntKind.u64.wrap (a0)) == 0) = false := beq_eq_false_iff_ne.mpr c5
   have c5b1 : ((IntKind.u64.wrap (a0)) != 0) = true := bne_iff_ne.mpr c5
   obtain rfl := Option.some.inj H
   go_enter Try.func127, Try.ntmps127
   go_wp2_with (first | ((with_reducible refine gate_callee (f := 142) rfl ?_); refine goesL_ (some 6) rfl rfl Try.func142 (by kernel_rfl) rfl #[.int .i64 a0] rfl (by (try simp only [List.map_toArray, List.map_cons, List.map_nil]); first | done | rfl | (simp only [List.length_drop, List.length_take]; rfl)) ?_; (with_reducible refine (ints_known.calls a0 true _ A3.out).mono ?_); rintro e w' ⟨rfl, ⟨nd, rfl⟩⟩; refine ⟨_, rfl, ?_⟩))
   go_ret
   exact ⟨by first | rfl | (simp; done) | (simp [*]; done), by repeat (first | exact Drawn0.refl _ | apply Drawn0.step)⟩
 ·replace c4 := Bool.eq_false_iff.mpr c4
  subst c4
  have H1 : (some 0) = some r := by rw [if_neg (show ¬ (false = true) by decide)] at H; exact H
  clear H
  have H := H1
  clear H1
  obtain rfl := Option.some.inj H
  go_enter Try.func127, Try.ntmps127
  go_wp2_with (first | ((with_reducible refine gate_callee (f := 142) rfl ?_); refine goesL_ (some 6) rfl rfl Try.func142 (by kernel_rfl) rfl #[.int .i64 a0] rfl (by (try simp only [List.map_toArray, List.map_cons, List.map_nil]); first | done | rfl | (simp only [List.length_drop, List.length_take]; rfl)) ?_; (with_reducible refine (ints_known.calls a0 false _ A3.out).mono ?_); rintro e w' ⟨rfl, ⟨nd, rfl⟩⟩; refine ⟨_, rfl, ?_⟩))
  go_ret
  exact ⟨by first | rfl | (simp; done) | (simp [*]; done), by repeat (first | exact Drawn0.refl _ | apply Drawn0.step)⟩

end Go.Proofs.Ytmjfenbbgfohlaa.PA

namespace Go.Proofs.Ytmjfenbbgfohlaa.PA
open Go.RowKit Go.Proofs.YtmjfenbbgfohlaaW.PrintWords Go.Proofs.YtmjfenbbgfohlaaW.PrintLast Go.Proofs.YtmjfenbbgfohlaaW.PrintMore
attribute [local go_sem] max2_int min2_int max_two min_two max_three min_three max_four min_four   -- for this text's walks alone
set_option linter.unusedVariables false
set_option linter.unusedSimpArgs false

/-! ### shape_Cut: function 42 -/
def shape_Cut.f (a0 : Int) (a1 : Int) : Option (Int) := if a0 = 32 then (some (Go.bits .and .u64 a1 4294967295)) else (if a0 = 64 then (some a1) else (some 0))
set_option maxHeartbeats 8000000 in
set_option maxRecDepth 100000 in
theorem shape_Cut.calls (a0 : Int) (a1 : Int) (r : Int) (w : World) (h : shape_Cut.f a0 a1 = some r) :
  Calls Try.prog 42 #[.int .i64 a0, .int .u64 a1] w fun e w' => e = .returned (.int .u64 r) ∧ Drawn0 w w' := by
 have H : (if a0 = 32 then (some (Go.bits .and .u64 a1 4294967295)) else (if a0 = 64 then (some a1) else (some 0))) = some r := h
 clear h
 by_cases c3 : a0 = 32
 ·rw [if_pos c3] at H
  have c3b0 : (a0 == 32) = true := beq_iff_eq.mpr c3
  have c3b1 : (a0 != 32) = false := bne_eq_false_iff_eq.mpr c3
  clear c3
  obtain rfl := Option.some.inj H
  go_enter Try.func42, Try.ntmps42
  go_wp2
  go_ret
  exact ⟨by first | rfl | (simp; done) | (simp [*]; done), by repeat (first | exact Drawn0.refl _ | apply Drawn0.step)⟩
 ·rw [if_neg c3] at H
  have c3b0 : (a0 == 32) = false := beq_eq_false_iff_ne.mpr c3
  have c3b1 : (a0 != 32) = true := bne_iff_ne.mpr c3
  by_cases c4 : a0 = 64
  ·rw [if_pos c4] at H
   have c4b0 : (a0 == 64) = true := beq_iff_eq.mpr c4
   have c4b1 : (a0 != 64) = false := bne_eq_false_iff_eq.mpr c4
   clear c4
   obtain rfl := Option.some.inj H
   go_enter Try.func42, Try.ntmps42
   go_wp2
   go_ret
   exact ⟨by first | rfl | (simp; done) | (simp [*]; done), by repeat (first | exact Drawn0.refl _ | apply Drawn0.step)⟩
  ·rw [if_neg c4] at H
   have c4b0 : (a0 == 64) = false := beq_eq_false_iff_ne.mpr c4
   have c4b1 : (a0 != 64) = true := bne_iff_ne.mpr c4
   obtain rfl := Option.some.inj H
   go_enter Try.func42, Try.ntmps42
   go_wp2
   go_ret
   exact ⟨by first | rfl | (simp; done) | (simp [*]; done), by repeat (first | exact Drawn0.refl _ | apply Drawn0.step)⟩

end Go.Proofs.Ytmjfenbbgfohlaa.PA

namespace Go.Proofs.Ytmjfenbbgfohlaa.PA
open Go.RowKit Go.Proofs.YtmjfenbbgfohlaaW.PrintWords Go.Proofs.YtmjfenbbgfohlaaW.PrintLast Go.Proofs.YtmjfenbbgfohlaaW.PrintMore
attribute [local go_sem] max2_int min2_int max_two min_two max_three min_three max_four min_four   -- for this text's walks alone
set_option linter.unusedVariables false
set_option linter.unusedSimpArgs false

/-! ### ints_Shl: function 46 -/
def ints_Shl.f (a0 : Int) (a1 : Int) (a2 : Int) : Option (Int) := (ints_by.f a0 a2).bind fun t386 => (if 0 ≤ t386 then ((shape_Cut.f a0 (shl .u64 a1 t386)).bind fun t387 => (some t387)) else (none))
set_option maxHeartbeats 8000000 in
set_option maxRecDepth 100000 in
theorem ints_Shl.calls (a0 : Int) (a1 : Int) (a2 : Int) (r : Int) (w : World) (h : ints_Shl.f a0 a1 a2 = some r) :
  Calls Try.prog 46 #[.int .i64 a0, .int .u64 a1, .int .u64 a2] w fun e w' => e = .returned (.int .u64 r) ∧ Drawn0 w w' := by
 have H : ((ints_by.f a0 a2).bind fun t386 => (if 0 ≤ t386 then ((shape_Cut.f a0 (shl .u64 a1 t386)).bind fun t387 => (some t387)) else (none))) = some r := h
 clear h
 replace H := Option.bind_eq_some_iff.mp H
 obtain ⟨t386, A40, H⟩ := H
 replace H : (if 0 ≤ t386 then ((shape_Cut.f a0 (shl .u64 a1 t386)).bind fun t387 => (some t387)) else (none)) = some r := H
 have A4 := Aside0.mk A40
 clear A40
 by_cases c5 : 0 ≤ t386
 ·rw [if_pos c5] at H
  have c5b0 := eq_true c5
  have c5b1 : decide (0 ≤ t386) = true := decide_eq_true c5
  clear c5
  obtain ⟨ji6, hji6⟩ : ∃ j_ : Int, (shl .u64 a1 t386) = j_ := ⟨_, rfl⟩
  replace H : ((shape_Cut.f a0 (ji6)).bind fun t387 => (some t387)) = some r := by first | (rw [hji6] at H; exact H) | (simp only [hji6] at H ⊢; exact H)
  (try rw [hji6] at A4)
  have hji6_ : (IntKind.u64.wrap (a1 * 2 ^ min t386.toNat 64)) = ji6 := hji6
  have hji6z : t386 ≤ 64 → (IntKind.u64.wrap (a1 * 2 ^ t386.toNat)) = ji6 := shl_small hji6
  replace H := Option.bind_eq_some_iff.mp H
  obtain ⟨t387, A70, H⟩ := H
  replace H : (some t387) = some r := H
  have A7 := Aside0.mk A70
  clear A70
  obtain rfl := Option.some.inj H
  go_enter Try.func46, Try.ntmps46
  go_wp2_with (first | ((with_reducible refine gate_callee (f := 127) rfl ?_); refine goesL_ (some 11) rfl rfl Try.func127 (by kernel_rfl) rfl #[.int .i64 a0, .int .u64 a2] rfl (by (try simp only [List.map_toArray, List.map_cons, List.map_nil]); first | done | rfl | (simp only [List.length_drop, List.length_take]; rfl)) ?_; (with_reducible refine (ints_by.calls a0 a2 t386 _ A4.out).mono ?_); rintro e w' ⟨rfl, ⟨nd, rfl⟩⟩; refine ⟨_, rfl, ?_⟩) | ((with_reducible refine gate_callee (f := 42) rfl ?_); refine goesL_ (some 13) rfl rfl Try.func42 (by kernel_rfl) rfl #[.int .i64 a0, .int .u64 ji6] rfl (by (try simp only [List.map_toArray, List.map_cons, List.map_nil]); first | done | (simp only [hji6]; rfl) | rfl | (simp only [List.length_drop, List.length_take]; rfl)) ?_; (with_reducible refine (shape_Cut.calls a0 ji6 t387 _ A7.out).mono ?_); rintro e w' ⟨rfl, ⟨nd, rfl⟩⟩; refine ⟨_, rfl, ?_⟩))
  go_ret
  exact ⟨by first | rfl | (simp; done) | (simp only [← hji6] <;> (first | rfl | simp)) | (simp [*]; done), by repeat (first | exact Drawn0.refl _ | apply Drawn0.step)⟩
 ·rw [if_neg c5] at H
  exact absurd H (by simp)

end Go.Proofs.Ytmjfenbbgfohlaa.PA

namespace Go.Proofs.Ytmjfenbbgfohlaa.PA
open Go.RowKit Go.Proofs.YtmjfenbbgfohlaaW.PrintWords Go.Proofs.YtmjfenbbgfohlaaW.PrintLast Go.Proofs.YtmjfenbbgfohlaaW.PrintMore
attribute [local go_sem] max2_int min2_int max_two min_two max_three min_three max_four min_four   -- for this text's walks alone
set_option linter.unusedVariables false
set_option linter.unusedSimpArgs false

/-! ### ints_signed: function 128 -/
def ints_signed.f (a0 : Int) (a1 : Int) : Option (Int) := if a0 = 32 then (some (wrap64 (wrap32 ((a1) % 4294967296)))) else (some (wrap64 (a1)))
set_option maxHeartbeats 8000000 in
set_option maxRecDepth 100000 in
theorem ints_signed.calls (a0 : Int) (a1 : Int) (r : Int) (w : World) (h : ints_signed.f a0 a1 = some r) :
  Calls Try.prog 128 #[.int .i64 a0, .int .u64 a1] w fun e w' => e = .returned (.int .i64 r) ∧ Drawn0 w w' := by
 have H : (if a0 = 32 then (some (wrap64 (wrap32 ((a1) % 4294967296)))) else (some (wrap64 (a1)))) = some r := h
 clear h
 by_cases c3 : a0 = 32
 ·rw [if_pos c3] at H
  have c3b0 : (a0 == 32) = true := beq_iff_eq.mpr c3
  have c3b1 : (a0 != 32) = false := bne_eq_false_iff_eq.mpr c3
  clear c3
  obtain rfl := Option.some.inj H
  go_enter Try.func128, Try.ntmps128
  go_wp2
  go_ret
  exact ⟨by first | rfl | (simp; done) | (simp [*]; done), by repeat (first | exact Drawn0.refl _ | apply Drawn0.step)⟩
 ·rw [if_neg c3] at H
  have c3b0 : (a0 == 32) = false := beq_eq_false_iff_ne.mpr c3
  have c3b1 : (a0 != 32) = true := bne_iff_ne.mpr c3
  obtain rfl := Option.some.inj H
  go_enter Try.func128, Try.ntmps128
  go_wp2
  go_ret
  exact ⟨by first | rfl | (simp; done) | (simp [*]; done), by repeat (first | exact Drawn0.refl _ | apply Drawn0.step)⟩

end Go.Proofs.Ytmjfenbbgfohlaa.PA

namespace Go.Proofs.Ytmjfenbbgfohlaa.PA
open Go.RowKit Go.Proofs.YtmjfenbbgfohlaaW.PrintWords Go.Proofs.YtmjfenbbgfohlaaW.PrintLast Go.Proofs.YtmjfenbbgfohlaaW.PrintMore
attribute [local go_sem] max2_int min2_int max_two min_two max_three min_three max_four min_four   -- for this text's walks alone
set_option linter.unusedVariables false
set_option linter.unusedSimpArgs false

/-! ### ints_ShrS: function 48 -/
def ints_ShrS.f (a0 : Int) (a1 : Int) (a2 : Int) : Option (Int) := (ints_signed.f a0 a1).bind fun t155 => ((ints_by.f a0 a2).bind fun t156 => (if 0 ≤ t156 then ((shape_Cut.f a0 (IntKind.u64.wrap (shr .i64 t155 t156))).bind fun t157 => (some t157)) else (none)))
set_option maxHeartbeats 8000000 in
set_option maxRecDepth 100000 in
theorem ints_ShrS.calls (a0 : Int) (a1 : Int) (a2 : Int) (r : Int) (w : World) (h : ints_ShrS.f a0 a1 a2 = some r) :
  Calls Try.prog 48 #[.int .i64 a0, .int .u64 a1, .int .u64 a2] w fun e w' => e = .returned (.int .u64 r) ∧ Drawn0 w w' := by
 have H : ((ints_signed.f a0 a1).bind fun t155 => ((ints_by.f a0 a2).bind fun t156 => (if 0 ≤ t156 then ((shape_Cut.f a0 (IntKind.u64.wrap (shr .i64 t155 t156))).bind fun t157 => (some t157)) else (none)))) = some r := h
 clear h
 replace H := Option.bind_eq_some_iff.mp H
 obtain ⟨t155, A40, H⟩ := H
 replace H : ((ints_by.f a0 a2).bind fun t156 => (if 0 ≤ t156 then ((shape_Cut.f a0 (IntKind.u64.wrap (shr .i64 t155 t156))).bind fun t157 => (some t157)) else (none))) = some r := H
 have A4 := Aside0.mk A40
 clear A40
 replace H := Option.bind_eq_some_iff.mp H
 obtain ⟨t156, A50, H⟩ := H
 replace H : (if 0 ≤ t156 then ((shape_Cut.f a0 (IntKind.u64.wrap (shr .i64 t155 t156))).bind fun t157 => (some t157)) else (none)) = some r := H
 have A5 := Aside0.mk A50
 clear A50
 by_cases c6 : 0 ≤ t156
 ·rw [if_pos c6] at H
  have c6b0 := eq_true c6
  have c6b1 : decide (0 ≤ t156) = true := decide_eq_true c6
  clear c6
  obtain ⟨ji7, hji7⟩ : ∃ j_ : Int, (shr .i64 t155 t156) = j_ := ⟨_, rfl⟩
  replace H : ((shape_Cut.f a0 (IntKind.u64.wrap (ji7))).bind fun t157 => (some t157)) = some r := by first | (rw [hji7] at H; exact H) | (simp only [hji7] at H ⊢; exact H)
  (try rw [hji7] at A4)
  (try rw [hji7] at A5)
  have hji7_ : (t155 / 2 ^ min t156.toNat 64) = ji7 := hji7
  have hji7z : t156 ≤ 64 → (t155 / 2 ^ t156.toNat) = ji7 := shr_small hji7
  replace H := Option.bind_eq_some_iff.mp H
  obtain ⟨t157, A80, H⟩ := H
  replace H : (some t157) = some r := H
  have A8 := Aside0.mk A80
  clear A80
  obtain rfl := Option.some.inj H
  go_enter Try.func48, Try.ntmps48
  go_wp2_with (first | ((with_reducible refine gate_callee (f := 128) rfl ?_); refine goesL_ (some 10) rfl rfl Try.func128 (by kernel_rfl) rfl #[.int .i64 a0, .int .u64 a1] rfl (by (try simp only [List.map_toArray, List.map_cons, List.map_nil]); first | done | rfl | (simp only [List.length_drop, List.length_take]; rfl)) ?_; (with_reducible refine (ints_signed.calls a0 a1 t155 _ A4.out).mono ?_); rintro e w' ⟨rfl, ⟨nd, rfl⟩⟩; refine ⟨_, rfl, ?_⟩) | ((with_reducible refine gate_callee (f := 127) rfl ?_); refine goesL_ (some 13) rfl rfl Try.func127 (by kernel_rfl) rfl #[.int .i64 a0, .int .u64 a2] rfl (by (try simp only [List.map_toArray, List.map_cons, List.map_nil]); first | done | rfl | (simp only [List.length_drop, List.length_take]; rfl)) ?_; (with_reducible refine (ints_by.calls a0 a2 t156 _ A5.out).mono ?_); rintro e w' ⟨rfl, ⟨nd, rfl⟩⟩; refine ⟨_, rfl, ?_⟩) | ((with_reducible refine gate_callee (f := 42) rfl ?_); refine goesL_ (some 16) rfl rfl Try.func42 (by kernel_rfl) rfl #[.int .i64 a0, .int .u64 (IntKind.u64.wrap (ji7))] rfl (by (try simp only [List.map_toArray, List.map_cons, List.map_nil]); first | done | (simp only [hji7]; rfl) | rfl | (simp only [List.length_drop, List.length_take]; rfl)) ?_; (with_reducible refine (shape_Cut.calls a0 (IntKind.u64.wrap (ji7)) t157 _ A8.out).mono ?_); rintro e w' ⟨rfl, ⟨nd, rfl⟩⟩; refine ⟨_, rfl, ?_⟩))
  go_ret
  exact ⟨by first | rfl | (simp; done) | (simp only [← hji7] <;> (first | rfl | simp)) | (simp [*]; done), by repeat (first | exact Drawn0.refl _ | apply Drawn0.step)⟩
 ·rw [if_neg c6] at H
  exact absurd H (by simp)

end Go.Proofs.Ytmjfenbbgfohlaa.PA

namespace Go.Proofs.Ytmjfenbbgfohlaa.PA
open Go.RowKit Go.Proofs.YtmjfenbbgfohlaaW.PrintWords Go.Proofs.YtmjfenbbgfohlaaW.PrintLast Go.Proofs.YtmjfenbbgfohlaaW.PrintMore
attribute [local go_sem] max2_int min2_int max_two min_two max_three min_three max_four min_four   -- for this text's walks alone
set_option linter.unusedVariables false
set_option linter.unusedSimpArgs false

/-! ### ints_ShrU: function 47 -/
def ints_ShrU.f (a0 : Int) (a1 : Int) (a2 : Int) : Option (Int) := (shape_Cut.f a0 a1).bind fun t388 => ((ints_by.f a0 a2).bind fun t389 => (if 0 ≤ t389 then (some (shr .u64 t388 t389)) else (none)))
set_option maxHeartbeats 8000000 in
set_option maxRecDepth 100000 in
theorem ints_ShrU.calls (a0 : Int) (a1 : Int) (a2 : Int) (r : Int) (w : World) (h : ints_ShrU.f a0 a1 a2 = some r) :
  Calls Try.prog 47 #[.int .i64 a0, .int .u64 a1, .int .u64 a2] w fun e w' => e = .returned (.int .u64 r) ∧ Drawn0 w w' := by
 have H : ((shape_Cut.f a0 a1).bind fun t388 => ((ints_by.f a0 a2).bind fun t389 => (if 0 ≤ t389 then (some (shr .u64 t388 t389)) else (none)))) = some r := h
 clear h
 replace H := Option.bind_eq_some_iff.mp H
 obtain ⟨t388, A40, H⟩ := H
 replace H : ((ints_by.f a0 a2).bind fun t389 => (if 0 ≤ t389 then (some (shr .u64 t388 t389)) else (none))) = some r := H
 have A4 := Aside0.mk A40
 clear A40
 replace H := Option.bind_eq_some_iff.mp H
 obtain ⟨t389, A50, H⟩ := H
 replace H : (if 0 ≤ t389 then (some (shr .u64 t388 t389)) else (none)) = some r := H
 have A5 := Aside0.mk A50
 clear A50
 by_cases c6 : 0 ≤ t389
 ·rw [if_pos c6] at H
  have c6b0 := eq_true c6
  have c6b1 : decide (0 ≤ t389) = true := decide_eq_true c6
  clear c6
  obtain ⟨ji7, hji7⟩ : ∃ j_ : Int, (shr .u64 t388 t389) = j_ := ⟨_, rfl⟩
  replace H : (some ji7) = some r := by first | (rw [hji7] at H; exact H) | (simp only [hji7] at H ⊢; exact H)
  (try rw [hji7] at A4)
  (try rw [hji7] at A5)
  have hji7_ : (t388 / 2 ^ min t389.toNat 64) = ji7 := hji7
  have hji7z : t389 ≤ 64 → (t388 / 2 ^ t389.toNat) = ji7 := shr_small hji7
  obtain rfl := Option.some.inj H
  go_enter Try.func47, Try.ntmps47
  go_wp2_with (first | ((with_reducible refine gate_callee (f := 42) rfl ?_); refine goesL_ (some 9) rfl rfl Try.func42 (by kernel_rfl) rfl #[.int .i64 a0, .int .u64 a1] rfl (by (try simp only [List.map_toArray, List.map_cons, List.map_nil]); first | done | rfl | (simp only [List.length_drop, List.length_take]; rfl)) ?_; (with_reducible refine (shape_Cut.calls a0 a1 t388 _ A4.out).mono ?_); rintro e w' ⟨rfl, ⟨nd, rfl⟩⟩; refine ⟨_, rfl, ?_⟩) | ((with_reducible refine gate_callee (f := 127) rfl ?_); refine goesL_ (some 12) rfl rfl Try.func127 (by kernel_rfl) rfl #[.int .i64 a0, .int .u64 a2] rfl (by (try simp only [List.map_toArray, List.map_cons, List.map_nil]); first | done | rfl | (simp only [List.length_drop, List.length_take]; rfl)) ?_; (with_reducible refine (ints_by.calls a0 a2 t389 _ A5.out).mono ?_); rintro e w' ⟨rfl, ⟨nd, rfl⟩⟩; refine ⟨_, rfl, ?_⟩))
  go_ret
  exact ⟨by first | rfl | (simp; done) | (simp only [← hji7] <;> (first | rfl | simp)) | (simp [*]; done), by repeat (first | exact Drawn0.refl _ | apply Drawn0.step)⟩
 ·rw [if_neg c6] at H
  exact absurd H (by simp)

end Go.Proofs.Ytmjfenbbgfohlaa.PA

namespace Go.Proofs.Ytmjfenbbgfohlaa.PA
open Go.RowKit Go.Proofs.YtmjfenbbgfohlaaW.PrintWords Go.Proofs.YtmjfenbbgfohlaaW.PrintLast Go.Proofs.YtmjfenbbgfohlaaW.PrintMore
attribute [local go_sem] max2_int min2_int max_two min_two max_three min_three max_four min_four   -- for this text's walks alone
set_option linter.unusedVariables false
set_option linter.unusedSimpArgs false

/-! ### ints_Add: function 34 -/
def ints_Add.f (a0 : Int) (a1 : Int) (a2 : Int) : Option (Int) := if a0 = 32 then some (((a1 % 4294967296) + (a2 % 4294967296)) % 4294967296) else if a0 = 64 then some (IntKind.u64.wrap (a1 + a2)) else some 0
set_option maxHeartbeats 8000000 in
set_option maxRecDepth 100000 in
theorem ints_Add.calls (a0 : Int) (a1 : Int) (a2 : Int) (r : Int) (w : World) (h : ints_Add.f a0 a1 a2 = some r) :
  Calls Try.prog 34 #[.int .i64 a0, .int .u64 a1, .int .u64 a2] w fun e w' => e = .returned (.int .u64 r) ∧ Drawn0 w w' := by
 unfold ints_Add.f at h
 by_cases c3 : a0 = 32
 ·rw [if_pos c3] at h
  subst c3
  obtain rfl := Option.some.inj h
  go_enter Try.func34, Try.ntmps34
  go_wp2_with go_in
  go_ret
  exact ⟨by first | rfl | (simp; done), by repeat (first | exact Drawn0.refl _ | apply Drawn0.step)⟩
 ·rw [if_neg c3] at h
  have c3b0 : (a0 == 32) = false := beq_eq_false_iff_ne.mpr c3
  by_cases c4 : a0 = 64
  ·rw [if_pos c4] at h
   have c4b0 : (a0 == 64) = true := beq_iff_eq.mpr c4
   clear c4
   obtain rfl := Option.some.inj h
   go_enter Try.func34, Try.ntmps34
   go_wp2_with go_in
   go_ret
   exact ⟨by first | rfl | (simp; done), by repeat (first | exact Drawn0.refl _ | apply Drawn0.step)⟩
  ·rw [if_neg c4] at h
   have c4b0 : (a0 == 64) = false := beq_eq_false_iff_ne.mpr c4
   obtain rfl := Option.some.inj h
   go_enter Try.func34, Try.ntmps34
   go_wp2_with go_in
   go_ret
   exact ⟨by first | rfl | (simp; done), by repeat (first | exact Drawn0.refl _ | apply Drawn0.step)⟩

end Go.Proofs.Ytmjfenbbgfohlaa.PA

namespace Go.Proofs.Ytmjfenbbgfohlaa.PA
open Go.RowKit Go.Proofs.YtmjfenbbgfohlaaW.PrintWords Go.Proofs.YtmjfenbbgfohlaaW.PrintLast Go.Proofs.YtmjfenbbgfohlaaW.PrintMore
attribute [local go_sem] max2_int min2_int max_two min_two max_three min_three max_four min_four   -- for this text's walks alone
set_option linter.unusedVariables false
set_option linter.unusedSimpArgs false

/-! ### ints_DivS: function 73 -/
def ints_DivS.f (a0 : Int) (a1 : Int) (a2 : Int) : Option (Int × Int) := (ints_signed.f a0 a1).bind fun t158 => ((ints_signed.f a0 a2).bind fun t159 => ((ints_known.f a0).bind fun t160 => (if t160 = true then (if t159 = 0 then (some (0, 2)) else (if t159 = (-1) then (if 0 ≤ (wrap64 (a0 - 1)) then (if t158 = (shl .i64 (-1) (wrap64 (a0 - 1))) then (some (0, 3)) else ((shape_Cut.f a0 (IntKind.u64.wrap (wrap64 (Int.tdiv t158 t159)))).bind fun t161 => (some (t161, 0)))) else (none)) else ((shape_Cut.f a0 (IntKind.u64.wrap (wrap64 (Int.tdiv t158 t159)))).bind fun t162 => (some (t162, 0))))) else (some (0, 0)))))
set_option maxHeartbeats 8000000 in
set_option maxRecDepth 100000 in
theorem ints_DivS.calls (a0 : Int) (a1 : Int) (a2 : Int) (r1 : Int) (r2 : Int) (w : World) (h : ints_DivS.f a0 a1 a2 = some (r1, r2)) :
  Calls Try.prog 73 #[.int .i64 a0, .int .u64 a1, .int .u64 a2] w fun e w' => e = .returned (.tuple #[.int .u64 r1, .int .i64 r2]) ∧ Drawn0 w w' := by
 have H : ((ints_signed.f a0 a1).bind fun t158 => ((ints_signed.f a0 a2).bind fun t159 => ((ints_known.f a0).bind fun t160 => (if t160 = true then (if t159 = 0 then (some (0, 2)) else (if t159 = (-1) then (if 0 ≤ (wrap64 (a0 - 1)) then (if t158 = (shl .i64 (-1) (wrap64 (a0 - 1))) then (some (0, 3)) else ((shape_Cut.f a0 (IntKind.u64.wrap (wrap64 (Int.tdiv t158 t159)))).bind fun t161 => (some (t161, 0)))) else (none)) else ((shape_Cut.f a0 (IntKind.u64.wrap (wrap64 (Int.tdiv t158 t159)))).bind fun t162 => (some (t162, 0))))) else (some (0, 0)))))) = some (r1, r2) := h
 clear h
 replace H := Option.bind_eq_some_iff.mp H
 obtain ⟨t158, A40, H⟩ := H
 replace H : ((ints_signed.f a0 a2).bind fun t159 => ((ints_known.f a0).bind fun t160 => (if t160 = true then (if t159 = 0 then (some (0, 2)) else (if t159 = (-1) then (if 0 ≤ (wrap64 (a0 - 1)) then (if t158 = (shl .i64 (-1) (wrap64 (a0 - 1))) then (some (0, 3)) else ((shape_Cut.f a0 (IntKind.u64.wrap (wrap64 (Int.tdiv t158 t159)))).bind fun t161 => (some (t161, 0)))) else (none)) else ((shape_Cut.f a0 (IntKind.u64.wrap (wrap64 (Int.tdiv t158 t159)))).bind fun t162 => (some (t162, 0))))) else (some (0, 0))))) = some (r1, r2) := H
 have A4 := Aside0.mk A40
 clear A40
 replace H := Option.bind_eq_some_iff.mp H
 obtain ⟨t159, A50, H⟩ := H
 replace H : ((ints_known.f a0).bind fun t160 => (if t160 = true then (if t159 = 0 then (some (0, 2)) else (if t159 = (-1) then (if 0 ≤ (wrap64 (a0 - 1)) then (if t158 = (shl .i64 (-1) (wrap64 (a0 - 1))) then (some (0, 3)) else ((shape_Cut.f a0 (IntKind.u64.wrap (wrap64 (Int.tdiv t158 t159)))).bind fun t161 => (some (t161, 0)))) else (none)) else ((shape_Cut.f a0 (IntKind.u64.wrap (wrap64 (Int.tdiv t158 t159)))).bind fun t162 => (some (t162, 0))))) else (some (0, 0)))) = some (r1, r2) := H
 have A5 := Aside0.mk A50
 clear A50
 replace H := Option.bind_eq_some_iff.mp H
 obtain ⟨t160, A60, H⟩ := H
 replace H : (if t160 = true then (if t159 = 0 then (some (0, 2)) else (if t159 = (-1) then (if 0 ≤ (wrap64 (a0 - 1)) then (if t158 = (shl .i64 (-1) (wrap64 (a0 - 1))) then (some (0, 3)) else ((shape_Cut.f a0 (IntKind.u64.wrap (wrap64 (Int.tdiv t158 t159)))).bind fun t161 => (some (t161, 0)))) else (none)) else ((shape_Cut.f a0 (IntKind.u64.wrap (wrap64 (Int.tdiv t158 t159)))).bind fun t162 => (some (t162, 0))))) else (some (0, 0))) = some (r1, r2) := H
 have A6 := Aside0.mk A60
 clear A60
 by_cases c7 : t160 = true
 ·subst c7
  have H1 : (if t159 = 0 then (some (0, 2)) else (if t159 = (-1) then (if 0 ≤ (wrap64 (a0 - 1)) then (if t158 = (shl .i64 (-1) (wrap64 (a0 - 1))) then (some (0, 3)) else ((shape_Cut.f a0 (IntKind.u64.wrap (wrap64 (Int.tdiv t158 t159)))).bind fun t161 => (some (t161, 0)))) else (none)) else ((shape_Cut.f a0 (IntKind.u64.wrap (wrap64 (Int.tdiv t158 t159)))).bind fun t162 => (some (t162, 0))))) = some (r1, r2) := by rw [if_pos rfl] at H; exact H
  clear H
  have H := H1
  clear H1
  by_cases c8 : t159 = 0
  ·rw [if_pos c8] at H
   have c8b0 : (t159 == 0) = true := beq_iff_eq.mpr c8
   have c8b1 : (t159 != 0) = false := bne_eq_false_iff_eq.mpr c8
   clear c8
   simp only [Option.some.injEq, Prod.mk.injEq] at H
   obtain ⟨rfl, rfl⟩ := H
   go_enter Try.func73, Try.ntmps73
   go_wp2_with (first | ((with_reducible refine gate_callee (f := 128) rfl ?_); refine goesL_ (some 12) rfl rfl Try.func128 (by kernel_rfl) rfl #[.int .i64 a0, .int .u64 a1] rfl (by (try simp only [List.map_toArray, List.map_cons, List.map_nil]); first | done | rfl | (simp only [List.length_drop, List.length_take]; rfl)) ?_; (with_reducible refine (ints_signed.calls a0 a1 t158 _ A4.out).mono ?_); rintro e w' ⟨rfl, ⟨nd, rfl⟩⟩; refine ⟨_, rfl, ?_⟩) | ((with_reducible refine gate_callee (f := 128) rfl ?_); refine goesL_ (some 15) rfl rfl Try.func128 (by kernel_rfl) rfl #[.int .i64 a0, .int .u64 a2] rfl (by (try simp only [List.map_toArray, List.map_cons, List.map_nil]); first | done | rfl | (simp only [List.length_drop, List.length_take]; rfl)) ?_; (with_reducible refine (ints_signed.calls a0 a2 t159 _ A5.out).mono ?_); rintro e w' ⟨rfl, ⟨nd, rfl⟩⟩; refine ⟨_, rfl, ?_⟩) | ((with_reducible refine gate_callee (f := 142) rfl ?_); refine goesL_ (some 18) rfl rfl Try.func142 (by kernel_rfl) rfl #[.int .i64 a0] rfl (by (try simp only [List.map_toArray, List.map_cons, List.map_nil]); first | done | rfl | (simp only [List.length_drop, List.length_take]; rfl)) ?_; (with_reducible refine (ints_known.calls a0 true _ A6.out).mono ?_); rintro e w' ⟨rfl, ⟨nd, rfl⟩⟩; refine ⟨_, rfl, ?_⟩))
   go_ret2
   exact ⟨by first | rfl | (simp; done) | (simp [*]; done), by repeat (first | exact Drawn0.refl _ | apply Drawn0.step)⟩
  ·rw [if_neg c8] at H
   have c8b0 : (t159 == 0) = false := beq_eq_false_iff_ne.mpr c8
   have c8b1 : (t159 != 0) = true := bne_iff_ne.mpr c8
   by_cases c9 : t159 = (-1)
   ·rw [if_pos c9] at H
    have c9b0 : (t159 == (-1)) = true := beq_iff_eq.mpr c9
    have c9b1 : (t159 != (-1)) = false := bne_eq_false_iff_eq.mpr c9
    clear c9
    obtain ⟨ji10, hji10⟩ : ∃ j_ : Int, (wrap64 (a0 - 1)) = j_ := ⟨_, rfl⟩
    replace H : (if 0 ≤ (ji10) then (if t158 = (shl .i64 (-1) (ji10)) then (some (0, 3)) else ((shape_Cut.f a0 (IntKind.u64.wrap (wrap64 (Int.tdiv t158 t159)))).bind fun t161 => (some (t161, 0)))) else (none)) = some (r1, r2) := by first | (rw [hji10] at H; exact H) | (simp only [hji10] at H ⊢; exact H)
    (try rw [hji10] at A4)
    (try rw [hji10] at A5)
    (try rw [hji10] at A6)
    have hji10w : (IntKind.i64.wrap (a0 - 1)) = ji10 := (i64_w _).trans hji10
    by_cases c11 : 0 ≤ (ji10)
    ·rw [if_pos c11] at H
     have c11b0 := eq_true c11
     have c11b1 : decide (0 ≤ (ji10)) = true := decide_eq_true c11
     clear c11
     obtain ⟨ji12, hji12⟩ : ∃ j_ : Int, (shl .i64 (-1) (ji10)) = j_ := ⟨_, rfl⟩
     replace H : (if t158 = (ji12) then (some (0, 3)) else ((shape_Cut.f a0 (IntKind.u64.wrap (wrap64 (Int.tdiv t158 t159)))).bind fun t161 => (some (t161, 0)))) = some (r1, r2) := by first | (rw [hji12] at H; exact H) | (simp only [hji12] at H ⊢; exact H)
     (try rw [hji12] at A4)
     (try rw [hji12] at A5)
     (try rw [hji12] at A6)
     have hji12_ : (IntKind.i64.wrap ((-1) * 2 ^ min (ji10).toNat 64)) = ji12 := hji12
     have hji12z : (ji10) ≤ 64 → (IntKind.i64.wrap ((-1) * 2 ^ (ji10).toNat)) = ji12 := shl_small hji12
     have hji12m : wrap64 (-2 ^ min (ji10).toNat 64) = ji12 := by have h_ := (i64_w _).symm.trans hji12_; rw [Int.neg_one_mul] at h_; exact h_
     have hji12n : (ji10) ≤ 64 → wrap64 (-2 ^ (ji10).toNat) = ji12 := fun hle_ => by have h_ := (i64_w _).symm.trans (hji12z hle_); rw [Int.neg_one_mul] at h_; exact h_
     have hji12y : (wrap64 ((-1) * 2 ^ min (ji10).toNat 64)) = ji12 := (i64_w _).symm.trans hji12_
     have hji12x : (ji10) ≤ 64 → (wrap64 ((-1) * 2 ^ (ji10).toNat)) = ji12 := fun h_ => (i64_w _).symm.trans (hji12z h_)
     by_cases c13 : t158 = (ji12)
     ·rw [if_pos c13] at H
      have c13b0 : (t158 == (ji12)) = true := beq_iff_eq.mpr c13
      have c13b1 : (t158 != (ji12)) = false := bne_eq_false_iff_eq.mpr c13
      clear c13
      simp only [Option.some.injEq, Prod.mk.injEq] at H
      obtain ⟨rfl, rfl⟩ := H
      go_enter Try.func73, Try.ntmps73
      go_wp2_with (first | ((with_reducible refine gate_callee (f := 128) rfl ?_); refine goesL_ (some 12) rfl rfl Try.func128 (by kernel_rfl) rfl #[.int .i64 a0, .int .u64 a1] rfl (by (try simp only [List.map_toArray, List.map_cons, List.map_nil]); first | done | rfl | (simp only [List.length_drop, List.length_take]; rfl)) ?_; (with_reducible refine (ints_signed.calls a0 a1 t158 _ A4.out).mono ?_); rintro e w' ⟨rfl, ⟨nd, rfl⟩⟩; refine ⟨_, rfl, ?_⟩) | ((with_reducible refine gate_callee (f := 128) rfl ?_); refine goesL_ (some 15) rfl rfl Try.func128 (by kernel_rfl) rfl #[.int .i64 a0, .int .u64 a2] rfl (by (try simp only [List.map_toArray, List.map_cons, List.map_nil]); first | done | rfl | (simp only [List.length_drop, List.length_take]; rfl)) ?_; (with_reducible refine (ints_signed.calls a0 a2 t159 _ A5.out).mono ?_); rintro e w' ⟨rfl, ⟨nd, rfl⟩⟩; refine ⟨_, rfl, ?_⟩) | ((with_reducible refine gate_callee (f := 142) rfl ?_); refine goesL_ (some 18) rfl rfl Try.func142 (by kernel_rfl) rfl #[.int .i64 a0] rfl (by (try simp only [List.map_toArray, List.map_cons, List.map_nil]); first | done | rfl | (simp only [List.length_drop, List.length_take]; rfl)) ?_; (with_reducible refine (ints_known.calls a0 true _ A6.out).mono ?_); rintro e w' ⟨rfl, ⟨nd, rfl⟩⟩; refine ⟨_, rfl, ?_⟩))
      go_ret2
      exact ⟨by first | rfl | (simp; done) | (simp only [← hji10, ← hji12] <;> (first | rfl | simp)) | (simp [*]; done), by repeat (first | exact Drawn0.refl _ | apply Drawn0.step)⟩
     ·rw [if_neg c13] at H
      have c13b0 : (t158 == (ji12)) = false := beq_eq_false_iff_ne.mpr c13
      have c13b1 : (t158 != (ji12)) = true := bne_iff_ne.mpr c13
      replace H := Option.bind_eq_some_iff.mp H
      obtain ⟨t161, A140, H⟩ := H
      replace H : (some (t161, 0)) = some (r1, r2) := H
      have A14 := Aside0.mk A140
      clear A140
      simp only [Option.some.injEq, Prod.mk.injEq] at H
      obtain ⟨rfl, rfl⟩ := H
      go_enter Try.func73, Try.ntmps73
      go_wp2_with (first | ((with_reducible refine gate_callee (f := 128) rfl ?_); refine goesL_ (some 12) rfl rfl Try.func128 (by kernel_rfl) rfl #[.int .i64 a0, .int .u64 a1] rfl (by (try simp only [List.map_toArray, List.map_cons, List.map_nil]); first | done | rfl | (simp only [List.length_drop, List.length_take]; rfl)) ?_; (with_reducible refine (ints_signed.calls a0 a1 t158 _ A4.out).mono ?_); rintro e w' ⟨rfl, ⟨nd, rfl⟩⟩; refine ⟨_, rfl, ?_⟩) | ((with_reducible refine gate_callee (f := 128) rfl ?_); refine goesL_ (some 15) rfl rfl Try.func128 (by kernel_rfl) rfl #[.int .i64 a0, .int .u64 a2] rfl (by (try simp only [List.map_toArray, List.map_cons, List.map_nil]); first | done | rfl | (simp only [List.length_drop, List.length_take]; rfl)) ?_; (with_reducible refine (ints_signed.calls a0 a2 t159 _ A5.out).mono ?_); rintro e w' ⟨rfl, ⟨nd, rfl⟩⟩; refine ⟨_, rfl, ?_⟩) | ((with_reducible refine gate_callee (f := 142) rfl ?_); refine goesL_ (some 18) rfl rfl Try.func142 (by kernel_rfl) rfl #[.int .i64 a0] rfl (by (try simp only [List.map_toArray, List.map_cons, List.map_nil]); first | done | rfl | (simp only [List.length_drop, List.length_take]; rfl)) ?_; (with_reducible refine (ints_known.calls a0 true _ A6.out).mono ?_); rintro e w' ⟨rfl, ⟨nd, rfl⟩⟩; refine ⟨_, rfl, ?_⟩) | ((with_reducible refine gate_callee (f := 42) rfl ?_); refine goesL_ (some 38) rfl rfl Try.func42 (by kernel_rfl) rfl #[.int .i64 a0, .int .u64 (IntKind.u64.wrap (wrap64 (Int.tdiv t158 t159)))] rfl (by (try simp only [List.map_toArray, List.map_cons, List.map_nil]); first | done | rfl | (simp only [List.length_drop, List.length_take]; rfl)) ?_; (with_reducible refine (shape_Cut.calls a0 (IntKind.u64.wrap (wrap64 (Int.tdiv t158 t159))) t161 _ A14.out).mono ?_); rintro e w' ⟨rfl, ⟨nd, rfl⟩⟩; refine ⟨_, rfl, ?_⟩))
      go_ret2
      exact ⟨by first | rfl | (simp; done) | (simp only [← hji10, ← hji12] <;> (first | rfl | simp)) | (simp [*]; done), by repeat (first | exact Drawn0.refl _ | apply Drawn0.step)⟩
    ·rw [if_neg c11] at H
     exact absurd H (by simp)
   ·rw [if_neg c9] at H
    have c9b0 : (t159 == (-1)) = false := beq_eq_false_iff_ne.mpr c9
    have c9b1 : (t159 != (-1)) = true := bne_iff_ne.mpr c9
    replace H := Option.bind_eq_some_iff.mp H
    obtain ⟨t162, A150, H⟩ := H
    replace H : (some (t162, 0)) = some (r1, r2) := H
    have A15 := Aside0.mk A150
    clear A150
    simp only [Option.some.injEq, Prod.mk.injEq] at H
    obtain ⟨rfl, rfl⟩ := H
    go_enter Try.func73, Try.ntmps73
    go_wp2_with (first | ((with_reducible refine gate_callee (f := 128) rfl ?_); refine goesL_ (some 12) rfl rfl Try.func128 (by kernel_rfl) rfl #[.int .i64 a0, .int .u64 a1] rfl (by (try simp only [List.map_toArray, List.map_cons, List.map_nil]); first | done | rfl | (simp only [List.length_drop, List.length_take]; rfl)) ?_; (with_reducible refine (ints_signed.calls a0 a1 t158 _ A4.out).mono ?_); rintro e w' ⟨rfl, ⟨nd, rfl⟩⟩; refine ⟨_, rfl, ?_⟩) | ((with_reducible refine gate_callee (f := 128) rfl ?_); refine goesL_ (some 15) rfl rfl Try.func128 (by kernel_rfl) rfl #[.int .i64 a0, .int .u64 a2] rfl (by (try simp only [List.map_toArray, List.map_cons, List.map_nil]); first | done | rfl | (simp only [List.length_drop, List.length_take]; rfl)) ?_; (with_reducible refine (ints_signed.calls a0 a2 t159 _ A5.out).mono ?_); rintro e w' ⟨rfl, ⟨nd, rfl⟩⟩; refine ⟨_, rfl, ?_⟩) | ((with_reducible refine gate_callee (f := 142) rfl ?_); refine goesL_ (some 18) rfl rfl Try.func142 (by kernel_rfl) rfl #[.int .i64 a0] rfl (by (try simp only [List.map_toArray, List.map_cons, List.map_nil]); first | done | rfl | (simp only [List.length_drop, List.length_take]; rfl)) ?_; (with_reducible refine (ints_known.calls a0 true _ A6.out).mono ?_); rintro e w' ⟨rfl, ⟨nd, rfl⟩⟩; refine ⟨_, rfl, ?_⟩) | ((with_reducible refine gate_callee (f := 42) rfl ?_); refine goesL_ (some 38) rfl rfl Try.func42 (by kernel_rfl) rfl #[.int .i64 a0, .int .u64 (IntKind.u64.wrap (wrap64 (Int.tdiv t158 t159)))] rfl (by (try simp only [List.map_toArray, List.map_cons, List.map_nil]); first | done | rfl | (simp only [List.length_drop, List.length_take]; rfl)) ?_; (with_reducible refine (shape_Cut.calls a0 (IntKind.u64.wrap (wrap64 (Int.tdiv t158 t159))) t162 _ A15.out).mono ?_); rintro e w' ⟨rfl, ⟨nd, rfl⟩⟩; refine ⟨_, rfl, ?_⟩))
    go_ret2
    exact ⟨by first | rfl | (simp; done) | (simp [*]; done), by repeat (first | exact Drawn0.refl _ | apply Drawn0.step)⟩
 ·replace c7 := Bool.eq_false_iff.mpr c7
  subst c7
  have H1 : (some (0, 0)) = some (r1, r2) := by rw [if_neg (show ¬ (false = true) by decide)] at H; exact H
  clear H
  have H := H1
  clear H1
  simp only [Option.some.injEq, Prod.mk.injEq] at H
  obtain ⟨rfl, rfl⟩ := H
  go_enter Try.func73, Try.ntmps73
  go_wp2_with (first | ((with_reducible refine gate_callee (f := 128) rfl ?_); refine goesL_ (some 12) rfl rfl Try.func128 (by kernel_rfl) rfl #[.int .i64 a0, .int .u64 a1] rfl (by (try simp only [List.map_toArray, List.map_cons, List.map_nil]); first | done | rfl | (simp only [List.length_drop, List.length_take]; rfl)) ?_; (with_reducible refine (ints_signed.calls a0 a1 t158 _ A4.out).mono ?_); rintro e w' ⟨rfl, ⟨nd, rfl⟩⟩; refine ⟨_, rfl, ?_⟩) | ((with_reducible refine gate_callee (f := 128) rfl ?_); refine goesL_ (some 15) rfl rfl Try.func128 (by kernel_rfl) rfl #[.int .i64 a0, .int .u64 a2] rfl (by (try simp only [List.map_toArray, List.map_cons, List.map_nil]); first | done | rfl | (simp only [List.length_drop, List.length_take]; rfl)) ?_; (with_reducible refine (ints_signed.calls a0 a2 t159 _ A5.out).mono ?_); rintro e w' ⟨rfl, ⟨nd, rfl⟩⟩; refine ⟨_, rfl, ?_⟩) | ((with_reducible refine gate_callee (f := 142) rfl ?_); refine goesL_ (some 18) rfl rfl Try.func142 (by kernel_rfl) rfl #[.int .i64 a0] rfl (by (try simp only [List.map_toArray, List.map_cons, List.map_nil]); first | done | rfl | (simp only [List.length_drop, List.length_take]; rfl)) ?_; (with_reducible refine (ints_known.calls a0 false _ A6.out).mono ?_); rintro e w' ⟨rfl, ⟨nd, rfl⟩⟩; refine ⟨_, rfl, ?_⟩))
  go_ret2
  exact ⟨by first | rfl | (simp; done) | (simp [*]; done), by repeat (first | exact Drawn0.refl _ | apply Drawn0.step)⟩

end Go.Proofs.Ytmjfenbbgfohlaa.PA

namespace Go.Proofs.Ytmjfenbbgfohlaa.PA
open Go.RowKit Go.Proofs.YtmjfenbbgfohlaaW.PrintWords Go.Proofs.YtmjfenbbgfohlaaW.PrintLast Go.Proofs.YtmjfenbbgfohlaaW.PrintMore
attribute [local go_sem] max2_int min2_int max_two min_two max_three min_three max_four min_four   -- for this text's walks alone
set_option linter.unusedVariables false
set_option linter.unusedSimpArgs false

/-! ### trunnionlaw13_awake: function 33 -/
def trunnionlaw13_awake.f  : Option (Bool) := (ints_DivS.f 32 4294967289 2).bind fun bt163 => (if bt163.1 = 4294967293 then (if bt163.2 = 0 then ((ints_ShrS.f 32 2147483648 33).bind fun t165 => (if t165 = 3221225472 then ((ints_Add.f 32 4294967295 2).bind fun t166 => (some (t166 == 1))) else (some false))) else (some false)) else (some false))
set_option maxHeartbeats 8000000 in
set_option maxRecDepth 100000 in
theorem trunnionlaw13_awake.calls  (r : Bool) (w : World) (h : trunnionlaw13_awake.f  = some r) :
  Calls Try.prog 33 #[] w fun e w' => e = .returned (.bool r) ∧ Drawn0 w w' := by
 have H : ((ints_DivS.f 32 4294967289 2).bind fun bt163 => (if bt163.1 = 4294967293 then (if bt163.2 = 0 then ((ints_ShrS.f 32 2147483648 33).bind fun t165 => (if t165 = 3221225472 then ((ints_Add.f 32 4294967295 2).bind fun t166 => (some (t166 == 1))) else (some false))) else (some false)) else (some false))) = some r := h
 clear h
 replace H := Option.bind_eq_some_iff.mp H
 obtain ⟨⟨t163, t164⟩, A10, H⟩ := H
 replace H : (if t163 = 4294967293 then (if t164 = 0 then ((ints_ShrS.f 32 2147483648 33).bind fun t165 => (if t165 = 3221225472 then ((ints_Add.f 32 4294967295 2).bind fun t166 => (some (t166 == 1))) else (some false))) else (some false)) else (some false)) = some r := H
 have A1 := Aside0.mk A10
 clear A10
 by_cases c2 : t163 = 4294967293
 ·rw [if_pos c2] at H
  have c2b0 : (t163 == 4294967293) = true := beq_iff_eq.mpr c2
  have c2b1 : (t163 != 4294967293) = false := bne_eq_false_iff_eq.mpr c2
  clear c2
  by_cases c3 : t164 = 0
  ·rw [if_pos c3] at H
   have c3b0 : (t164 == 0) = true := beq_iff_eq.mpr c3
   have c3b1 : (t164 != 0) = false := bne_eq_false_iff_eq.mpr c3
   clear c3
   replace H := Option.bind_eq_some_iff.mp H
   obtain ⟨t165, A40, H⟩ := H
   replace H : (if t165 = 3221225472 then ((ints_Add.f 32 4294967295 2).bind fun t166 => (some (t166 == 1))) else (some false)) = some r := H
   have A4 := Aside0.mk A40
   clear A40
   by_cases c5 : t165 = 3221225472
   ·rw [if_pos c5] at H
    have c5b0 : (t165 == 3221225472) = true := beq_iff_eq.mpr c5
    have c5b1 : (t165 != 3221225472) = false := bne_eq_false_iff_eq.mpr c5
    clear c5
    replace H := Option.bind_eq_some_iff.mp H
    obtain ⟨t166, A60, H⟩ := H
    replace H : (some (t166 == 1)) = some r := H
    have A6 := Aside0.mk A60
    clear A60
    obtain rfl := Option.some.inj H
    go_enter Try.func33, Try.ntmps33
    go_wp2_with (first | ((with_reducible refine gate_callee (f := 73) rfl ?_); refine goesL_ (some 4) rfl rfl Try.func73 (by kernel_rfl) rfl #[.int .i64 32, .int .u64 4294967289, .int .u64 2] rfl (by (try simp only [List.map_toArray, List.map_cons, List.map_nil]); first | done | rfl | (simp only [List.length_drop, List.length_take]; rfl)) ?_; (with_reducible refine (ints_DivS.calls 32 4294967289 2 t163 t164 _ A1.out).mono ?_); rintro e w' ⟨rfl, ⟨nd, rfl⟩⟩; refine ⟨_, rfl, ?_⟩) | (go_at_call 48; (with_reducible refine (ints_ShrS.calls 32 2147483648 33 t165 _ A4.out).mono ?_); rintro e w' ⟨rfl, ⟨nd, rfl⟩⟩) | (go_at_call 34; (with_reducible refine (ints_Add.calls 32 4294967295 2 t166 _ A6.out).mono ?_); rintro e w' ⟨rfl, ⟨nd, rfl⟩⟩))
    go_ret
    exact ⟨by first | rfl | (simp; done) | (simp [*]; done), by repeat (first | exact Drawn0.refl _ | apply Drawn0.step)⟩
   ·rw [if_neg c5] at H
    have c5b0 : (t165 == 3221225472) = false := beq_eq_false_iff_ne.mpr c5
    have c5b1 : (t165 != 3221225472) = true := bne_iff_ne.mpr c5
    obtain rfl := Option.some.inj H
    go_enter Try.func33, Try.ntmps33
    go_wp2_with (first | ((with_reducible refine gate_callee (f := 73) rfl ?_); refine goesL_ (some 4) rfl rfl Try.func73 (by kernel_rfl) rfl #[.int .i64 32, .int .u64 4294967289, .int .u64 2] rfl (by (try simp only [List.map_toArray, List.map_cons, List.map_nil]); first | done | rfl | (simp only [List.length_drop, List.length_take]; rfl)) ?_; (with_reducible refine (ints_DivS.calls 32 4294967289 2 t163 t164 _ A1.out).mono ?_); rintro e w' ⟨rfl, ⟨nd, rfl⟩⟩; refine ⟨_, rfl, ?_⟩) | (go_at_call 48; (with_reducible refine (ints_ShrS.calls 32 2147483648 33 t165 _ A4.out).mono ?_); rintro e w' ⟨rfl, ⟨nd, rfl⟩⟩))
    go_ret
    exact ⟨by first | rfl | (simp; done) | (simp [*]; done), by repeat (first | exact Drawn0.refl _ | apply Drawn0.step)⟩
  ·rw [if_neg c3] at H
   have c3b0 : (t164 == 0) = false := beq_eq_false_iff_ne.mpr c3
   have c3b1 : (t164 != 0) = true := bne_iff_ne.mpr c3
   obtain rfl := Option.some.inj H
   go_enter Try.func33, Try.ntmps33
   go_wp2_with (first | ((with_reducible refine gate_callee (f := 73) rfl ?_); refine goesL_ (some 4) rfl rfl Try.func73 (by kernel_rfl) rfl #[.int .i64 32, .int .u64 4294967289, .int .u64 2] rfl (by (try simp only [List.map_toArray, List.map_cons, List.map_nil]); first | done | rfl | (simp only [List.length_drop, List.length_take]; rfl)) ?_; (with_reducible refine (ints_DivS.calls 32 4294967289 2 t163 t164 _ A1.out).mono ?_); rintro e w' ⟨rfl, ⟨nd, rfl⟩⟩; refine ⟨_, rfl, ?_⟩))
   go_ret
   exact ⟨by first | rfl | (simp; done) | (simp [*]; done), by repeat (first | exact Drawn0.refl _ | apply Drawn0.step)⟩
 ·rw [if_neg c2] at H
  have c2b0 : (t163 == 4294967293) = false := beq_eq_false_iff_ne.mpr c2
  have c2b1 : (t163 != 4294967293) = true := bne_iff_ne.mpr c2
  obtain rfl := Option.some.inj H
  go_enter Try.func33, Try.ntmps33
  go_wp2_with (first | ((with_reducible refine gate_callee (f := 73) rfl ?_); refine goesL_ (some 4) rfl rfl Try.func73 (by kernel_rfl) rfl #[.int .i64 32, .int .u64 4294967289, .int .u64 2] rfl (by (try simp only [List.map_toArray, List.map_cons, List.map_nil]); first | done | rfl | (simp only [List.length_drop, List.length_take]; rfl)) ?_; (with_reducible refine (ints_DivS.calls 32 4294967289 2 t163 t164 _ A1.out).mono ?_); rintro e w' ⟨rfl, ⟨nd, rfl⟩⟩; refine ⟨_, rfl, ?_⟩))
  go_ret
  exact ⟨by first | rfl | (simp; done) | (simp [*]; done), by repeat (first | exact Drawn0.refl _ | apply Drawn0.step)⟩

end Go.Proofs.Ytmjfenbbgfohlaa.PA

namespace Go.Proofs.Ytmjfenbbgfohlaa.PA
open Go.RowKit Go.Proofs.YtmjfenbbgfohlaaW.PrintWords Go.Proofs.YtmjfenbbgfohlaaW.PrintLast Go.Proofs.YtmjfenbbgfohlaaW.PrintMore
attribute [local go_sem] max2_int min2_int max_two min_two max_three min_three max_four min_four   -- for this text's walks alone
set_option linter.unusedVariables false
set_option linter.unusedSimpArgs false

/-! ### trunnionref02_Cut: function 45 -/
def trunnionref02_Cut.f (a0 : Int) (a1 : Int) : Option (Int) := if a0 = 32 then (some (Int.tmod a1 4294967296)) else (some a1)
set_option maxHeartbeats 8000000 in
set_option maxRecDepth 100000 in
theorem trunnionref02_Cut.calls (a0 : Int) (a1 : Int) (r : Int) (w : World) (h : trunnionref02_Cut.f a0 a1 = some r) :
  Calls Try.prog 45 #[.int .i64 a0, .int .u64 a1] w fun e w' => e = .returned (.int .u64 r) ∧ Drawn0 w w' := by
 have H : (if a0 = 32 then (some (Int.tmod a1 4294967296)) else (some a1)) = some r := h
 clear h
 by_cases c3 : a0 = 32
 ·rw [if_pos c3] at H
  have c3b0 : (a0 == 32) = true := beq_iff_eq.mpr c3
  have c3b1 : (a0 != 32) = false := bne_eq_false_iff_eq.mpr c3
  clear c3
  obtain rfl := Option.some.inj H
  go_enter Try.func45, Try.ntmps45
  go_wp2
  go_ret
  exact ⟨by first | rfl | (simp; done) | (simp [*]; done), by repeat (first | exact Drawn0.refl _ | apply Drawn0.step)⟩
 ·rw [if_neg c3] at H
  have c3b0 : (a0 == 32) = false := beq_eq_false_iff_ne.mpr c3
  have c3b1 : (a0 != 32) = true := bne_iff_ne.mpr c3
  obtain rfl := Option.some.inj H
  go_enter Try.func45, Try.ntmps45
  go_wp2
  go_ret
  exact ⟨by first | rfl | (simp; done) | (simp [*]; done), by repeat (first | exact Drawn0.refl _ | apply Drawn0.step)⟩

end Go.Proofs.Ytmjfenbbgfohlaa.PA

namespace Go.Proofs.Ytmjfenbbgfohlaa.PA
open Go.RowKit Go.Proofs.YtmjfenbbgfohlaaW.PrintWords Go.Proofs.YtmjfenbbgfohlaaW.PrintLast Go.Proofs.YtmjfenbbgfohlaaW.PrintMore
attribute [local go_sem] max2_int min2_int max_two min_two max_three min_three max_four min_four   -- for this text's walks alone
set_option linter.unusedVariables false
set_option linter.unusedSimpArgs false

/-! ### trunnionref02_Known: function 29 -/
def trunnionref02_Known.f (a0 : Int) : Option (Bool) := if a0 = 32 then (some true) else (some (a0 == 64))
set_option maxHeartbeats 8000000 in
set_option maxRecDepth 100000 in
theorem trunnionref02_Known.calls (a0 : Int) (r : Bool) (w : World) (h : trunnionref02_Known.f a0 = some r) :
  Calls Try.prog 29 #[.int .i64 a0] w fun e w' => e = .returned (.bool r) ∧ Drawn0 w w' := by
 have H : (if a0 = 32 then (some true) else (some (a0 == 64))) = some r := h
 clear h
 by_cases c2 : a0 = 32
 ·rw [if_pos c2] at H
  have c2b0 : (a0 == 32) = true := beq_iff_eq.mpr c2
  have c2b1 : (a0 != 32) = false := bne_eq_false_iff_eq.mpr c2
  clear c2
  obtain rfl := Option.some.inj H
  go_enter Try.func29, Try.ntmps29
  go_wp2
  go_ret
  exact ⟨by first | rfl | (simp; done) | (simp [*]; done), by repeat (first | exact Drawn0.refl _ | apply Drawn0.step)⟩
 ·rw [if_neg c2] at H
  have c2b0 : (a0 == 32) = false := beq_eq_false_iff_ne.mpr c2
  have c2b1 : (a0 != 32) = true := bne_iff_ne.mpr c2
  obtain rfl := Option.some.inj H
  go_enter Try.func29, Try.ntmps29
  go_wp2
  go_ret
  exact ⟨by first | rfl | (simp; done) | (simp [*]; done), by repeat (first | exact Drawn0.refl _ | apply Drawn0.step)⟩

end Go.Proofs.Ytmjfenbbgfohlaa.PA

namespace Go.Proofs.Ytmjfenbbgfohlaa.PA
open Go.RowKit Go.Proofs.YtmjfenbbgfohlaaW.PrintWords Go.Proofs.YtmjfenbbgfohlaaW.PrintLast Go.Proofs.YtmjfenbbgfohlaaW.PrintMore
attribute [local go_sem] max2_int min2_int max_two min_two max_three min_three max_four min_four   -- for this text's walks alone
set_option linter.unusedVariables false
set_option linter.unusedSimpArgs false

/-! ### trunnionref02_Two: function 70 -/
def trunnionref02_Two.l0 : Nat → Int → Int → Int → Option (Int)
 | 0, _, _, _ => none
 | k + 1, x0, x3, x4 => if x4 < x0 then (trunnionref02_Two.l0 k x0 (IntKind.u64.wrap (2 * x3)) (wrap64 (x4 + 1))) else (some x3)
def trunnionref02_Two.f (k : Nat) (a0 : Int) : Option (Int) := trunnionref02_Two.l0 k a0 1 0
theorem trunnionref02_Two.mono_l : ∀ k, (∀ y0 y1 y2, LeO (trunnionref02_Two.l0 k y0 y1 y2) (trunnionref02_Two.l0 (k + 1) y0 y1 y2))
 | 0 => fun _ _ _ r h => by simp [trunnionref02_Two.l0] at h
 | k + 1 => by
  have ih0 := trunnionref02_Two.mono_l k
  ·intro y0 y1 y2
   unfold trunnionref02_Two.l0
   repeat' first
   | (with_reducible exact ih0 _ _ _)
   | (with_reducible exact LeO.refl _)
   | (with_reducible exact LeO.none _)
   | (with_reducible refine LeO.ite ?_ ?_)
   | (with_reducible refine LeO.bind ?_ (fun _ => ?_))
   | exact ih0 _ _ _
   | exact LeO.none _
   | refine LeO.ite ?_ ?_
   | refine LeO.bind ?_ (fun _ => ?_)
theorem trunnionref02_Two.mono : ∀ a0 k, LeO (trunnionref02_Two.f k a0) (trunnionref02_Two.f (k + 1) a0) := by
 intro a0 k
 have ih0 := trunnionref02_Two.mono_l k
 unfold trunnionref02_Two.f
 repeat' first
   | (with_reducible exact ih0 _ _ _)
   | (with_reducible exact LeO.refl _)
   | (with_reducible exact LeO.none _)
   | (with_reducible refine LeO.ite ?_ ?_)
   | (with_reducible refine LeO.bind ?_ (fun _ => ?_))
   | exact ih0 _ _ _
   | exact LeO.none _
   | refine LeO.ite ?_ ?_
   | refine LeO.bind ?_ (fun _ => ?_)
set_option maxHeartbeats 8000000 in
set_option maxRecDepth 100000 in
theorem trunnionref02_Two.calls (k : Nat) (a0 : Int) (r : Int) (w : World) (h : trunnionref02_Two.f k a0 = some r) :
  Calls Try.prog 70 #[.int .i64 a0] w fun e w' => e = .returned (.int .u64 r) ∧ Drawn0 w w' := by
 have H : (trunnionref02_Two.l0 k a0 1 0) = some r := h
 clear h
 have H' := Aside0.mk H
 clear H
 go_enter Try.func70, Try.ntmps70
 go_wp2
 go_loopg [3, 4] k (fun kq v3 v4 w' => ∃ (x3_1 : Int) (x4_1 : Int), v3 = .int .u64 x3_1 ∧ v4 = .int .i64 x4_1 ∧ Aside0 (trunnionref02_Two.l0 kq a0 x3_1 x4_1 = some r) ∧ Aside0 (kq ≤ k) ∧ Drawn0 w w')
 case atStart => exact ⟨(1), (0), (by first | rfl | (simp; done) | (simp [*]; done)), (by first | rfl | (simp; done) | (simp [*]; done)), H', ⟨Nat.le_refl _⟩, by repeat (first | exact Drawn0.refl _ | apply Drawn0.step)⟩
 case round =>
  clear H'
  obtain ⟨x3_1, x4_1, rfl, rfl, HA, HK1, ⟨m1, rfl⟩⟩ := hrel
  cases gk with
  | zero => exact absurd HA.out (by simp [trunnionref02_Two.l0])
  | succ k1 =>
   have H := HA.out
   clear HA
   simp only [trunnionref02_Two.l0] at H
   by_cases c2 : x4_1 < a0
   ·rw [if_pos c2] at H
    have c2b0 : decide (x4_1 < a0) = true := decide_eq_true c2
    clear c2
    have H' := Aside0.mk H
    clear H
    go_wp2
    go_roundg k1
    case measure => have := HK1.out; omega
    case rel => exact ⟨(IntKind.u64.wrap (2 * x3_1)), (wrap64 (x4_1 + 1)), (by first | rfl | (simp; done) | (simp [*]; done)), (by first | rfl | (simp; done) | (simp [*]; done)), H', ⟨by have := HK1.out; omega⟩, by repeat (first | exact Drawn0.refl _ | apply Drawn0.step)⟩
   ·rw [if_neg c2] at H
    have c2b0 : decide (x4_1 < a0) = false := decide_eq_false c2
    clear c2
    obtain rfl := Option.some.inj H
    go_wp2
    go_ret
    exact ⟨by first | rfl | (simp; done) | (simp [*]; done), by repeat (first | exact Drawn0.refl _ | apply Drawn0.step)⟩

end Go.Proofs.Ytmjfenbbgfohlaa.PA

namespace Go.Proofs.Ytmjfenbbgfohlaa.PA
open Go.RowKit Go.Proofs.YtmjfenbbgfohlaaW.PrintWords Go.Proofs.YtmjfenbbgfohlaaW.PrintLast Go.Proofs.YtmjfenbbgfohlaaW.PrintMore
attribute [local go_sem] max2_int min2_int max_two min_two max_three min_three max_four min_four   -- for this text's walks alone
set_option linter.unusedVariables false
set_option linter.unusedSimpArgs false

/-! ### trunnionref02_Neg: function 31 -/
def trunnionref02_Neg.f (k : Nat) (a0 : Int) (a1 : Int) : Option (Bool) := (trunnionref02_Cut.f a0 a1).bind fun t122 => ((trunnionref02_Two.f k (wrap64 (a0 - 1))).bind fun t123 => (if t123 = 0 then (none) else (some ((IntKind.u64.wrap (Int.tdiv t122 t123)) == 1))))
theorem trunnionref02_Neg.mono : ∀ a0 a1 k, LeO (trunnionref02_Neg.f k a0 a1) (trunnionref02_Neg.f (k + 1) a0 a1) := by
 intro a0 a1 k
 unfold trunnionref02_Neg.f
 repeat' first
   | (with_reducible exact trunnionref02_Two.mono _ _)
   | (with_reducible exact LeO.refl _)
   | (with_reducible exact LeO.none _)
   | (with_reducible refine LeO.ite ?_ ?_)
   | (with_reducible refine LeO.bind ?_ (fun _ => ?_))
   | exact trunnionref02_Two.mono _ _
   | exact LeO.none _
   | refine LeO.ite ?_ ?_
   | refine LeO.bind ?_ (fun _ => ?_)
set_option maxHeartbeats 8000000 in
set_option maxRecDepth 100000 in
theorem trunnionref02_Neg.calls (k : Nat) (a0 : Int) (a1 : Int) (r : Bool) (w : World) (h : trunnionref02_Neg.f k a0 a1 = some r) :
  Calls Try.prog 31 #[.int .i64 a0, .int .u64 a1] w fun e w' => e = .returned (.bool r) ∧ Drawn0 w w' := by
 have H : ((trunnionref02_Cut.f a0 a1).bind fun t122 => ((trunnionref02_Two.f k (wrap64 (a0 - 1))).bind fun t123 => (if t123 = 0 then (none) else (some ((IntKind.u64.wrap (Int.tdiv t122 t123)) == 1))))) = some r := h
 clear h
 replace H := Option.bind_eq_some_iff.mp H
 obtain ⟨t122, A30, H⟩ := H
 replace H : ((trunnionref02_Two.f k (wrap64 (a0 - 1))).bind fun t123 => (if t123 = 0 then (none) else (some ((IntKind.u64.wrap (Int.tdiv t122 t123)) == 1)))) = some r := H
 have A3 := Aside0.mk A30
 clear A30
 replace H := Option.bind_eq_some_iff.mp H
 obtain ⟨t123, A40, H⟩ := H
 replace H : (if t123 = 0 then (none) else (some ((IntKind.u64.wrap (Int.tdiv t122 t123)) == 1))) = some r := H
 have A4 := Aside0.mk A40
 clear A40
 by_cases c5 : t123 = 0
 ·rw [if_pos c5] at H
  exact absurd H (by simp)
 ·rw [if_neg c5] at H
  have c5b0 : (t123 == 0) = false := beq_eq_false_iff_ne.mpr c5
  have c5b1 : (t123 != 0) = true := bne_iff_ne.mpr c5
  obtain rfl := Option.some.inj H
  go_enter Try.func31, Try.ntmps31
  go_wp2_with (first | ((with_reducible refine gate_callee (f := 45) rfl ?_); refine goesL_ (some 7) rfl rfl Try.func45 (by kernel_rfl) rfl #[.int .i64 a0, .int .u64 a1] rfl (by (try simp only [List.map_toArray, List.map_cons, List.map_nil]); first | done | rfl | (simp only [List.length_drop, List.length_take]; rfl)) ?_; (with_reducible refine (trunnionref02_Cut.calls a0 a1 t122 _ A3.out).mono ?_); rintro e w' ⟨rfl, ⟨nd, rfl⟩⟩; refine ⟨_, rfl, ?_⟩) | ((with_reducible refine gate_callee (f := 70) rfl ?_); refine goesL_ (some 10) rfl rfl Try.func70 (by kernel_rfl) rfl #[.int .i64 (wrap64 (a0 - 1))] rfl (by (try simp only [List.map_toArray, List.map_cons, List.map_nil]); first | done | rfl | (simp only [List.length_drop, List.length_take]; rfl)) ?_; (with_reducible refine (trunnionref02_Two.calls k (wrap64 (a0 - 1)) t123 _ A4.out).mono ?_); rintro e w' ⟨rfl, ⟨nd, rfl⟩⟩; refine ⟨_, rfl, ?_⟩))
  go_ret
  exact ⟨by first | rfl | (simp; done) | (simp [*]; done), by repeat (first | exact Drawn0.refl _ | apply Drawn0.step)⟩

end Go.Proofs.Ytmjfenbbgfohlaa.PA

namespace Go.Proofs.Ytmjfenbbgfohlaa.PA
open Go.RowKit Go.Proofs.YtmjfenbbgfohlaaW.PrintWords Go.Proofs.YtmjfenbbgfohlaaW.PrintLast Go.Proofs.YtmjfenbbgfohlaaW.PrintMore
attribute [local go_sem] max2_int min2_int max_two min_two max_three min_three max_four min_four   -- for this text's walks alone
set_option linter.unusedVariables false
set_option linter.unusedSimpArgs false

/-! ### trunnionref13_Bits: function 135 -/
def trunnionref13_Bits.l0 : Nat → Int → Int → List Bool → Int → Option (List Bool)
 | 0, _, _, _, _ => none
 | k + 1, x0, x1, x5, x6 => if x6 < x0 then (if x5.length < 140737488355328 then (trunnionref13_Bits.l0 k x0 (IntKind.u64.wrap (Int.tdiv x1 2)) (x5 ++ [((Int.tmod x1 2) == 1)]) (wrap64 (x6 + 1))) else (none)) else (some x5)
def trunnionref13_Bits.f (k : Nat) (a0 : Int) (a1 : Int) : Option (List Bool) := (trunnionref02_Cut.f a0 a1).bind fun t390 => (trunnionref13_Bits.l0 k a0 t390 ([] : List Bool) 0)
theorem trunnionref13_Bits.mono_l : ∀ k, (∀ y0 y1 y2 y3, LeO (trunnionref13_Bits.l0 k y0 y1 y2 y3) (trunnionref13_Bits.l0 (k + 1) y0 y1 y2 y3))
 | 0 => fun _ _ _ _ r h => by simp [trunnionref13_Bits.l0] at h
 | k + 1 => by
  have ih0 := trunnionref13_Bits.mono_l k
  ·intro y0 y1 y2 y3
   unfold trunnionref13_Bits.l0
   repeat' first
   | (with_reducible exact ih0 _ _ _ _)
   | (with_reducible exact LeO.refl _)
   | (with_reducible exact LeO.none _)
   | (with_reducible refine LeO.ite ?_ ?_)
   | (with_reducible refine LeO.bind ?_ (fun _ => ?_))
   | exact ih0 _ _ _ _
   | exact LeO.none _
   | refine LeO.ite ?_ ?_
   | refine LeO.bind ?_ (fun _ => ?_)
theorem trunnionref13_Bits.mono : ∀ a0 a1 k, LeO (trunnionref13_Bits.f k a0 a1) (trunnionref13_Bits.f (k + 1) a0 a1) := by
 intro a0 a1 k
 have ih0 := trunnionref13_Bits.mono_l k
 unfold trunnionref13_Bits.f
 repeat' first
   | (with_reducible exact ih0 _ _ _ _)
   | (with_reducible exact LeO.refl _)
   | (with_reducible exact LeO.none _)
   | (with_reducible refine LeO.ite ?_ ?_)
   | (with_reducible refine LeO.bind ?_ (fun _ => ?_))
   | exact ih0 _ _ _ _
   | exact LeO.none _
   | refine LeO.ite ?_ ?_
   | refine LeO.bind ?_ (fun _ => ?_)
set_option maxHeartbeats 8000000 in
set_option maxRecDepth 100000 in
theorem trunnionref13_Bits.calls (k : Nat) (a0 : Int) (a1 : Int) (r : List Bool) (w : World) (h : trunnionref13_Bits.f k a0 a1 = some r) :
  Calls Try.prog 135 #[.int .i64 a0, .int .u64 a1] w fun e w' => ∃ v0_ : Value, e = .returned (v0_) ∧ Kd.R Kd.bool 4 w' w.heap.size (fun _ => True) v0_ r ∧ Below w.heap.size w w' := by
 have HB := Aside0.mk (Below.refl w.heap.size w)
 have H : ((trunnionref02_Cut.f a0 a1).bind fun t390 => (trunnionref13_Bits.l0 k a0 t390 ([] : List Bool) 0)) = some r := h
 clear h
 replace H := Option.bind_eq_some_iff.mp H
 obtain ⟨t390, A30, H⟩ := H
 replace H : (trunnionref13_Bits.l0 k a0 t390 ([] : List Bool) 0) = some r := H
 have A3 := Aside0.mk A30
 clear A30
 have H' := Aside0.mk H
 clear H
 go_enter Try.func135, Try.ntmps135
 go_wp2_with (first | ((with_reducible refine gate_callee (f := 45) rfl ?_); refine goesL_ (some 9) rfl rfl Try.func45 (by kernel_rfl) rfl #[.int .i64 a0, .int .u64 a1] rfl (by (try simp only [List.map_toArray, List.map_cons, List.map_nil]); first | done | rfl | (simp only [List.length_drop, List.length_take]; rfl)) ?_; (with_reducible refine (trunnionref02_Cut.calls a0 a1 t390 _ A3.out).mono ?_); rintro e w' ⟨rfl, ⟨nd, rfl⟩⟩; refine ⟨_, rfl, ?_⟩))
 go_loopg [1, 5, 6] k (fun kq v1 v5 v6 w' => ∃ (x1_1 : Int) (x5_1 : List Bool) (x6_1 : Int), v1 = .int .u64 x1_1 ∧ v6 = .int .i64 x6_1 ∧ Aside0 (trunnionref13_Bits.l0 kq a0 x1_1 x5_1 x6_1 = some r) ∧ Aside0 (kq ≤ k) ∧ Aside0 (Kd.R Kd.bool 4 w' w.heap.size (fun _ => True) v5 x5_1) ∧ Aside0 (Below w.heap.size w w'))
 case atStart => exact ⟨(t390), (([] : List Bool)), (0), (by first | rfl | (simp; done) | (simp [*]; done)), (by first | rfl | (simp; done) | (simp [*]; done)), H', ⟨Nat.le_refl _⟩, ⟨by first | exact Kd.R_nil _ _ _ _ _ | exact Kd.N_nil _ _ _ _ _ | exact Kd.V_nil _ _ _ _ _ | exact Kd.Q_nil _ _ _ _ _ | exact Kd.S_nil _ _ _ _ _⟩, ⟨by repeat (first | (with_reducible first | exact HB.out | apply below_alloc | apply pw_below_drewN | apply below_drew1) | exact HB.out)⟩⟩
 case round =>
  clear H'
  try clear c1
  try clear p2
  obtain ⟨x1_1, x5_1, x6_1, rfl, rfl, HA, HK1, HO_5, HB⟩ := hrel
  cases gk with
  | zero => exact absurd HA.out (by simp [trunnionref13_Bits.l0])
  | succ k1 =>
   have H := HA.out
   clear HA
   simp only [trunnionref13_Bits.l0] at H
   by_cases c4 : x6_1 < a0
   ·rw [if_pos c4] at H
    have c4b0 : decide (x6_1 < a0) = true := decide_eq_true c4
    clear c4
    by_cases c5 : x5_1.length < 140737488355328
    ·rw [if_pos c5] at H
     have LMc5 := Aside0.mk c5
     clear c5
     obtain ⟨y391, hy391⟩ : ∃ y_ : List Bool, y_ = (x5_1 ++ [((Int.tmod x1_1 2) == 1)]) := ⟨_, rfl⟩
     replace H : (trunnionref13_Bits.l0 k1 a0 (IntKind.u64.wrap (Int.tdiv x1_1 2)) y391 (wrap64 (x6_1 + 1))) = some r := by first | (rw [hy391]; with_reducible exact H) | (have H2_ := (Option.bind_some _ _).symm.trans H; rw [hy391]; with_reducible exact H2_) | (have H2_ := (Option.bind_some _ _).symm.trans H; with_reducible exact H2_) | with_reducible exact H | (rw [hy391]; exact H) | exact H
     have Ny391 := Aside0.mk hy391
     clear hy391
     have H' := Aside0.mk H
     clear H
     go_wp2_with (first | ((with_reducible refine gate_builtin (b := .append) (xs := #[.tmp 15, .tmp 19]) rfl ?_); at_builtin; refine Kd.R_append Kd.bool (w0 := w) w.heap.size rfl (.tmp 15) (.tmp 19) 90 4 (.bool false) 1 rfl Try.underlying90 info4 rfl (by decide) (by omega) u5 x5_1 ((Int.tmod x1_1 2) == 1) [.bool ((Int.tmod x1_1 2) == 1)] (fun _ => True) (fun _ => False) rfl rfl ?aP (fun _ hk => hk.elim) ?aF ?aO ?aB ?aS ?aL ?_; (case aP => exact rfl); (case aB => exact (by repeat (first | (with_reducible first | exact HB.out | apply below_alloc | apply pw_below_drewN | apply below_drew1) | exact HB.out))); (case aF => exact (fun _ _ => trivial)); (case aO => exact (by (with_reducible repeat (first | apply Kd.R_alloc | apply Kd.R_drewN | apply Kd.R_drew)); exact HO_5.out)); (case aS => exact (below_size (by repeat (first | (with_reducible first | exact HB.out | apply below_alloc | apply pw_below_drewN | apply below_drew1) | exact HB.out)))); (case aL => have := LMc5.out; omega); intro v392 w6 ho hb hg hat; rw [← Ny391.out] at ho; have n0_ := Aside0.mk (hb); have n1_ := Aside0.mk (ho); clear HB; clear HO_5; have HB := n0_; have HO393 := n1_; clear n0_ n1_; clear ho hb hg hat))
     go_roundg k1
     case measure => have := HK1.out; omega
     case rel => exact ⟨(IntKind.u64.wrap (Int.tdiv x1_1 2)), (y391), (wrap64 (x6_1 + 1)), (by first | rfl | (simp; done) | (simp [*]; done)), (by first | rfl | (simp; done) | (simp [*]; done)), H', ⟨by have := HK1.out; omega⟩, ⟨by (with_reducible repeat (first | apply Kd.R_alloc | apply Kd.R_drewN | apply Kd.R_drew)); exact HO393.out⟩, ⟨by repeat (first | (with_reducible first | exact HB.out | apply below_alloc | apply pw_below_drewN | apply below_drew1) | exact HB.out)⟩⟩
    ·rw [if_neg c5] at H
     exact absurd H (by simp)
   ·rw [if_neg c4] at H
    have c4b0 : decide (x6_1 < a0) = false := decide_eq_false c4
    clear c4
    obtain rfl := Option.some.inj H
    go_wp2
    go_ret
    exact ⟨_, by first | rfl | (simp [errW_none, errW_some] <;> rfl) | (simp [*, errW_none, errW_some] <;> rfl), by (with_reducible repeat (first | apply Kd.R_alloc | apply Kd.R_drewN | apply Kd.R_drew)); exact HO_5.out, by repeat (first | (with_reducible first | exact HB.out | apply below_alloc | apply pw_below_drewN | apply below_drew1) | exact HB.out)⟩

end Go.Proofs.Ytmjfenbbgfohlaa.PA

namespace Go.Proofs.Ytmjfenbbgfohlaa.PA
open Go.RowKit Go.Proofs.YtmjfenbbgfohlaaW.PrintWords Go.Proofs.YtmjfenbbgfohlaaW.PrintLast Go.Proofs.YtmjfenbbgfohlaaW.PrintMore
attribute [local go_sem] max2_int min2_int max_two min_two max_three min_three max_four min_four   -- for this text's walks alone
set_option linter.unusedVariables false
set_option linter.unusedSimpArgs false

/-! ### trunnionref13_Of: function 136 -/
def trunnionref13_Of.l0 : Nat → List Bool → Int → Int → Option (Int)
 | 0, _, _, _ => none
 | k + 1, x0, x3, x4 => if x4 ≥ 0 then (if 0 ≤ x4 then (if x4 < (x0.length : Int) then (if rdOf false x0 x4 = true then (trunnionref13_Of.l0 k x0 (IntKind.u64.wrap ((IntKind.u64.wrap (2 * x3)) + 1)) (wrap64 (x4 - 1))) else (trunnionref13_Of.l0 k x0 (IntKind.u64.wrap (2 * x3)) (wrap64 (x4 - 1)))) else (none)) else (none)) else (some x3)
def trunnionref13_Of.f (k : Nat) (l0 : List Bool) : Option (Int) := trunnionref13_Of.l0 k l0 0 (wrap64 ((l0.length : Int) - 1))
theorem trunnionref13_Of.mono_l : ∀ k, (∀ y0 y1 y2, LeO (trunnionref13_Of.l0 k y0 y1 y2) (trunnionref13_Of.l0 (k + 1) y0 y1 y2))
 | 0 => fun _ _ _ r h => by simp [trunnionref13_Of.l0] at h
 | k + 1 => by
  have ih0 := trunnionref13_Of.mono_l k
  ·intro y0 y1 y2
   unfold trunnionref13_Of.l0
   repeat' first
   | (with_reducible exact ih0 _ _ _)
   | (with_reducible exact LeO.refl _)
   | (with_reducible exact LeO.none _)
   | (with_reducible refine LeO.ite ?_ ?_)
   | (with_reducible refine LeO.bind ?_ (fun _ => ?_))
   | exact ih0 _ _ _
   | exact LeO.none _
   | refine LeO.ite ?_ ?_
   | refine LeO.bind ?_ (fun _ => ?_)
theorem trunnionref13_Of.mono : ∀ a0 k, LeO (trunnionref13_Of.f k a0) (trunnionref13_Of.f (k + 1) a0) := by
 intro a0 k
 have ih0 := trunnionref13_Of.mono_l k
 unfold trunnionref13_Of.f
 repeat' first
   | (with_reducible exact ih0 _ _ _)
   | (with_reducible exact LeO.refl _)
   | (with_reducible exact LeO.none _)
   | (with_reducible refine LeO.ite ?_ ?_)
   | (with_reducible refine LeO.bind ?_ (fun _ => ?_))
   | exact ih0 _ _ _
   | exact LeO.none _
   | refine LeO.ite ?_ ?_
   | refine LeO.bind ?_ (fun _ => ?_)
set_option maxHeartbeats 8000000 in
set_option maxRecDepth 100000 in
theorem trunnionref13_Of.calls (k : Nat) (A0 : Option Addr) (c0 : Nat) (l0 : List Bool) (r : Int) (w : World) (hr0 : Kd.C Kd.bool w A0 l0.length l0) (hc0 : l0.length ≤ c0) (h : trunnionref13_Of.f k l0 = some r) :
  Calls Try.prog 136 #[.slice A0 l0.length c0] w fun e w' => e = .returned (.int .u64 r) ∧ Drawn0 w w' := by
 have HR0 := Aside0.mk hr0
 have HC0 := Aside0.mk hc0
 clear hr0 hc0
 have H : (trunnionref13_Of.l0 k l0 0 (wrap64 ((l0.length : Int) - 1))) = some r := h
 clear h
 have H' := Aside0.mk H
 clear H
 go_enter Try.func136, Try.ntmps136
 go_wp2
 go_loopg [3, 4] k (fun kq v3 v4 w' => ∃ (x3_1 : Int) (x4_1 : Int), v3 = .int .u64 x3_1 ∧ v4 = .int .i64 x4_1 ∧ Aside0 (trunnionref13_Of.l0 kq l0 x3_1 x4_1 = some r) ∧ Aside0 (kq ≤ k) ∧ Drawn0 w w')
 case atStart => exact ⟨(0), (wrap64 ((l0.length : Int) - 1)), (by first | rfl | (simp; done) | (simp [*]; done)), (by first | rfl | (simp; done) | (simp [*]; done)), H', ⟨Nat.le_refl _⟩, by repeat (first | exact Drawn0.refl _ | apply Drawn0.step)⟩
 case round =>
  clear H'
  try clear c1
  obtain ⟨x3_1, x4_1, rfl, rfl, HA, HK1, ⟨m1, rfl⟩⟩ := hrel
  cases gk with
  | zero => exact absurd HA.out (by simp [trunnionref13_Of.l0])
  | succ k1 =>
   have H := HA.out
   clear HA
   simp only [trunnionref13_Of.l0] at H
   by_cases c2 : x4_1 ≥ 0
   ·rw [if_pos c2] at H
    have c2b0 : decide (0 ≤ x4_1) = true := decide_eq_true c2
    clear c2
    by_cases c3 : 0 ≤ x4_1
    ·rw [if_pos c3] at H
     have c3b0 : decide (0 ≤ x4_1) = true := decide_eq_true c3
     clear c3
     by_cases c4 : x4_1 < (l0.length : Int)
     ·rw [if_pos c4] at H
      have c4b0 : decide (x4_1 < (l0.length : Int)) = true := decide_eq_true c4
      clear c4
      obtain ⟨bq5, hbq5⟩ : ∃ b_ : Bool, b_ = (rdOf false l0 x4_1) := ⟨_, rfl⟩
      replace H : (if bq5 = true then (trunnionref13_Of.l0 k1 l0 (IntKind.u64.wrap ((IntKind.u64.wrap (2 * x3_1)) + 1)) (wrap64 (x4_1 - 1))) else (trunnionref13_Of.l0 k1 l0 (IntKind.u64.wrap (2 * x3_1)) (wrap64 (x4_1 - 1)))) = some r := by rw [← hbq5] at H; exact H
      have Nbq5 := Aside0.mk hbq5
      clear hbq5
      by_cases c6 : bq5 = true
      ·subst c6
       have H1 : (trunnionref13_Of.l0 k1 l0 (IntKind.u64.wrap ((IntKind.u64.wrap (2 * x3_1)) + 1)) (wrap64 (x4_1 - 1))) = some r := by rw [if_pos rfl] at H; exact H
       clear H
       have H := H1
       clear H1
       have H' := Aside0.mk H
       clear H
       have p394 : 0 ≤ (x4_1 : Int) := of_decide_eq_true (by first | (with_reducible assumption) | assumption)
       have q394 : x4_1 < (l0.length : Int) := of_decide_eq_true (by first | (with_reducible assumption) | assumption)
       obtain ⟨ad394, e394, hx394_0⟩ := Kd.at_bool HR0.out x4_1 p394 q394
       (try rw [← Nbq5.out] at hx394_0)
       cases e394
       replace p394 := eq_true p394
       replace q394 := eq_true q394
       go_wp2
       go_roundg k1
       case measure => have := HK1.out; omega
       case rel => exact ⟨(IntKind.u64.wrap ((IntKind.u64.wrap (2 * x3_1)) + 1)), (wrap64 (x4_1 - 1)), (by first | rfl | (simp; done) | (simp [*]; done)), (by first | rfl | (simp; done) | (simp [*]; done)), H', ⟨by have := HK1.out; omega⟩, by repeat (first | exact Drawn0.refl _ | apply Drawn0.step)⟩
      ·replace c6 := Bool.eq_false_iff.mpr c6
       subst c6
       have H1 : (trunnionref13_Of.l0 k1 l0 (IntKind.u64.wrap (2 * x3_1)) (wrap64 (x4_1 - 1))) = some r := by rw [if_neg (show ¬ (false = true) by decide)] at H; exact H
       clear H
       have H := H1
       clear H1
       have H' := Aside0.mk H
       clear H
       have p394 : 0 ≤ (x4_1 : Int) := of_decide_eq_true (by first | (with_reducible assumption) | assumption)
       have q394 : x4_1 < (l0.length : Int) := of_decide_eq_true (by first | (with_reducible assumption) | assumption)
       obtain ⟨ad394, e394, hx394_0⟩ := Kd.at_bool HR0.out x4_1 p394 q394
       (try rw [← Nbq5.out] at hx394_0)
       cases e394
       replace p394 := eq_true p394
       replace q394 := eq_true q394
       go_wp2
       go_roundg k1
       case measure => have := HK1.out; omega
       case rel => exact ⟨(IntKind.u64.wrap (2 * x3_1)), (wrap64 (x4_1 - 1)), (by first | rfl | (simp; done) | (simp [*]; done)), (by first | rfl | (simp; done) | (simp [*]; done)), H', ⟨by have := HK1.out; omega⟩, by repeat (first | exact Drawn0.refl _ | apply Drawn0.step)⟩
     ·rw [if_neg c4] at H
      exact absurd H (by simp)
    ·rw [if_neg c3] at H
     exact absurd H (by simp)
   ·rw [if_neg c2] at H
    have c2b0 : decide (0 ≤ x4_1) = false := decide_eq_false c2
    clear c2
    obtain rfl := Option.some.inj H
    go_wp2
    go_ret
    exact ⟨by first | rfl | (simp; done) | (simp [*]; done), by repeat (first | exact Drawn0.refl _ | apply Drawn0.step)⟩

end Go.Proofs.Ytmjfenbbgfohlaa.PA

namespace Go.Proofs.Ytmjfenbbgfohlaa.PA
open Go.RowKit Go.Proofs.YtmjfenbbgfohlaaW.PrintWords Go.Proofs.YtmjfenbbgfohlaaW.PrintLast Go.Proofs.YtmjfenbbgfohlaaW.PrintMore
attribute [local go_sem] max2_int min2_int max_two min_two max_three min_three max_four min_four   -- for this text's walks alone
set_option linter.unusedVariables false
set_option linter.unusedSimpArgs false

/-! ### trunnionref13_Turn: function 51 -/
mutual
def trunnionref13_Turn.l0 : Nat → Int → Int → Bool → Bool → List Bool → List Bool → Int → Option (Int)
 | 0, _, _, _, _, _, _, _ => none
 | k + 1, x0, x2, x3, x4, x11, x12, x13 => if x13 < x0 then (if (wrap64 (x13 - x2)) ≥ 0 then (trunnionref13_Turn.j1 k x0 x2 x3 x4 x11 x12 x13 (wrap64 (x13 - x2)) (decide ((wrap64 (x13 - x2)) < x0))) else (trunnionref13_Turn.j1 k x0 x2 x3 x4 x11 x12 x13 (wrap64 (x13 - x2)) false)) else ((trunnionref13_Of.f k x12).bind fun t398 => (some t398))
def trunnionref13_Turn.j1 : Nat → Int → Int → Bool → Bool → List Bool → List Bool → Int → Int → Bool → Option (Int)
 | 0, _, _, _, _, _, _, _, _, _ => none
 | k + 1, x0, x2, x3, x4, x11, x12, x13, x14, x32 => if x32 = true then (if 0 ≤ x14 then (if x14 < (x11.length : Int) then (if x12.length < 140737488355328 then (trunnionref13_Turn.l0 k x0 x2 x3 x4 x11 (x12 ++ [rdOf false x11 x14]) (wrap64 (x13 + 1))) else (none)) else (none)) else (none)) else (if x3 = true then (if x0 = 0 then (none) else (if 0 ≤ (Int.tmod (wrap64 (x14 + x0)) x0) then (if (Int.tmod (wrap64 (x14 + x0)) x0) < (x11.length : Int) then (if x12.length < 140737488355328 then (trunnionref13_Turn.l0 k x0 x2 x3 x4 x11 (x12 ++ [rdOf false x11 (Int.tmod (wrap64 (x14 + x0)) x0)]) (wrap64 (x13 + 1))) else (none)) else (none)) else (none))) else (if x12.length < 140737488355328 then (trunnionref13_Turn.l0 k x0 x2 x3 x4 x11 (x12 ++ [x4]) (wrap64 (x13 + 1))) else (none)))
end
def trunnionref13_Turn.f (k : Nat) (a0 : Int) (a1 : Int) (a2 : Int) (a3 : Bool) (a4 : Bool) : Option (Int) := (trunnionref13_Bits.f k a0 a1).bind fun t395 => (trunnionref13_Turn.l0 k a0 a2 a3 a4 t395 ([] : List Bool) 0)
theorem trunnionref13_Turn.mono_l : ∀ k, (∀ y0 y1 y2 y3 y4 y5 y6, LeO (trunnionref13_Turn.l0 k y0 y1 y2 y3 y4 y5 y6) (trunnionref13_Turn.l0 (k + 1) y0 y1 y2 y3 y4 y5 y6)) ∧ (∀ y0 y1 y2 y3 y4 y5 y6 y7 y8, LeO (trunnionref13_Turn.j1 k y0 y1 y2 y3 y4 y5 y6 y7 y8) (trunnionref13_Turn.j1 (k + 1) y0 y1 y2 y3 y4 y5 y6 y7 y8))
 | 0 => ⟨fun _ _ _ _ _ _ _ r h => by simp [trunnionref13_Turn.l0] at h, fun _ _ _ _ _ _ _ _ _ r h => by simp [trunnionref13_Turn.j1] at h⟩
 | k + 1 => by
  obtain ⟨ih0, ih1⟩ := trunnionref13_Turn.mono_l k
  refine ⟨?_, ?_⟩
  ·intro y0 y1 y2 y3 y4 y5 y6
   unfold trunnionref13_Turn.l0
   repeat' first
   | (with_reducible exact ih0 _ _ _ _ _ _ _)
   | (with_reducible exact ih1 _ _ _ _ _ _ _ _ _)
   | (with_reducible exact trunnionref13_Bits.mono _ _ _)
   | (with_reducible exact trunnionref13_Of.mono _ _)
   | (with_reducible exact LeO.refl _)
   | (with_reducible exact LeO.none _)
   | (with_reducible refine LeO.ite ?_ ?_)
   | (with_reducible refine LeO.bind ?_ (fun _ => ?_))
   | exact ih0 _ _ _ _ _ _ _
   | exact ih1 _ _ _ _ _ _ _ _ _
   | exact trunnionref13_Bits.mono _ _ _
   | exact trunnionref13_Of.mono _ _
   | exact LeO.none _
   | refine LeO.ite ?_ ?_
   | refine LeO.bind ?_ (fun _ => ?_)
  ·intro y0 y1 y2 y3 y4 y5 y6 y7 y8
   unfold trunnionref13_Turn.j1
   repeat' first
   | (with_reducible exact ih0 _ _ _ _ _ _ _)
   | (with_reducible exact ih1 _ _ _ _ _ _ _ _ _)
   | (with_reducible exact trunnionref13_Bits.mono _ _ _)
   | (with_reducible exact trunnionref13_Of.mono _ _)
   | (with_reducible exact LeO.refl _)
   | (with_reducible exact LeO.none _)
   | (with_reducible refine LeO.ite ?_ ?_)
   | (with_reducible refine LeO.bind ?_ (fun _ => ?_))
   | exact ih0 _ _ _ _ _ _ _
   | exact ih1 _ _ _ _ _ _ _ _ _
   | exact trunnionref13_Bits.mono _ _ _
   | exact trunnionref13_Of.mono _ _
   | exact LeO.none _
   | refine LeO.ite ?_ ?_
   | refine LeO.bind ?_ (fun _ => ?_)
theorem trunnionref13_Turn.mono : ∀ a0 a1 a2 a3 a4 k, LeO (trunnionref13_Turn.f k a0 a1 a2 a3 a4) (trunnionref13_Turn.f (k + 1) a0 a1 a2 a3 a4) := by
 intro a0 a1 a2 a3 a4 k
 obtain ⟨ih0, ih1⟩ := trunnionref13_Turn.mono_l k
 unfold trunnionref13_Turn.f
 repeat' first
   | (with_reducible exact ih0 _ _ _ _ _ _ _)
   | (with_reducible exact ih1 _ _ _ _ _ _ _ _ _)
   | (with_reducible exact trunnionref13_Bits.mono _ _ _)
   | (with_reducible exact trunnionref13_Of.mono _ _)
   | (with_reducible exact LeO.refl _)
   | (with_reducible exact LeO.none _)
   | (with_reducible refine LeO.ite ?_ ?_)
   | (with_reducible refine LeO.bind ?_ (fun _ => ?_))
   | exact ih0 _ _ _ _ _ _ _
   | exact ih1 _ _ _ _ _ _ _ _ _
   | exact trunnionref13_Bits.mono _ _ _
   | exact trunnionref13_Of.mono _ _
   | exact LeO.none _
   | refine LeO.ite ?_ ?_
   | refine LeO.bind ?_ (fun _ => ?_)
set_option maxHeartbeats 8000000 in
set_option maxRecDepth 100000 in
theorem trunnionref13_Turn.calls (k : Nat) (a0 : Int) (a1 : Int) (a2 : Int) (a3 : Bool) (a4 : Bool) (r : Int) (w : World) (h : trunnionref13_Turn.f k a0 a1 a2 a3 a4 = some r) :
  Calls Try.prog 51 #[.int .i64 a0, .int .u64 a1, .int .i64 a2, .bool a3, .bool a4] w fun e w' => e = .returned (.int .u64 r) ∧ Below w.heap.size w w' := by
 have HB := Aside0.mk (Below.refl w.heap.size w)
 have H : ((trunnionref13_Bits.f k a0 a1).bind fun t395 => (trunnionref13_Turn.l0 k a0 a2 a3 a4 t395 ([] : List Bool) 0)) = some r := h
 clear h
 replace H := Option.bind_eq_some_iff.mp H
 obtain ⟨t395, A60, H⟩ := H
 replace H : (trunnionref13_Turn.l0 k a0 a2 a3 a4 t395 ([] : List Bool) 0) = some r := H
 have A6 := Aside0.mk A60
 clear A60
 have H' := Aside0.mk H
 clear H
 go_enter Try.func51, Try.ntmps51
 go_wp2_with (first | ((with_reducible refine gate_callee (f := 135) rfl ?_); refine goesL_ (some 17) rfl rfl Try.func135 (by kernel_rfl) rfl #[.int .i64 a0, .int .u64 a1] rfl (by (try simp only [List.map_toArray, List.map_cons, List.map_nil]); first | done | rfl | (simp only [List.length_drop, List.length_take]; rfl)) ?_; (with_reducible refine (trunnionref13_Bits.calls k a0 a1 t395 _ A6.out).mono ?_); rintro e w7 ⟨v396, rfl, ho0, hb⟩; refine ⟨_, rfl, ?_⟩; have n0_ := Aside0.mk (Kd.R_lower ho0 (below_size (by repeat (first | (with_reducible first | exact HB.out | apply below_alloc | apply pw_below_drewN | apply below_drew1) | exact HB.out)))); have n1_ := Aside0.mk (below_step (by repeat (first | (with_reducible first | exact HB.out | apply below_alloc | apply pw_below_drewN | apply below_drew1) | exact HB.out)) hb); clear HB; have HO397 := n0_; have HB := n1_; clear n0_ n1_; (try clear hb); (try clear hb2); (try clear hk); (try clear hi); (try clear ho0)))
 go_loopg [12, 13] k (fun kq v12 v13 w' => ∃ (x12_1 : List Bool) (x13_1 : Int), v13 = .int .i64 x13_1 ∧ Aside0 (trunnionref13_Turn.l0 kq a0 a2 a3 a4 t395 x12_1 x13_1 = some r) ∧ Aside0 (kq ≤ k) ∧ Aside0 (Kd.R Kd.bool 4 w' w.heap.size (fun k_ => some k_ ≠ (v12 : Value).ownBlock) v396 t395) ∧ Aside0 (Kd.R Kd.bool 4 w' w.heap.size (fun k_ => some k_ ≠ (v396 : Value).ownBlock) v12 x12_1) ∧ Aside0 (Below w.heap.size w w'))
 case atStart => exact ⟨(([] : List Bool)), (0), (by first | rfl | (simp; done) | (simp [*]; done)), H', ⟨Nat.le_refl _⟩, ⟨by (with_reducible repeat (first | apply Kd.R_alloc | apply Kd.R_drewN | apply Kd.R_drew)); exact Kd.R_mono HO397.out (fun _ hk => (by simp [Value.ownBlock]))⟩, ⟨by first | exact Kd.R_nil _ _ _ _ _ | exact Kd.N_nil _ _ _ _ _ | exact Kd.V_nil _ _ _ _ _ | exact Kd.Q_nil _ _ _ _ _ | exact Kd.S_nil _ _ _ _ _⟩, ⟨by repeat (first | (with_reducible first | exact HB.out | apply below_alloc | apply pw_below_drewN | apply below_drew1) | exact HB.out)⟩⟩
 case round =>
  clear H'
  try clear c1
  try clear p2
  try clear c5
  obtain ⟨x12_1, x13_1, rfl, HA, HK1, HO_11, HO_12, HB⟩ := hrel
  cases gk with
  | zero => exact absurd HA.out (by simp [trunnionref13_Turn.l0])
  | succ k1 =>
   have H := HA.out
   clear HA
   simp only [trunnionref13_Turn.l0] at H
   by_cases c8 : x13_1 < a0
   ·rw [if_pos c8] at H
    have c8b0 : decide (x13_1 < a0) = true := decide_eq_true c8
    clear c8
    have HC9 := Aside0.mk H
    clear H
    go_upto_region 7 with (fail)
    go_cut [32] (fun v32 wc => ∃ (kq : Nat) (x32_8 : Bool), v32 = .bool x32_8 ∧ Aside0 (trunnionref13_Turn.j1 kq a0 a2 a3 a4 t395 x12_1 x13_1 (wrap64 (x13_1 - a2)) x32_8 = some r) ∧ Aside0 (kq ≤ k1) ∧ Aside0 (Kd.R Kd.bool 4 wc w.heap.size (fun k_ => some k_ ≠ (u12 : Value).ownBlock) v396 t395) ∧ Aside0 (Kd.R Kd.bool 4 wc w.heap.size (fun k_ => some k_ ≠ (v396 : Value).ownBlock) u12 x12_1) ∧ Aside0 (Below w.heap.size w wc))
    case first =>
     have H := HC9.out
     clear HC9
     by_cases c10 : (wrap64 (x13_1 - a2)) ≥ 0
     ·rw [if_pos c10] at H
      have c10b0 : decide (0 ≤ (wrap64 (x13_1 - a2))) = true := decide_eq_true c10
      clear c10
      (first | rw [c10b0] | (simp only [i64_w, i32_w]; rw [c10b0]) | skip)
      have H' := Aside0.mk H
      clear H
      go_wp2
      go_meet
      case rel => exact ⟨_, (decide ((wrap64 (x13_1 - a2)) < a0)), (by first | rfl | (simp; done) | (simp [*]; done)), H', ⟨by have := HK1.out; first | omega | exact Nat.le_refl _⟩, ⟨by (with_reducible repeat (first | apply Kd.R_alloc | apply Kd.R_drewN | apply Kd.R_drew)); exact HO_11.out⟩, ⟨by (with_reducible repeat (first | apply Kd.R_alloc | apply Kd.R_drewN | apply Kd.R_drew)); exact HO_12.out⟩, ⟨by repeat (first | (with_reducible first | exact HB.out | apply below_alloc | apply pw_below_drewN | apply below_drew1) | exact HB.out)⟩⟩
     ·rw [if_neg c10] at H
      have c10b0 : decide (0 ≤ (wrap64 (x13_1 - a2))) = false := decide_eq_false c10
      clear c10
      (first | rw [c10b0] | (simp only [i64_w, i32_w]; rw [c10b0]) | skip)
      have H' := Aside0.mk H
      clear H
      go_wp2
      go_meet
      case rel => exact ⟨_, (false), (by first | rfl | (simp; done) | (simp [*]; done)), H', ⟨by have := HK1.out; first | omega | exact Nat.le_refl _⟩, ⟨by (with_reducible repeat (first | apply Kd.R_alloc | apply Kd.R_drewN | apply Kd.R_drew)); exact HO_11.out⟩, ⟨by (with_reducible repeat (first | apply Kd.R_alloc | apply Kd.R_drewN | apply Kd.R_drew)); exact HO_12.out⟩, ⟨by repeat (first | (with_reducible first | exact HB.out | apply below_alloc | apply pw_below_drewN | apply below_drew1) | exact HB.out)⟩⟩
    case rest =>
     clear HC9
     try clear c1
     try clear p2
     try clear c5
     try clear p6
     try clear c8
     try clear c8b0
     try clear c10
     try clear c10b0
     try clear p2
     obtain ⟨kq, x32_8, rfl, HA, HJ8, HO_11, HO_12, HB⟩ := hcut
     cases kq with
     | zero => exact absurd HA.out (by simp [trunnionref13_Turn.j1])
     | succ kj8 =>
      have H := HA.out
      clear HA
      simp only [trunnionref13_Turn.j1] at H
      by_cases c11 : x32_8 = true
      ·subst c11
       have H1 : (if 0 ≤ (wrap64 (x13_1 - a2)) then (if (wrap64 (x13_1 - a2)) < (t395.length : Int) then (if x12_1.length < 140737488355328 then (trunnionref13_Turn.l0 kj8 a0 a2 a3 a4 t395 (x12_1 ++ [rdOf false t395 (wrap64 (x13_1 - a2))]) (wrap64 (x13_1 + 1))) else (none)) else (none)) else (none)) = some r := by rw [if_pos rfl] at H; exact H
       clear H
       have H := H1
       clear H1
       obtain ⟨ji12, hji12⟩ : ∃ j_ : Int, (wrap64 (x13_1 - a2)) = j_ := ⟨_, rfl⟩
       replace H : (if 0 ≤ (ji12) then (if (ji12) < (t395.length : Int) then (if x12_1.length < 140737488355328 then (trunnionref13_Turn.l0 kj8 a0 a2 a3 a4 t395 (x12_1 ++ [rdOf false t395 (ji12)]) (wrap64 (x13_1 + 1))) else (none)) else (none)) else (none)) = some r := by first | (rw [hji12] at H; exact H) | (simp only [hji12] at H ⊢; exact H)
       have hji12w : (IntKind.i64.wrap (x13_1 - a2)) = ji12 := (i64_w _).trans hji12
       by_cases c13 : 0 ≤ (ji12)
       ·rw [if_pos c13] at H
        have c13b0 : decide (0 ≤ (ji12)) = true := decide_eq_true c13
        clear c13
        by_cases c14 : (ji12) < (t395.length : Int)
        ·rw [if_pos c14] at H
         have c14b0 : decide ((ji12) < (t395.length : Int)) = true := decide_eq_true c14
         clear c14
         by_cases c15 : x12_1.length < 140737488355328
         ·rw [if_pos c15] at H
          have LMc15 := Aside0.mk c15
          clear c15
          obtain ⟨y400, hy400⟩ : ∃ y_ : List Bool, y_ = (x12_1 ++ [rdOf false t395 (ji12)]) := ⟨_, rfl⟩
          replace H : (trunnionref13_Turn.l0 kj8 a0 a2 a3 a4 t395 y400 (wrap64 (x13_1 + 1))) = some r := by first | (rw [hy400]; with_reducible exact H) | (have H2_ := (Option.bind_some _ _).symm.trans H; rw [hy400]; with_reducible exact H2_) | (have H2_ := (Option.bind_some _ _).symm.trans H; with_reducible exact H2_) | with_reducible exact H | (rw [hy400]; exact H) | exact H
          have Ny400 := Aside0.mk hy400
          clear hy400
          have H' := Aside0.mk H
          clear H
          obtain ⟨Ao16, co16, eo16⟩ := Kd.R_slice HO_11.out
          subst eo16
          have p399 : 0 ≤ ((ji12) : Int) := of_decide_eq_true (by first | (with_reducible assumption) | assumption)
          have q399 : (ji12) < (t395.length : Int) := of_decide_eq_true (by first | (with_reducible assumption) | assumption)
          obtain ⟨ad399, e399, hx399_0⟩ := Kd.at_bool (Kd.R_reads' HO_11.out).2.2 (ji12) p399 q399
          cases e399
          replace p399 := eq_true p399
          replace q399 := eq_true q399
          go_wp2_with (first | ((with_reducible refine gate_builtin (b := .append) (xs := #[.tmp 33, .tmp 38]) rfl ?_); at_builtin; refine Kd.R_append Kd.bool (w0 := w) w.heap.size rfl (.tmp 33) (.tmp 38) 90 4 (.bool false) 1 rfl Try.underlying90 info4 rfl (by decide) (by omega) u12 x12_1 (rdOf false t395 (ji12)) [.bool (rdOf false t395 (ji12))] (fun k_ => some k_ ≠ (.slice (some ad399) t395.length co16 : Value).ownBlock) (fun _ => False) rfl rfl ?aP (fun _ hk => hk.elim) ?aF ?aO ?aB ?aS ?aL ?_; (case aP => exact rfl); (case aB => exact (by repeat (first | (with_reducible first | exact HB.out | apply below_alloc | apply pw_below_drewN | apply below_drew1) | exact HB.out))); (case aF => exact (fun k_ hk => Kd.fresh' (Kd.R_lt (by (with_reducible repeat (first | apply Kd.R_alloc | apply Kd.R_drewN | apply Kd.R_drew)); exact HO_11.out)) k_ hk)); (case aO => exact (by (with_reducible repeat (first | apply Kd.R_alloc | apply Kd.R_drewN | apply Kd.R_drew)); exact HO_12.out)); (case aS => exact (below_size (by repeat (first | (with_reducible first | exact HB.out | apply below_alloc | apply pw_below_drewN | apply below_drew1) | exact HB.out)))); (case aL => have := LMc15.out; omega); intro v401 w17 ho hb hg hat; rw [← Ny400.out] at ho; have n0_ := Aside0.mk (Kd.R_after (ok := (fun _ => True)) (by (with_reducible repeat (first | apply Kd.R_alloc | apply Kd.R_drewN | apply Kd.R_drew)); exact Kd.R_mono HO_11.out (fun _ hk => ⟨trivial, hk⟩)) hg hat); have n1_ := Aside0.mk (hb); have n2_ := Aside0.mk (ho); clear HO_11; clear HB; clear HO_12; have HO_11 := n0_; have HB := n1_; have HO402 := n2_; clear n0_ n1_ n2_; clear ho hb hg hat))
          go_roundg kj8
          case measure => have := HK1.out; have := HJ8.out; omega
          case rel => exact ⟨(y400), (wrap64 (x13_1 + 1)), (by first | rfl | (simp; done) | (simp [*]; done)), H', ⟨by have := HK1.out; have := HJ8.out; omega⟩, ⟨by (with_reducible repeat (first | apply Kd.R_alloc | apply Kd.R_drewN | apply Kd.R_drew)); exact Kd.R_mono HO_11.out (fun _ hk => hk.2)⟩, ⟨by (with_reducible repeat (first | apply Kd.R_alloc | apply Kd.R_drewN | apply Kd.R_drew)); exact HO402.out⟩, ⟨by repeat (first | (with_reducible first | exact HB.out | apply below_alloc | apply pw_below_drewN | apply below_drew1) | exact HB.out)⟩⟩
         ·rw [if_neg c15] at H
          exact absurd H (by simp)
        ·rw [if_neg c14] at H
         exact absurd H (by simp)
       ·rw [if_neg c13] at H
        exact absurd H (by simp)
      ·replace c11 := Bool.eq_false_iff.mpr c11
       subst c11
       have H1 : (if a3 = true then (if a0 = 0 then (none) else (if 0 ≤ (Int.tmod (wrap64 ((wrap64 (x13_1 - a2)) + a0)) a0) then (if (Int.tmod (wrap64 ((wrap64 (x13_1 - a2)) + a0)) a0) < (t395.length : Int) then (if x12_1.length < 140737488355328 then (trunnionref13_Turn.l0 kj8 a0 a2 a3 a4 t395 (x12_1 ++ [rdOf false t395 (Int.tmod (wrap64 ((wrap64 (x13_1 - a2)) + a0)) a0)]) (wrap64 (x13_1 + 1))) else (none)) else (none)) else (none))) else (if x12_1.length < 140737488355328 then (trunnionref13_Turn.l0 kj8 a0 a2 a3 a4 t395 (x12_1 ++ [a4]) (wrap64 (x13_1 + 1))) else (none))) = some r := by rw [if_neg (show ¬ (false = true) by decide)] at H; exact H
       clear H
       have H := H1
       clear H1
       by_cases c18 : a3 = true
       ·subst c18
        have H1 : (if a0 = 0 then (none) else (if 0 ≤ (Int.tmod (wrap64 ((wrap64 (x13_1 - a2)) + a0)) a0) then (if (Int.tmod (wrap64 ((wrap64 (x13_1 - a2)) + a0)) a0) < (t395.length : Int) then (if x12_1.length < 140737488355328 then (trunnionref13_Turn.l0 kj8 a0 a2 true a4 t395 (x12_1 ++ [rdOf false t395 (Int.tmod (wrap64 ((wrap64 (x13_1 - a2)) + a0)) a0)]) (wrap64 (x13_1 + 1))) else (none)) else (none)) else (none))) = some r := by rw [if_pos rfl] at H; exact H
        clear H
        have H := H1
        clear H1
        by_cases c19 : a0 = 0
        ·rw [if_pos c19] at H
         exact absurd H (by simp)
        ·rw [if_neg c19] at H
         have c19b0 : (a0 == 0) = false := beq_eq_false_iff_ne.mpr c19
         have c19b1 : (a0 != 0) = true := bne_iff_ne.mpr c19
         obtain ⟨ji20, hji20⟩ : ∃ j_ : Int, (Int.tmod (wrap64 ((wrap64 (x13_1 - a2)) + a0)) a0) = j_ := ⟨_, rfl⟩
         replace H : (if 0 ≤ (ji20) then (if (ji20) < (t395.length : Int) then (if x12_1.length < 140737488355328 then (trunnionref13_Turn.l0 kj8 a0 a2 true a4 t395 (x12_1 ++ [rdOf false t395 (ji20)]) (wrap64 (x13_1 + 1))) else (none)) else (none)) else (none)) = some r := by first | (rw [hji20] at H; exact H) | (simp only [hji20] at H ⊢; exact H)
         by_cases c21 : 0 ≤ (ji20)
         ·rw [if_pos c21] at H
          have c21b0 : decide (0 ≤ (ji20)) = true := decide_eq_true c21
          clear c21
          by_cases c22 : (ji20) < (t395.length : Int)
          ·rw [if_pos c22] at H
           have c22b0 : decide ((ji20) < (t395.length : Int)) = true := decide_eq_true c22
           clear c22
           by_cases c23 : x12_1.length < 140737488355328
           ·rw [if_pos c23] at H
            have LMc23 := Aside0.mk c23
            clear c23
            obtain ⟨y404, hy404⟩ : ∃ y_ : List Bool, y_ = (x12_1 ++ [rdOf false t395 (ji20)]) := ⟨_, rfl⟩
            replace H : (trunnionref13_Turn.l0 kj8 a0 a2 true a4 t395 y404 (wrap64 (x13_1 + 1))) = some r := by first | (rw [hy404]; with_reducible exact H) | (have H2_ := (Option.bind_some _ _).symm.trans H; rw [hy404]; with_reducible exact H2_) | (have H2_ := (Option.bind_some _ _).symm.trans H; with_reducible exact H2_) | with_reducible exact H | (rw [hy404]; exact H) | exact H
            have Ny404 := Aside0.mk hy404
            clear hy404
            have H' := Aside0.mk H
            clear H
            obtain ⟨Ao24, co24, eo24⟩ := Kd.R_slice HO_11.out
            subst eo24
            have p403 : 0 ≤ ((ji20) : Int) := of_decide_eq_true (by first | (with_reducible assumption) | assumption)
            have q403 : (ji20) < (t395.length : Int) := of_decide_eq_true (by first | (with_reducible assumption) | assumption)
            obtain ⟨ad403, e403, hx403_0⟩ := Kd.at_bool (Kd.R_reads' HO_11.out).2.2 (ji20) p403 q403
            cases e403
            replace p403 := eq_true p403
            replace q403 := eq_true q403
            go_wp2_with (first | ((with_reducible refine gate_builtin (b := .append) (xs := #[.tmp 41, .tmp 50]) rfl ?_); at_builtin; refine Kd.R_append Kd.bool (w0 := w) w.heap.size rfl (.tmp 41) (.tmp 50) 90 4 (.bool false) 1 rfl Try.underlying90 info4 rfl (by decide) (by omega) u12 x12_1 (rdOf false t395 (ji20)) [.bool (rdOf false t395 (ji20))] (fun k_ => some k_ ≠ (.slice (some ad403) t395.length co24 : Value).ownBlock) (fun _ => False) rfl rfl ?aP (fun _ hk => hk.elim) ?aF ?aO ?aB ?aS ?aL ?_; (case aP => exact rfl); (case aB => exact (by repeat (first | (with_reducible first | exact HB.out | apply below_alloc | apply pw_below_drewN | apply below_drew1) | exact HB.out))); (case aF => exact (fun k_ hk => Kd.fresh' (Kd.R_lt (by (with_reducible repeat (first | apply Kd.R_alloc | apply Kd.R_drewN | apply Kd.R_drew)); exact HO_11.out)) k_ hk)); (case aO => exact (by (with_reducible repeat (first | apply Kd.R_alloc | apply Kd.R_drewN | apply Kd.R_drew)); exact HO_12.out)); (case aS => exact (below_size (by repeat (first | (with_reducible first | exact HB.out | apply below_alloc | apply pw_below_drewN | apply below_drew1) | exact HB.out)))); (case aL => have := LMc23.out; omega); intro v405 w25 ho hb hg hat; rw [← Ny404.out] at ho; have n0_ := Aside0.mk (Kd.R_after (ok := (fun _ => True)) (by (with_reducible repeat (first | apply Kd.R_alloc | apply Kd.R_drewN | apply Kd.R_drew)); exact Kd.R_mono HO_11.out (fun _ hk => ⟨trivial, hk⟩)) hg hat); have n1_ := Aside0.mk (hb); have n2_ := Aside0.mk (ho); clear HO_11; clear HB; clear HO_12; have HO_11 := n0_; have HB := n1_; have HO406 := n2_; clear n0_ n1_ n2_; clear ho hb hg hat))
            go_roundg kj8
            case measure => have := HK1.out; have := HJ8.out; omega
            case rel => exact ⟨(y404), (wrap64 (x13_1 + 1)), (by first | rfl | (simp; done) | (simp [*]; done)), H', ⟨by have := HK1.out; have := HJ8.out; omega⟩, ⟨by (with_reducible repeat (first | apply Kd.R_alloc | apply Kd.R_drewN | apply Kd.R_drew)); exact Kd.R_mono HO_11.out (fun _ hk => hk.2)⟩, ⟨by (with_reducible repeat (first | apply Kd.R_alloc | apply Kd.R_drewN | apply Kd.R_drew)); exact HO406.out⟩, ⟨by repeat (first | (with_reducible first | exact HB.out | apply below_alloc | apply pw_below_drewN | apply below_drew1) | exact HB.out)⟩⟩
           ·rw [if_neg c23] at H
            exact absurd H (by simp)
          ·rw [if_neg c22] at H
           exact absurd H (by simp)
         ·rw [if_neg c21] at H
          exact absurd H (by simp)
       ·replace c18 := Bool.eq_false_iff.mpr c18
        subst c18
        have H1 : (if x12_1.length < 140737488355328 then (trunnionref13_Turn.l0 kj8 a0 a2 false a4 t395 (x12_1 ++ [a4]) (wrap64 (x13_1 + 1))) else (none)) = some r := by rw [if_neg (show ¬ (false = true) by decide)] at H; exact H
        clear H
        have H := H1
        clear H1
        by_cases c26 : x12_1.length < 140737488355328
        ·rw [if_pos c26] at H
         have LMc26 := Aside0.mk c26
         clear c26
         obtain ⟨y407, hy407⟩ : ∃ y_ : List Bool, y_ = (x12_1 ++ [a4]) := ⟨_, rfl⟩
         replace H : (trunnionref13_Turn.l0 kj8 a0 a2 false a4 t395 y407 (wrap64 (x13_1 + 1))) = some r := by first | (rw [hy407]; with_reducible exact H) | (have H2_ := (Option.bind_some _ _).symm.trans H; rw [hy407]; with_reducible exact H2_) | (have H2_ := (Option.bind_some _ _).symm.trans H; with_reducible exact H2_) | with_reducible exact H | (rw [hy407]; exact H) | exact H
         have Ny407 := Aside0.mk hy407
         clear hy407
         have H' := Aside0.mk H
         clear H
         go_wp2_with (first | ((with_reducible refine gate_builtin (b := .append) (xs := #[.tmp 52, .tmp 54]) rfl ?_); at_builtin; refine Kd.R_append Kd.bool (w0 := w) w.heap.size rfl (.tmp 52) (.tmp 54) 90 4 (.bool false) 1 rfl Try.underlying90 info4 rfl (by decide) (by omega) u12 x12_1 a4 [.bool a4] (fun k_ => some k_ ≠ (v396 : Value).ownBlock) (fun _ => False) rfl rfl ?aP (fun _ hk => hk.elim) ?aF ?aO ?aB ?aS ?aL ?_; (case aP => exact rfl); (case aB => exact (by repeat (first | (with_reducible first | exact HB.out | apply below_alloc | apply pw_below_drewN | apply below_drew1) | exact HB.out))); (case aF => exact (fun k_ hk => Kd.fresh' (Kd.R_lt (by (with_reducible repeat (first | apply Kd.R_alloc | apply Kd.R_drewN | apply Kd.R_drew)); exact HO_11.out)) k_ hk)); (case aO => exact (by (with_reducible repeat (first | apply Kd.R_alloc | apply Kd.R_drewN | apply Kd.R_drew)); exact HO_12.out)); (case aS => exact (below_size (by repeat (first | (with_reducible first | exact HB.out | apply below_alloc | apply pw_below_drewN | apply below_drew1) | exact HB.out)))); (case aL => have := LMc26.out; omega); intro v408 w27 ho hb hg hat; rw [← Ny407.out] at ho; have n0_ := Aside0.mk (Kd.R_after (ok := (fun _ => True)) (by (with_reducible repeat (first | apply Kd.R_alloc | apply Kd.R_drewN | apply Kd.R_drew)); exact Kd.R_mono HO_11.out (fun _ hk => ⟨trivial, hk⟩)) hg hat); have n1_ := Aside0.mk (hb); have n2_ := Aside0.mk (ho); clear HO_11; clear HB; clear HO_12; have HO_11 := n0_; have HB := n1_; have HO409 := n2_; clear n0_ n1_ n2_; clear ho hb hg hat))
         go_roundg kj8
         case measure => have := HK1.out; have := HJ8.out; omega
         case rel => exact ⟨(y407), (wrap64 (x13_1 + 1)), (by first | rfl | (simp; done) | (simp [*]; done)), H', ⟨by have := HK1.out; have := HJ8.out; omega⟩, ⟨by (with_reducible repeat (first | apply Kd.R_alloc | apply Kd.R_drewN | apply Kd.R_drew)); exact Kd.R_mono HO_11.out (fun _ hk => hk.2)⟩, ⟨by (with_reducible repeat (first | apply Kd.R_alloc | apply Kd.R_drewN | apply Kd.R_drew)); exact HO409.out⟩, ⟨by repeat (first | (with_reducible first | exact HB.out | apply below_alloc | apply pw_below_drewN | apply below_drew1) | exact HB.out)⟩⟩
        ·rw [if_neg c26] at H
         exact absurd H (by simp)
   ·rw [if_neg c8] at H
    have c8b0 : decide (x13_1 < a0) = false := decide_eq_false c8
    clear c8
    replace H := Option.bind_eq_some_iff.mp H
    obtain ⟨t398, A280, H⟩ := H
    replace H : (some t398) = some r := H
    have A28 := Aside0.mk A280
    clear A280
    obtain rfl := Option.some.inj H
    obtain ⟨Ao29, co29, eo29⟩ := Kd.R_slice HO_12.out
    subst eo29
    go_wp2_with (first | ((with_reducible refine gate_callee (f := 136) rfl ?_); refine goesL_ (some 57) rfl rfl Try.func136 (by kernel_rfl) rfl #[.slice Ao29 x12_1.length co29] rfl (by (try simp only [List.map_toArray, List.map_cons, List.map_nil]); first | done | rfl | (simp only [List.length_drop, List.length_take]; rfl)) ?_; (with_reducible refine (trunnionref13_Of.calls k1 _ _ x12_1 t398 _ ?side1 ?side2 A28.out).mono ?_); (case side1 => repeat (first | exact (Kd.R_reads' HO_12.out).2.2 | (with_reducible refine Kd.C_alloc ?_ _) | (with_reducible refine Kd.C_drewN ?_ _) | (with_reducible refine Kd.C_drew ?_))); (case side2 => exact (Kd.R_reads' HO_12.out).2.1); rintro e w' ⟨rfl, ⟨nd, rfl⟩⟩; refine ⟨_, rfl, ?_⟩))
    go_ret
    exact ⟨by first | rfl | (simp [errW_none, errW_some] <;> rfl) | (simp [*, errW_none, errW_some] <;> rfl), by repeat (first | (with_reducible first | exact HB.out | apply below_alloc | apply pw_below_drewN | apply below_drew1) | exact HB.out)⟩

end Go.Proofs.Ytmjfenbbgfohlaa.PA

namespace Go.Proofs.Ytmjfenbbgfohlaa.PA
open Go.RowKit Go.Proofs.YtmjfenbbgfohlaaW.PrintWords Go.Proofs.YtmjfenbbgfohlaaW.PrintLast Go.Proofs.YtmjfenbbgfohlaaW.PrintMore
attribute [local go_sem] max2_int min2_int max_two min_two max_three min_three max_four min_four   -- for this text's walks alone
set_option linter.unusedVariables false
set_option linter.unusedSimpArgs false

/-! ### trunnionlaw13_IntsShifts: function 9 -/
def trunnionlaw13_IntsShifts.f (k : Nat) (a0 : Int) (a1 : Int) (a2 : Int) : Option (Bool) := (trunnionlaw13_awake.f).bind fun t410 => (if t410 = true then ((ints_Shl.f a0 a1 a2).bind fun t411 => ((ints_ShrU.f a0 a1 a2).bind fun t412 => ((ints_ShrS.f a0 a1 a2).bind fun t413 => ((ints_Rotl.f a0 a1 a2).bind fun t414 => ((ints_Rotr.f a0 a1 a2).bind fun t415 => ((trunnionref02_Known.f a0).bind fun t416 => (if t416 = true then ((trunnionref02_Cut.f a0 a2).bind fun t417 => (if (IntKind.u64.wrap (a0)) = 0 then (none) else ((trunnionref02_Neg.f k a0 a1).bind fun t418 => ((trunnionref13_Turn.f k a0 a1 (wrap64 (Int.tmod t417 (IntKind.u64.wrap (a0)))) false false).bind fun t419 => (if t411 = t419 then ((trunnionref13_Turn.f k a0 a1 (wrap64 (-(wrap64 (Int.tmod t417 (IntKind.u64.wrap (a0)))))) false false).bind fun t420 => (if t412 = t420 then ((trunnionref13_Turn.f k a0 a1 (wrap64 (-(wrap64 (Int.tmod t417 (IntKind.u64.wrap (a0)))))) false t418).bind fun t421 => (if t413 = t421 then ((trunnionref13_Turn.f k a0 a1 (wrap64 (Int.tmod t417 (IntKind.u64.wrap (a0)))) true false).bind fun t422 => (if t414 = t422 then ((trunnionref13_Turn.f k a0 a1 (wrap64 (-(wrap64 (Int.tmod t417 (IntKind.u64.wrap (a0)))))) true false).bind fun t423 => (some (t415 == t423))) else (some false))) else (some false))) else (some false))) else (some false)))))) else (some ((IntKind.u64.wrap ((IntKind.u64.wrap ((IntKind.u64.wrap ((IntKind.u64.wrap (t411 + t412)) + t413)) + t414)) + t415)) == 0))))))))) else (some false))
theorem trunnionlaw13_IntsShifts.mono : ∀ a0 a1 a2 k, LeO (trunnionlaw13_IntsShifts.f k a0 a1 a2) (trunnionlaw13_IntsShifts.f (k + 1) a0 a1 a2) := by
 intro a0 a1 a2 k
 unfold trunnionlaw13_IntsShifts.f
 repeat' first
   | (with_reducible exact trunnionref02_Neg.mono _ _ _)
   | (with_reducible exact trunnionref13_Turn.mono _ _ _ _ _ _)
   | (with_reducible exact LeO.refl _)
   | (with_reducible exact LeO.none _)
   | (with_reducible refine LeO.ite ?_ ?_)
   | (with_reducible refine LeO.bind ?_ (fun _ => ?_))
   | exact trunnionref02_Neg.mono _ _ _
   | exact trunnionref13_Turn.mono _ _ _ _ _ _
   | exact LeO.none _
   | refine LeO.ite ?_ ?_
   | refine LeO.bind ?_ (fun _ => ?_)
set_option maxHeartbeats 8000000 in
set_option maxRecDepth 100000 in
theorem trunnionlaw13_IntsShifts.calls (k : Nat) (a0 : Int) (a1 : Int) (a2 : Int) (r : Bool) (w : World) (h : trunnionlaw13_IntsShifts.f k a0 a1 a2 = some r) (hr_ : Aside0 (r = true)) :
  Calls Try.prog 9 #[.int .i64 a0, .int .u64 a1, .int .u64 a2] w fun e w' => e = .returned (.bool r) ∧ Below w.heap.size w w' := by
 have HB := Aside0.mk (Below.refl w.heap.size w)
 have H : ((trunnionlaw13_awake.f).bind fun t410 => (if t410 = true then ((ints_Shl.f a0 a1 a2).bind fun t411 => ((ints_ShrU.f a0 a1 a2).bind fun t412 => ((ints_ShrS.f a0 a1 a2).bind fun t413 => ((ints_Rotl.f a0 a1 a2).bind fun t414 => ((ints_Rotr.f a0 a1 a2).bind fun t415 => ((trunnionref02_Known.f a0).bind fun t416 => (if t416 = true then ((trunnionref02_Cut.f a0 a2).bind fun t417 => (if (IntKind.u64.wrap (a0)) = 0 then (none) else ((trunnionref02_Neg.f k a0 a1).bind fun t418 => ((trunnionref13_Turn.f k a0 a1 (wrap64 (Int.tmod t417 (IntKind.u64.wrap (a0)))) false false).bind fun t419 => (if t411 = t419 then ((trunnionref13_Turn.f k a0 a1 (wrap64 (-(wrap64 (Int.tmod t417 (IntKind.u64.wrap (a0)))))) false false).bind fun t420 => (if t412 = t420 then ((trunnionref13_Turn.f k a0 a1 (wrap64 (-(wrap64 (Int.tmod t417 (IntKind.u64.wrap (a0)))))) false t418).bind fun t421 => (if t413 = t421 then ((trunnionref13_Turn.f k a0 a1 (wrap64 (Int.tmod t417 (IntKind.u64.wrap (a0)))) true false).bind fun t422 => (if t414 = t422 then ((trunnionref13_Turn.f k a0 a1 (wrap64 (-(wrap64 (Int.tmod t417 (IntKind.u64.wrap (a0)))))) true false).bind fun t423 => (some (t415 == t423))) else (some false))) else (some false))) else (some false))) else (some false)))))) else (some ((IntKind.u64.wrap ((IntKind.u64.wrap ((IntKind.u64.wrap ((IntKind.u64.wrap (t411 + t412)) + t413)) + t414)) + t415)) == 0))))))))) else (some false))) = some r := h
 clear h
 replace H := Option.bind_eq_some_iff.mp H
 obtain ⟨t410, A40, H⟩ := H
 replace H : (if t410 = true then ((ints_Shl.f a0 a1 a2).bind fun t411 => ((ints_ShrU.f a0 a1 a2).bind fun t412 => ((ints_ShrS.f a0 a1 a2).bind fun t413 => ((ints_Rotl.f a0 a1 a2).bind fun t414 => ((ints_Rotr.f a0 a1 a2).bind fun t415 => ((trunnionref02_Known.f a0).bind fun t416 => (if t416 = true then ((trunnionref02_Cut.f a0 a2).bind fun t417 => (if (IntKind.u64.wrap (a0)) = 0 then (none) else ((trunnionref02_Neg.f k a0 a1).bind fun t418 => ((trunnionref13_Turn.f k a0 a1 (wrap64 (Int.tmod t417 (IntKind.u64.wrap (a0)))) false false).bind fun t419 => (if t411 = t419 then ((trunnionref13_Turn.f k a0 a1 (wrap64 (-(wrap64 (Int.tmod t417 (IntKind.u64.wrap (a0)))))) false false).bind fun t420 => (if t412 = t420 then ((trunnionref13_Turn.f k a0 a1 (wrap64 (-(wrap64 (Int.tmod t417 (IntKind.u64.wrap (a0)))))) false t418).bind fun t421 => (if t413 = t421 then ((trunnionref13_Turn.f k a0 a1 (wrap64 (Int.tmod t417 (IntKind.u64.wrap (a0)))) true false).bind fun t422 => (if t414 = t422 then ((trunnionref13_Turn.f k a0 a1 (wrap64 (-(wrap64 (Int.tmod t417 (IntKind.u64.wrap (a0)))))) true false).bind fun t423 => (some (t415 == t423))) else (some false))) else (some false))) else (some false))) else (some false)))))) else (some ((IntKind.u64.wrap ((IntKind.u64.wrap ((IntKind.u64.wrap ((IntKind.u64.wrap (t411 + t412)) + t413)) + t414)) + t415)) == 0))))))))) else (some false)) = some r := H
 have A4 := Aside0.mk A40
 clear A40
 by_cases c5 : t410 = true
 ·subst c5
  have H1 : ((ints_Shl.f a0 a1 a2).bind fun t411 => ((ints_ShrU.f a0 a1 a2).bind fun t412 => ((ints_ShrS.f a0 a1 a2).bind fun t413 => ((ints_Rotl.f a0 a1 a2).bind fun t414 => ((ints_Rotr.f a0 a1 a2).bind fun t415 => ((trunnionref02_Known.f a0).bind fun t416 => (if t416 = true then ((trunnionref02_Cut.f a0 a2).bind fun t417 => (if (IntKind.u64.wrap (a0)) = 0 then (none) else ((trunnionref02_Neg.f k a0 a1).bind fun t418 => ((trunnionref13_Turn.f k a0 a1 (wrap64 (Int.tmod t417 (IntKind.u64.wrap (a0)))) false false).bind fun t419 => (if t411 = t419 then ((trunnionref13_Turn.f k a0 a1 (wrap64 (-(wrap64 (Int.tmod t417 (IntKind.u64.wrap (a0)))))) false false).bind fun t420 => (if t412 = t420 then ((trunnionref13_Turn.f k a0 a1 (wrap64 (-(wrap64 (Int.tmod t417 (IntKind.u64.wrap (a0)))))) false t418).bind fun t421 => (if t413 = t421 then ((trunnionref13_Turn.f k a0 a1 (wrap64 (Int.tmod t417 (IntKind.u64.wrap (a0)))) true false).bind fun t422 => (if t414 = t422 then ((trunnionref13_Turn.f k a0 a1 (wrap64 (-(wrap64 (Int.tmod t417 (IntKind.u64.wrap (a0)))))) true false).bind fun t423 => (some (t415 == t423))) else (some false))) else (some false))) else (some false))) else (some false)))))) else (some ((IntKind.u64.wrap ((IntKind.u64.wrap ((IntKind.u64.wrap ((IntKind.u64.wrap (t411 + t412)) + t413)) + t414)) + t415)) == 0))))))))) = some r := by rw [if_pos rfl] at H; exact H
  clear H
  have H := H1
  clear H1
  replace H := Option.bind_eq_some_iff.mp H
  obtain ⟨t411, A60, H⟩ := H
  replace H : ((ints_ShrU.f a0 a1 a2).bind fun t412 => ((ints_ShrS.f a0 a1 a2).bind fun t413 => ((ints_Rotl.f a0 a1 a2).bind fun t414 => ((ints_Rotr.f a0 a1 a2).bind fun t415 => ((trunnionref02_Known.f a0).bind fun t416 => (if t416 = true then ((trunnionref02_Cut.f a0 a2).bind fun t417 => (if (IntKind.u64.wrap (a0)) = 0 then (none) else ((trunnionref02_Neg.f k a0 a1).bind fun t418 => ((trunnionref13_Turn.f k a0 a1 (wrap64 (Int.tmod t417 (IntKind.u64.wrap (a0)))) false false).bind fun t419 => (if t411 = t419 then ((trunnionref13_Turn.f k a0 a1 (wrap64 (-(wrap64 (Int.tmod t417 (IntKind.u64.wrap (a0)))))) false false).bind fun t420 => (if t412 = t420 then ((trunnionref13_Turn.f k a0 a1 (wrap64 (-(wrap64 (Int.tmod t417 (IntKind.u64.wrap (a0)))))) false t418).bind fun t421 => (if t413 = t421 then ((trunnionref13_Turn.f k a0 a1 (wrap64 (Int.tmod t417 (IntKind.u64.wrap (a0)))) true false).bind fun t422 => (if t414 = t422 then ((trunnionref13_Turn.f k a0 a1 (wrap64 (-(wrap64 (Int.tmod t417 (IntKind.u64.wrap (a0)))))) true false).bind fun t423 => (some (t415 == t423))) else (some false))) else (some false))) else (some false))) else (some false)))))) else (some ((IntKind.u64.wrap ((IntKind.u64.wrap ((IntKind.u64.wrap ((IntKind.u64.wrap (t411 + t412)) + t413)) + t414)) + t415)) == 0)))))))) = some r := H
  have A6 := Aside0.mk A60
  clear A60
  replace H := Option.bind_eq_some_iff.mp H
  obtain ⟨t412, A70, H⟩ := H
  replace H : ((ints_ShrS.f a0 a1 a2).bind fun t413 => ((ints_Rotl.f a0 a1 a2).bind fun t414 => ((ints_Rotr.f a0 a1 a2).bind fun t415 => ((trunnionref02_Known.f a0).bind fun t416 => (if t416 = true then ((trunnionref02_Cut.f a0 a2).bind fun t417 => (if (IntKind.u64.wrap (a0)) = 0 then (none) else ((trunnionref02_Neg.f k a0 a1).bind fun t418 => ((trunnionref13_Turn.f k a0 a1 (wrap64 (Int.tmod t417 (IntKind.u64.wrap (a0)))) false false).bind fun t419 => (if t411 = t419 then ((trunnionref13_Turn.f k a0 a1 (wrap64 (-(wrap64 (Int.tmod t417 (IntKind.u64.wrap (a0)))))) false false).bind fun t420 => (if t412 = t420 then ((trunnionref13_Turn.f k a0 a1 (wrap64 (-(wrap64 (Int.tmod t417 (IntKind.u64.wrap (a0)))))) false t418).bind fun t421 => (if t413 = t421 then ((trunnionref13_Turn.f k a0 a1 (wrap64 (Int.tmod t417 (IntKind.u64.wrap (a0)))) true false).bind fun t422 => (if t414 = t422 then ((trunnionref13_Turn.f k a0 a1 (wrap64 (-(wrap64 (Int.tmod t417 (IntKind.u64.wrap (a0)))))) true false).bind fun t423 => (some (t415 == t423))) else (some false))) else (some false))) else (some false))) else (some false)))))) else (some ((IntKind.u64.wrap ((IntKind.u64.wrap ((IntKind.u64.wrap ((IntKind.u64.wrap (t411 + t412)) + t413)) + t414)) + t415)) == 0))))))) = some r := H
  have A7 := Aside0.mk A70
  clear A70
  replace H := Option.bind_eq_some_iff.mp H
  obtain ⟨t413, A80, H⟩ := H
  replace H : ((ints_Rotl.f a0 a1 a2).bind fun t414 => ((ints_Rotr.f a0 a1 a2).bind fun t415 => ((trunnionref02_Known.f a0).bind fun t416 => (if t416 = true then ((trunnionref02_Cut.f a0 a2).bind fun t417 => (if (IntKind.u64.wrap (a0)) = 0 then (none) else ((trunnionref02_Neg.f k a0 a1).bind fun t418 => ((trunnionref13_Turn.f k a0 a1 (wrap64 (Int.tmod t417 (IntKind.u64.wrap (a0)))) false false).bind fun t419 => (if t411 = t419 then ((trunnionref13_Turn.f k a0 a1 (wrap64 (-(wrap64 (Int.tmod t417 (IntKind.u64.wrap (a0)))))) false false).bind fun t420 => (if t412 = t420 then ((trunnionref13_Turn.f k a0 a1 (wrap64 (-(wrap64 (Int.tmod t417 (IntKind.u64.wrap (a0)))))) false t418).bind fun t421 => (if t413 = t421 then ((trunnionref13_Turn.f k a0 a1 (wrap64 (Int.tmod t417 (IntKind.u64.wrap (a0)))) true false).bind fun t422 => (if t414 = t422 then ((trunnionref13_Turn.f k a0 a1 (wrap64 (-(wrap64 (Int.tmod t417 (IntKind.u64.wrap (a0)))))) true false).bind fun t423 => (some (t415 == t423))) else (some false))) else (some false))) else (some false))) else (some false)))))) else (some ((IntKind.u64.wrap ((IntKind.u64.wrap ((IntKind.u64.wrap ((IntKind.u64.wrap (t411 + t412)) + t413)) + t414)) + t415)) == 0)))))) = some r := H
  have A8 := Aside0.mk A80
  clear A80
  replace H := Option.bind_eq_some_iff.mp H
  obtain ⟨t414, A90, H⟩ := H
  replace H : ((ints_Rotr.f a0 a1 a2).bind fun t415 => ((trunnionref02_Known.f a0).bind fun t416 => (if t416 = true then ((trunnionref02_Cut.f a0 a2).bind fun t417 => (if (IntKind.u64.wrap (a0)) = 0 then (none) else ((trunnionref02_Neg.f k a0 a1).bind fun t418 => ((trunnionref13_Turn.f k a0 a1 (wrap64 (Int.tmod t417 (IntKind.u64.wrap (a0)))) false false).bind fun t419 => (if t411 = t419 then ((trunnionref13_Turn.f k a0 a1 (wrap64 (-(wrap64 (Int.tmod t417 (IntKind.u64.wrap (a0)))))) false false).bind fun t420 => (if t412 = t420 then ((trunnionref13_Turn.f k a0 a1 (wrap64 (-(wrap64 (Int.tmod t417 (IntKind.u64.wrap (a0)))))) false t418).bind fun t421 => (if t413 = t421 then ((trunnionref13_Turn.f k a0 a1 (wrap64 (Int.tmod t417 (IntKind.u64.wrap (a0)))) true false).bind fun t422 => (if t414 = t422 then ((trunnionref13_Turn.f k a0 a1 (wrap64 (-(wrap64 (Int.tmod t417 (IntKind.u64.wrap (a0)))))) true false).bind fun t423 => (some (t415 == t423))) else (some false))) else (some false))) else (some false))) else (some false)))))) else (some ((IntKind.u64.wrap ((IntKind.u64.wrap ((IntKind.u64.wrap ((IntKind.u64.wrap (t411 + t412)) + t413)) + t414)) + t415)) == 0))))) = some r := H
  have A9 := Aside0.mk A90
  clear A90
  replace H := Option.bind_eq_some_iff.mp H
  obtain ⟨t415, A100, H⟩ := H
  replace H : ((trunnionref02_Known.f a0).bind fun t416 => (if t416 = true then ((trunnionref02_Cut.f a0 a2).bind fun t417 => (if (IntKind.u64.wrap (a0)) = 0 then (none) else ((trunnionref02_Neg.f k a0 a1).bind fun t418 => ((trunnionref13_Turn.f k a0 a1 (wrap64 (Int.tmod t417 (IntKind.u64.wrap (a0)))) false false).bind fun t419 => (if t411 = t419 then ((trunnionref13_Turn.f k a0 a1 (wrap64 (-(wrap64 (Int.tmod t417 (IntKind.u64.wrap (a0)))))) false false).bind fun t420 => (if t412 = t420 then ((trunnionref13_Turn.f k a0 a1 (wrap64 (-(wrap64 (Int.tmod t417 (IntKind.u64.wrap (a0)))))) false t418).bind fun t421 => (if t413 = t421 then ((trunnionref13_Turn.f k a0 a1 (wrap64 (Int.tmod t417 (IntKind.u64.wrap (a0)))) true false).bind fun t422 => (if t414 = t422 then ((trunnionref13_Turn.f k a0 a1 (wrap64 (-(wrap64 (Int.tmod t417 (IntKind.u64.wrap (a0)))))) true false).bind fun t423 => (some (t415 == t423))) else (some false))) else (some false))) else (some false))) else (some false)))))) else (some ((IntKind.u64.wrap ((IntKind.u64.wrap ((IntKind.u64.wrap ((IntKind.u64.wrap (t411 + t412)) + t413)) + t414)) + t415)) == 0)))) = some r := H
  have A10 := Aside0.mk A100
  clear A100
  replace H := Option.bind_eq_some_iff.mp H
  obtain ⟨t416, A110, H⟩ := H
  replace H : (if t416 = true then ((trunnionref02_Cut.f a0 a2).bind fun t417 => (if (IntKind.u64.wrap (a0)) = 0 then (none) else ((trunnionref02_Neg.f k a0 a1).bind fun t418 => ((trunnionref13_Turn.f k a0 a1 (wrap64 (Int.tmod t417 (IntKind.u64.wrap (a0)))) false false).bind fun t419 => (if t411 = t419 then ((trunnionref13_Turn.f k a0 a1 (wrap64 (-(wrap64 (Int.tmod t417 (IntKind.u64.wrap (a0)))))) false false).bind fun t420 => (if t412 = t420 then ((trunnionref13_Turn.f k a0 a1 (wrap64 (-(wrap64 (Int.tmod t417 (IntKind.u64.wrap (a0)))))) false t418).bind fun t421 => (if t413 = t421 then ((trunnionref13_Turn.f k a0 a1 (wrap64 (Int.tmod t417 (IntKind.u64.wrap (a0)))) true false).bind fun t422 => (if t414 = t422 then ((trunnionref13_Turn.f k a0 a1 (wrap64 (-(wrap64 (Int.tmod t417 (IntKind.u64.wrap (a0)))))) true false).bind fun t423 => (some (t415 == t423))) else (some false))) else (some false))) else (some false))) else (some false)))))) else (some ((IntKind.u64.wrap ((IntKind.u64.wrap ((IntKind.u64.wrap ((IntKind.u64.wrap (t411 + t412)) + t413)) + t414)) + t415)) == 0))) = some r := H
  have A11 := Aside0.mk A110
  clear A110
  by_cases c12 : t416 = true
  ·subst c12
   have H1 : ((trunnionref02_Cut.f a0 a2).bind fun t417 => (if (IntKind.u64.wrap (a0)) = 0 then (none) else ((trunnionref02_Neg.f k a0 a1).bind fun t418 => ((trunnionref13_Turn.f k a0 a1 (wrap64 (Int.tmod t417 (IntKind.u64.wrap (a0)))) false false).bind fun t419 => (if t411 = t419 then ((trunnionref13_Turn.f k a0 a1 (wrap64 (-(wrap64 (Int.tmod t417 (IntKind.u64.wrap (a0)))))) false false).bind fun t420 => (if t412 = t420 then ((trunnionref13_Turn.f k a0 a1 (wrap64 (-(wrap64 (Int.tmod t417 (IntKind.u64.wrap (a0)))))) false t418).bind fun t421 => (if t413 = t421 then ((trunnionref13_Turn.f k a0 a1 (wrap64 (Int.tmod t417 (IntKind.u64.wrap (a0)))) true false).bind fun t422 => (if t414 = t422 then ((trunnionref13_Turn.f k a0 a1 (wrap64 (-(wrap64 (Int.tmod t417 (IntKind.u64.wrap (a0)))))) true false).bind fun t423 => (some (t415 == t423))) else (some false))) else (some false))) else (some false))) else (some false)))))) = some r := by rw [if_pos rfl] at H; exact H
   clear H
   have H := H1
   clear H1
   replace H := Option.bind_eq_some_iff.mp H
   obtain ⟨t417, A130, H⟩ := H
   replace H : (if (IntKind.u64.wrap (a0)) = 0 then (none) else ((trunnionref02_Neg.f k a0 a1).bind fun t418 => ((trunnionref13_Turn.f k a0 a1 (wrap64 (Int.tmod t417 (IntKind.u64.wrap (a0)))) false false).bind fun t419 => (if t411 = t419 then ((trunnionref13_Turn.f k a0 a1 (wrap64 (-(wrap64 (Int.tmod t417 (IntKind.u64.wrap (a0)))))) false false).bind fun t420 => (if t412 = t420 then ((trunnionref13_Turn.f k a0 a1 (wrap64 (-(wrap64 (Int.tmod t417 (IntKind.u64.wrap (a0)))))) false t418).bind fun t421 => (if t413 = t421 then ((trunnionref13_Turn.f k a0 a1 (wrap64 (Int.tmod t417 (IntKind.u64.wrap (a0)))) true false).bind fun t422 => (if t414 = t422 then ((trunnionref13_Turn.f k a0 a1 (wrap64 (-(wrap64 (Int.tmod t417 (IntKind.u64.wrap (a0)))))) true false).bind fun t423 => (some (t415 == t423))) else (some false))) else (some false))) else (some false))) else (some false))))) = some r := H
   have A13 := Aside0.mk A130
   clear A130
   by_cases c14 : (IntKind.u64.wrap (a0)) = 0
   ·rw [if_pos c14] at H
    exact absurd H (by simp)
   ·rw [if_neg c14] at H
    have c14b0 : ((IntKind.u64.wrap (a0)) == 0) = false := beq_eq_false_iff_ne.mpr c14
    have c14b1 : ((IntKind.u64.wrap (a0)) != 0) = true := bne_iff_ne.mpr c14
    replace H := Option.bind_eq_some_iff.mp H
    obtain ⟨t418, A150, H⟩ := H
    replace H : ((trunnionref13_Turn.f k a0 a1 (wrap64 (Int.tmod t417 (IntKind.u64.wrap (a0)))) false false).bind fun t419 => (if t411 = t419 then ((trunnionref13_Turn.f k a0 a1 (wrap64 (-(wrap64 (Int.tmod t417 (IntKind.u64.wrap (a0)))))) false false).bind fun t420 => (if t412 = t420 then ((trunnionref13_Turn.f k a0 a1 (wrap64 (-(wrap64 (Int.tmod t417 (IntKind.u64.wrap (a0)))))) false t418).bind fun t421 => (if t413 = t421 then ((trunnionref13_Turn.f k a0 a1 (wrap64 (Int.tmod t417 (IntKind.u64.wrap (a0)))) true false).bind fun t422 => (if t414 = t422 then ((trunnionref13_Turn.f k a0 a1 (wrap64 (-(wrap64 (Int.tmod t417 (IntKind.u64.wrap (a0)))))) true false).bind fun t423 => (some (t415 == t423))) else (some false))) else (some false))) else (some false))) else (some false))) = some r := H
    have A15 := Aside0.mk A150
    clear A150
    replace H := Option.bind_eq_some_iff.mp H
    obtain ⟨t419, A160, H⟩ := H
    replace H : (if t411 = t419 then ((trunnionref13_Turn.f k a0 a1 (wrap64 (-(wrap64 (Int.tmod t417 (IntKind.u64.wrap (a0)))))) false false).bind fun t420 => (if t412 = t420 then ((trunnionref13_Turn.f k a0 a1 (wrap64 (-(wrap64 (Int.tmod t417 (IntKind.u64.wrap (a0)))))) false t418).bind fun t421 => (if t413 = t421 then ((trunnionref13_Turn.f k a0 a1 (wrap64 (Int.tmod t417 (IntKind.u64.wrap (a0)))) true false).bind fun t422 => (if t414 = t422 then ((trunnionref13_Turn.f k a0 a1 (wrap64 (-(wrap64 (Int.tmod t417 (IntKind.u64.wrap (a0)))))) true false).bind fun t423 => (some (t415 == t423))) else (some false))) else (some false))) else (some false))) else (some false)) = some r := H
    have A16 := Aside0.mk A160
    clear A160
    by_cases c17 : t411 = t419
    ·rw [if_pos c17] at H
     have c17b0 : (t411 == t419) = true := beq_iff_eq.mpr c17
     have c17b1 : (t411 != t419) = false := bne_eq_false_iff_eq.mpr c17
     clear c17
     replace H := Option.bind_eq_some_iff.mp H
     obtain ⟨t420, A180, H⟩ := H
     replace H : (if t412 = t420 then ((trunnionref13_Turn.f k a0 a1 (wrap64 (-(wrap64 (Int.tmod t417 (IntKind.u64.wrap (a0)))))) false t418).bind fun t421 => (if t413 = t421 then ((trunnionref13_Turn.f k a0 a1 (wrap64 (Int.tmod t417 (IntKind.u64.wrap (a0)))) true false).bind fun t422 => (if t414 = t422 then ((trunnionref13_Turn.f k a0 a1 (wrap64 (-(wrap64 (Int.tmod t417 (IntKind.u64.wrap (a0)))))) true false).bind fun t423 => (some (t415 == t423))) else (some false))) else (some false))) else (some false)) = some r := H
     have A18 := Aside0.mk A180
     clear A180
     by_cases c19 : t412 = t420
     ·rw [if_pos c19] at H
      have c19b0 : (t412 == t420) = true := beq_iff_eq.mpr c19
      have c19b1 : (t412 != t420) = false := bne_eq_false_iff_eq.mpr c19
      clear c19
      replace H := Option.bind_eq_some_iff.mp H
      obtain ⟨t421, A200, H⟩ := H
      replace H : (if t413 = t421 then ((trunnionref13_Turn.f k a0 a1 (wrap64 (Int.tmod t417 (IntKind.u64.wrap (a0)))) true false).bind fun t422 => (if t414 = t422 then ((trunnionref13_Turn.f k a0 a1 (wrap64 (-(wrap64 (Int.tmod t417 (IntKind.u64.wrap (a0)))))) true false).bind fun t423 => (some (t415 == t423))) else (some false))) else (some false)) = some r := H
      have A20 := Aside0.mk A200
      clear A200
      by_cases c21 : t413 = t421
      ·rw [if_pos c21] at H
       have c21b0 : (t413 == t421) = true := beq_iff_eq.mpr c21
       have c21b1 : (t413 != t421) = false := bne_eq_false_iff_eq.mpr c21
       clear c21
       replace H := Option.bind_eq_some_iff.mp H
       obtain ⟨t422, A220, H⟩ := H
       replace H : (if t414 = t422 then ((trunnionref13_Turn.f k a0 a1 (wrap64 (-(wrap64 (Int.tmod t417 (IntKind.u64.wrap (a0)))))) true false).bind fun t423 => (some (t415 == t423))) else (some false)) = some r := H
       have A22 := Aside0.mk A220
       clear A220
       by_cases c23 : t414 = t422
       ·rw [if_pos c23] at H
        have c23b0 : (t414 == t422) = true := beq_iff_eq.mpr c23
        have c23b1 : (t414 != t422) = false := bne_eq_false_iff_eq.mpr c23
        clear c23
        replace H := Option.bind_eq_some_iff.mp H
        obtain ⟨t423, A240, H⟩ := H
        replace H : (some (t415 == t423)) = some r := H
        have A24 := Aside0.mk A240
        clear A240
        obtain rfl := Option.some.inj H
        go_enter Try.func9, Try.ntmps9
        go_wp2_with (first | ((with_reducible refine gate_callee (f := 33) rfl ?_); refine goesL_ (some 14) rfl rfl Try.func33 (by kernel_rfl) rfl #[] rfl (by (try simp only [List.map_toArray, List.map_cons, List.map_nil]); first | done | rfl | (simp only [List.length_drop, List.length_take]; rfl)) ?_; (with_reducible refine (trunnionlaw13_awake.calls  true _ A4.out).mono ?_); rintro e w' ⟨rfl, ⟨nd, rfl⟩⟩; refine ⟨_, rfl, ?_⟩) | ((with_reducible refine gate_callee (f := 46) rfl ?_); refine goesL_ (some 19) rfl rfl Try.func46 (by kernel_rfl) rfl #[.int .i64 a0, .int .u64 a1, .int .u64 a2] rfl (by (try simp only [List.map_toArray, List.map_cons, List.map_nil]); first | done | rfl | (simp only [List.length_drop, List.length_take]; rfl)) ?_; (with_reducible refine (ints_Shl.calls a0 a1 a2 t411 _ A6.out).mono ?_); rintro e w' ⟨rfl, ⟨nd, rfl⟩⟩; refine ⟨_, rfl, ?_⟩) | ((with_reducible refine gate_callee (f := 47) rfl ?_); refine goesL_ (some 23) rfl rfl Try.func47 (by kernel_rfl) rfl #[.int .i64 a0, .int .u64 a1, .int .u64 a2] rfl (by (try simp only [List.map_toArray, List.map_cons, List.map_nil]); first | done | rfl | (simp only [List.length_drop, List.length_take]; rfl)) ?_; (with_reducible refine (ints_ShrU.calls a0 a1 a2 t412 _ A7.out).mono ?_); rintro e w' ⟨rfl, ⟨nd, rfl⟩⟩; refine ⟨_, rfl, ?_⟩) | ((with_reducible refine gate_callee (f := 48) rfl ?_); refine goesL_ (some 27) rfl rfl Try.func48 (by kernel_rfl) rfl #[.int .i64 a0, .int .u64 a1, .int .u64 a2] rfl (by (try simp only [List.map_toArray, List.map_cons, List.map_nil]); first | done | rfl | (simp only [List.length_drop, List.length_take]; rfl)) ?_; (with_reducible refine (ints_ShrS.calls a0 a1 a2 t413 _ A8.out).mono ?_); rintro e w' ⟨rfl, ⟨nd, rfl⟩⟩; refine ⟨_, rfl, ?_⟩) | ((with_reducible refine gate_callee (f := 49) rfl ?_); refine goesL_ (some 31) rfl rfl Try.func49 (by kernel_rfl) rfl #[.int .i64 a0, .int .u64 a1, .int .u64 a2] rfl (by (try simp only [List.map_toArray, List.map_cons, List.map_nil]); first | done | rfl | (simp only [List.length_drop, List.length_take]; rfl)) ?_; (with_reducible refine (ints_Rotl.calls a0 a1 a2 t414 _ A9.out).mono ?_); rintro e w25 ⟨rfl, hb⟩; refine ⟨_, rfl, ?_⟩; have n0_ := Aside0.mk (below_step (by repeat (first | (with_reducible first | exact HB.out | apply below_alloc | apply pw_below_drewN | apply below_drew1) | exact HB.out)) hb); clear HB; have HB := n0_; clear n0_; (try clear hb); (try clear hb2); (try clear hk); (try clear hi)) | ((with_reducible refine gate_callee (f := 50) rfl ?_); refine goesL_ (some 35) rfl rfl Try.func50 (by kernel_rfl) rfl #[.int .i64 a0, .int .u64 a1, .int .u64 a2] rfl (by (try simp only [List.map_toArray, List.map_cons, List.map_nil]); first | done | rfl | (simp only [List.length_drop, List.length_take]; rfl)) ?_; (with_reducible refine (ints_Rotr.calls a0 a1 a2 t415 _ A10.out).mono ?_); rintro e w26 ⟨rfl, hb⟩; refine ⟨_, rfl, ?_⟩; have n0_ := Aside0.mk (below_step (by repeat (first | (with_reducible first | exact HB.out | apply below_alloc | apply pw_below_drewN | apply below_drew1) | exact HB.out)) hb); clear HB; have HB := n0_; clear n0_; (try clear hb); (try clear hb2); (try clear hk); (try clear hi)) | ((with_reducible refine gate_callee (f := 29) rfl ?_); refine goesL_ (some 37) rfl rfl Try.func29 (by kernel_rfl) rfl #[.int .i64 a0] rfl (by (try simp only [List.map_toArray, List.map_cons, List.map_nil]); first | done | rfl | (simp only [List.length_drop, List.length_take]; rfl)) ?_; (with_reducible refine (trunnionref02_Known.calls a0 true _ A11.out).mono ?_); rintro e w' ⟨rfl, ⟨nd, rfl⟩⟩; refine ⟨_, rfl, ?_⟩) | ((with_reducible refine gate_callee (f := 45) rfl ?_); refine goesL_ (some 51) rfl rfl Try.func45 (by kernel_rfl) rfl #[.int .i64 a0, .int .u64 a2] rfl (by (try simp only [List.map_toArray, List.map_cons, List.map_nil]); first | done | rfl | (simp only [List.length_drop, List.length_take]; rfl)) ?_; (with_reducible refine (trunnionref02_Cut.calls a0 a2 t417 _ A13.out).mono ?_); rintro e w' ⟨rfl, ⟨nd, rfl⟩⟩; refine ⟨_, rfl, ?_⟩) | ((with_reducible refine gate_callee (f := 31) rfl ?_); refine goesL_ (some 58) rfl rfl Try.func31 (by kernel_rfl) rfl #[.int .i64 a0, .int .u64 a1] rfl (by (try simp only [List.map_toArray, List.map_cons, List.map_nil]); first | done | rfl | (simp only [List.length_drop, List.length_take]; rfl)) ?_; (with_reducible refine (trunnionref02_Neg.calls k a0 a1 t418 _ A15.out).mono ?_); rintro e w' ⟨rfl, ⟨nd, rfl⟩⟩; refine ⟨_, rfl, ?_⟩) | ((with_reducible refine gate_callee (f := 51) rfl ?_); refine goesL_ (some 63) rfl rfl Try.func51 (by kernel_rfl) rfl #[.int .i64 a0, .int .u64 a1, .int .i64 (wrap64 (Int.tmod t417 (IntKind.u64.wrap (a0)))), .bool false, .bool false] rfl (by (try simp only [List.map_toArray, List.map_cons, List.map_nil]); first | done | rfl | (simp only [List.length_drop, List.length_take]; rfl)) ?_; (with_reducible refine (trunnionref13_Turn.calls k a0 a1 (wrap64 (Int.tmod t417 (IntKind.u64.wrap (a0)))) false false t419 _ A16.out).mono ?_); rintro e w27 ⟨rfl, hb⟩; refine ⟨_, rfl, ?_⟩; have n0_ := Aside0.mk (below_step (by repeat (first | (with_reducible first | exact HB.out | apply below_alloc | apply pw_below_drewN | apply below_drew1) | exact HB.out)) hb); clear HB; have HB := n0_; clear n0_; (try clear hb); (try clear hb2); (try clear hk); (try clear hi)) | (go_at_call 51; (with_reducible refine (trunnionref13_Turn.calls k a0 a1 (wrap64 (-(wrap64 (Int.tmod t417 (IntKind.u64.wrap (a0)))))) false false t420 _ A18.out).mono ?_); rintro e w28 ⟨rfl, hb⟩; have n0_ := Aside0.mk (below_step (by repeat (first | (with_reducible first | exact HB.out | apply below_alloc | apply pw_below_drewN | apply below_drew1) | exact HB.out)) hb); clear HB; have HB := n0_; clear n0_; (try clear hb); (try clear hb2); (try clear hk); (try clear hi)) | (go_at_call 51; (with_reducible refine (trunnionref13_Turn.calls k a0 a1 (wrap64 (-(wrap64 (Int.tmod t417 (IntKind.u64.wrap (a0)))))) false t418 t421 _ A20.out).mono ?_); rintro e w29 ⟨rfl, hb⟩; have n0_ := Aside0.mk (below_step (by repeat (first | (with_reducible first | exact HB.out | apply below_alloc | apply pw_below_drewN | apply below_drew1) | exact HB.out)) hb); clear HB; have HB := n0_; clear n0_; (try clear hb); (try clear hb2); (try clear hk); (try clear hi)) | (go_at_call 51; (with_reducible refine (trunnionref13_Turn.calls k a0 a1 (wrap64 (Int.tmod t417 (IntKind.u64.wrap (a0)))) true false t422 _ A22.out).mono ?_); rintro e w30 ⟨rfl, hb⟩; have n0_ := Aside0.mk (below_step (by repeat (first | (with_reducible first | exact HB.out | apply below_alloc | apply pw_below_drewN | apply below_drew1) | exact HB.out)) hb); clear HB; have HB := n0_; clear n0_; (try clear hb); (try clear hb2); (try clear hk); (try clear hi)) | (go_at_call 51; (with_reducible refine (trunnionref13_Turn.calls k a0 a1 (wrap64 (-(wrap64 (Int.tmod t417 (IntKind.u64.wrap (a0)))))) true false t423 _ A24.out).mono ?_); rintro e w31 ⟨rfl, hb⟩; have n0_ := Aside0.mk (below_step (by repeat (first | (with_reducible first | exact HB.out | apply below_alloc | apply pw_below_drewN | apply below_drew1) | exact HB.out)) hb); clear HB; have HB := n0_; clear n0_; (try clear hb); (try clear hb2); (try clear hk); (try clear hi)))
        go_ret
        exact ⟨by first | rfl | (simp [errW_none, errW_some] <;> rfl) | (simp [*, errW_none, errW_some] <;> rfl), by repeat (first | (with_reducible first | exact HB.out | apply below_alloc | apply pw_below_drewN | apply below_drew1) | exact HB.out)⟩
       ·rw [if_neg c23] at H
        have c23b0 : (t414 == t422) = false := beq_eq_false_iff_ne.mpr c23
        have c23b1 : (t414 != t422) = true := bne_iff_ne.mpr c23
        exact absurd ((Option.some.inj H).trans hr_.out) (by decide)
      ·rw [if_neg c21] at H
       have c21b0 : (t413 == t421) = false := beq_eq_false_iff_ne.mpr c21
       have c21b1 : (t413 != t421) = true := bne_iff_ne.mpr c21
       exact absurd ((Option.some.inj H).trans hr_.out) (by decide)
     ·rw [if_neg c19] at H
      have c19b0 : (t412 == t420) = false := beq_eq_false_iff_ne.mpr c19
      have c19b1 : (t412 != t420) = true := bne_iff_ne.mpr c19
      exact absurd ((Option.some.inj H).trans hr_.out) (by decide)
    ·rw [if_neg c17] at H
     have c17b0 : (t411 == t419) = false := beq_eq_false_iff_ne.mpr c17
     have c17b1 : (t411 != t419) = true := bne_iff_ne.mpr c17
     exact absurd ((Option.some.inj H).trans hr_.out) (by decide)
  ·replace c12 := Bool.eq_false_iff.mpr c12
   subst c12
   have H1 : (some ((IntKind.u64.wrap ((IntKind.u64.wrap ((IntKind.u64.wrap ((IntKind.u64.wrap (t411 + t412)) + t413)) + t414)) + t415)) == 0)) = some r := by rw [if_neg (show ¬ (false = true) by decide)] at H; exact H
   clear H
   have H := H1
   clear H1
   obtain rfl := Option.some.inj H
   go_enter Try.func9, Try.ntmps9
   go_wp2_with (first | ((with_reducible refine gate_callee (f := 33) rfl ?_); refine goesL_ (some 14) rfl rfl Try.func33 (by kernel_rfl) rfl #[] rfl (by (try simp only [List.map_toArray, List.map_cons, List.map_nil]); first | done | rfl | (simp only [List.length_drop, List.length_take]; rfl)) ?_; (with_reducible refine (trunnionlaw13_awake.calls  true _ A4.out).mono ?_); rintro e w' ⟨rfl, ⟨nd, rfl⟩⟩; refine ⟨_, rfl, ?_⟩) | ((with_reducible refine gate_callee (f := 46) rfl ?_); refine goesL_ (some 19) rfl rfl Try.func46 (by kernel_rfl) rfl #[.int .i64 a0, .int .u64 a1, .int .u64 a2] rfl (by (try simp only [List.map_toArray, List.map_cons, List.map_nil]); first | done | rfl | (simp only [List.length_drop, List.length_take]; rfl)) ?_; (with_reducible refine (ints_Shl.calls a0 a1 a2 t411 _ A6.out).mono ?_); rintro e w' ⟨rfl, ⟨nd, rfl⟩⟩; refine ⟨_, rfl, ?_⟩) | ((with_reducible refine gate_callee (f := 47) rfl ?_); refine goesL_ (some 23) rfl rfl Try.func47 (by kernel_rfl) rfl #[.int .i64 a0, .int .u64 a1, .int .u64 a2] rfl (by (try simp only [List.map_toArray, List.map_cons, List.map_nil]); first | done | rfl | (simp only [List.length_drop, List.length_take]; rfl)) ?_; (with_reducible refine (ints_ShrU.calls a0 a1 a2 t412 _ A7.out).mono ?_); rintro e w' ⟨rfl, ⟨nd, rfl⟩⟩; refine ⟨_, rfl, ?_⟩) | ((with_reducible refine gate_callee (f := 48) rfl ?_); refine goesL_ (some 27) rfl rfl Try.func48 (by kernel_rfl) rfl #[.int .i64 a0, .int .u64 a1, .int .u64 a2] rfl (by (try simp only [List.map_toArray, List.map_cons, List.map_nil]); first | done | rfl | (simp only [List.length_drop, List.length_take]; rfl)) ?_; (with_reducible refine (ints_ShrS.calls a0 a1 a2 t413 _ A8.out).mono ?_); rintro e w' ⟨rfl, ⟨nd, rfl⟩⟩; refine ⟨_, rfl, ?_⟩) | ((with_reducible refine gate_callee (f := 49) rfl ?_); refine goesL_ (some 31) rfl rfl Try.func49 (by kernel_rfl) rfl #[.int .i64 a0, .int .u64 a1, .int .u64 a2] rfl (by (try simp only [List.map_toArray, List.map_cons, List.map_nil]); first | done | rfl | (simp only [List.length_drop, List.length_take]; rfl)) ?_; (with_reducible refine (ints_Rotl.calls a0 a1 a2 t414 _ A9.out).mono ?_); rintro e w32 ⟨rfl, hb⟩; refine ⟨_, rfl, ?_⟩; have n0_ := Aside0.mk (below_step (by repeat (first | (with_reducible first | exact HB.out | apply below_alloc | apply pw_below_drewN | apply below_drew1) | exact HB.out)) hb); clear HB; have HB := n0_; clear n0_; (try clear hb); (try clear hb2); (try clear hk); (try clear hi)) | ((with_reducible refine gate_callee (f := 50) rfl ?_); refine goesL_ (some 35) rfl rfl Try.func50 (by kernel_rfl) rfl #[.int .i64 a0, .int .u64 a1, .int .u64 a2] rfl (by (try simp only [List.map_toArray, List.map_cons, List.map_nil]); first | done | rfl | (simp only [List.length_drop, List.length_take]; rfl)) ?_; (with_reducible refine (ints_Rotr.calls a0 a1 a2 t415 _ A10.out).mono ?_); rintro e w33 ⟨rfl, hb⟩; refine ⟨_, rfl, ?_⟩; have n0_ := Aside0.mk (below_step (by repeat (first | (with_reducible first | exact HB.out | apply below_alloc | apply pw_below_drewN | apply below_drew1) | exact HB.out)) hb); clear HB; have HB := n0_; clear n0_; (try clear hb); (try clear hb2); (try clear hk); (try clear hi)) | ((with_reducible refine gate_callee (f := 29) rfl ?_); refine goesL_ (some 37) rfl rfl Try.func29 (by kernel_rfl) rfl #[.int .i64 a0] rfl (by (try simp only [List.map_toArray, List.map_cons, List.map_nil]); first | done | rfl | (simp only [List.length_drop, List.length_take]; rfl)) ?_; (with_reducible refine (trunnionref02_Known.calls a0 false _ A11.out).mono ?_); rintro e w' ⟨rfl, ⟨nd, rfl⟩⟩; refine ⟨_, rfl, ?_⟩))
   go_ret
   exact ⟨by first | rfl | (simp [errW_none, errW_some] <;> rfl) | (simp [*, errW_none, errW_some] <;> rfl), by repeat (first | (with_reducible first | exact HB.out | apply below_alloc | apply pw_below_drewN | apply below_drew1) | exact HB.out)⟩
 ·replace c5 := Bool.eq_false_iff.mpr c5
  subst c5
  have H1 : (some false) = some r := by rw [if_neg (show ¬ (false = true) by decide)] at H; exact H
  clear H
  have H := H1
  clear H1
  exact absurd ((Option.some.inj H).trans hr_.out) (by decide)

/-- THE ONE PURE STATEMENT of trunnionlaw13_IntsShifts: yours. -/
def trunnionlaw13_IntsShifts.Pure : Prop := ∀ (a0 : Int) (a1 : Int) (a2 : Int), (Lit.int .i64 a0).wf = true → (Lit.int .u64 a1).wf = true → (Lit.int .u64 a2).wf = true → ∃ k, trunnionlaw13_IntsShifts.f k a0 a1 a2 = some true
theorem trunnionlaw13_IntsShifts.walk (P : trunnionlaw13_IntsShifts.Pure) (a0 : Int) (a1 : Int) (a2 : Int) (w : World) (w0 : (Lit.int .i64 a0).wf = true) (w1 : (Lit.int .u64 a1).wf = true) (w2 : (Lit.int .u64 a2).wf = true) :
  Calls Try.prog 9 #[.int .i64 a0, .int .u64 a1, .int .u64 a2] w fun e w' => e = .returned (.bool true) ∧ Below w.heap.size w w' := by
 obtain ⟨k, h⟩ := P a0 a1 a2 w0 w1 w2
 refine (trunnionlaw13_IntsShifts.calls k a0 a1 a2 true w h ⟨rfl⟩).mono ?_
 rintro e w' ⟨rfl, hd⟩
 exact ⟨rfl, hd⟩

end Go.Proofs.Ytmjfenbbgfohlaa.PA

namespace Bit
theorem and_low (a k : Nat) : a &&& (2 ^ k - 1) = a % 2 ^ k := Nat.and_two_pow_sub_one_eq_mod a k
end Bit

set_option linter.unusedVariables false
set_option linter.unusedSimpArgs false
namespace Go.Proofs.Ytmjfenbbgfohlaa.Th
open Go.RowKit Go.Proofs.YtmjfenbbgfohlaaW.PrintWords Go.Proofs.YtmjfenbbgfohlaaW.PrintLast Go.Proofs.YtmjfenbbgfohlaaW.PrintMore Go.Proofs.Ytmjfenbbgfohlaa.PA Bit
theorem wf_u64 {a : Int} (h : (Lit.int .u64 a).wf = true) : 0 ≤ a ∧ a < 18446744073709551616 := by
  simp [Lit.wf, IntKind.min, IntKind.max, IntKind.signed, IntKind.bits] at h; omega
/-! ### shape.Cut, sign -/
/-- a width's greatest power -/
def cutN (w : Int) (a : Nat) : Nat := if w = 32 then a % 4294967296 else if w = 64 then a else 0
theorem shCut (w : Int) (a : Nat) (ha : a < 18446744073709551616) : shape_Cut.f w a = some ((cutN w a : Nat) : Int) := by
  unfold shape_Cut.f cutN
  by_cases h : w = 32
  · rw [if_pos h, if_pos h, show (4294967295 : Int) = ((4294967295 : Nat) : Int) from rfl, u64_and_nat a _ ha (by decide)]
    rw [show (4294967295 : Nat) = 2 ^ 32 - 1 by decide, and_low]
  · rw [if_neg h, if_neg h]
    by_cases h2 : w = 64
    · rw [if_pos h2, if_pos h2]
    · rw [if_neg h2, if_neg h2]; rfl
theorem r2Cut (w : Int) (a : Nat) (hw : w = 32 ∨ w = 64) : trunnionref02_Cut.f w a = some ((cutN w a : Nat) : Int) := by
  unfold trunnionref02_Cut.f cutN
  rcases hw with rfl | rfl
  · rw [if_pos rfl, if_pos rfl, Int.tmod_eq_emod_of_nonneg (by omega)]; congr 1
  · rw [if_neg (by decide), if_neg (by decide), if_pos rfl]
def sb (w : Int) : Nat := if w = 32 then 2147483648 else 9223372036854775808
/-- has it a sign -/
def sgB (w : Int) (a : Nat) : Bool := decide (a / sb w % 2 = 1)
/-- without a sign -/
def magN (w : Int) (a : Nat) : Nat := a % sb w
theorem cutN_eq (w : Int) (hw : w = 32 ∨ w = 64) (a : Nat) (ha : a < 18446744073709551616) : cutN w a = magN w a + (if sgB w a then sb w else 0) := by
  unfold magN sgB
  rcases hw with rfl | rfl
  · simp only [cutN, sb, if_true, decide_eq_true_eq]; split <;> omega
  · simp only [cutN, sb, show ¬ ((64 : Int) = 32) by decide, if_false, if_true, decide_eq_true_eq]; split <;> omega
theorem magN_lt (w : Int) (hw : w = 32 ∨ w = 64) (a : Nat) : magN w a < sb w := by
  unfold magN sb; rcases hw with rfl | rfl <;> exact Nat.mod_lt _ (by decide)
/-! ### the document's -/
theorem known_f (w : Int) : trunnionref02_Known.f w = some (decide (w = 32 ∨ w = 64)) := by
  unfold trunnionref02_Known.f
  by_cases h : w = 32
  · rw [if_pos h]; simp [h]
  · rw [if_neg h]; congr 1; by_cases h2 : w = 64 <;> simp [h, h2]
theorem Ev.pos {α : Type} {c : Prop} [Decidable c] {f g : Nat → Option α} {r : α} (h : c) (k : Ev f r) : Ev (fun n => if c then f n else g n) r := Ev.congr (fun _ => if_pos h) k
theorem Ev.neg {α : Type} {c : Prop} [Decidable c] {f g : Nat → Option α} {r : α} (h : ¬ c) (k : Ev g r) : Ev (fun n => if c then f n else g n) r := Ev.congr (fun _ => if_neg h) k
theorem Ev.bs {α β : Type} {g : Option α} {a : α} {f : Nat → α → Option β} {r : β} (h : g = some a) (k : Ev (fun n => f n a) r) : Ev (fun n => g.bind (f n)) r := by subst h; exact k
theorem Ev.out {α : Type} {r s : α} (h : r = s) : Ev (fun _ => some r) s := by subst h; exact Ev.now _
theorem u64_id {n : Int} (h : 0 ≤ n) (h2 : n < 18446744073709551616) : IntKind.u64.wrap n = n := by rw [IntKind.wrap_u64]; omega
theorem w64_id {n : Int} (h : -9223372036854775808 ≤ n) (h2 : n < 9223372036854775808) : wrap64 n = n := by unfold wrap64; omega
theorem two_loop (n : Nat) (hn : n < 64) (d : Nat) : ∀ i : Nat, i ≤ n → n - i = d → Ev (fun k => trunnionref02_Two.l0 k n (2 ^ i : Nat) i) ((2 ^ n : Nat) : Int) := by
  induction d with
  | zero =>
    intro i hi hd
    obtain rfl : i = n := by omega
    refine Ev.step (fun _ => trunnionref02_Two.l0.eq_2 ..) ?_
    exact Ev.neg (by omega) (Ev.out rfl)
  | succ d ih =>
    intro i hi hd
    refine Ev.step (fun _ => trunnionref02_Two.l0.eq_2 ..) ?_
    refine Ev.pos (by omega) ?_
    have h := ih (i + 1) (by omega) (by omega)
    have hp : 2 ^ i ≤ 4611686018427387904 * 2 := by
      have : 2 ^ i ≤ 2 ^ 63 := Nat.pow_le_pow_right (by decide) (by omega)
      simpa using this
    have hp2 : 2 ^ (i + 1) ≤ 9223372036854775808 := by
      have : 2 ^ (i + 1) ≤ 2 ^ 63 := Nat.pow_le_pow_right (by decide) (by omega)
      simpa using this
    rw [Nat.pow_succ] at h hp2
    generalize 2 ^ i = P at *
    rw [u64_id (by omega) (by omega), w64_id (by omega) (by omega), show (2 : Int) * (P : Int) = ((P * 2 : Nat) : Int) by omega, show (i : Int) + 1 = ((i + 1 : Nat) : Int) by omega]
    exact h
theorem two_f (n : Nat) (hn : n < 64) : Ev (fun k => trunnionref02_Two.f k n) ((2 ^ n : Nat) : Int) := two_loop n hn _ 0 (by omega) rfl
theorem twoS (w : Int) (hw : w = 32 ∨ w = 64) : Ev (fun k => trunnionref02_Two.f k (wrap64 (w - 1))) ((sb w : Nat) : Int) := by
  rcases hw with rfl | rfl
  · rw [show wrap64 (32 - 1) = ((31 : Nat) : Int) by decide +kernel]; exact two_f 31 (by decide)
  · rw [show wrap64 (64 - 1) = ((63 : Nat) : Int) by decide +kernel]; exact two_f 63 (by decide)
theorem r2Neg (w : Int) (hw : w = 32 ∨ w = 64) (a : Nat) (ha : a < 18446744073709551616) : Ev (fun k => trunnionref02_Neg.f k w a) (sgB w a) := by
  unfold trunnionref02_Neg.f
  refine Ev.bs (r2Cut w a hw) (Ev.bind (twoS w hw) ?_)
  have hs : 0 < sb w := by unfold sb; split <;> decide
  refine Ev.neg (by omega) (Ev.out ?_)
  have hm := magN_lt w hw a
  rw [Int.tdiv_eq_ediv_of_nonneg (by omega), ← Int.natCast_ediv, cutN_eq w hw a ha]
  cases sgB w a
  · simp only [Bool.false_eq_true, if_false, Nat.add_zero]
    rw [Nat.div_eq_of_lt hm]; decide
  · simp only [if_true]
    rw [Nat.add_div_right _ hs, Nat.div_eq_of_lt hm]; decide
end Go.Proofs.Ytmjfenbbgfohlaa.Th

namespace Dig
/-! ### words of B signs, the lowest first -/
def OkB (B : Nat) (l : List Int) : Prop := ∀ d ∈ l, 0 ≤ d ∧ d < B
section
variable {B : Nat}
theorem OkB.nil : OkB B [] := fun _ h => by cases h
theorem OkB.cons {d : Int} {l : List Int} (h : 0 ≤ d ∧ d < B) (k : OkB B l) : OkB B (d :: l) := fun x hx => by
  rcases List.mem_cons.1 hx with rfl | hx
  · exact h
  · exact k x hx
theorem OkB.head {d : Int} {l : List Int} (k : OkB B (d :: l)) : 0 ≤ d ∧ d < B := k d List.mem_cons_self
end
/-! ### words of 32 bits -/
def Ok (l : List Int) : Prop := ∀ d ∈ l, 0 ≤ d ∧ d < 4294967296
theorem Ok.nil : Ok [] := fun _ h => by cases h
theorem Ok.cons {d : Int} {l : List Int} (h : 0 ≤ d ∧ d < 4294967296) (k : Ok l) : Ok (d :: l) := OkB.cons (B := 4294967296) h k
end Dig

set_option linter.unusedVariables false
set_option linter.unusedSimpArgs false
namespace Go.Proofs.Ytmjfenbbgfohlaa.Th
open Go.RowKit Go.Proofs.YtmjfenbbgfohlaaW.PrintWords Go.Proofs.YtmjfenbbgfohlaaW.PrintLast Go.Proofs.YtmjfenbbgfohlaaW.PrintMore Go.Proofs.Ytmjfenbbgfohlaa.PA Bit Dig
def pw (w : Int) : Nat := if w = 32 then 4294967296 else 18446744073709551616
theorem cutP (w : Int) (hw : w = 32 ∨ w = 64) (a : Nat) (ha : a < 18446744073709551616) : cutN w a = a % pw w := by
  unfold cutN pw; rcases hw with rfl | rfl
  · rfl
  · rw [if_neg (by decide), if_pos rfl, if_neg (by decide)]; omega
theorem u64_nat (n : Nat) : IntKind.u64.wrap (n : Int) = ((n % 18446744073709551616 : Nat) : Int) := by rw [IntKind.wrap_u64]; omega
theorem awake13 : trunnionlaw13_awake.f = some true := by decide +kernel
theorem pw_64 (w : Int) : pw w ≤ 18446744073709551616 := by unfold pw; split <;> omega
theorem pw_0 (w : Int) : 0 < pw w := by unfold pw; split <;> decide
theorem pw_two (w : Int) (hw : w = 32 ∨ w = 64) : pw w = 2 ^ w.toNat := by rcases hw with rfl | rfl <;> decide
end Go.Proofs.Ytmjfenbbgfohlaa.Th

set_option linter.unusedVariables false
set_option linter.unusedSimpArgs false
namespace Go.Proofs.Ytmjfenbbgfohlaa.Th
open Go.RowKit Go.Proofs.YtmjfenbbgfohlaaW.PrintWords Go.Proofs.YtmjfenbbgfohlaaW.PrintLast Go.Proofs.YtmjfenbbgfohlaaW.PrintMore Go.Proofs.Ytmjfenbbgfohlaa.PA Bit Dig
/-- the value of bits, the lowest first -/
def vb : List Bool → Nat
  | [] => 0
  | b :: l => 2 * vb l + b.toNat
theorem getD_in {α : Type} (d : α) (l : List α) (i : Nat) (h : i < l.length) : l.getD i d = l[i] := by simp [List.getD, h]
theorem getD_out {α : Type} (d : α) (l : List α) (i : Nat) (h : l.length ≤ i) : l.getD i d = d := by simp [List.getD, h]
theorem vb_lt (l : List Bool) : vb l < 2 ^ l.length := by
  induction l with
  | nil => decide
  | cons b l ih => simp only [vb, List.length_cons, Nat.pow_succ]; have := Bool.toNat_le b; omega
theorem vb_bit (l : List Bool) : ∀ i, (vb l).testBit i = l.getD i false := by
  induction l with
  | nil => intro i; simp [vb]
  | cons b l ih =>
    intro i
    cases i with
    | zero => simp only [vb, Nat.testBit_zero]; cases b <;> simp
    | succ i =>
      rw [Nat.testBit_succ, show vb (b :: l) / 2 = vb l by simp only [vb]; have := Bool.toNat_le b; omega, ih]
      rfl
theorem of_loop (l : List Bool) (hl : l.length ≤ 64) (i : Nat) : i ≤ l.length → Ev (fun k => trunnionref13_Of.l0 k l (vb (l.drop i) : Nat) ((i : Int) - 1)) ((vb l : Nat) : Int) := by
  induction i with
  | zero =>
    intro _
    exact Ev.step (fun _ => trunnionref13_Of.l0.eq_2 ..) (Ev.neg (by omega) (Ev.out (by rw [List.drop_zero])))
  | succ i ih =>
    intro hi
    have h1 : vb (l.drop i) = 2 * vb (l.drop (i + 1)) + (l.getD i false).toNat := by
      rw [List.drop_eq_getElem_cons (by omega : i < l.length), vb, getD_in _ _ _ (by omega)]
    have h2 := vb_lt (l.drop i)
    have h3 : 2 ^ (l.drop i).length ≤ 2 ^ 64 := Nat.pow_le_pow_right (by decide) (by rw [List.length_drop]; omega)
    have h4 : (2 : Nat) ^ 64 = 18446744073709551616 := by decide
    have h5 : rdOf false l (((i + 1 : Nat) : Int) - 1) = l.getD i false := by unfold rdOf; congr 1; omega
    refine Ev.step (fun _ => trunnionref13_Of.l0.eq_2 ..) (Ev.pos (by omega) (Ev.pos (by omega) (Ev.pos (by omega) ?_)))
    rw [h5]
    have h6 := ih (by omega)
    have e1 : wrap64 (((i + 1 : Nat) : Int) - 1 - 1) = (i : Int) - 1 := by rw [w64_id (by omega) (by omega)]; omega
    rw [e1]
    cases hb : l.getD i false with
    | true =>
      rw [hb] at h1
      simp only [Bool.toNat_true] at h1
      refine Ev.pos rfl ?_
      rw [u64_id (n := 2 * _) (by omega) (by omega), u64_id (by omega) (by omega), show 2 * ((vb (l.drop (i + 1)) : Nat) : Int) + 1 = ((vb (l.drop i) : Nat) : Int) by omega]
      exact h6
    | false =>
      rw [hb] at h1
      simp only [Bool.toNat_false] at h1
      refine Ev.neg (by decide) ?_
      rw [u64_id (n := 2 * _) (by omega) (by omega), show 2 * ((vb (l.drop (i + 1)) : Nat) : Int) = ((vb (l.drop i) : Nat) : Int) by omega]
      exact h6
theorem ofB (l : List Bool) (hl : l.length ≤ 64) : Ev (fun k => trunnionref13_Of.f k l) ((vb l : Nat) : Int) := by
  unfold trunnionref13_Of.f
  rw [w64_id (by omega) (by omega)]
  have h := of_loop l hl l.length (Nat.le_refl _)
  rw [List.drop_length] at h
  exact h
/-- a number's n lowest bits -/
def bts (c n : Nat) : List Bool := (List.range n).map c.testBit
theorem bts_len (c n : Nat) : (bts c n).length = n := by simp [bts]
theorem bts_get (c n i : Nat) (h : i < n) : (bts c n).getD i false = c.testBit i := by
  rw [getD_in _ _ _ (by rw [bts_len]; exact h)]; simp [bts]
theorem bits_loop (w : Int) (hw : w = 32 ∨ w = 64) (a : Int) (c : Nat) (hc : c < 18446744073709551616) (d : Nat) : ∀ i : Nat, i ≤ w.toNat → w.toNat - i = d → Ev (fun k => trunnionref13_Bits.l0 k w (c / 2 ^ i : Nat) (bts c i) i) (bts c w.toNat) := by
  induction d with
  | zero =>
    intro i h1 h2
    exact Ev.step (fun _ => trunnionref13_Bits.l0.eq_2 ..) (Ev.neg (by omega) (Ev.out (by rw [show i = w.toNat by omega])))
  | succ d ih =>
    intro i h1 h2
    have hd : c / 2 ^ i < 18446744073709551616 := Nat.lt_of_le_of_lt (Nat.div_le_self _ _) hc
    refine Ev.step (fun _ => trunnionref13_Bits.l0.eq_2 ..) (Ev.pos (by omega) (Ev.pos (by rw [bts_len]; omega) ?_))
    have hs := ih (i + 1) (by omega) (by omega)
    have e1 : c / 2 ^ i / 2 = c / 2 ^ (i + 1) := by rw [Nat.pow_succ, ← Nat.div_div_eq_div_mul]
    have e3 : c.testBit i = decide (c / 2 ^ i % 2 = 1) := Nat.testBit_eq_decide_div_mod_eq
    rw [← e1] at hs
    generalize c / 2 ^ i = q at hd hs e3 ⊢
    rw [w64_id (by omega) (by omega), Int.tdiv_eq_ediv_of_nonneg (by omega), Int.tmod_eq_emod_of_nonneg (by omega), u64_id (by omega) (by omega)]
    have e2 : bts c i ++ [((q : Int) % 2 == 1)] = bts c (i + 1) := by
      unfold bts
      rw [List.range_succ, List.map_append]
      congr 1
      simp only [List.map_cons, List.map_nil, e3]
      congr 1
      rw [Bool.eq_iff_iff]; simp; omega
    rw [e2, show (q : Int) / 2 = ((q / 2 : Nat) : Int) by omega]
    exact hs
theorem bitsB (w : Int) (hw : w = 32 ∨ w = 64) (a : Nat) (ha : a < 18446744073709551616) : Ev (fun k => trunnionref13_Bits.f k w a) (bts (a % pw w) w.toNat) := by
  unfold trunnionref13_Bits.f
  refine Ev.bs (r2Cut w a hw) ?_
  rw [cutP w hw a ha]
  have h := bits_loop w hw a (a % pw w) (Nat.lt_of_le_of_lt (Nat.mod_le _ _) ha) w.toNat 0 (Nat.zero_le _) rfl
  simpa [bts] using h
/-- a turned number's bit -/
def tb (c : Nat) (w n : Int) (rd inn : Bool) (i : Nat) : Bool := if 0 ≤ (i : Int) - n ∧ (i : Int) - n < w then c.testBit ((i : Int) - n).toNat else if rd then c.testBit (((i : Int) - n + w) % w).toNat else inn
theorem turn_loop (w : Int) (hw : w = 32 ∨ w = 64) (c : Nat) (n : Int) (hn : -w < n ∧ n < w) (rd inn : Bool) (d : Nat) : ∀ i : Nat, i ≤ w.toNat → w.toNat - i = d → Ev (fun k => trunnionref13_Turn.l0 k w n rd inn (bts c w.toNat) ((List.range i).map (tb c w n rd inn)) i) ((vb ((List.range w.toNat).map (tb c w n rd inn)) : Nat) : Int) := by
  induction d with
  | zero =>
    intro i h1 h2
    refine Ev.step (fun _ => trunnionref13_Turn.l0.eq_2 ..) (Ev.neg (by omega) ?_)
    rw [show i = w.toNat by omega]
    exact Ev.bind (ofB _ (by simp; omega)) (Ev.out rfl)
  | succ d ih =>
    intro i h1 h2
    have hl : (bts c w.toNat).length = w.toNat := bts_len _ _
    have hL : ((List.range i).map (tb c w n rd inn)).length = i := by simp
    have hnext := ih (i + 1) (by omega) (by omega)
    rw [List.range_succ, List.map_append] at hnext
    refine Ev.step (fun _ => trunnionref13_Turn.l0.eq_2 ..) (Ev.pos (by omega) ?_)
    have hwr : wrap64 ((i : Int) - n) = (i : Int) - n := w64_id (by omega) (by omega)
    rw [hwr]
    have hout : ¬ (0 ≤ (i : Int) - n ∧ (i : Int) - n < w) → Ev (fun k => trunnionref13_Turn.j1 k w n rd inn (bts c w.toNat) ((List.range i).map (tb c w n rd inn)) i ((i : Int) - n) false) ((vb ((List.range w.toNat).map (tb c w n rd inn)) : Nat) : Int) := by
      intro h
      refine Ev.step (fun _ => trunnionref13_Turn.j1.eq_2 ..) (Ev.neg (by decide) ?_)
      cases rd with
      | true =>
        have hm : Int.tmod (wrap64 ((i : Int) - n + w)) w = ((i : Int) - n + w) % w := by
          rw [w64_id (by omega) (by omega), Int.tmod_eq_emod_of_nonneg (by omega)]
        have h0 := Int.emod_nonneg ((i : Int) - n + w) (show w ≠ 0 by omega)
        have h3 := Int.emod_lt_of_pos ((i : Int) - n + w) (show 0 < w by omega)
        refine Ev.pos rfl (Ev.neg (by omega) ?_)
        rw [hm]
        refine Ev.pos h0 (Ev.pos (by rw [hl]; omega) (Ev.pos (by rw [hL]; omega) ?_))
        rw [w64_id (n := (i : Int) + 1) (by omega) (by omega)]
        have e : rdOf false (bts c w.toNat) (((i : Int) - n + w) % w) = tb c w n true inn i := by
          unfold rdOf tb; rw [bts_get _ _ _ (by omega), if_neg h, if_pos rfl]
        rw [e]
        exact hnext
      | false =>
        refine Ev.neg (by decide) (Ev.pos (by rw [hL]; omega) ?_)
        rw [w64_id (n := (i : Int) + 1) (by omega) (by omega)]
        have e : inn = tb c w n false inn i := by unfold tb; rw [if_neg h, if_neg (by decide)]
        have hn2 := hnext
        simp only [List.map_cons, List.map_nil] at hn2
        rw [← e] at hn2
        exact hn2
    by_cases hg : (i : Int) - n ≥ 0
    · refine Ev.pos hg ?_
      by_cases hlt : (i : Int) - n < w
      · rw [decide_eq_true hlt]
        refine Ev.step (fun _ => trunnionref13_Turn.j1.eq_2 ..) (Ev.pos rfl (Ev.pos hg (Ev.pos (by rw [hl]; omega) (Ev.pos (by rw [hL]; omega) ?_))))
        rw [w64_id (n := (i : Int) + 1) (by omega) (by omega)]
        have e : rdOf false (bts c w.toNat) ((i : Int) - n) = tb c w n rd inn i := by
          unfold rdOf tb; rw [bts_get _ _ _ (by omega), if_pos ⟨hg, hlt⟩]
        rw [e]
        exact hnext
      · rw [decide_eq_false hlt]
        exact hout (by omega)
    · exact Ev.neg hg (hout (by omega))
def turnV (w : Int) (c : Nat) (n : Int) (rd inn : Bool) : Nat := vb ((List.range w.toNat).map (tb c w n rd inn))
theorem turnB (w : Int) (hw : w = 32 ∨ w = 64) (a : Nat) (ha : a < 18446744073709551616) (n : Int) (hn : -w < n ∧ n < w) (rd inn : Bool) : Ev (fun k => trunnionref13_Turn.f k w a n rd inn) ((turnV w (a % pw w) n rd inn : Nat) : Int) := by
  unfold trunnionref13_Turn.f
  exact Ev.bind (bitsB w hw a ha) (turn_loop w hw _ n hn rd inn w.toNat 0 (Nat.zero_le _) rfl)
theorem turn_bit (w : Int) (c : Nat) (n : Int) (rd inn : Bool) (i : Nat) : (turnV w c n rd inn).testBit i = (decide (i < w.toNat) && tb c w n rd inn i) := by
  unfold turnV
  rw [vb_bit]
  by_cases h : i < w.toNat
  · rw [getD_in _ _ _ (by simpa using h)]; simp [h]
  · rw [getD_out _ _ _ (by simpa using h)]; simp [h]
end Go.Proofs.Ytmjfenbbgfohlaa.Th

set_option linter.unusedVariables false
set_option linter.unusedSimpArgs false
namespace Go.Proofs.Ytmjfenbbgfohlaa.Th
open Go.RowKit Go.Proofs.YtmjfenbbgfohlaaW.PrintWords Go.Proofs.YtmjfenbbgfohlaaW.PrintLast Go.Proofs.YtmjfenbbgfohlaaW.PrintMore Go.Proofs.Ytmjfenbbgfohlaa.PA Bit Dig
theorem known13 (w : Int) : ints_known.f w = some (decide (w = 32 ∨ w = 64)) := by
  unfold ints_known.f
  by_cases h : w = 32
  · subst h; rfl
  · by_cases h2 : w = 64
    · subst h2; rfl
    · rw [decide_eq_false (by omega)]; simp [h, h2]
theorem byS (w : Int) (hw : w = 32 ∨ w = 64) (b : Nat) (hb : b < 18446744073709551616) : ints_by.f w b = some (((b % w.toNat : Nat)) : Int) := by
  unfold ints_by.f
  rw [known13, Option.bind_some, decide_eq_true hw, if_pos rfl, u64_id (n := w) (by omega) (by omega), if_neg (by omega), Int.tmod_eq_emod_of_nonneg (by omega)]
  have h : (b : Int) % w = ((b % w.toNat : Nat) : Int) := by rw [Int.natCast_emod]; congr 1; omega
  have h2 := Nat.mod_lt b (show 0 < w.toNat by omega)
  rw [h, w64_id (by omega) (by omega)]
theorem shlS (w : Int) (hw : w = 32 ∨ w = 64) (a b : Nat) (ha : a < 18446744073709551616) (hb : b < 18446744073709551616) : ints_Shl.f w a b = some (((a * 2 ^ (b % w.toNat) % pw w : Nat)) : Int) := by
  have h2 := Nat.mod_lt b (show 0 < w.toNat by omega)
  unfold ints_Shl.f
  rw [byS w hw b hb, Option.bind_some, if_pos (by omega)]
  have e : shl .u64 (a : Int) ((b % w.toNat : Nat) : Int) = ((a * 2 ^ (b % w.toNat) % 18446744073709551616 : Nat) : Int) := by
    unfold shl
    rw [show min (((b % w.toNat : Nat) : Int)).toNat IntKind.u64.bits = b % w.toNat by rw [show IntKind.u64.bits = 64 by decide]; omega, show (a : Int) * 2 ^ (b % w.toNat) = ((a * 2 ^ (b % w.toNat) : Nat) : Int) by rw [Int.natCast_mul, Int.natCast_pow]; rfl, u64_nat]
  rw [e, shCut w _ (Nat.mod_lt _ (by decide)), Option.bind_some, cutP w hw _ (Nat.mod_lt _ (by decide))]
  congr 2
  refine Nat.mod_mod_of_dvd _ ?_
  rcases hw with rfl | rfl
  · exact ⟨4294967296, by decide⟩
  · exact ⟨1, by decide⟩
theorem shrN (c n : Nat) (hn : n < 64) : shr .u64 (c : Int) (n : Int) = ((c / 2 ^ n : Nat) : Int) := by
  unfold shr
  rw [show min ((n : Int)).toNat IntKind.u64.bits = n by rw [show IntKind.u64.bits = 64 by decide]; omega]
  rw [Int.natCast_ediv, Int.natCast_pow]; rfl
theorem shrUS (w : Int) (hw : w = 32 ∨ w = 64) (a b : Nat) (ha : a < 18446744073709551616) (hb : b < 18446744073709551616) : ints_ShrU.f w a b = some (((a % pw w / 2 ^ (b % w.toNat) : Nat)) : Int) := by
  have h2 := Nat.mod_lt b (show 0 < w.toNat by omega)
  unfold ints_ShrU.f
  rw [shCut w a ha, Option.bind_some, byS w hw b hb, Option.bind_some, if_pos (by omega), shrN _ _ (by omega), cutP w hw a ha]
/-- a number with its sign -/
def sgn (w : Int) (a : Nat) : Int := (a % pw w : Nat) - (if sgB w a then (pw w : Int) else 0)
theorem signedS (w : Int) (hw : w = 32 ∨ w = 64) (a : Nat) (ha : a < 18446744073709551616) : ints_signed.f w a = some (sgn w a) := by
  unfold ints_signed.f sgn sgB pw sb
  rcases hw with rfl | rfl
  · simp only [if_true, decide_eq_true_eq]
    rw [show wrap32 ((a : Int) % 4294967296) = if a / 2147483648 % 2 = 1 then ((a % 4294967296 : Nat) : Int) - 4294967296 else ((a % 4294967296 : Nat) : Int) by unfold wrap32; split <;> omega]
    congr 1
    split
    · rw [w64_id (by omega) (by omega)]; rfl
    · rw [w64_id (by omega) (by omega)]; omega
  · simp only [show ¬ ((64 : Int) = 32) by decide, if_false, decide_eq_true_eq]
    congr 1
    unfold wrap64
    split <;> omega
/-- the signed shift, in bits -/
theorem shrSS (w : Int) (hw : w = 32 ∨ w = 64) (a b : Nat) (ha : a < 18446744073709551616) (hb : b < 18446744073709551616) : ints_ShrS.f w a b = some (((2 ^ (w.toNat - b % w.toNat) * (if sgB w a then 2 ^ (b % w.toNat) - 1 else 0) + a % pw w / 2 ^ (b % w.toNat) : Nat)) : Int) := by
  have h2 := Nat.mod_lt b (show 0 < w.toNat by omega)
  generalize hn : b % w.toNat = n at h2 ⊢
  unfold ints_ShrS.f
  rw [signedS w hw a ha, Option.bind_some, byS w hw b hb, Option.bind_some, hn, if_pos (by omega)]
  have e : shr .i64 (sgn w a) (n : Int) = ((a % pw w / 2 ^ n : Nat) : Int) - (if sgB w a then ((2 ^ (w.toNat - n) : Nat) : Int) else 0) := by
    unfold shr
    rw [show min ((n : Int)).toNat IntKind.i64.bits = n by rw [show IntKind.i64.bits = 64 by decide]; omega]
    have hp : (2 : Int) ^ n = ((2 ^ n : Nat) : Int) := by rw [Int.natCast_pow]; rfl
    have h0 : 0 < 2 ^ n := Nat.pow_pos (by decide)
    rw [hp]
    unfold sgn
    split
    · have h3 : pw w = 2 ^ (w.toNat - n) * 2 ^ n := by rw [pw_two w hw, ← Nat.pow_add]; congr 1; omega
      rw [show (pw w : Int) = ((2 ^ (w.toNat - n) : Nat) : Int) * ((2 ^ n : Nat) : Int) by rw [h3]; exact Int.natCast_mul _ _, Int.sub_mul_ediv_right _ _ (by omega), Int.natCast_ediv]
    · rw [Int.sub_zero, Int.sub_zero, Int.natCast_ediv]
  have h3 : 2 ^ (w.toNat - n) * 2 ^ n = pw w := by rw [pw_two w hw, ← Nat.pow_add]; congr 1; omega
  have h4 : a % pw w / 2 ^ n < 2 ^ (w.toNat - n) := by rw [Nat.div_lt_iff_lt_mul (Nat.pow_pos (by decide)), h3]; exact Nat.mod_lt _ (pw_0 w)
  have h5 : 0 < 2 ^ n := Nat.pow_pos (by decide)
  have h6 := pw_64 w
  have h7 : 2 ^ (w.toNat - n) ≤ pw w := by rw [← h3]; exact Nat.le_mul_of_pos_right _ h5
  rw [e]
  generalize a % pw w / 2 ^ n = q at h4 ⊢
  generalize 2 ^ (w.toNat - n) = t at h3 h4 h7 ⊢
  have h8 : t * (2 ^ n - 1) = pw w - t := by rw [Nat.mul_sub, h3, Nat.mul_one]
  cases hs : sgB w a with
  | false =>
    simp only [Bool.false_eq_true, if_false, Int.sub_zero, Nat.mul_zero, Nat.zero_add]
    rw [u64_id (by omega) (by omega), shCut w q (by omega), Option.bind_some, cutP w hw q (by omega), Nat.mod_eq_of_lt (by omega)]
  | true =>
    simp only [if_true]
    rw [h8, IntKind.wrap_u64]
    have h9 : ((q : Int) - t) % 18446744073709551616 = ((18446744073709551616 + q - t : Nat) : Int) := by omega
    rw [h9, shCut w _ (by omega), Option.bind_some, cutP w hw _ (by omega)]
    congr 2
    have hpw : pw w = 4294967296 ∨ pw w = 18446744073709551616 := by rcases hw with rfl | rfl <;> simp [pw]
    rcases hpw with h | h <;> rw [h] at h3 h7 ⊢ <;> omega
end Go.Proofs.Ytmjfenbbgfohlaa.Th

set_option linter.unusedVariables false
set_option linter.unusedSimpArgs false
namespace Go.Proofs.Ytmjfenbbgfohlaa.Th
open Go.RowKit Go.Proofs.YtmjfenbbgfohlaaW.PrintWords Go.Proofs.YtmjfenbbgfohlaaW.PrintLast Go.Proofs.YtmjfenbbgfohlaaW.PrintMore Go.Proofs.Ytmjfenbbgfohlaa.PA Bit Dig
/-- turned by m places -/
def rotN (w : Int) (c m : Nat) : Nat := c * 2 ^ m % pw w ||| c / 2 ^ (w.toNat - m)
theorem and31 (n : Nat) (h : n < 18446744073709551616) : Go.bits .and .u64 (n : Int) 31 = ((n % 32 : Nat) : Int) := by
  rw [show (31 : Int) = ((31 : Nat) : Int) from rfl, u64_and_nat n _ h (by decide), show (31 : Nat) = 2 ^ 5 - 1 by decide, and_low]
theorem and63 (n : Nat) (h : n < 18446744073709551616) : Go.bits .and .u64 (n : Int) 63 = ((n % 64 : Nat) : Int) := by
  rw [show (63 : Int) = ((63 : Nat) : Int) from rfl, u64_and_nat n _ h (by decide), show (63 : Nat) = 2 ^ 6 - 1 by decide, and_low]
theorem rot32 (a m : Nat) (hm : m < 32) : IntKind.u64.wrap (Go.bits .or .u32 (((a : Int) % 4294967296) * 2 ^ min ((m : Int)).toNat 32 % 4294967296) (((a : Int) % 4294967296) / 2 ^ min (IntKind.u64.wrap (32 - (m : Int))).toNat 32)) = ((rotN 32 (a % 4294967296) m : Nat) : Int) := by
  have hc : a % 4294967296 < 4294967296 := Nat.mod_lt _ (by decide)
  rw [show (a : Int) % 4294967296 = ((a % 4294967296 : Nat) : Int) by omega]
  generalize a % 4294967296 = c at hc ⊢
  rw [show min ((m : Int)).toNat 32 = m by omega, show IntKind.u64.wrap (32 - (m : Int)) = ((32 - m : Nat) : Int) by rw [IntKind.wrap_u64]; omega, show min (((32 - m : Nat) : Int)).toNat 32 = 32 - m by omega]
  rw [show (c : Int) * 2 ^ m % 4294967296 = ((c * 2 ^ m % 4294967296 : Nat) : Int) by rw [Int.natCast_emod, Int.natCast_mul, Int.natCast_pow]; rfl, show (c : Int) / 2 ^ (32 - m) = ((c / 2 ^ (32 - m) : Nat) : Int) by rw [Int.natCast_ediv, Int.natCast_pow]; rfl]
  have h1 : c * 2 ^ m % 4294967296 < 2 ^ 32 := Nat.mod_lt _ (by decide)
  have h2 : c / 2 ^ (32 - m) < 2 ^ 32 := Nat.lt_of_le_of_lt (Nat.div_le_self _ _) hc
  have h3 := Nat.or_lt_two_pow h1 h2
  have h4 : (2 : Nat) ^ 32 = 4294967296 := by decide
  rw [u32_or_nat _ _ (by omega) (by omega), u64_id (by omega) (by omega)]
  unfold rotN pw
  rfl
theorem rot64 (a m : Nat) (ha : a < 18446744073709551616) (hm : m < 64) : Go.bits .or .u64 (IntKind.u64.wrap ((a : Int) * 2 ^ min ((m : Int)).toNat 64)) ((a : Int) / 2 ^ min (IntKind.u64.wrap (64 - (m : Int))).toNat 64) = ((rotN 64 a m : Nat) : Int) := by
  rw [show min ((m : Int)).toNat 64 = m by omega, show IntKind.u64.wrap (64 - (m : Int)) = ((64 - m : Nat) : Int) by rw [IntKind.wrap_u64]; omega, show min (((64 - m : Nat) : Int)).toNat 64 = 64 - m by omega]
  rw [show (a : Int) * 2 ^ m = ((a * 2 ^ m : Nat) : Int) by rw [Int.natCast_mul, Int.natCast_pow]; rfl, u64_nat, show (a : Int) / 2 ^ (64 - m) = ((a / 2 ^ (64 - m) : Nat) : Int) by rw [Int.natCast_ediv, Int.natCast_pow]; rfl]
  have h2 : a / 2 ^ (64 - m) < 18446744073709551616 := Nat.lt_of_le_of_lt (Nat.div_le_self _ _) ha
  rw [u64_or_nat _ _ (Nat.mod_lt _ (by decide)) h2]
  unfold rotN pw
  rfl
theorem rotlS (w : Int) (hw : w = 32 ∨ w = 64) (a b : Nat) (ha : a < 18446744073709551616) (hb : b < 18446744073709551616) : ints_Rotl.f w a b = some ((rotN w (a % pw w) (b % w.toNat) : Nat) : Int) := by
  unfold ints_Rotl.f
  rcases hw with rfl | rfl
  · have e : Go.bits .and .u64 (IntKind.u64.wrap (wrap64 (Int.tmod (b : Int) 32))) 31 = ((b % 32 : Nat) : Int) := by
      rw [Int.tmod_eq_emod_of_nonneg (by omega), w64_id (by omega) (by omega), u64_id (by omega) (by omega), show (b : Int) % 32 = ((b % 32 : Nat) : Int) by omega, and31 _ (by omega), Nat.mod_mod]
    rw [if_pos rfl, e, rot32 a _ (by omega)]; rfl
  · have e : Go.bits .and .u64 (IntKind.u64.wrap (wrap64 (Int.tmod (b : Int) 64))) 63 = ((b % 64 : Nat) : Int) := by
      rw [Int.tmod_eq_emod_of_nonneg (by omega), w64_id (by omega) (by omega), u64_id (by omega) (by omega), show (b : Int) % 64 = ((b % 64 : Nat) : Int) by omega, and63 _ (by omega), Nat.mod_mod]
    rw [if_neg (by decide), if_pos rfl, e, rot64 a _ ha (by omega), show a % pw 64 = a by unfold pw; rw [if_neg (by decide)]; omega]; rfl
theorem rotrS (w : Int) (hw : w = 32 ∨ w = 64) (a b : Nat) (ha : a < 18446744073709551616) (hb : b < 18446744073709551616) : ints_Rotr.f w a b = some ((rotN w (a % pw w) ((w.toNat - b % w.toNat) % w.toNat) : Nat) : Int) := by
  unfold ints_Rotr.f
  rcases hw with rfl | rfl
  · have e : Go.bits .and .u64 (IntKind.u64.wrap (wrap64 (-(wrap64 (Int.tmod (b : Int) 32))))) 31 = (((32 - b % 32) % 32 : Nat) : Int) := by
      rw [Int.tmod_eq_emod_of_nonneg (by omega), w64_id (n := (b : Int) % 32) (by omega) (by omega), w64_id (by omega) (by omega), IntKind.wrap_u64, show -((b : Int) % 32) % 18446744073709551616 = (((18446744073709551616 - b % 32) % 18446744073709551616 : Nat) : Int) by omega, and31 _ (by omega)]
      congr 1; omega
    rw [if_pos rfl, e, rot32 a _ (by omega)]; rfl
  · have e : Go.bits .and .u64 (IntKind.u64.wrap (wrap64 (-(wrap64 (Int.tmod (b : Int) 64))))) 63 = (((64 - b % 64) % 64 : Nat) : Int) := by
      rw [Int.tmod_eq_emod_of_nonneg (by omega), w64_id (n := (b : Int) % 64) (by omega) (by omega), w64_id (by omega) (by omega), IntKind.wrap_u64, show -((b : Int) % 64) % 18446744073709551616 = (((18446744073709551616 - b % 64) % 18446744073709551616 : Nat) : Int) by omega, and63 _ (by omega)]
      congr 1; omega
    rw [if_neg (by decide), if_pos rfl, e, rot64 a _ ha (by omega), show a % pw 64 = a by unfold pw; rw [if_neg (by decide)]; omega]; rfl
/-! ### the document's turns -/
theorem bit_lt {w : Int} {c j : Nat} (hc : c < 2 ^ w.toNat) (h : w.toNat ≤ j) : c.testBit j = false :=
  Nat.testBit_lt_two_pow (Nat.lt_of_lt_of_le hc (Nat.pow_le_pow_right (by decide) h))
theorem turn_shl (w : Int) (hw : w = 32 ∨ w = 64) (a n : Nat) (hn : n < w.toNat) : turnV w (a % pw w) n false false = a * 2 ^ n % pw w := by
  apply Nat.eq_of_testBit_eq
  intro i
  rw [turn_bit, pw_two w hw, Nat.testBit_mod_two_pow, Nat.testBit_mul_two_pow]
  by_cases h : i < w.toNat
  · simp only [h, decide_true, Bool.true_and]
    unfold tb
    by_cases h1 : n ≤ i
    · rw [if_pos (by omega), Nat.testBit_mod_two_pow, show ((i : Int) - n).toNat = i - n by omega]
      simp only [h1, decide_true, Bool.true_and, show i - n < w.toNat by omega]
    · rw [if_neg (by omega), if_neg (by decide)]; simp [h1]
  · simp [h]
theorem turn_shr (w : Int) (hw : w = 32 ∨ w = 64) (a n : Nat) (hn : n < w.toNat) : turnV w (a % pw w) (-(n : Int)) false false = a % pw w / 2 ^ n := by
  have hc : a % pw w < 2 ^ w.toNat := by rw [← pw_two w hw]; exact Nat.mod_lt _ (pw_0 w)
  apply Nat.eq_of_testBit_eq
  intro i
  rw [turn_bit, Nat.testBit_div_two_pow]
  by_cases h : i < w.toNat
  · simp only [h, decide_true, Bool.true_and]
    unfold tb
    by_cases h1 : i + n < w.toNat
    · rw [if_pos (by omega), show ((i : Int) - -(n : Int)).toNat = i + n by omega]
    · rw [if_neg (by omega), if_neg (by decide), bit_lt hc (by omega)]
  · simp only [h, decide_false, Bool.false_and]; rw [bit_lt hc (by omega)]
theorem turn_sar (w : Int) (hw : w = 32 ∨ w = 64) (a n : Nat) (hn : n < w.toNat) (s : Bool) : turnV w (a % pw w) (-(n : Int)) false s = 2 ^ (w.toNat - n) * (if s then 2 ^ n - 1 else 0) + a % pw w / 2 ^ n := by
  have hc : a % pw w < 2 ^ w.toNat := by rw [← pw_two w hw]; exact Nat.mod_lt _ (pw_0 w)
  have hq : a % pw w / 2 ^ n < 2 ^ (w.toNat - n) := by
    rw [Nat.div_lt_iff_lt_mul (Nat.pow_pos (by decide)), ← Nat.pow_add, show w.toNat - n + n = w.toNat by omega]; exact hc
  apply Nat.eq_of_testBit_eq
  intro i
  rw [turn_bit, Nat.testBit_two_pow_mul_add _ hq, Nat.testBit_div_two_pow]
  by_cases h : i < w.toNat
  · simp only [h, decide_true, Bool.true_and]
    unfold tb
    by_cases h1 : i + n < w.toNat
    · rw [if_pos (by omega), if_pos (by omega), show ((i : Int) - -(n : Int)).toNat = i + n by omega]
    · rw [if_neg (by omega), if_neg (by decide), if_neg (by omega)]
      cases s with
      | true => simp only [if_true]; rw [Nat.testBit_two_pow_sub_one]; simp; omega
      | false => simp
  · simp only [h, decide_false, Bool.false_and]
    rw [if_neg (by omega)]
    cases s with
    | true => simp only [if_true]; rw [Nat.testBit_two_pow_sub_one]; simp; omega
    | false => simp
theorem turn_rot (w : Int) (hw : w = 32 ∨ w = 64) (a n : Nat) (hn : n < w.toNat) : turnV w (a % pw w) n true false = rotN w (a % pw w) n := by
  have hc : a % pw w < 2 ^ w.toNat := by rw [← pw_two w hw]; exact Nat.mod_lt _ (pw_0 w)
  generalize a % pw w = c at hc ⊢
  apply Nat.eq_of_testBit_eq
  intro i
  unfold rotN
  rw [turn_bit, Nat.testBit_or, pw_two w hw, Nat.testBit_mod_two_pow, Nat.testBit_mul_two_pow, Nat.testBit_div_two_pow]
  by_cases h : i < w.toNat
  · simp only [h, decide_true, Bool.true_and]
    unfold tb
    by_cases h1 : n ≤ i
    · rw [if_pos (by omega), show ((i : Int) - n).toNat = i - n by omega, bit_lt hc (show w.toNat ≤ i + (w.toNat - n) by omega)]
      simp [h1]
    · rw [if_neg (by omega), if_pos rfl, Int.emod_eq_of_lt (by omega) (by omega), show ((i : Int) - n + w).toNat = i + (w.toNat - n) by omega]
      simp [h1]
  · simp only [h, decide_false, Bool.false_and, Bool.false_or]
    rw [bit_lt hc (by omega)]
theorem turn_back (w : Int) (hw : w = 32 ∨ w = 64) (c n : Nat) (hn : n < w.toNat) : turnV w c (-(n : Int)) true false = turnV w c ((w.toNat - n) % w.toNat : Nat) true false := by
  by_cases h0 : n = 0
  · subst h0; rw [Nat.sub_zero, Nat.mod_self]; rfl
  · rw [Nat.mod_eq_of_lt (by omega)]
    unfold turnV
    congr 1
    apply List.map_congr_left
    intro i hi
    have hi := List.mem_range.1 hi
    unfold tb
    by_cases h : i + n < w.toNat
    · rw [if_pos (by omega), if_neg (by omega), if_pos rfl, Int.emod_eq_of_lt (by omega) (by omega)]; congr 1; omega
    · rw [if_neg (by omega), if_pos rfl, if_pos (by omega)]
      have e : ((i : Int) - -(n : Int) + w) % w = (i : Int) + n - w := by
        rw [show (i : Int) - -(n : Int) + w = ((i : Int) + n - w) + w * 2 by omega, Int.add_mul_emod_self_left, Int.emod_eq_of_lt (by omega) (by omega)]
      rw [e]; congr 1; omega
theorem mod_w (w : Int) (hw : w = 32 ∨ w = 64) (b : Nat) : b % pw w % w.toNat = b % w.toNat := by
  refine Nat.mod_mod_of_dvd _ ?_
  rcases hw with rfl | rfl
  · exact ⟨134217728, by decide⟩
  · exact ⟨288230376151711744, by decide⟩
theorem IntsShiftsP : trunnionlaw13_IntsShifts.Pure := by
  intro w a b hw0 ha0 hb0
  obtain ⟨ha1, ha2⟩ := wf_u64 ha0
  obtain ⟨a, rfl⟩ := Int.eq_ofNat_of_zero_le ha1
  have ha : a < 18446744073709551616 := by omega
  obtain ⟨hb1, hb2⟩ := wf_u64 hb0
  obtain ⟨b, rfl⟩ := Int.eq_ofNat_of_zero_le hb1
  have hb : b < 18446744073709551616 := by omega
  refine Ev.rounds ?_
  unfold trunnionlaw13_IntsShifts.f
  refine Ev.bs awake13 (Ev.pos rfl ?_)
  by_cases hw : w = 32 ∨ w = 64
  · refine Ev.bs (shlS w hw a b ha hb) (Ev.bs (shrUS w hw a b ha hb) (Ev.bs (shrSS w hw a b ha hb) (Ev.bs (rotlS w hw a b ha hb) (Ev.bs (rotrS w hw a b ha hb) (Ev.bs (known_f w) ?_)))))
    rw [decide_eq_true hw]
    have hn := Nat.mod_lt b (show 0 < w.toNat by omega)
    have e1 : wrap64 (Int.tmod ((cutN w b : Nat) : Int) (IntKind.u64.wrap w)) = ((b % w.toNat : Nat) : Int) := by
      rw [cutP w hw b hb, u64_id (by omega) (by omega), Int.tmod_eq_emod_of_nonneg (by omega)]
      have h : ((b % pw w : Nat) : Int) % w = ((b % w.toNat : Nat) : Int) := by
        rw [← mod_w w hw b, Int.natCast_emod (b % pw w)]; congr 1; omega
      rw [h, w64_id (by omega) (by omega)]
    refine Ev.pos rfl (Ev.bs (r2Cut w b hw) (Ev.neg (by rw [u64_id (by omega) (by omega)]; omega) (Ev.bind (r2Neg w hw a ha) ?_)))
    rw [e1, w64_id (n := -((b % w.toNat : Nat) : Int)) (by omega) (by omega)]
    generalize b % w.toNat = n at hn
    have t1 := turnB w hw a ha n (by omega) false false
    have t2 := turnB w hw a ha (-(n : Int)) (by omega) false false
    have t3 := turnB w hw a ha (-(n : Int)) (by omega) false (sgB w a)
    have t4 := turnB w hw a ha n (by omega) true false
    have t5 := turnB w hw a ha (-(n : Int)) (by omega) true false
    rw [turn_shl w hw a n hn] at t1
    rw [turn_shr w hw a n hn] at t2
    rw [turn_sar w hw a n hn] at t3
    rw [turn_rot w hw a n hn] at t4
    rw [turn_back w hw _ n hn, turn_rot w hw a _ (Nat.mod_lt _ (by omega))] at t5
    exact Ev.bind t1 (Ev.pos rfl (Ev.bind t2 (Ev.pos rfl (Ev.bind t3 (Ev.pos rfl (Ev.bind t4 (Ev.pos rfl (Ev.bind t5 (Ev.out (by simp))))))))))
  · have hb0 : ints_by.f w b = some 0 := by unfold ints_by.f; rw [known13, Option.bind_some, decide_eq_false hw]; rfl
    have hc0 : ∀ x, shape_Cut.f w x = some 0 := fun x => by unfold shape_Cut.f; rw [if_neg (by omega), if_neg (by omega)]
    have n1 : ints_Shl.f w a b = some 0 := by unfold ints_Shl.f; rw [hb0, Option.bind_some, if_pos (by decide), hc0]; rfl
    have n2 : ints_ShrU.f w a b = some 0 := by unfold ints_ShrU.f; rw [hc0, Option.bind_some, hb0, Option.bind_some, if_pos (by decide)]; decide +kernel
    have n3 : ints_ShrS.f w a b = some 0 := by
      unfold ints_ShrS.f ints_signed.f; rw [if_neg (by omega), Option.bind_some, hb0, Option.bind_some, if_pos (by decide), hc0]; rfl
    have n4 : ints_Rotl.f w a b = some 0 := by unfold ints_Rotl.f; rw [if_neg (by omega), if_neg (by omega)]
    have n5 : ints_Rotr.f w a b = some 0 := by unfold ints_Rotr.f; rw [if_neg (by omega), if_neg (by omega)]
    refine Ev.bs n1 (Ev.bs n2 (Ev.bs n3 (Ev.bs n4 (Ev.bs n5 (Ev.bs (known_f w) ?_)))))
    rw [decide_eq_false hw]
    exact Ev.neg (by decide) (Ev.out (by decide +kernel))
end Go.Proofs.Ytmjfenbbgfohlaa.Th

namespace Go.Proofs.Ytmjfenbbgfohlaa.Pure
theorem IntsShifts : Go.Proofs.Ytmjfenbbgfohlaa.PA.trunnionlaw13_IntsShifts.Pure := Go.Proofs.Ytmjfenbbgfohlaa.Th.IntsShiftsP
end Go.Proofs.Ytmjfenbbgfohlaa.Pure

namespace Go.Proofs.Ytmjfenbbgfohlaa.Facts
theorem words_word (w : List Char) (r : List Char) (h : w.all (fun c => c != Char.ofNat 32) = true) : wordsSigns (w ++ Char.ofNat 32 :: r) = w :: wordsSigns r := by
  induction w with
  | nil => rfl
  | cons c w ih =>
    rw [List.all_cons, Bool.and_eq_true] at h
    have hc : c ≠ Char.ofNat 32 := bne_iff_ne.1 h.1
    rw [List.cons_append]
    rw [wordsSigns.eq_3 c _ (fun e => hc e), ih h.2]
def w1 : List Char := [Char.ofNat 104, Char.ofNat 97, Char.ofNat 114, Char.ofNat 110, Char.ofNat 101, Char.ofNat 115, Char.ofNat 115]
def w2 : List Char := [Char.ofNat 101, Char.ofNat 57, Char.ofNat 57, Char.ofNat 97, Char.ofNat 57, Char.ofNat 55, Char.ofNat 53, Char.ofNat 98, Char.ofNat 102, Char.ofNat 48, Char.ofNat 101, Char.ofNat 53, Char.ofNat 99, Char.ofNat 55, Char.ofNat 52, Char.ofNat 56, Char.ofNat 48, Char.ofNat 48, Char.ofNat 48, Char.ofNat 98, Char.ofNat 51, Char.ofNat 97, Char.ofNat 56, Char.ofNat 52, Char.ofNat 54, Char.ofNat 50, Char.ofNat 99, Char.ofNat 99, Char.ofNat 52, Char.ofNat 50, Char.ofNat 57, Char.ofNat 51, Char.ofNat 51, Char.ofNat 49, Char.ofNat 51, Char.ofNat 99, Char.ofNat 57, Char.ofNat 55, Char.ofNat 51, Char.ofNat 57, Char.ofNat 52, Char.ofNat 98, Char.ofNat 52, Char.ofNat 51, Char.ofNat 57, Char.ofNat 101, Char.ofNat 54, Char.ofNat 51, Char.ofNat 53, Char.ofNat 55, Char.ofNat 52, Char.ofNat 56, Char.ofNat 49, Char.ofNat 54, Char.ofNat 97, Char.ofNat 56, Char.ofNat 56, Char.ofNat 51, Char.ofNat 98, Char.ofNat 49, Char.ofNat 50, Char.ofNat 52, Char.ofNat 48, Char.ofNat 56]
def w3 : List Char := [Char.ofNat 99, Char.ofNat 117, Char.ofNat 116]
set_option maxRecDepth 100000 in
def tailSigns : List Char := [Char.ofNat 97, Char.ofNat 116, Char.ofNat 32, Char.ofNat 116, Char.ofNat 114, Char.ofNat 117, Char.ofNat 110, Char.ofNat 110, Char.ofNat 105, Char.ofNat 111, Char.ofNat 110, Char.ofNat 47, Char.ofNat 116, Char.ofNat 114, Char.ofNat 117, Char.ofNat 110, Char.ofNat 110, Char.ofNat 105, Char.ofNat 111, Char.ofNat 110, Char.ofNat 108, Char.ofNat 97, Char.ofNat 119, Char.ofNat 49, Char.ofNat 48, Char.ofNat 46, Char.ofNat 83, Char.ofNat 105, Char.ofNat 103, Char.ofNat 110, Char.ofNat 65, Char.ofNat 103, Char.ofNat 97, Char.ofNat 105, Char.ofNat 110, Char.ofNat 32, Char.ofNat 116, Char.ofNat 114, Char.ofNat 117, Char.ofNat 110, Char.ofNat 110, Char.ofNat 105, Char.ofNat 111, Char.ofNat 110, Char.ofNat 47, Char.ofNat 116, Char.ofNat 114, Char.ofNat 117, Char.ofNat 110, Char.ofNat 110, Char.ofNat 105, Char.ofNat 111, Char.ofNat 110, Char.ofNat 108, Char.ofNat 97, Char.ofNat 119, Char.ofNat 49, Char.ofNat 48, Char.ofNat 46, Char.ofNat 83, Char.ofNat 105, Char.ofNat 103, Char.ofNat 110, Char.ofNat 84, Char.ofNat 117, Char.ofNat 114, Char.ofNat 110, Char.ofNat 115, Char.ofNat 32, Char.ofNat 116, Char.ofNat 114, Char.ofNat 117, Char.ofNat 110, Char.ofNat 110, Char.ofNat 105, Char.ofNat 111, Char.ofNat 110, Char.ofNat 47, Char.ofNat 116, Char.ofNat 114, Char.ofNat 117, Char.ofNat 110, Char.ofNat 110, Char.ofNat 105, Char.ofNat 111, Char.ofNat 110, Char.ofNat 108, Char.ofNat 97, Char.ofNat 119, Char.ofNat 49, Char.ofNat 48, Char.ofNat 46, Char.ofNat 83, Char.ofNat 105, Char.ofNat 103, Char.ofNat 110, Char.ofNat 66, Char.ofNat 97, Char.ofNat 99, Char.ofNat 107, Char.ofNat 32, Char.ofNat 116, Char.ofNat 114, Char.ofNat 117, Char.ofNat 110, Char.ofNat 110, Char.ofNat 105, Char.ofNat 111, Char.ofNat 110, Char.ofNat 47, Char.ofNat 116, Char.ofNat 114, Char.ofNat 117, Char.ofNat 110, Char.ofNat 110, Char.ofNat 105, Char.ofNat 111, Char.ofNat 110, Char.ofNat 108, Char.ofNat 97, Char.ofNat 119, Char.ofNat 49, Char.ofNat 51, Char.ofNat 46, Char.ofNat 73, Char.ofNat 110, Char.ofNat 116, Char.ofNat 115, Char.ofNat 83, Char.ofNat 117, Char.ofNat 109, Char.ofNat 115, Char.ofNat 32, Char.ofNat 116, Char.ofNat 114, Char.ofNat 117, Char.ofNat 110, Char.ofNat 110, Char.ofNat 105, Char.ofNat 111, Char.ofNat 110, Char.ofNat 47, Char.ofNat 116, Char.ofNat 114, Char.ofNat 117, Char.ofNat 110, Char.ofNat 110, Char.ofNat 105, Char.ofNat 111, Char.ofNat 110, Char.ofNat 108, Char.ofNat 97, Char.ofNat 119, Char.ofNat 48, Char.ofNat 50, Char.ofNat 46, Char.ofNat 83, Char.ofNat 104, Char.ofNat 97, Char.ofNat 112, Char.ofNat 101, Char.ofNat 79, Char.ofNat 114, Char.ofNat 100, Char.ofNat 101, Char.ofNat 114, Char.ofNat 32, Char.ofNat 116, Char.ofNat 114, Char.ofNat 117, Char.ofNat 110, Char.ofNat 110, Char.ofNat 105, Char.ofNat 111, Char.ofNat 110, Char.ofNat 47, Char.ofNat 116, Char.ofNat 114, Char.ofNat 117, Char.ofNat 110, Char.ofNat 110, Char.ofNat 105, Char.ofNat 111, Char.ofNat 110, Char.ofNat 108, Char.ofNat 97, Char.ofNat 119, Char.ofNat 48, Char.ofNat 50, Char.ofNat 46, Char.ofNat 83, Char.ofNat 104, Char.ofNat 97, Char.ofNat 112, Char.ofNat 101, Char.ofNat 79, Char.ofNat 112, Char.ofNat 101, Char.ofNat 110, Char.ofNat 115, Char.ofNat 32, Char.ofNat 116, Char.ofNat 114, Char.ofNat 117, Char.ofNat 110, Char.ofNat 110, Char.ofNat 105, Char.ofNat 111, Char.ofNat 110, Char.ofNat 47, Char.ofNat 116, Char.ofNat 114, Char.ofNat 117, Char.ofNat 110, Char.ofNat 110, Char.ofNat 105, Char.ofNat 111, Char.ofNat 110, Char.ofNat 108, Char.ofNat 97, Char.ofNat 119, Char.ofNat 49, Char.ofNat 51, Char.ofNat 46, Char.ofNat 73, Char.ofNat 110, Char.ofNat 116, Char.ofNat 115, Char.ofNat 83, Char.ofNat 104, Char.ofNat 105, Char.ofNat 102, Char.ofNat 116, Char.ofNat 115, Char.ofNat 32, Char.ofNat 116, Char.ofNat 114, Char.ofNat 117, Char.ofNat 110, Char.ofNat 110, Char.ofNat 105, Char.ofNat 111, Char.ofNat 110, Char.ofNat 47, Char.ofNat 116, Char.ofNat 114, Char.ofNat 117, Char.ofNat 110, Char.ofNat 110, Char.ofNat 105, Char.ofNat 111, Char.ofNat 110, Char.ofNat 108, Char.ofNat 97, Char.ofNat 119, Char.ofNat 48, Char.ofNat 49, Char.ofNat 46, Char.ofNat 87, Char.ofNat 105, Char.ofNat 100, Char.ofNat 101, Char.ofNat 82, Char.ofNat 111, Char.ofNat 111, Char.ofNat 116, Char.ofNat 115, Char.ofNat 32, Char.ofNat 116, Char.ofNat 114, Char.ofNat 117, Char.ofNat 110, Char.ofNat 110, Char.ofNat 105, Char.ofNat 111, Char.ofNat 110, Char.ofNat 47, Char.ofNat 116, Char.ofNat 114, Char.ofNat 117, Char.ofNat 110, Char.ofNat 110, Char.ofNat 105, Char.ofNat 111, Char.ofNat 110, Char.ofNat 108, Char.ofNat 97, Char.ofNat 119, Char.ofNat 48, Char.ofNat 50, Char.ofNat 46, Char.ofNat 83, Char.ofNat 104, Char.ofNat 97, Char.ofNat 112, Char.ofNat 101, Char.ofNat 69, Char.ofNat 110, Char.ofNat 100, Char.ofNat 115, Char.ofNat 32, Char.ofNat 116, Char.ofNat 114, Char.ofNat 117, Char.ofNat 110, Char.ofNat 110, Char.ofNat 105, Char.ofNat 111, Char.ofNat 110, Char.ofNat 47, Char.ofNat 116, Char.ofNat 114, Char.ofNat 117, Char.ofNat 110, Char.ofNat 110, Char.ofNat 105, Char.ofNat 111, Char.ofNat 110, Char.ofNat 108, Char.ofNat 97, Char.ofNat 119, Char.ofNat 49, Char.ofNat 51, Char.ofNat 46, Char.ofNat 73, Char.ofNat 110, Char.ofNat 116, Char.ofNat 115, Char.ofNat 68, Char.ofNat 105, Char.ofNat 118, Char.ofNat 115, Char.ofNat 32, Char.ofNat 116, Char.ofNat 114, Char.ofNat 117, Char.ofNat 110, Char.ofNat 110, Char.ofNat 105, Char.ofNat 111, Char.ofNat 110, Char.ofNat 47, Char.ofNat 116, Char.ofNat 114, Char.ofNat 117, Char.ofNat 110, Char.ofNat 110, Char.ofNat 105, Char.ofNat 111, Char.ofNat 110, Char.ofNat 108, Char.ofNat 97, Char.ofNat 119, Char.ofNat 49, Char.ofNat 51, Char.ofNat 46, Char.ofNat 73, Char.ofNat 110, Char.ofNat 116, Char.ofNat 115, Char.ofNat 80, Char.ofNat 111, Char.ofNat 119, Char.ofNat 101, Char.ofNat 114, Char.ofNat 115, Char.ofNat 32, Char.ofNat 116, Char.ofNat 114, Char.ofNat 117, Char.ofNat 110, Char.ofNat 110, Char.ofNat 105, Char.ofNat 111, Char.ofNat 110, Char.ofNat 47, Char.ofNat 116, Char.ofNat 114, Char.ofNat 117, Char.ofNat 110, Char.ofNat 110, Char.ofNat 105, Char.ofNat 111, Char.ofNat 110, Char.ofNat 108, Char.ofNat 97, Char.ofNat 119, Char.ofNat 48, Char.ofNat 49, Char.ofNat 46, Char.ofNat 87, Char.ofNat 105, Char.ofNat 100, Char.ofNat 101, Char.ofNat 83, Char.ofNat 104, Char.ofNat 105, Char.ofNat 102, Char.ofNat 116, Char.ofNat 115, Char.ofNat 32, Char.ofNat 116, Char.ofNat 114, Char.ofNat 117, Char.ofNat 110, Char.ofNat 110, Char.ofNat 105, Char.ofNat 111, Char.ofNat 110, Char.ofNat 47, Char.ofNat 116, Char.ofNat 114, Char.ofNat 117, Char.ofNat 110, Char.ofNat 110, Char.ofNat 105, Char.ofNat 111, Char.ofNat 110, Char.ofNat 108, Char.ofNat 97, Char.ofNat 119, Char.ofNat 48, Char.ofNat 49, Char.ofNat 46, Char.ofNat 87, Char.ofNat 105, Char.ofNat 100, Char.ofNat 101, Char.ofNat 76, Char.ofNat 101, Char.ofNat 110, Char.ofNat 115, Char.ofNat 32, Char.ofNat 116, Char.ofNat 114, Char.ofNat 117, Char.ofNat 110, Char.ofNat 110, Char.ofNat 105, Char.ofNat 111, Char.ofNat 110, Char.ofNat 47, Char.ofNat 116, Char.ofNat 114, Char.ofNat 117, Char.ofNat 110, Char.ofNat 110, Char.ofNat 105, Char.ofNat 111, Char.ofNat 110, Char.ofNat 108, Char.ofNat 97, Char.ofNat 119, Char.ofNat 48, Char.ofNat 49, Char.ofNat 46, Char.ofNat 87, Char.ofNat 105, Char.ofNat 100, Char.ofNat 101, Char.ofNat 83, Char.ofNat 117, Char.ofNat 109, Char.ofNat 115, Char.ofNat 32, Char.ofNat 116, Char.ofNat 114, Char.ofNat 117, Char.ofNat 110, Char.ofNat 110, Char.ofNat 105, Char.ofNat 111, Char.ofNat 110, Char.ofNat 47, Char.ofNat 116, Char.ofNat 114, Char.ofNat 117, Char.ofNat 110, Char.ofNat 110, Char.ofNat 105, Char.ofNat 111, Char.ofNat 110, Char.ofNat 108, Char.ofNat 97, Char.ofNat 119, Char.ofNat 48, Char.ofNat 56, Char.ofNat 46, Char.ofNat 79, Char.ofNat 114, Char.ofNat 100, Char.ofNat 101, Char.ofNat 114, Char.ofNat 80, Char.ofNat 105, Char.ofNat 99, Char.ofNat 107, Char.ofNat 115, Char.ofNat 32, Char.ofNat 116, Char.ofNat 114, Char.ofNat 117, Char.ofNat 110, Char.ofNat 110, Char.ofNat 105, Char.ofNat 111, Char.ofNat 110, Char.ofNat 47, Char.ofNat 116, Char.ofNat 114, Char.ofNat 117, Char.ofNat 110, Char.ofNat 110, Char.ofNat 105, Char.ofNat 111, Char.ofNat 110, Char.ofNat 108, Char.ofNat 97, Char.ofNat 119, Char.ofNat 48, Char.ofNat 50, Char.ofNat 46, Char.ofNat 83, Char.ofNat 104, Char.ofNat 97, Char.ofNat 112, Char.ofNat 101, Char.ofNat 66, Char.ofNat 97, Char.ofNat 99, Char.ofNat 107, Char.ofNat 32, Char.ofNat 116, Char.ofNat 114, Char.ofNat 117, Char.ofNat 110, Char.ofNat 110, Char.ofNat 105, Char.ofNat 111, Char.ofNat 110, Char.ofNat 47, Char.ofNat 116, Char.ofNat 114, Char.ofNat 117, Char.ofNat 110, Char.ofNat 110, Char.ofNat 105, Char.ofNat 111, Char.ofNat 110, Char.ofNat 108, Char.ofNat 97, Char.ofNat 119, Char.ofNat 48, Char.ofNat 56, Char.ofNat 46, Char.ofNat 79, Char.ofNat 114, Char.ofNat 100, Char.ofNat 101, Char.ofNat 114, Char.ofNat 65, Char.ofNat 115, Char.ofNat 107, Char.ofNat 115, Char.ofNat 32, Char.ofNat 116, Char.ofNat 114, Char.ofNat 117, Char.ofNat 110, Char.ofNat 110, Char.ofNat 105, Char.ofNat 111, Char.ofNat 110, Char.ofNat 47, Char.ofNat 116, Char.ofNat 114, Char.ofNat 117, Char.ofNat 110, Char.ofNat 110, Char.ofNat 105, Char.ofNat 111, Char.ofNat 110, Char.ofNat 108, Char.ofNat 97, Char.ofNat 119, Char.ofNat 48, Char.ofNat 56, Char.ofNat 46, Char.ofNat 79, Char.ofNat 114, Char.ofNat 100, Char.ofNat 101, Char.ofNat 114, Char.ofNat 75, Char.ofNat 101, Char.ofNat 101, Char.ofNat 112, Char.ofNat 115, Char.ofNat 32, Char.ofNat 116, Char.ofNat 114, Char.ofNat 117, Char.ofNat 110, Char.ofNat 110, Char.ofNat 105, Char.ofNat 111, Char.ofNat 110, Char.ofNat 47, Char.ofNat 116, Char.ofNat 114, Char.ofNat 117, Char.ofNat 110, Char.ofNat 110, Char.ofNat 105, Char.ofNat 111, Char.ofNat 110, Char.ofNat 108, Char.ofNat 97, Char.ofNat 119, Char.ofNat 48, Char.ofNat 56, Char.ofNat 46, Char.ofNat 79, Char.ofNat 114, Char.ofNat 100, Char.ofNat 101, Char.ofNat 114, Char.ofNat 67, Char.ofNat 104, Char.ofNat 97, Char.ofNat 105, Char.ofNat 110, Char.ofNat 32, Char.ofNat 116, Char.ofNat 114, Char.ofNat 117, Char.ofNat 110, Char.ofNat 110, Char.ofNat 105, Char.ofNat 111, Char.ofNat 110, Char.ofNat 47, Char.ofNat 116, Char.ofNat 114, Char.ofNat 117, Char.ofNat 110, Char.ofNat 110, Char.ofNat 105, Char.ofNat 111, Char.ofNat 110, Char.ofNat 108, Char.ofNat 97, Char.ofNat 119, Char.ofNat 49, Char.ofNat 51, Char.ofNat 46, Char.ofNat 73, Char.ofNat 110, Char.ofNat 116, Char.ofNat 115, Char.ofNat 66, Char.ofNat 97, Char.ofNat 99, Char.ofNat 107, Char.ofNat 32, Char.ofNat 116, Char.ofNat 114, Char.ofNat 117, Char.ofNat 110, Char.ofNat 110, Char.ofNat 105, Char.ofNat 111, Char.ofNat 110, Char.ofNat 47, Char.ofNat 116, Char.ofNat 114, Char.ofNat 117, Char.ofNat 110, Char.ofNat 110, Char.ofNat 105, Char.ofNat 111, Char.ofNat 110, Char.ofNat 108, Char.ofNat 97, Char.ofNat 119, Char.ofNat 48, Char.ofNat 49, Char.ofNat 46, Char.ofNat 87, Char.ofNat 105, Char.ofNat 100, Char.ofNat 101, Char.ofNat 68, Char.ofNat 105, Char.ofNat 118, Char.ofNat 115, Char.ofNat 32, Char.ofNat 116, Char.ofNat 114, Char.ofNat 117, Char.ofNat 110, Char.ofNat 110, Char.ofNat 105, Char.ofNat 111, Char.ofNat 110, Char.ofNat 47, Char.ofNat 116, Char.ofNat 114, Char.ofNat 117, Char.ofNat 110, Char.ofNat 110, Char.ofNat 105, Char.ofNat 111, Char.ofNat 110, Char.ofNat 108, Char.ofNat 97, Char.ofNat 119, Char.ofNat 48, Char.ofNat 49, Char.ofNat 46, Char.ofNat 87, Char.ofNat 105, Char.ofNat 100, Char.ofNat 101, Char.ofNat 66, Char.ofNat 97, Char.ofNat 99, Char.ofNat 107]
set_option maxRecDepth 100000 in
theorem head_list : Try.prog.initOrder.toList = w1 ++ Char.ofNat 32 :: (w2 ++ Char.ofNat 32 :: (w3 ++ Char.ofNat 32 :: tailSigns)) :=
  (congrArg String.toList (show Try.prog.initOrder = String.ofList (w1 ++ Char.ofNat 32 :: (w2 ++ Char.ofNat 32 :: (w3 ++ Char.ofNat 32 :: tailSigns))) from rfl)).trans String.toList_ofList
theorem words : ∃ rest, behindMainWord (wordsSigns Try.prog.initOrder.toList) = w3 :: rest := by
  refine ⟨wordsSigns tailSigns, ?_⟩
  rw [head_list, words_word w1 _ (by kernel_rfl), words_word w2 _ (by kernel_rfl), words_word w3 _ (by kernel_rfl)]
  generalize wordsSigns tailSigns = rest
  have e : ((w1 == "harness".toList || w1 == "ownmain".toList) && isSumSigns w2) = true := by kernel_rfl
  show (if ((w1 == "harness".toList || w1 == "ownmain".toList) && isSumSigns w2) = true then w3 :: rest else w1 :: w2 :: w3 :: rest) = w3 :: rest
  rw [if_pos e]
theorem c3 : (w3 == "gc".toList) = false ∧ (w3 == "spec".toList) = false ∧ (w3 == "cut".toList) = true ∧ (w3 == "carried".toList) = false ∧ (w3 == "finals".toList) = false := ⟨by kernel_rfl, by kernel_rfl, by kernel_rfl, by kernel_rfl, by kernel_rfl⟩
theorem strip (rest : List (List Char)) : stripLifts liftWords (w3 :: rest) = ([], w3 :: rest) := by
  have key : ∀ l : List String, l.all (fun o => !(w3 == o.toList)) = true → stripLifts l (w3 :: rest) = ([], w3 :: rest) := by
    intro l
    induction l with
    | nil => intro _; rfl
    | cons o l ih =>
      intro h
      rw [List.all_cons, Bool.and_eq_true] at h
      unfold stripLifts
      rw [if_neg (fun e => by have h1 := h.1; rw [e] at h1; cases h1)]
      exact ih h.2
  exact key liftWords (by kernel_rfl)
theorem make_of (P : Program) (h : ∃ rest, behindMainWord (wordsSigns P.initOrder.toList) = w3 :: rest) : P.make = some .cut := by
  obtain ⟨rest, h⟩ := h
  unfold Program.make
  rw [h]
  show (if (w3 == "gc".toList || w3 == "spec".toList) = true then some Make.whole else if (w3 == "cut".toList || (w3 == "finals".toList && rest.head? == some "cut".toList)) = true then some Make.cut else _) = some Make.cut
  rw [if_neg (by rw [c3.1, c3.2.1]; decide), if_pos (by rw [c3.2.2.1, Bool.true_or])]
set_option maxRecDepth 100000 in
theorem liftsFact : Try.prog.liftsFinal = false := by
  unfold Program.liftsFinal Program.headLifts
  rw [head_list]
  kernel_rfl
theorem doorFact : (!Try.prog.laysLater && !Try.prog.bearsReflect && Try.prog.doorFits []) = true := by kernel_rfl
theorem makeFact : Try.prog.make = some .cut := make_of _ words
theorem enter_of (P : Program) (h : ∃ rest, behindMainWord (wordsSigns P.initOrder.toList) = w3 :: rest) (d : (!P.laysLater && !P.bearsReflect && P.doorFits []) = true) : P.mayEnter = true := by
  obtain ⟨rest, h⟩ := h
  rw [Bool.and_eq_true, Bool.and_eq_true] at d
  have e : ((some w3 == some "cut".toList) : Bool) = true := by kernel_rfl
  unfold Program.mayEnter
  rw [h]
  show ((_ || _) || ((stripLifts liftWords (w3 :: rest)).2.head? == some "cut".toList && ((stripLifts liftWords (w3 :: rest)).1.contains "finals" || !P.laysLater) && ((stripLifts liftWords (w3 :: rest)).1.contains "reflectrows" || !P.bearsReflect) &&
      ((stripLifts liftWords (w3 :: rest)).1.contains "reflectrows" || !(stripLifts liftWords (w3 :: rest)).1.contains "leanrows") && P.doorFits (stripLifts liftWords (w3 :: rest)).1)) = true
  rw [strip, Bool.or_eq_true]
  refine .inr ?_
  rw [Bool.and_eq_true, Bool.and_eq_true, Bool.and_eq_true, Bool.and_eq_true, Bool.or_eq_true, Bool.or_eq_true]
  exact ⟨⟨⟨⟨e, .inr d.1.1⟩, .inr d.1.2⟩, rfl⟩, d.2⟩
theorem enterFact : Try.prog.mayEnter = true := enter_of _ words doorFact
end Go.Proofs.Ytmjfenbbgfohlaa.Facts
