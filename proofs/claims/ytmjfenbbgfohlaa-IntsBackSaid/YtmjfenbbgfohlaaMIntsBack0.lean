/- What the Go functions that the statement IntsBack reaches compute, and the mathematics on it, in the order in which one leans on the other; for every input. -/
import Derived.Test.YtmjfenbbgfohlaaProg
import Derived.Below
import Derived.Deep.Draws
import Derived.Deep.AppendLies
import Derived.Maps.AppendAt
import Derived.OwnWalk
import Derived.Laws.BytesArg
import Derived.Laws.MakeOwn
import Derived.Laws.OwnMore
import Derived.Deep.OwnRows
import Derived.Tactics
import Derived.Lib.ConvBytes
import Derived.Laws.Slices
import Derived.WalkKit
import Derived.KernelRfl
import Derived.RowKit3
import Derived.Deep.LoopGhost
import Derived.Deep.QuietTactic
import Derived.BigQuiet
import Derived.WideLaws
import Derived.Deep.DeepCutAuto
import Derived.Deep.CutBlock
import Derived.Deep.RegionHeld3
import Derived.Laws.Rows
import Derived.Lib.AppendStr
import Derived.ArgAppend
import Derived.Laws.IdiomCopy
import Derived.OrdersHeld
import Derived.Laws.BitsLemmas
import Derived.RowKit
import Derived.Test.YtmjfenbbgfohlaaWWords
import Derived.Test.YtmjfenbbgfohlaaWLast
import Derived.Test.YtmjfenbbgfohlaaWTab
import Derived.Test.YtmjfenbbgfohlaaWFour
import Derived.Test.YtmjfenbbgfohlaaWQPut
import Derived.Test.YtmjfenbbgfohlaaWApart
import Derived.Test.YtmjfenbbgfohlaaWArr
import Derived.Test.YtmjfenbbgfohlaaWZeros
import Derived.Test.YtmjfenbbgfohlaaWFoot
import Derived.Test.YtmjfenbbgfohlaaWKept
import Derived.Test.YtmjfenbbgfohlaaWShare
import Derived.Test.YtmjfenbbgfohlaaWN
import Derived.Test.YtmjfenbbgfohlaaWFootNe
import Derived.Test.YtmjfenbbgfohlaaWAt
import Derived.Test.YtmjfenbbgfohlaaWEqStruct
import Derived.Test.YtmjfenbbgfohlaaWRepsOne
import Derived.Test.YtmjfenbbgfohlaaWInv
import Derived.Test.YtmjfenbbgfohlaaWInvWords
import Derived.Test.YtmjfenbbgfohlaaWGuard
import Derived.Test.YtmjfenbbgfohlaaWNEv
import Derived.Test.YtmjfenbbgfohlaaWMore
import Derived.Laws.BitsAllLaws
import Derived.Test.YtmjfenbbgfohlaaRows
import Derived.ProofKit
import Derived.JoinedOf
namespace Go.Proofs.Ytmjfenbbgfohlaa.PA
open Go.RowKit Go.Proofs.YtmjfenbbgfohlaaW.PrintWords Go.Proofs.YtmjfenbbgfohlaaW.PrintLast Go.Proofs.YtmjfenbbgfohlaaW.PrintMore
attribute [local go_sem] max2_int min2_int max_two min_two max_three min_three max_four min_four   -- for this text's walks alone
set_option linter.unusedVariables false
set_option linter.unusedSimpArgs false



def errW : Option Int → Value
  | none => .nilIface
  | some c => .iface 0 (.int .i64 c)
theorem errW_none : errW none = .nilIface := rfl
theorem errW_some (c : Int) : errW (some c) = .iface 0 (.int .i64 c) := rfl

theorem info4 : (Try.prog.info? 4).map (fun i => (i.zero, i.size, i.bytes)) = some (some (.bool false), 1, 1) := by kernel_rfl
theorem info22 : (Try.prog.info? 22).map (fun i => (i.zero, i.size, i.bytes)) = some (some (.int .u64 0), 1, 8) := by kernel_rfl
-- the values' own types
/-! #### struct type 40 -/
structure S40 where
  f0 : Int
  f1 : Int
def z40 : S40 := ⟨(0 : Int), (0 : Int)⟩
def k40 : Kd S40 := Kd.iso (Kd.pair (Kd.int .u64) (Kd.int .u64)) (fun x : S40 => (x.f0, x.f1))
theorem k40_heap : Kd.Heap k40 := Kd.heap_iso _ (Kd.heap_pair (Kd.heap_int .u64) (Kd.heap_int .u64))
theorem k40_open {w : World} {x : S40} {cs : List Value} (h : k40.K w x cs) : cs = [.int .u64 x.f0, .int .u64 x.f1] := by
  obtain ⟨_, _, rfl, rfl, rfl⟩ := h
  exact rfl
theorem k40_openM {w : World} {base : Nat} {ok : Nat → Prop} {x : S40} {cs : List Value} (h : k40.M w base ok x cs) : cs = [.int .u64 x.f0, .int .u64 x.f1] := by
  obtain ⟨_, _, rfl, rfl, rfl⟩ := h
  exact rfl
theorem k40_mk (w : World) (x : S40)  : k40.K w x [.int .u64 x.f0, .int .u64 x.f1] := ⟨[.int .u64 x.f0], [.int .u64 x.f1], rfl, rfl, rfl⟩
theorem k40_mkM (w : World) (base : Nat) (ok : Nat → Prop) (x : S40)  : k40.M w base ok x [.int .u64 x.f0, .int .u64 x.f1] := ⟨[.int .u64 x.f0], [.int .u64 x.f1], rfl, rfl, rfl⟩
theorem k40_mkF (W : World) (ok : Nat → Prop) (x : S40) : Kd.FK k40 W ok x [.int .u64 x.f0, .int .u64 x.f1] := fun W2 _ => k40_mk W2 x
def rd_T40 (xs : List S40) (i : Int) : S40 := xs.getD i.toNat z40
theorem at_T40 {w : World} {A : Option Addr} {n : Nat} {xs : List S40} (h : Kd.C k40 w A n xs) (i : Int) (h0 : 0 ≤ i) (h1 : i < n) : ∃ ad , A = some ad ∧ w.cell? (ad.add (i.toNat * 2)) = some (.int .u64 (rd_T40 xs i).f0) ∧ w.cell? ⟨(ad.add (i.toNat * 2)).block, (ad.add (i.toNat * 2)).off + 1, none⟩ = some (.int .u64 (rd_T40 xs i).f1) := by
  obtain ⟨ad, c, e, _, hK, hc0⟩ := Kd.C_get h z40 i h0 h1
  have hc : ∀ j u, c[j]? = some u → w.cell? (ad.add (i.toNat * 2 + j)) = some u := hc0
  obtain rfl := k40_open hK
  exact ⟨ad, e, hc 0 _ rfl, by rw [← add_field _ _ 1 (by omega)]; exact hc 1 _ rfl⟩

end Go.Proofs.Ytmjfenbbgfohlaa.PA

namespace Go.Proofs.Ytmjfenbbgfohlaa.PA
open Go.RowKit Go.Proofs.YtmjfenbbgfohlaaW.PrintWords Go.Proofs.YtmjfenbbgfohlaaW.PrintLast Go.Proofs.YtmjfenbbgfohlaaW.PrintMore
attribute [local go_sem] max2_int min2_int max_two min_two max_three min_three max_four min_four   -- for this text's walks alone
set_option linter.unusedVariables false
set_option linter.unusedSimpArgs false

/-! ### ints_Add: function 34 -/
def ints_Add.f (a0 : Int) (a1 : Int) (a2 : Int) : Option (Int) := if a0 = 32 then some (((a1 % 4294967296) + (a2 % 4294967296)) % 4294967296) else if a0 = 64 then some (IntKind.u64.wrap (a1 + a2)) else some 0
set_option maxHeartbeats 8000000 in
set_option maxRecDepth 100000 in
theorem ints_Add.calls (a0 : Int) (a1 : Int) (a2 : Int) (r : Int) (w : World) (h : ints_Add.f a0 a1 a2 = some r) :
  Calls Try.prog 34 #[.int .i64 a0, .int .u64 a1, .int .u64 a2] w fun e w' => e = .returned (.int .u64 r) ∧ Drawn0 w w' := by
 unfold ints_Add.f at h
 by_cases c3 : a0 = 32
 ·rw [if_pos c3] at h
  subst c3
  obtain rfl := Option.some.inj h
  go_enter Try.func34, Try.ntmps34
  go_wp2_with go_in
  go_ret
  exact ⟨by first | rfl | (simp; done), by repeat (first | exact Drawn0.refl _ | apply Drawn0.step)⟩
 ·rw [if_neg c3] at h
  have c3b0 : (a0 == 32) = false := beq_eq_false_iff_ne.mpr c3
  by_cases c4 : a0 = 64
  ·rw [if_pos c4] at h
   have c4b0 : (a0 == 64) = true := beq_iff_eq.mpr c4
   clear c4
   obtain rfl := Option.some.inj h
   go_enter Try.func34, Try.ntmps34
   go_wp2_with go_in
   go_ret
   exact ⟨by first | rfl | (simp; done), by repeat (first | exact Drawn0.refl _ | apply Drawn0.step)⟩
  ·rw [if_neg c4] at h
   have c4b0 : (a0 == 64) = false := beq_eq_false_iff_ne.mpr c4
   obtain rfl := Option.some.inj h
   go_enter Try.func34, Try.ntmps34
   go_wp2_with go_in
   go_ret
   exact ⟨by first | rfl | (simp; done), by repeat (first | exact Drawn0.refl _ | apply Drawn0.step)⟩

end Go.Proofs.Ytmjfenbbgfohlaa.PA

namespace Go.Proofs.Ytmjfenbbgfohlaa.PA
open Go.RowKit Go.Proofs.YtmjfenbbgfohlaaW.PrintWords Go.Proofs.YtmjfenbbgfohlaaW.PrintLast Go.Proofs.YtmjfenbbgfohlaaW.PrintMore
attribute [local go_sem] max2_int min2_int max_two min_two max_three min_three max_four min_four   -- for this text's walks alone
set_option linter.unusedVariables false
set_option linter.unusedSimpArgs false

/-! ### ints_known: function 142 -/
def ints_known.f (a0 : Int) : Option (Bool) := if a0 = 32 then (some true) else (some (a0 == 64))
set_option maxHeartbeats 8000000 in
set_option maxRecDepth 100000 in
theorem ints_known.calls (a0 : Int) (r : Bool) (w : World) (h : ints_known.f a0 = some r) :
  Calls Try.prog 142 #[.int .i64 a0] w fun e w' => e = .returned (.bool r) ∧ Drawn0 w w' := by
 have H : (if a0 = 32 then (some true) else (some (a0 == 64))) = some r := h
 clear h
 by_cases c2 : a0 = 32
 ·rw [if_pos c2] at H
  have c2b0 : (a0 == 32) = true := beq_iff_eq.mpr c2
  have c2b1 : (a0 != 32) = false := bne_eq_false_iff_eq.mpr c2
  clear c2
  obtain rfl := Option.some.inj H
  go_enter Try.func142, Try.ntmps142
  go_wp2
  go_ret
  exact ⟨by first | rfl | (simp; done) | (simp [*]; done), by repeat (first | exact Drawn0.refl _ | apply Drawn0.step)⟩
 ·rw [if_neg c2] at H
  have c2b0 : (a0 == 32) = false := beq_eq_false_iff_ne.mpr c2
  have c2b1 : (a0 != 32) = true := bne_iff_ne.mpr c2
  obtain rfl := Option.some.inj H
  go_enter Try.func142, Try.ntmps142
  go_wp2
  go_ret
  exact ⟨by first | rfl | (simp; done) | (simp [*]; done), by repeat (first | exact Drawn0.refl _ | apply Drawn0.step)⟩

end Go.Proofs.Ytmjfenbbgfohlaa.PA

namespace Go.Proofs.Ytmjfenbbgfohlaa.PA
open Go.RowKit Go.Proofs.YtmjfenbbgfohlaaW.PrintWords Go.Proofs.YtmjfenbbgfohlaaW.PrintLast Go.Proofs.YtmjfenbbgfohlaaW.PrintMore
attribute [local go_sem] max2_int min2_int max_two min_two max_three min_three max_four min_four   -- for this text's walks alone
set_option linter.unusedVariables false
set_option linter.unusedSimpArgs false

/-! ### ints_signed: function 128 -/
def ints_signed.f (a0 : Int) (a1 : Int) : Option (Int) := if a0 = 32 then (some (wrap64 (wrap32 ((a1) % 4294967296)))) else (some (wrap64 (a1)))
set_option maxHeartbeats 8000000 in
set_option maxRecDepth 100000 in
theorem ints_signed.calls (a0 : Int) (a1 : Int) (r : Int) (w : World) (h : ints_signed.f a0 a1 = some r) :
  Calls Try.prog 128 #[.int .i64 a0, .int .u64 a1] w fun e w' => e = .returned (.int .i64 r) ∧ Drawn0 w w' := by
 have H : (if a0 = 32 then (some (wrap64 (wrap32 ((a1) % 4294967296)))) else (some (wrap64 (a1)))) = some r := h
 clear h
 by_cases c3 : a0 = 32
 ·rw [if_pos c3] at H
  have c3b0 : (a0 == 32) = true := beq_iff_eq.mpr c3
  have c3b1 : (a0 != 32) = false := bne_eq_false_iff_eq.mpr c3
  clear c3
  obtain rfl := Option.some.inj H
  go_enter Try.func128, Try.ntmps128
  go_wp2
  go_ret
  exact ⟨by first | rfl | (simp; done) | (simp [*]; done), by repeat (first | exact Drawn0.refl _ | apply Drawn0.step)⟩
 ·rw [if_neg c3] at H
  have c3b0 : (a0 == 32) = false := beq_eq_false_iff_ne.mpr c3
  have c3b1 : (a0 != 32) = true := bne_iff_ne.mpr c3
  obtain rfl := Option.some.inj H
  go_enter Try.func128, Try.ntmps128
  go_wp2
  go_ret
  exact ⟨by first | rfl | (simp; done) | (simp [*]; done), by repeat (first | exact Drawn0.refl _ | apply Drawn0.step)⟩

end Go.Proofs.Ytmjfenbbgfohlaa.PA

namespace Go.Proofs.Ytmjfenbbgfohlaa.PA
open Go.RowKit Go.Proofs.YtmjfenbbgfohlaaW.PrintWords Go.Proofs.YtmjfenbbgfohlaaW.PrintLast Go.Proofs.YtmjfenbbgfohlaaW.PrintMore
attribute [local go_sem] max2_int min2_int max_two min_two max_three min_three max_four min_four   -- for this text's walks alone
set_option linter.unusedVariables false
set_option linter.unusedSimpArgs false

/-! ### shape_Cut: function 42 -/
def shape_Cut.f (a0 : Int) (a1 : Int) : Option (Int) := if a0 = 32 then (some (Go.bits .and .u64 a1 4294967295)) else (if a0 = 64 then (some a1) else (some 0))
set_option maxHeartbeats 8000000 in
set_option maxRecDepth 100000 in
theorem shape_Cut.calls (a0 : Int) (a1 : Int) (r : Int) (w : World) (h : shape_Cut.f a0 a1 = some r) :
  Calls Try.prog 42 #[.int .i64 a0, .int .u64 a1] w fun e w' => e = .returned (.int .u64 r) ∧ Drawn0 w w' := by
 have H : (if a0 = 32 then (some (Go.bits .and .u64 a1 4294967295)) else (if a0 = 64 then (some a1) else (some 0))) = some r := h
 clear h
 by_cases c3 : a0 = 32
 ·rw [if_pos c3] at H
  have c3b0 : (a0 == 32) = true := beq_iff_eq.mpr c3
  have c3b1 : (a0 != 32) = false := bne_eq_false_iff_eq.mpr c3
  clear c3
  obtain rfl := Option.some.inj H
  go_enter Try.func42, Try.ntmps42
  go_wp2
  go_ret
  exact ⟨by first | rfl | (simp; done) | (simp [*]; done), by repeat (first | exact Drawn0.refl _ | apply Drawn0.step)⟩
 ·rw [if_neg c3] at H
  have c3b0 : (a0 == 32) = false := beq_eq_false_iff_ne.mpr c3
  have c3b1 : (a0 != 32) = true := bne_iff_ne.mpr c3
  by_cases c4 : a0 = 64
  ·rw [if_pos c4] at H
   have c4b0 : (a0 == 64) = true := beq_iff_eq.mpr c4
   have c4b1 : (a0 != 64) = false := bne_eq_false_iff_eq.mpr c4
   clear c4
   obtain rfl := Option.some.inj H
   go_enter Try.func42, Try.ntmps42
   go_wp2
   go_ret
   exact ⟨by first | rfl | (simp; done) | (simp [*]; done), by repeat (first | exact Drawn0.refl _ | apply Drawn0.step)⟩
  ·rw [if_neg c4] at H
   have c4b0 : (a0 == 64) = false := beq_eq_false_iff_ne.mpr c4
   have c4b1 : (a0 != 64) = true := bne_iff_ne.mpr c4
   obtain rfl := Option.some.inj H
   go_enter Try.func42, Try.ntmps42
   go_wp2
   go_ret
   exact ⟨by first | rfl | (simp; done) | (simp [*]; done), by repeat (first | exact Drawn0.refl _ | apply Drawn0.step)⟩

end Go.Proofs.Ytmjfenbbgfohlaa.PA

namespace Go.Proofs.Ytmjfenbbgfohlaa.PA
open Go.RowKit Go.Proofs.YtmjfenbbgfohlaaW.PrintWords Go.Proofs.YtmjfenbbgfohlaaW.PrintLast Go.Proofs.YtmjfenbbgfohlaaW.PrintMore
attribute [local go_sem] max2_int min2_int max_two min_two max_three min_three max_four min_four   -- for this text's walks alone
set_option linter.unusedVariables false
set_option linter.unusedSimpArgs false

/-! ### ints_DivS: function 73 -/
def ints_DivS.f (a0 : Int) (a1 : Int) (a2 : Int) : Option (Int × Int) := (ints_signed.f a0 a1).bind fun t158 => ((ints_signed.f a0 a2).bind fun t159 => ((ints_known.f a0).bind fun t160 => (if t160 = true then (if t159 = 0 then (some (0, 2)) else (if t159 = (-1) then (if 0 ≤ (wrap64 (a0 - 1)) then (if t158 = (shl .i64 (-1) (wrap64 (a0 - 1))) then (some (0, 3)) else ((shape_Cut.f a0 (IntKind.u64.wrap (wrap64 (Int.tdiv t158 t159)))).bind fun t161 => (some (t161, 0)))) else (none)) else ((shape_Cut.f a0 (IntKind.u64.wrap (wrap64 (Int.tdiv t158 t159)))).bind fun t162 => (some (t162, 0))))) else (some (0, 0)))))
set_option maxHeartbeats 8000000 in
set_option maxRecDepth 100000 in
theorem ints_DivS.calls (a0 : Int) (a1 : Int) (a2 : Int) (r1 : Int) (r2 : Int) (w : World) (h : ints_DivS.f a0 a1 a2 = some (r1, r2)) :
  Calls Try.prog 73 #[.int .i64 a0, .int .u64 a1, .int .u64 a2] w fun e w' => e = .returned (.tuple #[.int .u64 r1, .int .i64 r2]) ∧ Drawn0 w w' := by
 have H : ((ints_signed.f a0 a1).bind fun t158 => ((ints_signed.f a0 a2).bind fun t159 => ((ints_known.f a0).bind fun t160 => (if t160 = true then (if t159 = 0 then (some (0, 2)) else (if t159 = (-1) then (if 0 ≤ (wrap64 (a0 - 1)) then (if t158 = (shl .i64 (-1) (wrap64 (a0 - 1))) then (some (0, 3)) else ((shape_Cut.f a0 (IntKind.u64.wrap (wrap64 (Int.tdiv t158 t159)))).bind fun t161 => (some (t161, 0)))) else (none)) else ((shape_Cut.f a0 (IntKind.u64.wrap (wrap64 (Int.tdiv t158 t159)))).bind fun t162 => (some (t162, 0))))) else (some (0, 0)))))) = some (r1, r2) := h
 clear h
 replace H := Option.bind_eq_some_iff.mp H
 obtain ⟨t158, A40, H⟩ := H
 replace H : ((ints_signed.f a0 a2).bind fun t159 => ((ints_known.f a0).bind fun t160 => (if t160 = true then (if t159 = 0 then (some (0, 2)) else (if t159 = (-1) then (if 0 ≤ (wrap64 (a0 - 1)) then (if t158 = (shl .i64 (-1) (wrap64 (a0 - 1))) then (some (0, 3)) else ((shape_Cut.f a0 (IntKind.u64.wrap (wrap64 (Int.tdiv t158 t159)))).bind fun t161 => (some (t161, 0)))) else (none)) else ((shape_Cut.f a0 (IntKind.u64.wrap (wrap64 (Int.tdiv t158 t159)))).bind fun t162 => (some (t162, 0))))) else (some (0, 0))))) = some (r1, r2) := H
 have A4 := Aside0.mk A40
 clear A40
 replace H := Option.bind_eq_some_iff.mp H
 obtain ⟨t159, A50, H⟩ := H
 replace H : ((ints_known.f a0).bind fun t160 => (if t160 = true then (if t159 = 0 then (some (0, 2)) else (if t159 = (-1) then (if 0 ≤ (wrap64 (a0 - 1)) then (if t158 = (shl .i64 (-1) (wrap64 (a0 - 1))) then (some (0, 3)) else ((shape_Cut.f a0 (IntKind.u64.wrap (wrap64 (Int.tdiv t158 t159)))).bind fun t161 => (some (t161, 0)))) else (none)) else ((shape_Cut.f a0 (IntKind.u64.wrap (wrap64 (Int.tdiv t158 t159)))).bind fun t162 => (some (t162, 0))))) else (some (0, 0)))) = some (r1, r2) := H
 have A5 := Aside0.mk A50
 clear A50
 replace H := Option.bind_eq_some_iff.mp H
 obtain ⟨t160, A60, H⟩ := H
 replace H : (if t160 = true then (if t159 = 0 then (some (0, 2)) else (if t159 = (-1) then (if 0 ≤ (wrap64 (a0 - 1)) then (if t158 = (shl .i64 (-1) (wrap64 (a0 - 1))) then (some (0, 3)) else ((shape_Cut.f a0 (IntKind.u64.wrap (wrap64 (Int.tdiv t158 t159)))).bind fun t161 => (some (t161, 0)))) else (none)) else ((shape_Cut.f a0 (IntKind.u64.wrap (wrap64 (Int.tdiv t158 t159)))).bind fun t162 => (some (t162, 0))))) else (some (0, 0))) = some (r1, r2) := H
 have A6 := Aside0.mk A60
 clear A60
 by_cases c7 : t160 = true
 ·subst c7
  have H1 : (if t159 = 0 then (some (0, 2)) else (if t159 = (-1) then (if 0 ≤ (wrap64 (a0 - 1)) then (if t158 = (shl .i64 (-1) (wrap64 (a0 - 1))) then (some (0, 3)) else ((shape_Cut.f a0 (IntKind.u64.wrap (wrap64 (Int.tdiv t158 t159)))).bind fun t161 => (some (t161, 0)))) else (none)) else ((shape_Cut.f a0 (IntKind.u64.wrap (wrap64 (Int.tdiv t158 t159)))).bind fun t162 => (some (t162, 0))))) = some (r1, r2) := by rw [if_pos rfl] at H; exact H
  clear H
  have H := H1
  clear H1
  by_cases c8 : t159 = 0
  ·rw [if_pos c8] at H
   have c8b0 : (t159 == 0) = true := beq_iff_eq.mpr c8
   have c8b1 : (t159 != 0) = false := bne_eq_false_iff_eq.mpr c8
   clear c8
   simp only [Option.some.injEq, Prod.mk.injEq] at H
   obtain ⟨rfl, rfl⟩ := H
   go_enter Try.func73, Try.ntmps73
   go_wp2_with (first | ((with_reducible refine gate_callee (f := 128) rfl ?_); refine goesL_ (some 12) rfl rfl Try.func128 (by kernel_rfl) rfl #[.int .i64 a0, .int .u64 a1] rfl (by (try simp only [List.map_toArray, List.map_cons, List.map_nil]); first | done | rfl | (simp only [List.length_drop, List.length_take]; rfl)) ?_; (with_reducible refine (ints_signed.calls a0 a1 t158 _ A4.out).mono ?_); rintro e w' ⟨rfl, ⟨nd, rfl⟩⟩; refine ⟨_, rfl, ?_⟩) | ((with_reducible refine gate_callee (f := 128) rfl ?_); refine goesL_ (some 15) rfl rfl Try.func128 (by kernel_rfl) rfl #[.int .i64 a0, .int .u64 a2] rfl (by (try simp only [List.map_toArray, List.map_cons, List.map_nil]); first | done | rfl | (simp only [List.length_drop, List.length_take]; rfl)) ?_; (with_reducible refine (ints_signed.calls a0 a2 t159 _ A5.out).mono ?_); rintro e w' ⟨rfl, ⟨nd, rfl⟩⟩; refine ⟨_, rfl, ?_⟩) | ((with_reducible refine gate_callee (f := 142) rfl ?_); refine goesL_ (some 18) rfl rfl Try.func142 (by kernel_rfl) rfl #[.int .i64 a0] rfl (by (try simp only [List.map_toArray, List.map_cons, List.map_nil]); first | done | rfl | (simp only [List.length_drop, List.length_take]; rfl)) ?_; (with_reducible refine (ints_known.calls a0 true _ A6.out).mono ?_); rintro e w' ⟨rfl, ⟨nd, rfl⟩⟩; refine ⟨_, rfl, ?_⟩))
   go_ret2
   exact ⟨by first | rfl | (simp; done) | (simp [*]; done), by repeat (first | exact Drawn0.refl _ | apply Drawn0.step)⟩
  ·rw [if_neg c8] at H
   have c8b0 : (t159 == 0) = false := beq_eq_false_iff_ne.mpr c8
   have c8b1 : (t159 != 0) = true := bne_iff_ne.mpr c8
   by_cases c9 : t159 = (-1)
   ·rw [if_pos c9] at H
    have c9b0 : (t159 == (-1)) = true := beq_iff_eq.mpr c9
    have c9b1 : (t159 != (-1)) = false := bne_eq_false_iff_eq.mpr c9
    clear c9
    obtain ⟨ji10, hji10⟩ : ∃ j_ : Int, (wrap64 (a0 - 1)) = j_ := ⟨_, rfl⟩
    replace H : (if 0 ≤ (ji10) then (if t158 = (shl .i64 (-1) (ji10)) then (some (0, 3)) else ((shape_Cut.f a0 (IntKind.u64.wrap (wrap64 (Int.tdiv t158 t159)))).bind fun t161 => (some (t161, 0)))) else (none)) = some (r1, r2) := by first | (rw [hji10] at H; exact H) | (simp only [hji10] at H ⊢; exact H)
    (try rw [hji10] at A4)
    (try rw [hji10] at A5)
    (try rw [hji10] at A6)
    have hji10w : (IntKind.i64.wrap (a0 - 1)) = ji10 := (i64_w _).trans hji10
    by_cases c11 : 0 ≤ (ji10)
    ·rw [if_pos c11] at H
     have c11b0 := eq_true c11
     have c11b1 : decide (0 ≤ (ji10)) = true := decide_eq_true c11
     clear c11
     obtain ⟨ji12, hji12⟩ : ∃ j_ : Int, (shl .i64 (-1) (ji10)) = j_ := ⟨_, rfl⟩
     replace H : (if t158 = (ji12) then (some (0, 3)) else ((shape_Cut.f a0 (IntKind.u64.wrap (wrap64 (Int.tdiv t158 t159)))).bind fun t161 => (some (t161, 0)))) = some (r1, r2) := by first | (rw [hji12] at H; exact H) | (simp only [hji12] at H ⊢; exact H)
     (try rw [hji12] at A4)
     (try rw [hji12] at A5)
     (try rw [hji12] at A6)
     have hji12_ : (IntKind.i64.wrap ((-1) * 2 ^ min (ji10).toNat 64)) = ji12 := hji12
     have hji12z : (ji10) ≤ 64 → (IntKind.i64.wrap ((-1) * 2 ^ (ji10).toNat)) = ji12 := shl_small hji12
     have hji12m : wrap64 (-2 ^ min (ji10).toNat 64) = ji12 := by have h_ := (i64_w _).symm.trans hji12_; rw [Int.neg_one_mul] at h_; exact h_
     have hji12n : (ji10) ≤ 64 → wrap64 (-2 ^ (ji10).toNat) = ji12 := fun hle_ => by have h_ := (i64_w _).symm.trans (hji12z hle_); rw [Int.neg_one_mul] at h_; exact h_
     have hji12y : (wrap64 ((-1) * 2 ^ min (ji10).toNat 64)) = ji12 := (i64_w _).symm.trans hji12_
     have hji12x : (ji10) ≤ 64 → (wrap64 ((-1) * 2 ^ (ji10).toNat)) = ji12 := fun h_ => (i64_w _).symm.trans (hji12z h_)
     by_cases c13 : t158 = (ji12)
     ·rw [if_pos c13] at H
      have c13b0 : (t158 == (ji12)) = true := beq_iff_eq.mpr c13
      have c13b1 : (t158 != (ji12)) = false := bne_eq_false_iff_eq.mpr c13
      clear c13
      simp only [Option.some.injEq, Prod.mk.injEq] at H
      obtain ⟨rfl, rfl⟩ := H
      go_enter Try.func73, Try.ntmps73
      go_wp2_with (first | ((with_reducible refine gate_callee (f := 128) rfl ?_); refine goesL_ (some 12) rfl rfl Try.func128 (by kernel_rfl) rfl #[.int .i64 a0, .int .u64 a1] rfl (by (try simp only [List.map_toArray, List.map_cons, List.map_nil]); first | done | rfl | (simp only [List.length_drop, List.length_take]; rfl)) ?_; (with_reducible refine (ints_signed.calls a0 a1 t158 _ A4.out).mono ?_); rintro e w' ⟨rfl, ⟨nd, rfl⟩⟩; refine ⟨_, rfl, ?_⟩) | ((with_reducible refine gate_callee (f := 128) rfl ?_); refine goesL_ (some 15) rfl rfl Try.func128 (by kernel_rfl) rfl #[.int .i64 a0, .int .u64 a2] rfl (by (try simp only [List.map_toArray, List.map_cons, List.map_nil]); first | done | rfl | (simp only [List.length_drop, List.length_take]; rfl)) ?_; (with_reducible refine (ints_signed.calls a0 a2 t159 _ A5.out).mono ?_); rintro e w' ⟨rfl, ⟨nd, rfl⟩⟩; refine ⟨_, rfl, ?_⟩) | ((with_reducible refine gate_callee (f := 142) rfl ?_); refine goesL_ (some 18) rfl rfl Try.func142 (by kernel_rfl) rfl #[.int .i64 a0] rfl (by (try simp only [List.map_toArray, List.map_cons, List.map_nil]); first | done | rfl | (simp only [List.length_drop, List.length_take]; rfl)) ?_; (with_reducible refine (ints_known.calls a0 true _ A6.out).mono ?_); rintro e w' ⟨rfl, ⟨nd, rfl⟩⟩; refine ⟨_, rfl, ?_⟩))
      go_ret2
      exact ⟨by first | rfl | (simp; done) | (simp only [← hji10, ← hji12] <;> (first | rfl | simp)) | (simp [*]; done), by repeat (first | exact Drawn0.refl _ | apply Drawn0.step)⟩
     ·rw [if_neg c13] at H
      have c13b0 : (t158 == (ji12)) = false := beq_eq_false_iff_ne.mpr c13
      have c13b1 : (t158 != (ji12)) = true := bne_iff_ne.mpr c13
      replace H := Option.bind_eq_some_iff.mp H
      obtain ⟨t161, A140, H⟩ := H
      replace H : (some (t161, 0)) = some (r1, r2) := H
      have A14 := Aside0.mk A140
      clear A140
      simp only [Option.some.injEq, Prod.mk.injEq] at H
      obtain ⟨rfl, rfl⟩ := H
      go_enter Try.func73, Try.ntmps73
      go_wp2_with (first | ((with_reducible refine gate_callee (f := 128) rfl ?_); refine goesL_ (some 12) rfl rfl Try.func128 (by kernel_rfl) rfl #[.int .i64 a0, .int .u64 a1] rfl (by (try simp only [List.map_toArray, List.map_cons, List.map_nil]); first | done | rfl | (simp only [List.length_drop, List.length_take]; rfl)) ?_; (with_reducible refine (ints_signed.calls a0 a1 t158 _ A4.out).mono ?_); rintro e w' ⟨rfl, ⟨nd, rfl⟩⟩; refine ⟨_, rfl, ?_⟩) | ((with_reducible refine gate_callee (f := 128) rfl ?_); refine goesL_ (some 15) rfl rfl Try.func128 (by kernel_rfl) rfl #[.int .i64 a0, .int .u64 a2] rfl (by (try simp only [List.map_toArray, List.map_cons, List.map_nil]); first | done | rfl | (simp only [List.length_drop, List.length_take]; rfl)) ?_; (with_reducible refine (ints_signed.calls a0 a2 t159 _ A5.out).mono ?_); rintro e w' ⟨rfl, ⟨nd, rfl⟩⟩; refine ⟨_, rfl, ?_⟩) | ((with_reducible refine gate_callee (f := 142) rfl ?_); refine goesL_ (some 18) rfl rfl Try.func142 (by kernel_rfl) rfl #[.int .i64 a0] rfl (by (try simp only [List.map_toArray, List.map_cons, List.map_nil]); first | done | rfl | (simp only [List.length_drop, List.length_take]; rfl)) ?_; (with_reducible refine (ints_known.calls a0 true _ A6.out).mono ?_); rintro e w' ⟨rfl, ⟨nd, rfl⟩⟩; refine ⟨_, rfl, ?_⟩) | ((with_reducible refine gate_callee (f := 42) rfl ?_); refine goesL_ (some 38) rfl rfl Try.func42 (by kernel_rfl) rfl #[.int .i64 a0, .int .u64 (IntKind.u64.wrap (wrap64 (Int.tdiv t158 t159)))] rfl (by (try simp only [List.map_toArray, List.map_cons, List.map_nil]); first | done | rfl | (simp only [List.length_drop, List.length_take]; rfl)) ?_; (with_reducible refine (shape_Cut.calls a0 (IntKind.u64.wrap (wrap64 (Int.tdiv t158 t159))) t161 _ A14.out).mono ?_); rintro e w' ⟨rfl, ⟨nd, rfl⟩⟩; refine ⟨_, rfl, ?_⟩))
      go_ret2
      exact ⟨by first | rfl | (simp; done) | (simp only [← hji10, ← hji12] <;> (first | rfl | simp)) | (simp [*]; done), by repeat (first | exact Drawn0.refl _ | apply Drawn0.step)⟩
    ·rw [if_neg c11] at H
     exact absurd H (by simp)
   ·rw [if_neg c9] at H
    have c9b0 : (t159 == (-1)) = false := beq_eq_false_iff_ne.mpr c9
    have c9b1 : (t159 != (-1)) = true := bne_iff_ne.mpr c9
    replace H := Option.bind_eq_some_iff.mp H
    obtain ⟨t162, A150, H⟩ := H
    replace H : (some (t162, 0)) = some (r1, r2) := H
    have A15 := Aside0.mk A150
    clear A150
    simp only [Option.some.injEq, Prod.mk.injEq] at H
    obtain ⟨rfl, rfl⟩ := H
    go_enter Try.func73, Try.ntmps73
    go_wp2_with (first | ((with_reducible refine gate_callee (f := 128) rfl ?_); refine goesL_ (some 12) rfl rfl Try.func128 (by kernel_rfl) rfl #[.int .i64 a0, .int .u64 a1] rfl (by (try simp only [List.map_toArray, List.map_cons, List.map_nil]); first | done | rfl | (simp only [List.length_drop, List.length_take]; rfl)) ?_; (with_reducible refine (ints_signed.calls a0 a1 t158 _ A4.out).mono ?_); rintro e w' ⟨rfl, ⟨nd, rfl⟩⟩; refine ⟨_, rfl, ?_⟩) | ((with_reducible refine gate_callee (f := 128) rfl ?_); refine goesL_ (some 15) rfl rfl Try.func128 (by kernel_rfl) rfl #[.int .i64 a0, .int .u64 a2] rfl (by (try simp only [List.map_toArray, List.map_cons, List.map_nil]); first | done | rfl | (simp only [List.length_drop, List.length_take]; rfl)) ?_; (with_reducible refine (ints_signed.calls a0 a2 t159 _ A5.out).mono ?_); rintro e w' ⟨rfl, ⟨nd, rfl⟩⟩; refine ⟨_, rfl, ?_⟩) | ((with_reducible refine gate_callee (f := 142) rfl ?_); refine goesL_ (some 18) rfl rfl Try.func142 (by kernel_rfl) rfl #[.int .i64 a0] rfl (by (try simp only [List.map_toArray, List.map_cons, List.map_nil]); first | done | rfl | (simp only [List.length_drop, List.length_take]; rfl)) ?_; (with_reducible refine (ints_known.calls a0 true _ A6.out).mono ?_); rintro e w' ⟨rfl, ⟨nd, rfl⟩⟩; refine ⟨_, rfl, ?_⟩) | ((with_reducible refine gate_callee (f := 42) rfl ?_); refine goesL_ (some 38) rfl rfl Try.func42 (by kernel_rfl) rfl #[.int .i64 a0, .int .u64 (IntKind.u64.wrap (wrap64 (Int.tdiv t158 t159)))] rfl (by (try simp only [List.map_toArray, List.map_cons, List.map_nil]); first | done | rfl | (simp only [List.length_drop, List.length_take]; rfl)) ?_; (with_reducible refine (shape_Cut.calls a0 (IntKind.u64.wrap (wrap64 (Int.tdiv t158 t159))) t162 _ A15.out).mono ?_); rintro e w' ⟨rfl, ⟨nd, rfl⟩⟩; refine ⟨_, rfl, ?_⟩))
    go_ret2
    exact ⟨by first | rfl | (simp; done) | (simp [*]; done), by repeat (first | exact Drawn0.refl _ | apply Drawn0.step)⟩
 ·replace c7 := Bool.eq_false_iff.mpr c7
  subst c7
  have H1 : (some (0, 0)) = some (r1, r2) := by rw [if_neg (show ¬ (false = true) by decide)] at H; exact H
  clear H
  have H := H1
  clear H1
  simp only [Option.some.injEq, Prod.mk.injEq] at H
  obtain ⟨rfl, rfl⟩ := H
  go_enter Try.func73, Try.ntmps73
  go_wp2_with (first | ((with_reducible refine gate_callee (f := 128) rfl ?_); refine goesL_ (some 12) rfl rfl Try.func128 (by kernel_rfl) rfl #[.int .i64 a0, .int .u64 a1] rfl (by (try simp only [List.map_toArray, List.map_cons, List.map_nil]); first | done | rfl | (simp only [List.length_drop, List.length_take]; rfl)) ?_; (with_reducible refine (ints_signed.calls a0 a1 t158 _ A4.out).mono ?_); rintro e w' ⟨rfl, ⟨nd, rfl⟩⟩; refine ⟨_, rfl, ?_⟩) | ((with_reducible refine gate_callee (f := 128) rfl ?_); refine goesL_ (some 15) rfl rfl Try.func128 (by kernel_rfl) rfl #[.int .i64 a0, .int .u64 a2] rfl (by (try simp only [List.map_toArray, List.map_cons, List.map_nil]); first | done | rfl | (simp only [List.length_drop, List.length_take]; rfl)) ?_; (with_reducible refine (ints_signed.calls a0 a2 t159 _ A5.out).mono ?_); rintro e w' ⟨rfl, ⟨nd, rfl⟩⟩; refine ⟨_, rfl, ?_⟩) | ((with_reducible refine gate_callee (f := 142) rfl ?_); refine goesL_ (some 18) rfl rfl Try.func142 (by kernel_rfl) rfl #[.int .i64 a0] rfl (by (try simp only [List.map_toArray, List.map_cons, List.map_nil]); first | done | rfl | (simp only [List.length_drop, List.length_take]; rfl)) ?_; (with_reducible refine (ints_known.calls a0 false _ A6.out).mono ?_); rintro e w' ⟨rfl, ⟨nd, rfl⟩⟩; refine ⟨_, rfl, ?_⟩))
  go_ret2
  exact ⟨by first | rfl | (simp; done) | (simp [*]; done), by repeat (first | exact Drawn0.refl _ | apply Drawn0.step)⟩

end Go.Proofs.Ytmjfenbbgfohlaa.PA

namespace Go.Proofs.Ytmjfenbbgfohlaa.PA
open Go.RowKit Go.Proofs.YtmjfenbbgfohlaaW.PrintWords Go.Proofs.YtmjfenbbgfohlaaW.PrintLast Go.Proofs.YtmjfenbbgfohlaaW.PrintMore
attribute [local go_sem] max2_int min2_int max_two min_two max_three min_three max_four min_four   -- for this text's walks alone
set_option linter.unusedVariables false
set_option linter.unusedSimpArgs false

/-! ### ints_DivU: function 71 -/
def ints_DivU.f (a0 : Int) (a1 : Int) (a2 : Int) : Option (Int × Int) := (shape_Cut.f a0 a1).bind fun t563 => ((shape_Cut.f a0 a2).bind fun t564 => ((ints_known.f a0).bind fun t565 => (if t565 = true then (if t564 = 0 then (some (0, 2)) else (some (IntKind.u64.wrap (Int.tdiv t563 t564), 0))) else (some (0, 0)))))
set_option maxHeartbeats 8000000 in
set_option maxRecDepth 100000 in
theorem ints_DivU.calls (a0 : Int) (a1 : Int) (a2 : Int) (r1 : Int) (r2 : Int) (w : World) (h : ints_DivU.f a0 a1 a2 = some (r1, r2)) :
  Calls Try.prog 71 #[.int .i64 a0, .int .u64 a1, .int .u64 a2] w fun e w' => e = .returned (.tuple #[.int .u64 r1, .int .i64 r2]) ∧ Drawn0 w w' := by
 have H : ((shape_Cut.f a0 a1).bind fun t563 => ((shape_Cut.f a0 a2).bind fun t564 => ((ints_known.f a0).bind fun t565 => (if t565 = true then (if t564 = 0 then (some (0, 2)) else (some (IntKind.u64.wrap (Int.tdiv t563 t564), 0))) else (some (0, 0)))))) = some (r1, r2) := h
 clear h
 replace H := Option.bind_eq_some_iff.mp H
 obtain ⟨t563, A40, H⟩ := H
 replace H : ((shape_Cut.f a0 a2).bind fun t564 => ((ints_known.f a0).bind fun t565 => (if t565 = true then (if t564 = 0 then (some (0, 2)) else (some (IntKind.u64.wrap (Int.tdiv t563 t564), 0))) else (some (0, 0))))) = some (r1, r2) := H
 have A4 := Aside0.mk A40
 clear A40
 replace H := Option.bind_eq_some_iff.mp H
 obtain ⟨t564, A50, H⟩ := H
 replace H : ((ints_known.f a0).bind fun t565 => (if t565 = true then (if t564 = 0 then (some (0, 2)) else (some (IntKind.u64.wrap (Int.tdiv t563 t564), 0))) else (some (0, 0)))) = some (r1, r2) := H
 have A5 := Aside0.mk A50
 clear A50
 replace H := Option.bind_eq_some_iff.mp H
 obtain ⟨t565, A60, H⟩ := H
 replace H : (if t565 = true then (if t564 = 0 then (some (0, 2)) else (some (IntKind.u64.wrap (Int.tdiv t563 t564), 0))) else (some (0, 0))) = some (r1, r2) := H
 have A6 := Aside0.mk A60
 clear A60
 by_cases c7 : t565 = true
 ·subst c7
  have H1 : (if t564 = 0 then (some (0, 2)) else (some (IntKind.u64.wrap (Int.tdiv t563 t564), 0))) = some (r1, r2) := by rw [if_pos rfl] at H; exact H
  clear H
  have H := H1
  clear H1
  by_cases c8 : t564 = 0
  ·rw [if_pos c8] at H
   have c8b0 : (t564 == 0) = true := beq_iff_eq.mpr c8
   have c8b1 : (t564 != 0) = false := bne_eq_false_iff_eq.mpr c8
   clear c8
   simp only [Option.some.injEq, Prod.mk.injEq] at H
   obtain ⟨rfl, rfl⟩ := H
   go_enter Try.func71, Try.ntmps71
   go_wp2_with (first | ((with_reducible refine gate_callee (f := 42) rfl ?_); refine goesL_ (some 10) rfl rfl Try.func42 (by kernel_rfl) rfl #[.int .i64 a0, .int .u64 a1] rfl (by (try simp only [List.map_toArray, List.map_cons, List.map_nil]); first | done | rfl | (simp only [List.length_drop, List.length_take]; rfl)) ?_; (with_reducible refine (shape_Cut.calls a0 a1 t563 _ A4.out).mono ?_); rintro e w' ⟨rfl, ⟨nd, rfl⟩⟩; refine ⟨_, rfl, ?_⟩) | ((with_reducible refine gate_callee (f := 42) rfl ?_); refine goesL_ (some 13) rfl rfl Try.func42 (by kernel_rfl) rfl #[.int .i64 a0, .int .u64 a2] rfl (by (try simp only [List.map_toArray, List.map_cons, List.map_nil]); first | done | rfl | (simp only [List.length_drop, List.length_take]; rfl)) ?_; (with_reducible refine (shape_Cut.calls a0 a2 t564 _ A5.out).mono ?_); rintro e w' ⟨rfl, ⟨nd, rfl⟩⟩; refine ⟨_, rfl, ?_⟩) | ((with_reducible refine gate_callee (f := 142) rfl ?_); refine goesL_ (some 16) rfl rfl Try.func142 (by kernel_rfl) rfl #[.int .i64 a0] rfl (by (try simp only [List.map_toArray, List.map_cons, List.map_nil]); first | done | rfl | (simp only [List.length_drop, List.length_take]; rfl)) ?_; (with_reducible refine (ints_known.calls a0 true _ A6.out).mono ?_); rintro e w' ⟨rfl, ⟨nd, rfl⟩⟩; refine ⟨_, rfl, ?_⟩))
   go_ret2
   exact ⟨by first | rfl | (simp; done) | (simp [*]; done), by repeat (first | exact Drawn0.refl _ | apply Drawn0.step)⟩
  ·rw [if_neg c8] at H
   have c8b0 : (t564 == 0) = false := beq_eq_false_iff_ne.mpr c8
   have c8b1 : (t564 != 0) = true := bne_iff_ne.mpr c8
   simp only [Option.some.injEq, Prod.mk.injEq] at H
   obtain ⟨rfl, rfl⟩ := H
   go_enter Try.func71, Try.ntmps71
   go_wp2_with (first | ((with_reducible refine gate_callee (f := 42) rfl ?_); refine goesL_ (some 10) rfl rfl Try.func42 (by kernel_rfl) rfl #[.int .i64 a0, .int .u64 a1] rfl (by (try simp only [List.map_toArray, List.map_cons, List.map_nil]); first | done | rfl | (simp only [List.length_drop, List.length_take]; rfl)) ?_; (with_reducible refine (shape_Cut.calls a0 a1 t563 _ A4.out).mono ?_); rintro e w' ⟨rfl, ⟨nd, rfl⟩⟩; refine ⟨_, rfl, ?_⟩) | ((with_reducible refine gate_callee (f := 42) rfl ?_); refine goesL_ (some 13) rfl rfl Try.func42 (by kernel_rfl) rfl #[.int .i64 a0, .int .u64 a2] rfl (by (try simp only [List.map_toArray, List.map_cons, List.map_nil]); first | done | rfl | (simp only [List.length_drop, List.length_take]; rfl)) ?_; (with_reducible refine (shape_Cut.calls a0 a2 t564 _ A5.out).mono ?_); rintro e w' ⟨rfl, ⟨nd, rfl⟩⟩; refine ⟨_, rfl, ?_⟩) | ((with_reducible refine gate_callee (f := 142) rfl ?_); refine goesL_ (some 16) rfl rfl Try.func142 (by kernel_rfl) rfl #[.int .i64 a0] rfl (by (try simp only [List.map_toArray, List.map_cons, List.map_nil]); first | done | rfl | (simp only [List.length_drop, List.length_take]; rfl)) ?_; (with_reducible refine (ints_known.calls a0 true _ A6.out).mono ?_); rintro e w' ⟨rfl, ⟨nd, rfl⟩⟩; refine ⟨_, rfl, ?_⟩))
   go_ret2
   exact ⟨by first | rfl | (simp; done) | (simp [*]; done), by repeat (first | exact Drawn0.refl _ | apply Drawn0.step)⟩
 ·replace c7 := Bool.eq_false_iff.mpr c7
  subst c7
  have H1 : (some (0, 0)) = some (r1, r2) := by rw [if_neg (show ¬ (false = true) by decide)] at H; exact H
  clear H
  have H := H1
  clear H1
  simp only [Option.some.injEq, Prod.mk.injEq] at H
  obtain ⟨rfl, rfl⟩ := H
  go_enter Try.func71, Try.ntmps71
  go_wp2_with (first | ((with_reducible refine gate_callee (f := 42) rfl ?_); refine goesL_ (some 10) rfl rfl Try.func42 (by kernel_rfl) rfl #[.int .i64 a0, .int .u64 a1] rfl (by (try simp only [List.map_toArray, List.map_cons, List.map_nil]); first | done | rfl | (simp only [List.length_drop, List.length_take]; rfl)) ?_; (with_reducible refine (shape_Cut.calls a0 a1 t563 _ A4.out).mono ?_); rintro e w' ⟨rfl, ⟨nd, rfl⟩⟩; refine ⟨_, rfl, ?_⟩) | ((with_reducible refine gate_callee (f := 42) rfl ?_); refine goesL_ (some 13) rfl rfl Try.func42 (by kernel_rfl) rfl #[.int .i64 a0, .int .u64 a2] rfl (by (try simp only [List.map_toArray, List.map_cons, List.map_nil]); first | done | rfl | (simp only [List.length_drop, List.length_take]; rfl)) ?_; (with_reducible refine (shape_Cut.calls a0 a2 t564 _ A5.out).mono ?_); rintro e w' ⟨rfl, ⟨nd, rfl⟩⟩; refine ⟨_, rfl, ?_⟩) | ((with_reducible refine gate_callee (f := 142) rfl ?_); refine goesL_ (some 16) rfl rfl Try.func142 (by kernel_rfl) rfl #[.int .i64 a0] rfl (by (try simp only [List.map_toArray, List.map_cons, List.map_nil]); first | done | rfl | (simp only [List.length_drop, List.length_take]; rfl)) ?_; (with_reducible refine (ints_known.calls a0 false _ A6.out).mono ?_); rintro e w' ⟨rfl, ⟨nd, rfl⟩⟩; refine ⟨_, rfl, ?_⟩))
  go_ret2
  exact ⟨by first | rfl | (simp; done) | (simp [*]; done), by repeat (first | exact Drawn0.refl _ | apply Drawn0.step)⟩

end Go.Proofs.Ytmjfenbbgfohlaa.PA

namespace Go.Proofs.Ytmjfenbbgfohlaa.PA
open Go.RowKit Go.Proofs.YtmjfenbbgfohlaaW.PrintWords Go.Proofs.YtmjfenbbgfohlaaW.PrintLast Go.Proofs.YtmjfenbbgfohlaaW.PrintMore
attribute [local go_sem] max2_int min2_int max_two min_two max_three min_three max_four min_four   -- for this text's walks alone
set_option linter.unusedVariables false
set_option linter.unusedSimpArgs false

/-! ### ints_LtU: function 106 -/
def ints_LtU.f (a0 : Int) (a1 : Int) (a2 : Int) : Option (Bool) := (shape_Cut.f a0 a1).bind fun t960 => ((shape_Cut.f a0 a2).bind fun t961 => (some (decide (t960 < t961))))
set_option maxHeartbeats 8000000 in
set_option maxRecDepth 100000 in
theorem ints_LtU.calls (a0 : Int) (a1 : Int) (a2 : Int) (r : Bool) (w : World) (h : ints_LtU.f a0 a1 a2 = some r) :
  Calls Try.prog 106 #[.int .i64 a0, .int .u64 a1, .int .u64 a2] w fun e w' => e = .returned (.bool r) ∧ Drawn0 w w' := by
 have H : ((shape_Cut.f a0 a1).bind fun t960 => ((shape_Cut.f a0 a2).bind fun t961 => (some (decide (t960 < t961))))) = some r := h
 clear h
 replace H := Option.bind_eq_some_iff.mp H
 obtain ⟨t960, A40, H⟩ := H
 replace H : ((shape_Cut.f a0 a2).bind fun t961 => (some (decide (t960 < t961)))) = some r := H
 have A4 := Aside0.mk A40
 clear A40
 replace H := Option.bind_eq_some_iff.mp H
 obtain ⟨t961, A50, H⟩ := H
 replace H : (some (decide (t960 < t961))) = some r := H
 have A5 := Aside0.mk A50
 clear A50
 obtain rfl := Option.some.inj H
 go_enter Try.func106, Try.ntmps106
 go_wp2_with (first | ((with_reducible refine gate_callee (f := 42) rfl ?_); refine goesL_ (some 9) rfl rfl Try.func42 (by kernel_rfl) rfl #[.int .i64 a0, .int .u64 a1] rfl (by (try simp only [List.map_toArray, List.map_cons, List.map_nil]); first | done | rfl | (simp only [List.length_drop, List.length_take]; rfl)) ?_; (with_reducible refine (shape_Cut.calls a0 a1 t960 _ A4.out).mono ?_); rintro e w' ⟨rfl, ⟨nd, rfl⟩⟩; refine ⟨_, rfl, ?_⟩) | ((with_reducible refine gate_callee (f := 42) rfl ?_); refine goesL_ (some 12) rfl rfl Try.func42 (by kernel_rfl) rfl #[.int .i64 a0, .int .u64 a2] rfl (by (try simp only [List.map_toArray, List.map_cons, List.map_nil]); first | done | rfl | (simp only [List.length_drop, List.length_take]; rfl)) ?_; (with_reducible refine (shape_Cut.calls a0 a2 t961 _ A5.out).mono ?_); rintro e w' ⟨rfl, ⟨nd, rfl⟩⟩; refine ⟨_, rfl, ?_⟩))
 go_ret
 exact ⟨by first | rfl | (simp; done) | (simp [*]; done), by repeat (first | exact Drawn0.refl _ | apply Drawn0.step)⟩

end Go.Proofs.Ytmjfenbbgfohlaa.PA

namespace Go.Proofs.Ytmjfenbbgfohlaa.PA
open Go.RowKit Go.Proofs.YtmjfenbbgfohlaaW.PrintWords Go.Proofs.YtmjfenbbgfohlaaW.PrintLast Go.Proofs.YtmjfenbbgfohlaaW.PrintMore
attribute [local go_sem] max2_int min2_int max_two min_two max_three min_three max_four min_four   -- for this text's walks alone
set_option linter.unusedVariables false
set_option linter.unusedSimpArgs false

/-! ### ints_Mul: function 36 -/
def ints_Mul.f (a0 : Int) (a1 : Int) (a2 : Int) : Option (Int) := if a0 = 32 then some (((a1 % 4294967296) * (a2 % 4294967296)) % 4294967296) else if a0 = 64 then some (IntKind.u64.wrap (a1 * a2)) else some 0
set_option maxHeartbeats 8000000 in
set_option maxRecDepth 100000 in
theorem ints_Mul.calls (a0 : Int) (a1 : Int) (a2 : Int) (r : Int) (w : World) (h : ints_Mul.f a0 a1 a2 = some r) :
  Calls Try.prog 36 #[.int .i64 a0, .int .u64 a1, .int .u64 a2] w fun e w' => e = .returned (.int .u64 r) ∧ Drawn0 w w' := by
 unfold ints_Mul.f at h
 by_cases c3 : a0 = 32
 ·rw [if_pos c3] at h
  subst c3
  obtain rfl := Option.some.inj h
  go_enter Try.func36, Try.ntmps36
  go_wp2_with go_in
  go_ret
  exact ⟨by first | rfl | (simp; done), by repeat (first | exact Drawn0.refl _ | apply Drawn0.step)⟩
 ·rw [if_neg c3] at h
  have c3b0 : (a0 == 32) = false := beq_eq_false_iff_ne.mpr c3
  by_cases c4 : a0 = 64
  ·rw [if_pos c4] at h
   have c4b0 : (a0 == 64) = true := beq_iff_eq.mpr c4
   clear c4
   obtain rfl := Option.some.inj h
   go_enter Try.func36, Try.ntmps36
   go_wp2_with go_in
   go_ret
   exact ⟨by first | rfl | (simp; done), by repeat (first | exact Drawn0.refl _ | apply Drawn0.step)⟩
  ·rw [if_neg c4] at h
   have c4b0 : (a0 == 64) = false := beq_eq_false_iff_ne.mpr c4
   obtain rfl := Option.some.inj h
   go_enter Try.func36, Try.ntmps36
   go_wp2_with go_in
   go_ret
   exact ⟨by first | rfl | (simp; done), by repeat (first | exact Drawn0.refl _ | apply Drawn0.step)⟩

end Go.Proofs.Ytmjfenbbgfohlaa.PA

namespace Go.Proofs.Ytmjfenbbgfohlaa.PA
open Go.RowKit Go.Proofs.YtmjfenbbgfohlaaW.PrintWords Go.Proofs.YtmjfenbbgfohlaaW.PrintLast Go.Proofs.YtmjfenbbgfohlaaW.PrintMore
attribute [local go_sem] max2_int min2_int max_two min_two max_three min_three max_four min_four   -- for this text's walks alone
set_option linter.unusedVariables false
set_option linter.unusedSimpArgs false

/-! ### bits_OnesCount64: function 160 -/
def bits_OnesCount64.f (a0 : Int) : Option (Int) := some (Go.bits .and .i64 (wrap64 (IntKind.u64.wrap ((IntKind.u64.wrap ((IntKind.u64.wrap ((Go.bits .and .u64 (IntKind.u64.wrap (((IntKind.u64.wrap ((Go.bits .and .u64 ((IntKind.u64.wrap ((Go.bits .and .u64 (a0 / 2) 6148914691236517205) + (Go.bits .and .u64 a0 6148914691236517205))) / 4) 3689348814741910323) + (Go.bits .and .u64 (IntKind.u64.wrap ((Go.bits .and .u64 (a0 / 2) 6148914691236517205) + (Go.bits .and .u64 a0 6148914691236517205))) 3689348814741910323))) / 16) + (IntKind.u64.wrap ((Go.bits .and .u64 ((IntKind.u64.wrap ((Go.bits .and .u64 (a0 / 2) 6148914691236517205) + (Go.bits .and .u64 a0 6148914691236517205))) / 4) 3689348814741910323) + (Go.bits .and .u64 (IntKind.u64.wrap ((Go.bits .and .u64 (a0 / 2) 6148914691236517205) + (Go.bits .and .u64 a0 6148914691236517205))) 3689348814741910323))))) 1085102592571150095) + ((Go.bits .and .u64 (IntKind.u64.wrap (((IntKind.u64.wrap ((Go.bits .and .u64 ((IntKind.u64.wrap ((Go.bits .and .u64 (a0 / 2) 6148914691236517205) + (Go.bits .and .u64 a0 6148914691236517205))) / 4) 3689348814741910323) + (Go.bits .and .u64 (IntKind.u64.wrap ((Go.bits .and .u64 (a0 / 2) 6148914691236517205) + (Go.bits .and .u64 a0 6148914691236517205))) 3689348814741910323))) / 16) + (IntKind.u64.wrap ((Go.bits .and .u64 ((IntKind.u64.wrap ((Go.bits .and .u64 (a0 / 2) 6148914691236517205) + (Go.bits .and .u64 a0 6148914691236517205))) / 4) 3689348814741910323) + (Go.bits .and .u64 (IntKind.u64.wrap ((Go.bits .and .u64 (a0 / 2) 6148914691236517205) + (Go.bits .and .u64 a0 6148914691236517205))) 3689348814741910323))))) 1085102592571150095) / 256))) + ((IntKind.u64.wrap ((Go.bits .and .u64 (IntKind.u64.wrap (((IntKind.u64.wrap ((Go.bits .and .u64 ((IntKind.u64.wrap ((Go.bits .and .u64 (a0 / 2) 6148914691236517205) + (Go.bits .and .u64 a0 6148914691236517205))) / 4) 3689348814741910323) + (Go.bits .and .u64 (IntKind.u64.wrap ((Go.bits .and .u64 (a0 / 2) 6148914691236517205) + (Go.bits .and .u64 a0 6148914691236517205))) 3689348814741910323))) / 16) + (IntKind.u64.wrap ((Go.bits .and .u64 ((IntKind.u64.wrap ((Go.bits .and .u64 (a0 / 2) 6148914691236517205) + (Go.bits .and .u64 a0 6148914691236517205))) / 4) 3689348814741910323) + (Go.bits .and .u64 (IntKind.u64.wrap ((Go.bits .and .u64 (a0 / 2) 6148914691236517205) + (Go.bits .and .u64 a0 6148914691236517205))) 3689348814741910323))))) 1085102592571150095) + ((Go.bits .and .u64 (IntKind.u64.wrap (((IntKind.u64.wrap ((Go.bits .and .u64 ((IntKind.u64.wrap ((Go.bits .and .u64 (a0 / 2) 6148914691236517205) + (Go.bits .and .u64 a0 6148914691236517205))) / 4) 3689348814741910323) + (Go.bits .and .u64 (IntKind.u64.wrap ((Go.bits .and .u64 (a0 / 2) 6148914691236517205) + (Go.bits .and .u64 a0 6148914691236517205))) 3689348814741910323))) / 16) + (IntKind.u64.wrap ((Go.bits .and .u64 ((IntKind.u64.wrap ((Go.bits .and .u64 (a0 / 2) 6148914691236517205) + (Go.bits .and .u64 a0 6148914691236517205))) / 4) 3689348814741910323) + (Go.bits .and .u64 (IntKind.u64.wrap ((Go.bits .and .u64 (a0 / 2) 6148914691236517205) + (Go.bits .and .u64 a0 6148914691236517205))) 3689348814741910323))))) 1085102592571150095) / 256))) / 65536))) + ((IntKind.u64.wrap ((IntKind.u64.wrap ((Go.bits .and .u64 (IntKind.u64.wrap (((IntKind.u64.wrap ((Go.bits .and .u64 ((IntKind.u64.wrap ((Go.bits .and .u64 (a0 / 2) 6148914691236517205) + (Go.bits .and .u64 a0 6148914691236517205))) / 4) 3689348814741910323) + (Go.bits .and .u64 (IntKind.u64.wrap ((Go.bits .and .u64 (a0 / 2) 6148914691236517205) + (Go.bits .and .u64 a0 6148914691236517205))) 3689348814741910323))) / 16) + (IntKind.u64.wrap ((Go.bits .and .u64 ((IntKind.u64.wrap ((Go.bits .and .u64 (a0 / 2) 6148914691236517205) + (Go.bits .and .u64 a0 6148914691236517205))) / 4) 3689348814741910323) + (Go.bits .and .u64 (IntKind.u64.wrap ((Go.bits .and .u64 (a0 / 2) 6148914691236517205) + (Go.bits .and .u64 a0 6148914691236517205))) 3689348814741910323))))) 1085102592571150095) + ((Go.bits .and .u64 (IntKind.u64.wrap (((IntKind.u64.wrap ((Go.bits .and .u64 ((IntKind.u64.wrap ((Go.bits .and .u64 (a0 / 2) 6148914691236517205) + (Go.bits .and .u64 a0 6148914691236517205))) / 4) 3689348814741910323) + (Go.bits .and .u64 (IntKind.u64.wrap ((Go.bits .and .u64 (a0 / 2) 6148914691236517205) + (Go.bits .and .u64 a0 6148914691236517205))) 3689348814741910323))) / 16) + (IntKind.u64.wrap ((Go.bits .and .u64 ((IntKind.u64.wrap ((Go.bits .and .u64 (a0 / 2) 6148914691236517205) + (Go.bits .and .u64 a0 6148914691236517205))) / 4) 3689348814741910323) + (Go.bits .and .u64 (IntKind.u64.wrap ((Go.bits .and .u64 (a0 / 2) 6148914691236517205) + (Go.bits .and .u64 a0 6148914691236517205))) 3689348814741910323))))) 1085102592571150095) / 256))) + ((IntKind.u64.wrap ((Go.bits .and .u64 (IntKind.u64.wrap (((IntKind.u64.wrap ((Go.bits .and .u64 ((IntKind.u64.wrap ((Go.bits .and .u64 (a0 / 2) 6148914691236517205) + (Go.bits .and .u64 a0 6148914691236517205))) / 4) 3689348814741910323) + (Go.bits .and .u64 (IntKind.u64.wrap ((Go.bits .and .u64 (a0 / 2) 6148914691236517205) + (Go.bits .and .u64 a0 6148914691236517205))) 3689348814741910323))) / 16) + (IntKind.u64.wrap ((Go.bits .and .u64 ((IntKind.u64.wrap ((Go.bits .and .u64 (a0 / 2) 6148914691236517205) + (Go.bits .and .u64 a0 6148914691236517205))) / 4) 3689348814741910323) + (Go.bits .and .u64 (IntKind.u64.wrap ((Go.bits .and .u64 (a0 / 2) 6148914691236517205) + (Go.bits .and .u64 a0 6148914691236517205))) 3689348814741910323))))) 1085102592571150095) + ((Go.bits .and .u64 (IntKind.u64.wrap (((IntKind.u64.wrap ((Go.bits .and .u64 ((IntKind.u64.wrap ((Go.bits .and .u64 (a0 / 2) 6148914691236517205) + (Go.bits .and .u64 a0 6148914691236517205))) / 4) 3689348814741910323) + (Go.bits .and .u64 (IntKind.u64.wrap ((Go.bits .and .u64 (a0 / 2) 6148914691236517205) + (Go.bits .and .u64 a0 6148914691236517205))) 3689348814741910323))) / 16) + (IntKind.u64.wrap ((Go.bits .and .u64 ((IntKind.u64.wrap ((Go.bits .and .u64 (a0 / 2) 6148914691236517205) + (Go.bits .and .u64 a0 6148914691236517205))) / 4) 3689348814741910323) + (Go.bits .and .u64 (IntKind.u64.wrap ((Go.bits .and .u64 (a0 / 2) 6148914691236517205) + (Go.bits .and .u64 a0 6148914691236517205))) 3689348814741910323))))) 1085102592571150095) / 256))) / 65536))) / 4294967296)))) 127)
set_option maxHeartbeats 8000000 in
set_option maxRecDepth 100000 in
theorem bits_OnesCount64.calls (a0 : Int) (r : Int) (w : World) (h : bits_OnesCount64.f a0 = some r) :
  Calls Try.prog 160 #[.int .u64 a0] w fun e w' => e = .returned (.int .i64 r) ∧ Drawn0 w w' := by
 have H : (some (Go.bits .and .i64 (wrap64 (IntKind.u64.wrap ((IntKind.u64.wrap ((IntKind.u64.wrap ((Go.bits .and .u64 (IntKind.u64.wrap (((IntKind.u64.wrap ((Go.bits .and .u64 ((IntKind.u64.wrap ((Go.bits .and .u64 (a0 / 2) 6148914691236517205) + (Go.bits .and .u64 a0 6148914691236517205))) / 4) 3689348814741910323) + (Go.bits .and .u64 (IntKind.u64.wrap ((Go.bits .and .u64 (a0 / 2) 6148914691236517205) + (Go.bits .and .u64 a0 6148914691236517205))) 3689348814741910323))) / 16) + (IntKind.u64.wrap ((Go.bits .and .u64 ((IntKind.u64.wrap ((Go.bits .and .u64 (a0 / 2) 6148914691236517205) + (Go.bits .and .u64 a0 6148914691236517205))) / 4) 3689348814741910323) + (Go.bits .and .u64 (IntKind.u64.wrap ((Go.bits .and .u64 (a0 / 2) 6148914691236517205) + (Go.bits .and .u64 a0 6148914691236517205))) 3689348814741910323))))) 1085102592571150095) + ((Go.bits .and .u64 (IntKind.u64.wrap (((IntKind.u64.wrap ((Go.bits .and .u64 ((IntKind.u64.wrap ((Go.bits .and .u64 (a0 / 2) 6148914691236517205) + (Go.bits .and .u64 a0 6148914691236517205))) / 4) 3689348814741910323) + (Go.bits .and .u64 (IntKind.u64.wrap ((Go.bits .and .u64 (a0 / 2) 6148914691236517205) + (Go.bits .and .u64 a0 6148914691236517205))) 3689348814741910323))) / 16) + (IntKind.u64.wrap ((Go.bits .and .u64 ((IntKind.u64.wrap ((Go.bits .and .u64 (a0 / 2) 6148914691236517205) + (Go.bits .and .u64 a0 6148914691236517205))) / 4) 3689348814741910323) + (Go.bits .and .u64 (IntKind.u64.wrap ((Go.bits .and .u64 (a0 / 2) 6148914691236517205) + (Go.bits .and .u64 a0 6148914691236517205))) 3689348814741910323))))) 1085102592571150095) / 256))) + ((IntKind.u64.wrap ((Go.bits .and .u64 (IntKind.u64.wrap (((IntKind.u64.wrap ((Go.bits .and .u64 ((IntKind.u64.wrap ((Go.bits .and .u64 (a0 / 2) 6148914691236517205) + (Go.bits .and .u64 a0 6148914691236517205))) / 4) 3689348814741910323) + (Go.bits .and .u64 (IntKind.u64.wrap ((Go.bits .and .u64 (a0 / 2) 6148914691236517205) + (Go.bits .and .u64 a0 6148914691236517205))) 3689348814741910323))) / 16) + (IntKind.u64.wrap ((Go.bits .and .u64 ((IntKind.u64.wrap ((Go.bits .and .u64 (a0 / 2) 6148914691236517205) + (Go.bits .and .u64 a0 6148914691236517205))) / 4) 3689348814741910323) + (Go.bits .and .u64 (IntKind.u64.wrap ((Go.bits .and .u64 (a0 / 2) 6148914691236517205) + (Go.bits .and .u64 a0 6148914691236517205))) 3689348814741910323))))) 1085102592571150095) + ((Go.bits .and .u64 (IntKind.u64.wrap (((IntKind.u64.wrap ((Go.bits .and .u64 ((IntKind.u64.wrap ((Go.bits .and .u64 (a0 / 2) 6148914691236517205) + (Go.bits .and .u64 a0 6148914691236517205))) / 4) 3689348814741910323) + (Go.bits .and .u64 (IntKind.u64.wrap ((Go.bits .and .u64 (a0 / 2) 6148914691236517205) + (Go.bits .and .u64 a0 6148914691236517205))) 3689348814741910323))) / 16) + (IntKind.u64.wrap ((Go.bits .and .u64 ((IntKind.u64.wrap ((Go.bits .and .u64 (a0 / 2) 6148914691236517205) + (Go.bits .and .u64 a0 6148914691236517205))) / 4) 3689348814741910323) + (Go.bits .and .u64 (IntKind.u64.wrap ((Go.bits .and .u64 (a0 / 2) 6148914691236517205) + (Go.bits .and .u64 a0 6148914691236517205))) 3689348814741910323))))) 1085102592571150095) / 256))) / 65536))) + ((IntKind.u64.wrap ((IntKind.u64.wrap ((Go.bits .and .u64 (IntKind.u64.wrap (((IntKind.u64.wrap ((Go.bits .and .u64 ((IntKind.u64.wrap ((Go.bits .and .u64 (a0 / 2) 6148914691236517205) + (Go.bits .and .u64 a0 6148914691236517205))) / 4) 3689348814741910323) + (Go.bits .and .u64 (IntKind.u64.wrap ((Go.bits .and .u64 (a0 / 2) 6148914691236517205) + (Go.bits .and .u64 a0 6148914691236517205))) 3689348814741910323))) / 16) + (IntKind.u64.wrap ((Go.bits .and .u64 ((IntKind.u64.wrap ((Go.bits .and .u64 (a0 / 2) 6148914691236517205) + (Go.bits .and .u64 a0 6148914691236517205))) / 4) 3689348814741910323) + (Go.bits .and .u64 (IntKind.u64.wrap ((Go.bits .and .u64 (a0 / 2) 6148914691236517205) + (Go.bits .and .u64 a0 6148914691236517205))) 3689348814741910323))))) 1085102592571150095) + ((Go.bits .and .u64 (IntKind.u64.wrap (((IntKind.u64.wrap ((Go.bits .and .u64 ((IntKind.u64.wrap ((Go.bits .and .u64 (a0 / 2) 6148914691236517205) + (Go.bits .and .u64 a0 6148914691236517205))) / 4) 3689348814741910323) + (Go.bits .and .u64 (IntKind.u64.wrap ((Go.bits .and .u64 (a0 / 2) 6148914691236517205) + (Go.bits .and .u64 a0 6148914691236517205))) 3689348814741910323))) / 16) + (IntKind.u64.wrap ((Go.bits .and .u64 ((IntKind.u64.wrap ((Go.bits .and .u64 (a0 / 2) 6148914691236517205) + (Go.bits .and .u64 a0 6148914691236517205))) / 4) 3689348814741910323) + (Go.bits .and .u64 (IntKind.u64.wrap ((Go.bits .and .u64 (a0 / 2) 6148914691236517205) + (Go.bits .and .u64 a0 6148914691236517205))) 3689348814741910323))))) 1085102592571150095) / 256))) + ((IntKind.u64.wrap ((Go.bits .and .u64 (IntKind.u64.wrap (((IntKind.u64.wrap ((Go.bits .and .u64 ((IntKind.u64.wrap ((Go.bits .and .u64 (a0 / 2) 6148914691236517205) + (Go.bits .and .u64 a0 6148914691236517205))) / 4) 3689348814741910323) + (Go.bits .and .u64 (IntKind.u64.wrap ((Go.bits .and .u64 (a0 / 2) 6148914691236517205) + (Go.bits .and .u64 a0 6148914691236517205))) 3689348814741910323))) / 16) + (IntKind.u64.wrap ((Go.bits .and .u64 ((IntKind.u64.wrap ((Go.bits .and .u64 (a0 / 2) 6148914691236517205) + (Go.bits .and .u64 a0 6148914691236517205))) / 4) 3689348814741910323) + (Go.bits .and .u64 (IntKind.u64.wrap ((Go.bits .and .u64 (a0 / 2) 6148914691236517205) + (Go.bits .and .u64 a0 6148914691236517205))) 3689348814741910323))))) 1085102592571150095) + ((Go.bits .and .u64 (IntKind.u64.wrap (((IntKind.u64.wrap ((Go.bits .and .u64 ((IntKind.u64.wrap ((Go.bits .and .u64 (a0 / 2) 6148914691236517205) + (Go.bits .and .u64 a0 6148914691236517205))) / 4) 3689348814741910323) + (Go.bits .and .u64 (IntKind.u64.wrap ((Go.bits .and .u64 (a0 / 2) 6148914691236517205) + (Go.bits .and .u64 a0 6148914691236517205))) 3689348814741910323))) / 16) + (IntKind.u64.wrap ((Go.bits .and .u64 ((IntKind.u64.wrap ((Go.bits .and .u64 (a0 / 2) 6148914691236517205) + (Go.bits .and .u64 a0 6148914691236517205))) / 4) 3689348814741910323) + (Go.bits .and .u64 (IntKind.u64.wrap ((Go.bits .and .u64 (a0 / 2) 6148914691236517205) + (Go.bits .and .u64 a0 6148914691236517205))) 3689348814741910323))))) 1085102592571150095) / 256))) / 65536))) / 4294967296)))) 127)) = some r := h
 clear h
 obtain rfl := Option.some.inj H
 go_enter Try.func160, Try.ntmps160
 go_wp2
 go_ret
 exact ⟨by first | rfl | (simp; done) | (simp [*]; done), by repeat (first | exact Drawn0.refl _ | apply Drawn0.step)⟩

end Go.Proofs.Ytmjfenbbgfohlaa.PA

namespace Go.Proofs.Ytmjfenbbgfohlaa.PA
open Go.RowKit Go.Proofs.YtmjfenbbgfohlaaW.PrintWords Go.Proofs.YtmjfenbbgfohlaaW.PrintLast Go.Proofs.YtmjfenbbgfohlaaW.PrintMore
attribute [local go_sem] max2_int min2_int max_two min_two max_three min_three max_four min_four   -- for this text's walks alone
set_option linter.unusedVariables false
set_option linter.unusedSimpArgs false

/-! ### ints_Popcnt: function 107 -/
def ints_Popcnt.f (a0 : Int) (a1 : Int) : Option (Int) := (shape_Cut.f a0 a1).bind fun t962 => ((bits_OnesCount64.f t962).bind fun t963 => (some (IntKind.u64.wrap (t963))))
set_option maxHeartbeats 8000000 in
set_option maxRecDepth 100000 in
theorem ints_Popcnt.calls (a0 : Int) (a1 : Int) (r : Int) (w : World) (h : ints_Popcnt.f a0 a1 = some r) :
  Calls Try.prog 107 #[.int .i64 a0, .int .u64 a1] w fun e w' => e = .returned (.int .u64 r) ∧ Drawn0 w w' := by
 have H : ((shape_Cut.f a0 a1).bind fun t962 => ((bits_OnesCount64.f t962).bind fun t963 => (some (IntKind.u64.wrap (t963))))) = some r := h
 clear h
 replace H := Option.bind_eq_some_iff.mp H
 obtain ⟨t962, A30, H⟩ := H
 replace H : ((bits_OnesCount64.f t962).bind fun t963 => (some (IntKind.u64.wrap (t963)))) = some r := H
 have A3 := Aside0.mk A30
 clear A30
 replace H := Option.bind_eq_some_iff.mp H
 obtain ⟨t963, A40, H⟩ := H
 replace H : (some (IntKind.u64.wrap (t963))) = some r := H
 have A4 := Aside0.mk A40
 clear A40
 obtain rfl := Option.some.inj H
 go_enter Try.func107, Try.ntmps107
 go_wp2_with (first | ((with_reducible refine gate_callee (f := 42) rfl ?_); refine goesL_ (some 7) rfl rfl Try.func42 (by kernel_rfl) rfl #[.int .i64 a0, .int .u64 a1] rfl (by (try simp only [List.map_toArray, List.map_cons, List.map_nil]); first | done | rfl | (simp only [List.length_drop, List.length_take]; rfl)) ?_; (with_reducible refine (shape_Cut.calls a0 a1 t962 _ A3.out).mono ?_); rintro e w' ⟨rfl, ⟨nd, rfl⟩⟩; refine ⟨_, rfl, ?_⟩) | ((with_reducible refine gate_callee (f := 160) rfl ?_); refine goesL_ (some 8) rfl rfl Try.func160 (by kernel_rfl) rfl #[.int .u64 t962] rfl (by (try simp only [List.map_toArray, List.map_cons, List.map_nil]); first | done | rfl | (simp only [List.length_drop, List.length_take]; rfl)) ?_; (with_reducible refine (bits_OnesCount64.calls t962 t963 _ A4.out).mono ?_); rintro e w' ⟨rfl, ⟨nd, rfl⟩⟩; refine ⟨_, rfl, ?_⟩))
 go_ret
 exact ⟨by first | rfl | (simp; done) | (simp [*]; done), by repeat (first | exact Drawn0.refl _ | apply Drawn0.step)⟩

end Go.Proofs.Ytmjfenbbgfohlaa.PA

namespace Go.Proofs.Ytmjfenbbgfohlaa.PA
open Go.RowKit Go.Proofs.YtmjfenbbgfohlaaW.PrintWords Go.Proofs.YtmjfenbbgfohlaaW.PrintLast Go.Proofs.YtmjfenbbgfohlaaW.PrintMore
attribute [local go_sem] max2_int min2_int max_two min_two max_three min_three max_four min_four   -- for this text's walks alone
set_option linter.unusedVariables false
set_option linter.unusedSimpArgs false

/-! ### ints_Sub: function 35 -/
def ints_Sub.f (a0 : Int) (a1 : Int) (a2 : Int) : Option (Int) := if a0 = 32 then some (((a1 % 4294967296) - (a2 % 4294967296)) % 4294967296) else if a0 = 64 then some (IntKind.u64.wrap (a1 - a2)) else some 0
set_option maxHeartbeats 8000000 in
set_option maxRecDepth 100000 in
theorem ints_Sub.calls (a0 : Int) (a1 : Int) (a2 : Int) (r : Int) (w : World) (h : ints_Sub.f a0 a1 a2 = some r) :
  Calls Try.prog 35 #[.int .i64 a0, .int .u64 a1, .int .u64 a2] w fun e w' => e = .returned (.int .u64 r) ∧ Drawn0 w w' := by
 unfold ints_Sub.f at h
 by_cases c3 : a0 = 32
 ·rw [if_pos c3] at h
  subst c3
  obtain rfl := Option.some.inj h
  go_enter Try.func35, Try.ntmps35
  go_wp2_with go_in
  go_ret
  exact ⟨by first | rfl | (simp; done), by repeat (first | exact Drawn0.refl _ | apply Drawn0.step)⟩
 ·rw [if_neg c3] at h
  have c3b0 : (a0 == 32) = false := beq_eq_false_iff_ne.mpr c3
  by_cases c4 : a0 = 64
  ·rw [if_pos c4] at h
   have c4b0 : (a0 == 64) = true := beq_iff_eq.mpr c4
   clear c4
   obtain rfl := Option.some.inj h
   go_enter Try.func35, Try.ntmps35
   go_wp2_with go_in
   go_ret
   exact ⟨by first | rfl | (simp; done), by repeat (first | exact Drawn0.refl _ | apply Drawn0.step)⟩
  ·rw [if_neg c4] at h
   have c4b0 : (a0 == 64) = false := beq_eq_false_iff_ne.mpr c4
   obtain rfl := Option.some.inj h
   go_enter Try.func35, Try.ntmps35
   go_wp2_with go_in
   go_ret
   exact ⟨by first | rfl | (simp; done), by repeat (first | exact Drawn0.refl _ | apply Drawn0.step)⟩

end Go.Proofs.Ytmjfenbbgfohlaa.PA

namespace Go.Proofs.Ytmjfenbbgfohlaa.PA
open Go.RowKit Go.Proofs.YtmjfenbbgfohlaaW.PrintWords Go.Proofs.YtmjfenbbgfohlaaW.PrintLast Go.Proofs.YtmjfenbbgfohlaaW.PrintMore
attribute [local go_sem] max2_int min2_int max_two min_two max_three min_three max_four min_four   -- for this text's walks alone
set_option linter.unusedVariables false
set_option linter.unusedSimpArgs false

/-! ### ints_RemS: function 74 -/
def ints_RemS.f (a0 : Int) (a1 : Int) (a2 : Int) : Option (Int × Int) := (ints_DivS.f a0 a1 a2).bind fun bt570 => (if bt570.2 = 2 then (some (0, bt570.2)) else (if bt570.2 = 3 then (some (0, 0)) else ((ints_Mul.f a0 bt570.1 a2).bind fun t572 => ((ints_Sub.f a0 a1 t572).bind fun t573 => (some (t573, 0))))))
set_option maxHeartbeats 8000000 in
set_option maxRecDepth 100000 in
theorem ints_RemS.calls (a0 : Int) (a1 : Int) (a2 : Int) (r1 : Int) (r2 : Int) (w : World) (h : ints_RemS.f a0 a1 a2 = some (r1, r2)) :
  Calls Try.prog 74 #[.int .i64 a0, .int .u64 a1, .int .u64 a2] w fun e w' => e = .returned (.tuple #[.int .u64 r1, .int .i64 r2]) ∧ Drawn0 w w' := by
 have H : ((ints_DivS.f a0 a1 a2).bind fun bt570 => (if bt570.2 = 2 then (some (0, bt570.2)) else (if bt570.2 = 3 then (some (0, 0)) else ((ints_Mul.f a0 bt570.1 a2).bind fun t572 => ((ints_Sub.f a0 a1 t572).bind fun t573 => (some (t573, 0))))))) = some (r1, r2) := h
 clear h
 replace H := Option.bind_eq_some_iff.mp H
 obtain ⟨⟨t570, t571⟩, A40, H⟩ := H
 replace H : (if t571 = 2 then (some (0, t571)) else (if t571 = 3 then (some (0, 0)) else ((ints_Mul.f a0 t570 a2).bind fun t572 => ((ints_Sub.f a0 a1 t572).bind fun t573 => (some (t573, 0)))))) = some (r1, r2) := H
 have A4 := Aside0.mk A40
 clear A40
 by_cases c5 : t571 = 2
 ·rw [if_pos c5] at H
  have c5b0 : (t571 == 2) = true := beq_iff_eq.mpr c5
  have c5b1 : (t571 != 2) = false := bne_eq_false_iff_eq.mpr c5
  clear c5
  simp only [Option.some.injEq, Prod.mk.injEq] at H
  obtain ⟨rfl, rfl⟩ := H
  go_enter Try.func74, Try.ntmps74
  go_wp2_with (first | ((with_reducible refine gate_callee (f := 73) rfl ?_); refine goesL_ (some 14) rfl rfl Try.func73 (by kernel_rfl) rfl #[.int .i64 a0, .int .u64 a1, .int .u64 a2] rfl (by (try simp only [List.map_toArray, List.map_cons, List.map_nil]); first | done | rfl | (simp only [List.length_drop, List.length_take]; rfl)) ?_; (with_reducible refine (ints_DivS.calls a0 a1 a2 t570 t571 _ A4.out).mono ?_); rintro e w' ⟨rfl, ⟨nd, rfl⟩⟩; refine ⟨_, rfl, ?_⟩))
  go_ret2
  exact ⟨by first | rfl | (simp; done) | (simp [*]; done), by repeat (first | exact Drawn0.refl _ | apply Drawn0.step)⟩
 ·rw [if_neg c5] at H
  have c5b0 : (t571 == 2) = false := beq_eq_false_iff_ne.mpr c5
  have c5b1 : (t571 != 2) = true := bne_iff_ne.mpr c5
  by_cases c6 : t571 = 3
  ·rw [if_pos c6] at H
   have c6b0 : (t571 == 3) = true := beq_iff_eq.mpr c6
   have c6b1 : (t571 != 3) = false := bne_eq_false_iff_eq.mpr c6
   clear c6
   simp only [Option.some.injEq, Prod.mk.injEq] at H
   obtain ⟨rfl, rfl⟩ := H
   go_enter Try.func74, Try.ntmps74
   go_wp2_with (first | ((with_reducible refine gate_callee (f := 73) rfl ?_); refine goesL_ (some 14) rfl rfl Try.func73 (by kernel_rfl) rfl #[.int .i64 a0, .int .u64 a1, .int .u64 a2] rfl (by (try simp only [List.map_toArray, List.map_cons, List.map_nil]); first | done | rfl | (simp only [List.length_drop, List.length_take]; rfl)) ?_; (with_reducible refine (ints_DivS.calls a0 a1 a2 t570 t571 _ A4.out).mono ?_); rintro e w' ⟨rfl, ⟨nd, rfl⟩⟩; refine ⟨_, rfl, ?_⟩))
   go_ret2
   exact ⟨by first | rfl | (simp; done) | (simp [*]; done), by repeat (first | exact Drawn0.refl _ | apply Drawn0.step)⟩
  ·rw [if_neg c6] at H
   have c6b0 : (t571 == 3) = false := beq_eq_false_iff_ne.mpr c6
   have c6b1 : (t571 != 3) = true := bne_iff_ne.mpr c6
   replace H := Option.bind_eq_some_iff.mp H
   obtain ⟨t572, A70, H⟩ := H
   replace H : ((ints_Sub.f a0 a1 t572).bind fun t573 => (some (t573, 0))) = some (r1, r2) := H
   have A7 := Aside0.mk A70
   clear A70
   replace H := Option.bind_eq_some_iff.mp H
   obtain ⟨t573, A80, H⟩ := H
   replace H : (some (t573, 0)) = some (r1, r2) := H
   have A8 := Aside0.mk A80
   clear A80
   simp only [Option.some.injEq, Prod.mk.injEq] at H
   obtain ⟨rfl, rfl⟩ := H
   go_enter Try.func74, Try.ntmps74
   go_wp2_with (first | ((with_reducible refine gate_callee (f := 73) rfl ?_); refine goesL_ (some 14) rfl rfl Try.func73 (by kernel_rfl) rfl #[.int .i64 a0, .int .u64 a1, .int .u64 a2] rfl (by (try simp only [List.map_toArray, List.map_cons, List.map_nil]); first | done | rfl | (simp only [List.length_drop, List.length_take]; rfl)) ?_; (with_reducible refine (ints_DivS.calls a0 a1 a2 t570 t571 _ A4.out).mono ?_); rintro e w' ⟨rfl, ⟨nd, rfl⟩⟩; refine ⟨_, rfl, ?_⟩) | ((with_reducible refine gate_callee (f := 36) rfl ?_); refine goesL_ (some 28) rfl rfl Try.func36 (by kernel_rfl) rfl #[.int .i64 a0, .int .u64 t570, .int .u64 a2] rfl (by (try simp only [List.map_toArray, List.map_cons, List.map_nil]); first | done | rfl | (simp only [List.length_drop, List.length_take]; rfl)) ?_; (with_reducible refine (ints_Mul.calls a0 t570 a2 t572 _ A7.out).mono ?_); rintro e w' ⟨rfl, ⟨nd, rfl⟩⟩; refine ⟨_, rfl, ?_⟩) | ((with_reducible refine gate_callee (f := 35) rfl ?_); refine goesL_ (some 29) rfl rfl Try.func35 (by kernel_rfl) rfl #[.int .i64 a0, .int .u64 a1, .int .u64 t572] rfl (by (try simp only [List.map_toArray, List.map_cons, List.map_nil]); first | done | rfl | (simp only [List.length_drop, List.length_take]; rfl)) ?_; (with_reducible refine (ints_Sub.calls a0 a1 t572 t573 _ A8.out).mono ?_); rintro e w' ⟨rfl, ⟨nd, rfl⟩⟩; refine ⟨_, rfl, ?_⟩))
   go_ret2
   exact ⟨by first | rfl | (simp; done) | (simp [*]; done), by repeat (first | exact Drawn0.refl _ | apply Drawn0.step)⟩

end Go.Proofs.Ytmjfenbbgfohlaa.PA

namespace Go.Proofs.Ytmjfenbbgfohlaa.PA
open Go.RowKit Go.Proofs.YtmjfenbbgfohlaaW.PrintWords Go.Proofs.YtmjfenbbgfohlaaW.PrintLast Go.Proofs.YtmjfenbbgfohlaaW.PrintMore
attribute [local go_sem] max2_int min2_int max_two min_two max_three min_three max_four min_four   -- for this text's walks alone
set_option linter.unusedVariables false
set_option linter.unusedSimpArgs false

/-! ### ints_RemU: function 72 -/
def ints_RemU.f (a0 : Int) (a1 : Int) (a2 : Int) : Option (Int × Int) := (ints_DivU.f a0 a1 a2).bind fun bt566 => (if bt566.2 = 0 then ((ints_Mul.f a0 bt566.1 a2).bind fun t568 => ((ints_Sub.f a0 a1 t568).bind fun t569 => (some (t569, 0)))) else (some (0, bt566.2)))
set_option maxHeartbeats 8000000 in
set_option maxRecDepth 100000 in
theorem ints_RemU.calls (a0 : Int) (a1 : Int) (a2 : Int) (r1 : Int) (r2 : Int) (w : World) (h : ints_RemU.f a0 a1 a2 = some (r1, r2)) :
  Calls Try.prog 72 #[.int .i64 a0, .int .u64 a1, .int .u64 a2] w fun e w' => e = .returned (.tuple #[.int .u64 r1, .int .i64 r2]) ∧ Drawn0 w w' := by
 have H : ((ints_DivU.f a0 a1 a2).bind fun bt566 => (if bt566.2 = 0 then ((ints_Mul.f a0 bt566.1 a2).bind fun t568 => ((ints_Sub.f a0 a1 t568).bind fun t569 => (some (t569, 0)))) else (some (0, bt566.2)))) = some (r1, r2) := h
 clear h
 replace H := Option.bind_eq_some_iff.mp H
 obtain ⟨⟨t566, t567⟩, A40, H⟩ := H
 replace H : (if t567 = 0 then ((ints_Mul.f a0 t566 a2).bind fun t568 => ((ints_Sub.f a0 a1 t568).bind fun t569 => (some (t569, 0)))) else (some (0, t567))) = some (r1, r2) := H
 have A4 := Aside0.mk A40
 clear A40
 by_cases c5 : t567 = 0
 ·rw [if_pos c5] at H
  have c5b0 : (t567 == 0) = true := beq_iff_eq.mpr c5
  have c5b1 : (t567 != 0) = false := bne_eq_false_iff_eq.mpr c5
  clear c5
  replace H := Option.bind_eq_some_iff.mp H
  obtain ⟨t568, A60, H⟩ := H
  replace H : ((ints_Sub.f a0 a1 t568).bind fun t569 => (some (t569, 0))) = some (r1, r2) := H
  have A6 := Aside0.mk A60
  clear A60
  replace H := Option.bind_eq_some_iff.mp H
  obtain ⟨t569, A70, H⟩ := H
  replace H : (some (t569, 0)) = some (r1, r2) := H
  have A7 := Aside0.mk A70
  clear A70
  simp only [Option.some.injEq, Prod.mk.injEq] at H
  obtain ⟨rfl, rfl⟩ := H
  go_enter Try.func72, Try.ntmps72
  go_wp2_with (first | ((with_reducible refine gate_callee (f := 71) rfl ?_); refine goesL_ (some 14) rfl rfl Try.func71 (by kernel_rfl) rfl #[.int .i64 a0, .int .u64 a1, .int .u64 a2] rfl (by (try simp only [List.map_toArray, List.map_cons, List.map_nil]); first | done | rfl | (simp only [List.length_drop, List.length_take]; rfl)) ?_; (with_reducible refine (ints_DivU.calls a0 a1 a2 t566 t567 _ A4.out).mono ?_); rintro e w' ⟨rfl, ⟨nd, rfl⟩⟩; refine ⟨_, rfl, ?_⟩) | ((with_reducible refine gate_callee (f := 36) rfl ?_); refine goesL_ (some 25) rfl rfl Try.func36 (by kernel_rfl) rfl #[.int .i64 a0, .int .u64 t566, .int .u64 a2] rfl (by (try simp only [List.map_toArray, List.map_cons, List.map_nil]); first | done | rfl | (simp only [List.length_drop, List.length_take]; rfl)) ?_; (with_reducible refine (ints_Mul.calls a0 t566 a2 t568 _ A6.out).mono ?_); rintro e w' ⟨rfl, ⟨nd, rfl⟩⟩; refine ⟨_, rfl, ?_⟩) | ((with_reducible refine gate_callee (f := 35) rfl ?_); refine goesL_ (some 26) rfl rfl Try.func35 (by kernel_rfl) rfl #[.int .i64 a0, .int .u64 a1, .int .u64 t568] rfl (by (try simp only [List.map_toArray, List.map_cons, List.map_nil]); first | done | rfl | (simp only [List.length_drop, List.length_take]; rfl)) ?_; (with_reducible refine (ints_Sub.calls a0 a1 t568 t569 _ A7.out).mono ?_); rintro e w' ⟨rfl, ⟨nd, rfl⟩⟩; refine ⟨_, rfl, ?_⟩))
  go_ret2
  exact ⟨by first | rfl | (simp; done) | (simp [*]; done), by repeat (first | exact Drawn0.refl _ | apply Drawn0.step)⟩
 ·rw [if_neg c5] at H
  have c5b0 : (t567 == 0) = false := beq_eq_false_iff_ne.mpr c5
  have c5b1 : (t567 != 0) = true := bne_iff_ne.mpr c5
  simp only [Option.some.injEq, Prod.mk.injEq] at H
  obtain ⟨rfl, rfl⟩ := H
  go_enter Try.func72, Try.ntmps72
  go_wp2_with (first | ((with_reducible refine gate_callee (f := 71) rfl ?_); refine goesL_ (some 14) rfl rfl Try.func71 (by kernel_rfl) rfl #[.int .i64 a0, .int .u64 a1, .int .u64 a2] rfl (by (try simp only [List.map_toArray, List.map_cons, List.map_nil]); first | done | rfl | (simp only [List.length_drop, List.length_take]; rfl)) ?_; (with_reducible refine (ints_DivU.calls a0 a1 a2 t566 t567 _ A4.out).mono ?_); rintro e w' ⟨rfl, ⟨nd, rfl⟩⟩; refine ⟨_, rfl, ?_⟩))
  go_ret2
  exact ⟨by first | rfl | (simp; done) | (simp [*]; done), by repeat (first | exact Drawn0.refl _ | apply Drawn0.step)⟩

end Go.Proofs.Ytmjfenbbgfohlaa.PA

namespace Go.Proofs.Ytmjfenbbgfohlaa.PA
open Go.RowKit Go.Proofs.YtmjfenbbgfohlaaW.PrintWords Go.Proofs.YtmjfenbbgfohlaaW.PrintLast Go.Proofs.YtmjfenbbgfohlaaW.PrintMore
attribute [local go_sem] max2_int min2_int max_two min_two max_three min_three max_four min_four   -- for this text's walks alone
set_option linter.unusedVariables false
set_option linter.unusedSimpArgs false

/-! ### ints_Rotl: function 49 -/
def ints_Rotl.f (a0 : Int) (a1 : Int) (a2 : Int) : Option (Int) := if a0 = 32 then some (IntKind.u64.wrap (Go.bits .or .u32 ((a1 % 4294967296) * 2 ^ min (Go.bits .and .u64 (IntKind.u64.wrap (wrap64 (Int.tmod a2 32))) 31).toNat 32 % 4294967296) ((a1 % 4294967296) / 2 ^ min (IntKind.u64.wrap (32 - Go.bits .and .u64 (IntKind.u64.wrap (wrap64 (Int.tmod a2 32))) 31)).toNat 32))) else if a0 = 64 then some (Go.bits .or .u64 (IntKind.u64.wrap (a1 * 2 ^ min (Go.bits .and .u64 (IntKind.u64.wrap (wrap64 (Int.tmod a2 64))) 63).toNat 64)) (a1 / 2 ^ min (IntKind.u64.wrap (64 - Go.bits .and .u64 (IntKind.u64.wrap (wrap64 (Int.tmod a2 64))) 63)).toNat 64)) else some 0
theorem ints_Rotl.pos (x y : Int) : 0 ≤ Go.bits .and .u64 x y := by
 unfold Go.bits; rw [IntKind.wrap_u64]; omega
theorem ints_Rotl.posw (x : Int) : 0 ≤ IntKind.u64.wrap x := by rw [IntKind.wrap_u64]; omega
set_option maxHeartbeats 8000000 in
set_option maxRecDepth 100000 in
theorem ints_Rotl.calls (a0 : Int) (a1 : Int) (a2 : Int) (r : Int) (w : World) (h : ints_Rotl.f a0 a1 a2 = some r) :
  Calls Try.prog 49 #[.int .i64 a0, .int .u64 a1, .int .u64 a2] w fun e w' => e = .returned (.int .u64 r) ∧ Below w.heap.size w w' := by
 unfold ints_Rotl.f at h
 by_cases c3 : a0 = 32
 ·rw [if_pos c3] at h
  subst c3
  have p0 := eq_true (ints_Rotl.pos (IntKind.u64.wrap (wrap64 (Int.tmod a2 32))) 31)
  have p1 := eq_true (ints_Rotl.posw (32 - Go.bits .and .u64 (IntKind.u64.wrap (wrap64 (Int.tmod a2 32))) 31))
  have H := Aside0.mk (Option.some.inj h)
  clear h
  go_enter Try.func49, Try.ntmps49
  go_wp2_with go_in
  go_ret
  exact ⟨by rw [← H.out]; first | rfl | (simp; done) | (go_simp; done), below_alloc (Below.refl _ _) _⟩
 ·rw [if_neg c3] at h
  by_cases c4 : a0 = 64
  ·rw [if_pos c4] at h
   subst c4
   clear c3
   have p0 := eq_true (ints_Rotl.pos (IntKind.u64.wrap (wrap64 (Int.tmod a2 64))) 63)
   have p1 := eq_true (ints_Rotl.posw (64 - Go.bits .and .u64 (IntKind.u64.wrap (wrap64 (Int.tmod a2 64))) 63))
   have H := Aside0.mk (Option.some.inj h)
   clear h
   go_enter Try.func49, Try.ntmps49
   go_wp2_with go_in
   go_ret
   exact ⟨by rw [← H.out]; first | rfl | (simp; done) | (go_simp; done), below_alloc (Below.refl _ _) _⟩
  ·rw [if_neg c4] at h
   have c3b0 : (a0 == 32) = false := beq_eq_false_iff_ne.mpr c3
   have c4b0 : (a0 == 64) = false := beq_eq_false_iff_ne.mpr c4
   clear c3 c4
   obtain rfl := Option.some.inj h
   clear h
   go_enter Try.func49, Try.ntmps49
   go_wp2_with go_in
   go_ret
   exact ⟨by first | rfl | (simp; done), below_alloc (Below.refl _ _) _⟩

end Go.Proofs.Ytmjfenbbgfohlaa.PA

namespace Go.Proofs.Ytmjfenbbgfohlaa.PA
open Go.RowKit Go.Proofs.YtmjfenbbgfohlaaW.PrintWords Go.Proofs.YtmjfenbbgfohlaaW.PrintLast Go.Proofs.YtmjfenbbgfohlaaW.PrintMore
attribute [local go_sem] max2_int min2_int max_two min_two max_three min_three max_four min_four   -- for this text's walks alone
set_option linter.unusedVariables false
set_option linter.unusedSimpArgs false

/-! ### ints_Rotr: function 50 -/
def ints_Rotr.f (a0 : Int) (a1 : Int) (a2 : Int) : Option (Int) := if a0 = 32 then some (IntKind.u64.wrap (Go.bits .or .u32 ((a1 % 4294967296) * 2 ^ min (Go.bits .and .u64 (IntKind.u64.wrap (wrap64 (-(wrap64 (Int.tmod a2 32))))) 31).toNat 32 % 4294967296) ((a1 % 4294967296) / 2 ^ min (IntKind.u64.wrap (32 - Go.bits .and .u64 (IntKind.u64.wrap (wrap64 (-(wrap64 (Int.tmod a2 32))))) 31)).toNat 32))) else if a0 = 64 then some (Go.bits .or .u64 (IntKind.u64.wrap (a1 * 2 ^ min (Go.bits .and .u64 (IntKind.u64.wrap (wrap64 (-(wrap64 (Int.tmod a2 64))))) 63).toNat 64)) (a1 / 2 ^ min (IntKind.u64.wrap (64 - Go.bits .and .u64 (IntKind.u64.wrap (wrap64 (-(wrap64 (Int.tmod a2 64))))) 63)).toNat 64)) else some 0
theorem ints_Rotr.pos (x y : Int) : 0 ≤ Go.bits .and .u64 x y := by
 unfold Go.bits; rw [IntKind.wrap_u64]; omega
theorem ints_Rotr.posw (x : Int) : 0 ≤ IntKind.u64.wrap x := by rw [IntKind.wrap_u64]; omega
set_option maxHeartbeats 8000000 in
set_option maxRecDepth 100000 in
theorem ints_Rotr.calls (a0 : Int) (a1 : Int) (a2 : Int) (r : Int) (w : World) (h : ints_Rotr.f a0 a1 a2 = some r) :
  Calls Try.prog 50 #[.int .i64 a0, .int .u64 a1, .int .u64 a2] w fun e w' => e = .returned (.int .u64 r) ∧ Below w.heap.size w w' := by
 unfold ints_Rotr.f at h
 by_cases c3 : a0 = 32
 ·rw [if_pos c3] at h
  subst c3
  have p0 := eq_true (ints_Rotr.pos (IntKind.u64.wrap (wrap64 (-(wrap64 (Int.tmod a2 32))))) 31)
  have p1 := eq_true (ints_Rotr.posw (32 - Go.bits .and .u64 (IntKind.u64.wrap (wrap64 (-(wrap64 (Int.tmod a2 32))))) 31))
  have H := Aside0.mk (Option.some.inj h)
  clear h
  go_enter Try.func50, Try.ntmps50
  go_wp2_with go_in
  go_ret
  exact ⟨by rw [← H.out]; first | rfl | (simp; done) | (go_simp; done), below_alloc (Below.refl _ _) _⟩
 ·rw [if_neg c3] at h
  by_cases c4 : a0 = 64
  ·rw [if_pos c4] at h
   subst c4
   clear c3
   have p0 := eq_true (ints_Rotr.pos (IntKind.u64.wrap (wrap64 (-(wrap64 (Int.tmod a2 64))))) 63)
   have p1 := eq_true (ints_Rotr.posw (64 - Go.bits .and .u64 (IntKind.u64.wrap (wrap64 (-(wrap64 (Int.tmod a2 64))))) 63))
   have H := Aside0.mk (Option.some.inj h)
   clear h
   go_enter Try.func50, Try.ntmps50
   go_wp2_with go_in
   go_ret
   exact ⟨by rw [← H.out]; first | rfl | (simp; done) | (go_simp; done), below_alloc (Below.refl _ _) _⟩
  ·rw [if_neg c4] at h
   have c3b0 : (a0 == 32) = false := beq_eq_false_iff_ne.mpr c3
   have c4b0 : (a0 == 64) = false := beq_eq_false_iff_ne.mpr c4
   clear c3 c4
   obtain rfl := Option.some.inj h
   clear h
   go_enter Try.func50, Try.ntmps50
   go_wp2_with go_in
   go_ret
   exact ⟨by first | rfl | (simp; done), below_alloc (Below.refl _ _) _⟩

end Go.Proofs.Ytmjfenbbgfohlaa.PA

namespace Go.Proofs.Ytmjfenbbgfohlaa.PA
open Go.RowKit Go.Proofs.YtmjfenbbgfohlaaW.PrintWords Go.Proofs.YtmjfenbbgfohlaaW.PrintLast Go.Proofs.YtmjfenbbgfohlaaW.PrintMore
attribute [local go_sem] max2_int min2_int max_two min_two max_three min_three max_four min_four   -- for this text's walks alone
set_option linter.unusedVariables false
set_option linter.unusedSimpArgs false

/-! ### ints_by: function 127 -/
def ints_by.f (a0 : Int) (a1 : Int) : Option (Int) := (ints_known.f a0).bind fun t154 => (if t154 = true then (if (IntKind.u64.wrap (a0)) = 0 then (none) else (some (wrap64 (Int.tmod a1 (IntKind.u64.wrap (a0)))))) else (some 0))
set_option maxHeartbeats 8000000 in
set_option maxRecDepth 100000 in
theorem ints_by.calls (a0 : Int) (a1 : Int) (r : Int) (w : World) (h : ints_by.f a0 a1 = some r) :
  Calls Try.prog 127 #[.int .i64 a0, .int .u64 a1] w fun e w' => e = .returned (.int .i64 r) ∧ Drawn0 w w' := by
 have H : ((ints_known.f a0).bind fun t154 => (if t154 = true then (if (IntKind.u64.wrap (a0)) = 0 then (none) else (some (wrap64 (Int.tmod a1 (IntKind.u64.wrap (a0)))))) else (some 0))) = some r := h
 clear h
 replace H := Option.bind_eq_some_iff.mp H
 obtain ⟨t154, A30, H⟩ := H
 replace H : (if t154 = true then (if (IntKind.u64.wrap (a0)) = 0 then (none) else (some (wrap64 (Int.tmod a1 (IntKind.u64.wrap (a0)))))) else (some 0)) = some r := H
 have A3 := Aside0.mk A30
 clear A30
 by_cases c4 : t154 = true
 ·subst c4
  have H1 : (if (IntKind.u64.wrap (a0)) = 0 then (none) else (some (wrap64 (Int.tmod a1 (IntKind.u64.wrap (a0)))))) = some r := by rw [if_pos rfl] at H; exact H
  clear H
  have H := H1
  clear H1
  by_cases c5 : (IntKind.u64.wrap (a0)) = 0
  ·rw [if_pos c5] at H
   exact absurd H (by simp)
  ·rw [if_neg c5] at H
   have c5b0 : ((IntKind.u64.wrap (a0)) == 0) = false := beq_eq_false_iff_ne.mpr c5
   have c5b1 : ((IntKind.u64.wrap (a0)) != 0) = true := bne_iff_ne.mpr c5
   obtain rfl := Option.some.inj H
   go_enter Try.func127, Try.ntmps127
   go_wp2_with (first | ((with_reducible refine gate_callee (f := 142) rfl ?_); refine goesL_ (some 6) rfl rfl Try.func142 (by kernel_rfl) rfl #[.int .i64 a0] rfl (by (try simp only [List.map_toArray, List.map_cons, List.map_nil]); first | done | rfl | (simp only [List.length_drop, List.length_take]; rfl)) ?_; (with_reducible refine (ints_known.calls a0 true _ A3.out).mono ?_); rintro e w' ⟨rfl, ⟨nd, rfl⟩⟩; refine ⟨_, rfl, ?_⟩))
   go_ret
   exact ⟨by first | rfl | (simp; done) | (simp [*]; done), by repeat (first | exact Drawn0.refl _ | apply Drawn0.step)⟩
 ·replace c4 := Bool.eq_false_iff.mpr c4
  subst c4
  have H1 : (some 0) = some r := by rw [if_neg (show ¬ (false = true) by decide)] at H; exact H
  clear H
  have H := H1
  clear H1
  obtain rfl := Option.some.inj H
  go_enter Try.func127, Try.ntmps127
  go_wp2_with (first | ((with_reducible refine gate_callee (f := 142) rfl ?_); refine goesL_ (some 6) rfl rfl Try.func142 (by kernel_rfl) rfl #[.int .i64 a0] rfl (by (try simp only [List.map_toArray, List.map_cons, List.map_nil]); first | done | rfl | (simp only [List.length_drop, List.length_take]; rfl)) ?_; (with_reducible refine (ints_known.calls a0 false _ A3.out).mono ?_); rintro e w' ⟨rfl, ⟨nd, rfl⟩⟩; refine ⟨_, rfl, ?_⟩))
  go_ret
  exact ⟨by first | rfl | (simp; done) | (simp [*]; done), by repeat (first | exact Drawn0.refl _ | apply Drawn0.step)⟩

end Go.Proofs.Ytmjfenbbgfohlaa.PA

namespace Go.Proofs.Ytmjfenbbgfohlaa.PA
open Go.RowKit Go.Proofs.YtmjfenbbgfohlaaW.PrintWords Go.Proofs.YtmjfenbbgfohlaaW.PrintLast Go.Proofs.YtmjfenbbgfohlaaW.PrintMore
attribute [local go_sem] max2_int min2_int max_two min_two max_three min_three max_four min_four   -- for this text's walks alone
set_option linter.unusedVariables false
set_option linter.unusedSimpArgs false

/-! ### ints_ShrS: function 48 -/
def ints_ShrS.f (a0 : Int) (a1 : Int) (a2 : Int) : Option (Int) := (ints_signed.f a0 a1).bind fun t155 => ((ints_by.f a0 a2).bind fun t156 => (if 0 ≤ t156 then ((shape_Cut.f a0 (IntKind.u64.wrap (shr .i64 t155 t156))).bind fun t157 => (some t157)) else (none)))
set_option maxHeartbeats 8000000 in
set_option maxRecDepth 100000 in
theorem ints_ShrS.calls (a0 : Int) (a1 : Int) (a2 : Int) (r : Int) (w : World) (h : ints_ShrS.f a0 a1 a2 = some r) :
  Calls Try.prog 48 #[.int .i64 a0, .int .u64 a1, .int .u64 a2] w fun e w' => e = .returned (.int .u64 r) ∧ Drawn0 w w' := by
 have H : ((ints_signed.f a0 a1).bind fun t155 => ((ints_by.f a0 a2).bind fun t156 => (if 0 ≤ t156 then ((shape_Cut.f a0 (IntKind.u64.wrap (shr .i64 t155 t156))).bind fun t157 => (some t157)) else (none)))) = some r := h
 clear h
 replace H := Option.bind_eq_some_iff.mp H
 obtain ⟨t155, A40, H⟩ := H
 replace H : ((ints_by.f a0 a2).bind fun t156 => (if 0 ≤ t156 then ((shape_Cut.f a0 (IntKind.u64.wrap (shr .i64 t155 t156))).bind fun t157 => (some t157)) else (none))) = some r := H
 have A4 := Aside0.mk A40
 clear A40
 replace H := Option.bind_eq_some_iff.mp H
 obtain ⟨t156, A50, H⟩ := H
 replace H : (if 0 ≤ t156 then ((shape_Cut.f a0 (IntKind.u64.wrap (shr .i64 t155 t156))).bind fun t157 => (some t157)) else (none)) = some r := H
 have A5 := Aside0.mk A50
 clear A50
 by_cases c6 : 0 ≤ t156
 ·rw [if_pos c6] at H
  have c6b0 := eq_true c6
  have c6b1 : decide (0 ≤ t156) = true := decide_eq_true c6
  clear c6
  obtain ⟨ji7, hji7⟩ : ∃ j_ : Int, (shr .i64 t155 t156) = j_ := ⟨_, rfl⟩
  replace H : ((shape_Cut.f a0 (IntKind.u64.wrap (ji7))).bind fun t157 => (some t157)) = some r := by first | (rw [hji7] at H; exact H) | (simp only [hji7] at H ⊢; exact H)
  (try rw [hji7] at A4)
  (try rw [hji7] at A5)
  have hji7_ : (t155 / 2 ^ min t156.toNat 64) = ji7 := hji7
  have hji7z : t156 ≤ 64 → (t155 / 2 ^ t156.toNat) = ji7 := shr_small hji7
  replace H := Option.bind_eq_some_iff.mp H
  obtain ⟨t157, A80, H⟩ := H
  replace H : (some t157) = some r := H
  have A8 := Aside0.mk A80
  clear A80
  obtain rfl := Option.some.inj H
  go_enter Try.func48, Try.ntmps48
  go_wp2_with (first | ((with_reducible refine gate_callee (f := 128) rfl ?_); refine goesL_ (some 10) rfl rfl Try.func128 (by kernel_rfl) rfl #[.int .i64 a0, .int .u64 a1] rfl (by (try simp only [List.map_toArray, List.map_cons, List.map_nil]); first | done | rfl | (simp only [List.length_drop, List.length_take]; rfl)) ?_; (with_reducible refine (ints_signed.calls a0 a1 t155 _ A4.out).mono ?_); rintro e w' ⟨rfl, ⟨nd, rfl⟩⟩; refine ⟨_, rfl, ?_⟩) | ((with_reducible refine gate_callee (f := 127) rfl ?_); refine goesL_ (some 13) rfl rfl Try.func127 (by kernel_rfl) rfl #[.int .i64 a0, .int .u64 a2] rfl (by (try simp only [List.map_toArray, List.map_cons, List.map_nil]); first | done | rfl | (simp only [List.length_drop, List.length_take]; rfl)) ?_; (with_reducible refine (ints_by.calls a0 a2 t156 _ A5.out).mono ?_); rintro e w' ⟨rfl, ⟨nd, rfl⟩⟩; refine ⟨_, rfl, ?_⟩) | ((with_reducible refine gate_callee (f := 42) rfl ?_); refine goesL_ (some 16) rfl rfl Try.func42 (by kernel_rfl) rfl #[.int .i64 a0, .int .u64 (IntKind.u64.wrap (ji7))] rfl (by (try simp only [List.map_toArray, List.map_cons, List.map_nil]); first | done | (simp only [hji7]; rfl) | rfl | (simp only [List.length_drop, List.length_take]; rfl)) ?_; (with_reducible refine (shape_Cut.calls a0 (IntKind.u64.wrap (ji7)) t157 _ A8.out).mono ?_); rintro e w' ⟨rfl, ⟨nd, rfl⟩⟩; refine ⟨_, rfl, ?_⟩))
  go_ret
  exact ⟨by first | rfl | (simp; done) | (simp only [← hji7] <;> (first | rfl | simp)) | (simp [*]; done), by repeat (first | exact Drawn0.refl _ | apply Drawn0.step)⟩
 ·rw [if_neg c6] at H
  exact absurd H (by simp)

end Go.Proofs.Ytmjfenbbgfohlaa.PA

namespace Go.Proofs.Ytmjfenbbgfohlaa.PA
open Go.RowKit Go.Proofs.YtmjfenbbgfohlaaW.PrintWords Go.Proofs.YtmjfenbbgfohlaaW.PrintLast Go.Proofs.YtmjfenbbgfohlaaW.PrintMore
attribute [local go_sem] max2_int min2_int max_two min_two max_three min_three max_four min_four   -- for this text's walks alone
set_option linter.unusedVariables false
set_option linter.unusedSimpArgs false

/-! ### trunnionlaw13_awake: function 33 -/
def trunnionlaw13_awake.f  : Option (Bool) := (ints_DivS.f 32 4294967289 2).bind fun bt163 => (if bt163.1 = 4294967293 then (if bt163.2 = 0 then ((ints_ShrS.f 32 2147483648 33).bind fun t165 => (if t165 = 3221225472 then ((ints_Add.f 32 4294967295 2).bind fun t166 => (some (t166 == 1))) else (some false))) else (some false)) else (some false))
set_option maxHeartbeats 8000000 in
set_option maxRecDepth 100000 in
theorem trunnionlaw13_awake.calls  (r : Bool) (w : World) (h : trunnionlaw13_awake.f  = some r) :
  Calls Try.prog 33 #[] w fun e w' => e = .returned (.bool r) ∧ Drawn0 w w' := by
 have H : ((ints_DivS.f 32 4294967289 2).bind fun bt163 => (if bt163.1 = 4294967293 then (if bt163.2 = 0 then ((ints_ShrS.f 32 2147483648 33).bind fun t165 => (if t165 = 3221225472 then ((ints_Add.f 32 4294967295 2).bind fun t166 => (some (t166 == 1))) else (some false))) else (some false)) else (some false))) = some r := h
 clear h
 replace H := Option.bind_eq_some_iff.mp H
 obtain ⟨⟨t163, t164⟩, A10, H⟩ := H
 replace H : (if t163 = 4294967293 then (if t164 = 0 then ((ints_ShrS.f 32 2147483648 33).bind fun t165 => (if t165 = 3221225472 then ((ints_Add.f 32 4294967295 2).bind fun t166 => (some (t166 == 1))) else (some false))) else (some false)) else (some false)) = some r := H
 have A1 := Aside0.mk A10
 clear A10
 by_cases c2 : t163 = 4294967293
 ·rw [if_pos c2] at H
  have c2b0 : (t163 == 4294967293) = true := beq_iff_eq.mpr c2
  have c2b1 : (t163 != 4294967293) = false := bne_eq_false_iff_eq.mpr c2
  clear c2
  by_cases c3 : t164 = 0
  ·rw [if_pos c3] at H
   have c3b0 : (t164 == 0) = true := beq_iff_eq.mpr c3
   have c3b1 : (t164 != 0) = false := bne_eq_false_iff_eq.mpr c3
   clear c3
   replace H := Option.bind_eq_some_iff.mp H
   obtain ⟨t165, A40, H⟩ := H
   replace H : (if t165 = 3221225472 then ((ints_Add.f 32 4294967295 2).bind fun t166 => (some (t166 == 1))) else (some false)) = some r := H
   have A4 := Aside0.mk A40
   clear A40
   by_cases c5 : t165 = 3221225472
   ·rw [if_pos c5] at H
    have c5b0 : (t165 == 3221225472) = true := beq_iff_eq.mpr c5
    have c5b1 : (t165 != 3221225472) = false := bne_eq_false_iff_eq.mpr c5
    clear c5
    replace H := Option.bind_eq_some_iff.mp H
    obtain ⟨t166, A60, H⟩ := H
    replace H : (some (t166 == 1)) = some r := H
    have A6 := Aside0.mk A60
    clear A60
    obtain rfl := Option.some.inj H
    go_enter Try.func33, Try.ntmps33
    go_wp2_with (first | ((with_reducible refine gate_callee (f := 73) rfl ?_); refine goesL_ (some 4) rfl rfl Try.func73 (by kernel_rfl) rfl #[.int .i64 32, .int .u64 4294967289, .int .u64 2] rfl (by (try simp only [List.map_toArray, List.map_cons, List.map_nil]); first | done | rfl | (simp only [List.length_drop, List.length_take]; rfl)) ?_; (with_reducible refine (ints_DivS.calls 32 4294967289 2 t163 t164 _ A1.out).mono ?_); rintro e w' ⟨rfl, ⟨nd, rfl⟩⟩; refine ⟨_, rfl, ?_⟩) | (go_at_call 48; (with_reducible refine (ints_ShrS.calls 32 2147483648 33 t165 _ A4.out).mono ?_); rintro e w' ⟨rfl, ⟨nd, rfl⟩⟩) | (go_at_call 34; (with_reducible refine (ints_Add.calls 32 4294967295 2 t166 _ A6.out).mono ?_); rintro e w' ⟨rfl, ⟨nd, rfl⟩⟩))
    go_ret
    exact ⟨by first | rfl | (simp; done) | (simp [*]; done), by repeat (first | exact Drawn0.refl _ | apply Drawn0.step)⟩
   ·rw [if_neg c5] at H
    have c5b0 : (t165 == 3221225472) = false := beq_eq_false_iff_ne.mpr c5
    have c5b1 : (t165 != 3221225472) = true := bne_iff_ne.mpr c5
    obtain rfl := Option.some.inj H
    go_enter Try.func33, Try.ntmps33
    go_wp2_with (first | ((with_reducible refine gate_callee (f := 73) rfl ?_); refine goesL_ (some 4) rfl rfl Try.func73 (by kernel_rfl) rfl #[.int .i64 32, .int .u64 4294967289, .int .u64 2] rfl (by (try simp only [List.map_toArray, List.map_cons, List.map_nil]); first | done | rfl | (simp only [List.length_drop, List.length_take]; rfl)) ?_; (with_reducible refine (ints_DivS.calls 32 4294967289 2 t163 t164 _ A1.out).mono ?_); rintro e w' ⟨rfl, ⟨nd, rfl⟩⟩; refine ⟨_, rfl, ?_⟩) | (go_at_call 48; (with_reducible refine (ints_ShrS.calls 32 2147483648 33 t165 _ A4.out).mono ?_); rintro e w' ⟨rfl, ⟨nd, rfl⟩⟩))
    go_ret
    exact ⟨by first | rfl | (simp; done) | (simp [*]; done), by repeat (first | exact Drawn0.refl _ | apply Drawn0.step)⟩
  ·rw [if_neg c3] at H
   have c3b0 : (t164 == 0) = false := beq_eq_false_iff_ne.mpr c3
   have c3b1 : (t164 != 0) = true := bne_iff_ne.mpr c3
   obtain rfl := Option.some.inj H
   go_enter Try.func33, Try.ntmps33
   go_wp2_with (first | ((with_reducible refine gate_callee (f := 73) rfl ?_); refine goesL_ (some 4) rfl rfl Try.func73 (by kernel_rfl) rfl #[.int .i64 32, .int .u64 4294967289, .int .u64 2] rfl (by (try simp only [List.map_toArray, List.map_cons, List.map_nil]); first | done | rfl | (simp only [List.length_drop, List.length_take]; rfl)) ?_; (with_reducible refine (ints_DivS.calls 32 4294967289 2 t163 t164 _ A1.out).mono ?_); rintro e w' ⟨rfl, ⟨nd, rfl⟩⟩; refine ⟨_, rfl, ?_⟩))
   go_ret
   exact ⟨by first | rfl | (simp; done) | (simp [*]; done), by repeat (first | exact Drawn0.refl _ | apply Drawn0.step)⟩
 ·rw [if_neg c2] at H
  have c2b0 : (t163 == 4294967293) = false := beq_eq_false_iff_ne.mpr c2
  have c2b1 : (t163 != 4294967293) = true := bne_iff_ne.mpr c2
  obtain rfl := Option.some.inj H
  go_enter Try.func33, Try.ntmps33
  go_wp2_with (first | ((with_reducible refine gate_callee (f := 73) rfl ?_); refine goesL_ (some 4) rfl rfl Try.func73 (by kernel_rfl) rfl #[.int .i64 32, .int .u64 4294967289, .int .u64 2] rfl (by (try simp only [List.map_toArray, List.map_cons, List.map_nil]); first | done | rfl | (simp only [List.length_drop, List.length_take]; rfl)) ?_; (with_reducible refine (ints_DivS.calls 32 4294967289 2 t163 t164 _ A1.out).mono ?_); rintro e w' ⟨rfl, ⟨nd, rfl⟩⟩; refine ⟨_, rfl, ?_⟩))
  go_ret
  exact ⟨by first | rfl | (simp; done) | (simp [*]; done), by repeat (first | exact Drawn0.refl _ | apply Drawn0.step)⟩

end Go.Proofs.Ytmjfenbbgfohlaa.PA

namespace Go.Proofs.Ytmjfenbbgfohlaa.PA
open Go.RowKit Go.Proofs.YtmjfenbbgfohlaaW.PrintWords Go.Proofs.YtmjfenbbgfohlaaW.PrintLast Go.Proofs.YtmjfenbbgfohlaaW.PrintMore
attribute [local go_sem] max2_int min2_int max_two min_two max_three min_three max_four min_four   -- for this text's walks alone
set_option linter.unusedVariables false
set_option linter.unusedSimpArgs false

/-! ### trunnionlaw13_IntsBack: function 22 -/
mutual
def trunnionlaw13_IntsBack.j0 : Nat → Int → Int → Int → Bool → Option (Bool)
 | 0, _, _, _, _ => none
 | k + 1, x0, x1, x2, x23 => if x23 = true then (some true) else (if 0 ≤ (wrap64 (64 - x0)) then ((ints_DivS.f x0 x1 x2).bind fun bt965 => ((ints_RemS.f x0 x1 x2).bind fun bt967 => ((ints_DivU.f x0 x1 x2).bind fun bt969 => ((ints_RemU.f x0 x1 x2).bind fun bt971 => (if bt965.2 = 0 then (if bt967.2 = bt965.2 then ((ints_Mul.f x0 bt965.1 x2).bind fun t973 => ((ints_Add.f x0 t973 bt967.1).bind fun t974 => (if t974 = (shr .u64 (shl .u64 x1 (wrap64 (64 - x0))) (wrap64 (64 - x0))) then (if bt969.2 = 0 then (if bt971.2 = bt969.2 then ((ints_Mul.f x0 bt969.1 x2).bind fun t975 => ((ints_Add.f x0 t975 bt971.1).bind fun t976 => (if t976 = (shr .u64 (shl .u64 x1 (wrap64 (64 - x0))) (wrap64 (64 - x0))) then ((ints_LtU.f x0 bt971.1 x2).bind fun t977 => (trunnionlaw13_IntsBack.j1 k x0 x1 x2 (shr .u64 (shl .u64 x1 (wrap64 (64 - x0))) (wrap64 (64 - x0))) (!t977))) else (trunnionlaw13_IntsBack.j1 k x0 x1 x2 (shr .u64 (shl .u64 x1 (wrap64 (64 - x0))) (wrap64 (64 - x0))) true)))) else (trunnionlaw13_IntsBack.j1 k x0 x1 x2 (shr .u64 (shl .u64 x1 (wrap64 (64 - x0))) (wrap64 (64 - x0))) true)) else (trunnionlaw13_IntsBack.j1 k x0 x1 x2 (shr .u64 (shl .u64 x1 (wrap64 (64 - x0))) (wrap64 (64 - x0))) false)) else (trunnionlaw13_IntsBack.j1 k x0 x1 x2 (shr .u64 (shl .u64 x1 (wrap64 (64 - x0))) (wrap64 (64 - x0))) true)))) else (trunnionlaw13_IntsBack.j1 k x0 x1 x2 (shr .u64 (shl .u64 x1 (wrap64 (64 - x0))) (wrap64 (64 - x0))) true)) else (if bt969.2 = 0 then (if bt971.2 = bt969.2 then ((ints_Mul.f x0 bt969.1 x2).bind fun t978 => ((ints_Add.f x0 t978 bt971.1).bind fun t979 => (if t979 = (shr .u64 (shl .u64 x1 (wrap64 (64 - x0))) (wrap64 (64 - x0))) then ((ints_LtU.f x0 bt971.1 x2).bind fun t980 => (trunnionlaw13_IntsBack.j1 k x0 x1 x2 (shr .u64 (shl .u64 x1 (wrap64 (64 - x0))) (wrap64 (64 - x0))) (!t980))) else (trunnionlaw13_IntsBack.j1 k x0 x1 x2 (shr .u64 (shl .u64 x1 (wrap64 (64 - x0))) (wrap64 (64 - x0))) true)))) else (trunnionlaw13_IntsBack.j1 k x0 x1 x2 (shr .u64 (shl .u64 x1 (wrap64 (64 - x0))) (wrap64 (64 - x0))) true)) else (trunnionlaw13_IntsBack.j1 k x0 x1 x2 (shr .u64 (shl .u64 x1 (wrap64 (64 - x0))) (wrap64 (64 - x0))) false))))))) else (none))
def trunnionlaw13_IntsBack.j1 : Nat → Int → Int → Int → Int → Bool → Option (Bool)
 | 0, _, _, _, _, _ => none
 | k + 1, x0, x1, x2, x7, x103 => if x103 = true then (some false) else ((ints_Rotl.f x0 x1 x2).bind fun t981 => ((ints_Rotr.f x0 t981 x2).bind fun t982 => (if t982 = x7 then ((ints_Popcnt.f x0 x1).bind fun t983 => ((ints_Popcnt.f x0 (Go.bits .xor .u64 IntKind.u64.max x1)).bind fun t984 => (if (IntKind.u64.wrap (t983 + t984)) = (IntKind.u64.wrap (x0)) then ((ints_Add.f x0 x1 x2).bind fun t985 => ((ints_Sub.f x0 t985 x2).bind fun t986 => (some (t986 == x7)))) else (some false)))) else (some false))))
end
def trunnionlaw13_IntsBack.f (k : Nat) (a0 : Int) (a1 : Int) (a2 : Int) : Option (Bool) := (trunnionlaw13_awake.f).bind fun t964 => (if t964 = true then (if a0 = 32 then (trunnionlaw13_IntsBack.j0 k a0 a1 a2 false) else (trunnionlaw13_IntsBack.j0 k a0 a1 a2 (a0 != 64))) else (some false))
theorem trunnionlaw13_IntsBack.mono_l : ∀ k, (∀ y0 y1 y2 y3, LeO (trunnionlaw13_IntsBack.j0 k y0 y1 y2 y3) (trunnionlaw13_IntsBack.j0 (k + 1) y0 y1 y2 y3)) ∧ (∀ y0 y1 y2 y3 y4, LeO (trunnionlaw13_IntsBack.j1 k y0 y1 y2 y3 y4) (trunnionlaw13_IntsBack.j1 (k + 1) y0 y1 y2 y3 y4))
 | 0 => ⟨fun _ _ _ _ r h => by simp [trunnionlaw13_IntsBack.j0] at h, fun _ _ _ _ _ r h => by simp [trunnionlaw13_IntsBack.j1] at h⟩
 | k + 1 => by
  obtain ⟨ih0, ih1⟩ := trunnionlaw13_IntsBack.mono_l k
  refine ⟨?_, ?_⟩
  ·intro y0 y1 y2 y3
   unfold trunnionlaw13_IntsBack.j0
   repeat' first
   | (with_reducible exact ih0 _ _ _ _)
   | (with_reducible exact ih1 _ _ _ _ _)
   | (with_reducible exact LeO.refl _)
   | (with_reducible exact LeO.none _)
   | (with_reducible refine LeO.ite ?_ ?_)
   | (with_reducible refine LeO.bind ?_ (fun _ => ?_))
   | exact ih0 _ _ _ _
   | exact ih1 _ _ _ _ _
   | exact LeO.none _
   | refine LeO.ite ?_ ?_
   | refine LeO.bind ?_ (fun _ => ?_)
  ·intro y0 y1 y2 y3 y4
   unfold trunnionlaw13_IntsBack.j1
   repeat' first
   | (with_reducible exact ih0 _ _ _ _)
   | (with_reducible exact ih1 _ _ _ _ _)
   | (with_reducible exact LeO.refl _)
   | (with_reducible exact LeO.none _)
   | (with_reducible refine LeO.ite ?_ ?_)
   | (with_reducible refine LeO.bind ?_ (fun _ => ?_))
   | exact ih0 _ _ _ _
   | exact ih1 _ _ _ _ _
   | exact LeO.none _
   | refine LeO.ite ?_ ?_
   | refine LeO.bind ?_ (fun _ => ?_)
theorem trunnionlaw13_IntsBack.mono : ∀ a0 a1 a2 k, LeO (trunnionlaw13_IntsBack.f k a0 a1 a2) (trunnionlaw13_IntsBack.f (k + 1) a0 a1 a2) := by
 intro a0 a1 a2 k
 obtain ⟨ih0, ih1⟩ := trunnionlaw13_IntsBack.mono_l k
 unfold trunnionlaw13_IntsBack.f
 repeat' first
   | (with_reducible exact ih0 _ _ _ _)
   | (with_reducible exact ih1 _ _ _ _ _)
   | (with_reducible exact LeO.refl _)
   | (with_reducible exact LeO.none _)
   | (with_reducible refine LeO.ite ?_ ?_)
   | (with_reducible refine LeO.bind ?_ (fun _ => ?_))
   | exact ih0 _ _ _ _
   | exact ih1 _ _ _ _ _
   | exact LeO.none _
   | refine LeO.ite ?_ ?_
   | refine LeO.bind ?_ (fun _ => ?_)
set_option maxHeartbeats 8000000 in
set_option maxRecDepth 100000 in
theorem trunnionlaw13_IntsBack.calls (k : Nat) (a0 : Int) (a1 : Int) (a2 : Int) (r : Bool) (w : World) (h : trunnionlaw13_IntsBack.f k a0 a1 a2 = some r) (hr_ : Aside0 (r = true)) :
  Calls Try.prog 22 #[.int .i64 a0, .int .u64 a1, .int .u64 a2] w fun e w' => e = .returned (.bool r) ∧ Below w.heap.size w w' := by
 have HB := Aside0.mk (Below.refl w.heap.size w)
 have H : ((trunnionlaw13_awake.f).bind fun t964 => (if t964 = true then (if a0 = 32 then (trunnionlaw13_IntsBack.j0 k a0 a1 a2 false) else (trunnionlaw13_IntsBack.j0 k a0 a1 a2 (a0 != 64))) else (some false))) = some r := h
 clear h
 replace H := Option.bind_eq_some_iff.mp H
 obtain ⟨t964, A40, H⟩ := H
 replace H : (if t964 = true then (if a0 = 32 then (trunnionlaw13_IntsBack.j0 k a0 a1 a2 false) else (trunnionlaw13_IntsBack.j0 k a0 a1 a2 (a0 != 64))) else (some false)) = some r := H
 have A4 := Aside0.mk A40
 clear A40
 by_cases c5 : t964 = true
 ·subst c5
  have H1 : (if a0 = 32 then (trunnionlaw13_IntsBack.j0 k a0 a1 a2 false) else (trunnionlaw13_IntsBack.j0 k a0 a1 a2 (a0 != 64))) = some r := by rw [if_pos rfl] at H; exact H
  clear H
  have H := H1
  clear H1
  have HC6 := Aside0.mk H
  clear H
  go_enter Try.func22, Try.ntmps22
  go_upto_region 3 with (first | ((with_reducible refine gate_callee (f := 33) rfl ?_); refine goesL_ (some 16) rfl rfl Try.func33 (by kernel_rfl) rfl #[] rfl (by (try simp only [List.map_toArray, List.map_cons, List.map_nil]); first | done | rfl | (simp only [List.length_drop, List.length_take]; rfl)) ?_; (with_reducible refine (trunnionlaw13_awake.calls  true _ A4.out).mono ?_); rintro e w' ⟨rfl, ⟨nd, rfl⟩⟩; refine ⟨_, rfl, ?_⟩))
  (try simp only [Act.put, List.setIfInBounds_toArray, List.set_cons_zero, List.set_cons_succ])
  go_cut [23] (fun v23 wc => ∃ (kq : Nat) (x23_5 : Bool), v23 = .bool x23_5 ∧ Aside0 (trunnionlaw13_IntsBack.j0 kq a0 a1 a2 x23_5 = some r) ∧ Aside0 (kq ≤ k) ∧ Aside0 (Below w.heap.size w wc))
  case first =>
   have H := HC6.out
   clear HC6
   by_cases c7 : a0 = 32
   ·rw [if_pos c7] at H
    have c7b0 : (a0 == 32) = true := beq_iff_eq.mpr c7
    have c7b1 : (a0 != 32) = false := bne_eq_false_iff_eq.mpr c7
    clear c7
    (first | rw [c7b0] | (simp only [i64_w, i32_w]; rw [c7b0]) | skip)
    have H' := Aside0.mk H
    clear H
    go_wp2
    go_meet
    case rel => exact ⟨_, (false), (by first | rfl | (simp; done) | (simp [*]; done)), H', ⟨by first | omega | exact Nat.le_refl _⟩, ⟨by repeat (first | (with_reducible first | exact HB.out | apply below_alloc | apply pw_below_drewN | apply below_drew1) | exact HB.out)⟩⟩
   ·rw [if_neg c7] at H
    have c7b0 : (a0 == 32) = false := beq_eq_false_iff_ne.mpr c7
    have c7b1 : (a0 != 32) = true := bne_iff_ne.mpr c7
    (first | rw [c7b0] | (simp only [i64_w, i32_w]; rw [c7b0]) | skip)
    have H' := Aside0.mk H
    clear H
    go_wp2
    go_meet
    case rel => exact ⟨_, ((a0 != 64)), (by first | rfl | (simp; done) | (simp [*]; done)), H', ⟨by first | omega | exact Nat.le_refl _⟩, ⟨by repeat (first | (with_reducible first | exact HB.out | apply below_alloc | apply pw_below_drewN | apply below_drew1) | exact HB.out)⟩⟩
  case rest =>
   clear HC6
   try clear c2
   try clear p2
   try clear c3
   try clear c5
   try clear c7
   try clear c7b0
   try clear c7b1
   obtain ⟨kq, x23_5, rfl, HA, HJ5, HB⟩ := hcut
   cases kq with
   | zero => exact absurd HA.out (by simp [trunnionlaw13_IntsBack.j0])
   | succ kj5 =>
    have H := HA.out
    clear HA
    simp only [trunnionlaw13_IntsBack.j0] at H
    by_cases c8 : x23_5 = true
    ·subst c8
     have H1 : (some true) = some r := by rw [if_pos rfl] at H; exact H
     clear H
     have H := H1
     clear H1
     obtain rfl := Option.some.inj H
     go_wp2
     go_ret
     exact ⟨by first | rfl | (simp [errW_none, errW_some] <;> rfl) | (simp [*, errW_none, errW_some] <;> rfl), by repeat (first | (with_reducible first | exact HB.out | apply below_alloc | apply pw_below_drewN | apply below_drew1) | exact HB.out)⟩
    ·replace c8 := Bool.eq_false_iff.mpr c8
     subst c8
     have H1 : (if 0 ≤ (wrap64 (64 - a0)) then ((ints_DivS.f a0 a1 a2).bind fun bt965 => ((ints_RemS.f a0 a1 a2).bind fun bt967 => ((ints_DivU.f a0 a1 a2).bind fun bt969 => ((ints_RemU.f a0 a1 a2).bind fun bt971 => (if bt965.2 = 0 then (if bt967.2 = bt965.2 then ((ints_Mul.f a0 bt965.1 a2).bind fun t973 => ((ints_Add.f a0 t973 bt967.1).bind fun t974 => (if t974 = (shr .u64 (shl .u64 a1 (wrap64 (64 - a0))) (wrap64 (64 - a0))) then (if bt969.2 = 0 then (if bt971.2 = bt969.2 then ((ints_Mul.f a0 bt969.1 a2).bind fun t975 => ((ints_Add.f a0 t975 bt971.1).bind fun t976 => (if t976 = (shr .u64 (shl .u64 a1 (wrap64 (64 - a0))) (wrap64 (64 - a0))) then ((ints_LtU.f a0 bt971.1 a2).bind fun t977 => (trunnionlaw13_IntsBack.j1 kj5 a0 a1 a2 (shr .u64 (shl .u64 a1 (wrap64 (64 - a0))) (wrap64 (64 - a0))) (!t977))) else (trunnionlaw13_IntsBack.j1 kj5 a0 a1 a2 (shr .u64 (shl .u64 a1 (wrap64 (64 - a0))) (wrap64 (64 - a0))) true)))) else (trunnionlaw13_IntsBack.j1 kj5 a0 a1 a2 (shr .u64 (shl .u64 a1 (wrap64 (64 - a0))) (wrap64 (64 - a0))) true)) else (trunnionlaw13_IntsBack.j1 kj5 a0 a1 a2 (shr .u64 (shl .u64 a1 (wrap64 (64 - a0))) (wrap64 (64 - a0))) false)) else (trunnionlaw13_IntsBack.j1 kj5 a0 a1 a2 (shr .u64 (shl .u64 a1 (wrap64 (64 - a0))) (wrap64 (64 - a0))) true)))) else (trunnionlaw13_IntsBack.j1 kj5 a0 a1 a2 (shr .u64 (shl .u64 a1 (wrap64 (64 - a0))) (wrap64 (64 - a0))) true)) else (if bt969.2 = 0 then (if bt971.2 = bt969.2 then ((ints_Mul.f a0 bt969.1 a2).bind fun t978 => ((ints_Add.f a0 t978 bt971.1).bind fun t979 => (if t979 = (shr .u64 (shl .u64 a1 (wrap64 (64 - a0))) (wrap64 (64 - a0))) then ((ints_LtU.f a0 bt971.1 a2).bind fun t980 => (trunnionlaw13_IntsBack.j1 kj5 a0 a1 a2 (shr .u64 (shl .u64 a1 (wrap64 (64 - a0))) (wrap64 (64 - a0))) (!t980))) else (trunnionlaw13_IntsBack.j1 kj5 a0 a1 a2 (shr .u64 (shl .u64 a1 (wrap64 (64 - a0))) (wrap64 (64 - a0))) true)))) else (trunnionlaw13_IntsBack.j1 kj5 a0 a1 a2 (shr .u64 (shl .u64 a1 (wrap64 (64 - a0))) (wrap64 (64 - a0))) true)) else (trunnionlaw13_IntsBack.j1 kj5 a0 a1 a2 (shr .u64 (shl .u64 a1 (wrap64 (64 - a0))) (wrap64 (64 - a0))) false))))))) else (none)) = some r := by rw [if_neg (show ¬ (false = true) by decide)] at H; exact H
     clear H
     have H := H1
     clear H1
     obtain ⟨ji9, hji9⟩ : ∃ j_ : Int, (wrap64 (64 - a0)) = j_ := ⟨_, rfl⟩
     replace H : (if 0 ≤ (ji9) then ((ints_DivS.f a0 a1 a2).bind fun bt965 => ((ints_RemS.f a0 a1 a2).bind fun bt967 => ((ints_DivU.f a0 a1 a2).bind fun bt969 => ((ints_RemU.f a0 a1 a2).bind fun bt971 => (if bt965.2 = 0 then (if bt967.2 = bt965.2 then ((ints_Mul.f a0 bt965.1 a2).bind fun t973 => ((ints_Add.f a0 t973 bt967.1).bind fun t974 => (if t974 = (shr .u64 (shl .u64 a1 (ji9)) (ji9)) then (if bt969.2 = 0 then (if bt971.2 = bt969.2 then ((ints_Mul.f a0 bt969.1 a2).bind fun t975 => ((ints_Add.f a0 t975 bt971.1).bind fun t976 => (if t976 = (shr .u64 (shl .u64 a1 (ji9)) (ji9)) then ((ints_LtU.f a0 bt971.1 a2).bind fun t977 => (trunnionlaw13_IntsBack.j1 kj5 a0 a1 a2 (shr .u64 (shl .u64 a1 (ji9)) (ji9)) (!t977))) else (trunnionlaw13_IntsBack.j1 kj5 a0 a1 a2 (shr .u64 (shl .u64 a1 (ji9)) (ji9)) true)))) else (trunnionlaw13_IntsBack.j1 kj5 a0 a1 a2 (shr .u64 (shl .u64 a1 (ji9)) (ji9)) true)) else (trunnionlaw13_IntsBack.j1 kj5 a0 a1 a2 (shr .u64 (shl .u64 a1 (ji9)) (ji9)) false)) else (trunnionlaw13_IntsBack.j1 kj5 a0 a1 a2 (shr .u64 (shl .u64 a1 (ji9)) (ji9)) true)))) else (trunnionlaw13_IntsBack.j1 kj5 a0 a1 a2 (shr .u64 (shl .u64 a1 (ji9)) (ji9)) true)) else (if bt969.2 = 0 then (if bt971.2 = bt969.2 then ((ints_Mul.f a0 bt969.1 a2).bind fun t978 => ((ints_Add.f a0 t978 bt971.1).bind fun t979 => (if t979 = (shr .u64 (shl .u64 a1 (ji9)) (ji9)) then ((ints_LtU.f a0 bt971.1 a2).bind fun t980 => (trunnionlaw13_IntsBack.j1 kj5 a0 a1 a2 (shr .u64 (shl .u64 a1 (ji9)) (ji9)) (!t980))) else (trunnionlaw13_IntsBack.j1 kj5 a0 a1 a2 (shr .u64 (shl .u64 a1 (ji9)) (ji9)) true)))) else (trunnionlaw13_IntsBack.j1 kj5 a0 a1 a2 (shr .u64 (shl .u64 a1 (ji9)) (ji9)) true)) else (trunnionlaw13_IntsBack.j1 kj5 a0 a1 a2 (shr .u64 (shl .u64 a1 (ji9)) (ji9)) false))))))) else (none)) = some r := by first | (rw [hji9] at H; exact H) | (simp only [hji9] at H ⊢; exact H)
     have hji9w : (IntKind.i64.wrap (64 - a0)) = ji9 := (i64_w _).trans hji9
     by_cases c10 : 0 ≤ (ji9)
     ·rw [if_pos c10] at H
      have c10b0 := eq_true c10
      have c10b1 : decide (0 ≤ (ji9)) = true := decide_eq_true c10
      clear c10
      obtain ⟨ji11, hji11⟩ : ∃ j_ : Int, (shl .u64 a1 (ji9)) = j_ := ⟨_, rfl⟩
      replace H : ((ints_DivS.f a0 a1 a2).bind fun bt965 => ((ints_RemS.f a0 a1 a2).bind fun bt967 => ((ints_DivU.f a0 a1 a2).bind fun bt969 => ((ints_RemU.f a0 a1 a2).bind fun bt971 => (if bt965.2 = 0 then (if bt967.2 = bt965.2 then ((ints_Mul.f a0 bt965.1 a2).bind fun t973 => ((ints_Add.f a0 t973 bt967.1).bind fun t974 => (if t974 = (shr .u64 (ji11) (ji9)) then (if bt969.2 = 0 then (if bt971.2 = bt969.2 then ((ints_Mul.f a0 bt969.1 a2).bind fun t975 => ((ints_Add.f a0 t975 bt971.1).bind fun t976 => (if t976 = (shr .u64 (ji11) (ji9)) then ((ints_LtU.f a0 bt971.1 a2).bind fun t977 => (trunnionlaw13_IntsBack.j1 kj5 a0 a1 a2 (shr .u64 (ji11) (ji9)) (!t977))) else (trunnionlaw13_IntsBack.j1 kj5 a0 a1 a2 (shr .u64 (ji11) (ji9)) true)))) else (trunnionlaw13_IntsBack.j1 kj5 a0 a1 a2 (shr .u64 (ji11) (ji9)) true)) else (trunnionlaw13_IntsBack.j1 kj5 a0 a1 a2 (shr .u64 (ji11) (ji9)) false)) else (trunnionlaw13_IntsBack.j1 kj5 a0 a1 a2 (shr .u64 (ji11) (ji9)) true)))) else (trunnionlaw13_IntsBack.j1 kj5 a0 a1 a2 (shr .u64 (ji11) (ji9)) true)) else (if bt969.2 = 0 then (if bt971.2 = bt969.2 then ((ints_Mul.f a0 bt969.1 a2).bind fun t978 => ((ints_Add.f a0 t978 bt971.1).bind fun t979 => (if t979 = (shr .u64 (ji11) (ji9)) then ((ints_LtU.f a0 bt971.1 a2).bind fun t980 => (trunnionlaw13_IntsBack.j1 kj5 a0 a1 a2 (shr .u64 (ji11) (ji9)) (!t980))) else (trunnionlaw13_IntsBack.j1 kj5 a0 a1 a2 (shr .u64 (ji11) (ji9)) true)))) else (trunnionlaw13_IntsBack.j1 kj5 a0 a1 a2 (shr .u64 (ji11) (ji9)) true)) else (trunnionlaw13_IntsBack.j1 kj5 a0 a1 a2 (shr .u64 (ji11) (ji9)) false))))))) = some r := by first | (rw [hji11] at H; exact H) | (simp only [hji11] at H ⊢; exact H)
      have hji11_ : (IntKind.u64.wrap (a1 * 2 ^ min (ji9).toNat 64)) = ji11 := hji11
      have hji11z : (ji9) ≤ 64 → (IntKind.u64.wrap (a1 * 2 ^ (ji9).toNat)) = ji11 := shl_small hji11
      have c12b0 := eq_true (of_decide_eq_true (by first | (with_reducible assumption) | assumption) : 0 ≤ (ji9))
      obtain ⟨ji13, hji13⟩ : ∃ j_ : Int, (shr .u64 (ji11) (ji9)) = j_ := ⟨_, rfl⟩
      replace H : ((ints_DivS.f a0 a1 a2).bind fun bt965 => ((ints_RemS.f a0 a1 a2).bind fun bt967 => ((ints_DivU.f a0 a1 a2).bind fun bt969 => ((ints_RemU.f a0 a1 a2).bind fun bt971 => (if bt965.2 = 0 then (if bt967.2 = bt965.2 then ((ints_Mul.f a0 bt965.1 a2).bind fun t973 => ((ints_Add.f a0 t973 bt967.1).bind fun t974 => (if t974 = (ji13) then (if bt969.2 = 0 then (if bt971.2 = bt969.2 then ((ints_Mul.f a0 bt969.1 a2).bind fun t975 => ((ints_Add.f a0 t975 bt971.1).bind fun t976 => (if t976 = (ji13) then ((ints_LtU.f a0 bt971.1 a2).bind fun t977 => (trunnionlaw13_IntsBack.j1 kj5 a0 a1 a2 ji13 (!t977))) else (trunnionlaw13_IntsBack.j1 kj5 a0 a1 a2 ji13 true)))) else (trunnionlaw13_IntsBack.j1 kj5 a0 a1 a2 ji13 true)) else (trunnionlaw13_IntsBack.j1 kj5 a0 a1 a2 ji13 false)) else (trunnionlaw13_IntsBack.j1 kj5 a0 a1 a2 ji13 true)))) else (trunnionlaw13_IntsBack.j1 kj5 a0 a1 a2 ji13 true)) else (if bt969.2 = 0 then (if bt971.2 = bt969.2 then ((ints_Mul.f a0 bt969.1 a2).bind fun t978 => ((ints_Add.f a0 t978 bt971.1).bind fun t979 => (if t979 = (ji13) then ((ints_LtU.f a0 bt971.1 a2).bind fun t980 => (trunnionlaw13_IntsBack.j1 kj5 a0 a1 a2 ji13 (!t980))) else (trunnionlaw13_IntsBack.j1 kj5 a0 a1 a2 ji13 true)))) else (trunnionlaw13_IntsBack.j1 kj5 a0 a1 a2 ji13 true)) else (trunnionlaw13_IntsBack.j1 kj5 a0 a1 a2 ji13 false))))))) = some r := by first | (rw [hji13] at H; exact H) | (simp only [hji13] at H ⊢; exact H)
      have hji13_ : ((ji11) / 2 ^ min (ji9).toNat 64) = ji13 := hji13
      have hji13z : (ji9) ≤ 64 → ((ji11) / 2 ^ (ji9).toNat) = ji13 := shr_small hji13
      replace H := Option.bind_eq_some_iff.mp H
      obtain ⟨⟨t965, t966⟩, A140, H⟩ := H
      replace H : ((ints_RemS.f a0 a1 a2).bind fun bt967 => ((ints_DivU.f a0 a1 a2).bind fun bt969 => ((ints_RemU.f a0 a1 a2).bind fun bt971 => (if t966 = 0 then (if bt967.2 = t966 then ((ints_Mul.f a0 t965 a2).bind fun t973 => ((ints_Add.f a0 t973 bt967.1).bind fun t974 => (if t974 = (ji13) then (if bt969.2 = 0 then (if bt971.2 = bt969.2 then ((ints_Mul.f a0 bt969.1 a2).bind fun t975 => ((ints_Add.f a0 t975 bt971.1).bind fun t976 => (if t976 = (ji13) then ((ints_LtU.f a0 bt971.1 a2).bind fun t977 => (trunnionlaw13_IntsBack.j1 kj5 a0 a1 a2 ji13 (!t977))) else (trunnionlaw13_IntsBack.j1 kj5 a0 a1 a2 ji13 true)))) else (trunnionlaw13_IntsBack.j1 kj5 a0 a1 a2 ji13 true)) else (trunnionlaw13_IntsBack.j1 kj5 a0 a1 a2 ji13 false)) else (trunnionlaw13_IntsBack.j1 kj5 a0 a1 a2 ji13 true)))) else (trunnionlaw13_IntsBack.j1 kj5 a0 a1 a2 ji13 true)) else (if bt969.2 = 0 then (if bt971.2 = bt969.2 then ((ints_Mul.f a0 bt969.1 a2).bind fun t978 => ((ints_Add.f a0 t978 bt971.1).bind fun t979 => (if t979 = (ji13) then ((ints_LtU.f a0 bt971.1 a2).bind fun t980 => (trunnionlaw13_IntsBack.j1 kj5 a0 a1 a2 ji13 (!t980))) else (trunnionlaw13_IntsBack.j1 kj5 a0 a1 a2 ji13 true)))) else (trunnionlaw13_IntsBack.j1 kj5 a0 a1 a2 ji13 true)) else (trunnionlaw13_IntsBack.j1 kj5 a0 a1 a2 ji13 false)))))) = some r := H
      have A14 := Aside0.mk A140
      clear A140
      replace H := Option.bind_eq_some_iff.mp H
      obtain ⟨⟨t967, t968⟩, A150, H⟩ := H
      replace H : ((ints_DivU.f a0 a1 a2).bind fun bt969 => ((ints_RemU.f a0 a1 a2).bind fun bt971 => (if t966 = 0 then (if t968 = t966 then ((ints_Mul.f a0 t965 a2).bind fun t973 => ((ints_Add.f a0 t973 t967).bind fun t974 => (if t974 = (ji13) then (if bt969.2 = 0 then (if bt971.2 = bt969.2 then ((ints_Mul.f a0 bt969.1 a2).bind fun t975 => ((ints_Add.f a0 t975 bt971.1).bind fun t976 => (if t976 = (ji13) then ((ints_LtU.f a0 bt971.1 a2).bind fun t977 => (trunnionlaw13_IntsBack.j1 kj5 a0 a1 a2 ji13 (!t977))) else (trunnionlaw13_IntsBack.j1 kj5 a0 a1 a2 ji13 true)))) else (trunnionlaw13_IntsBack.j1 kj5 a0 a1 a2 ji13 true)) else (trunnionlaw13_IntsBack.j1 kj5 a0 a1 a2 ji13 false)) else (trunnionlaw13_IntsBack.j1 kj5 a0 a1 a2 ji13 true)))) else (trunnionlaw13_IntsBack.j1 kj5 a0 a1 a2 ji13 true)) else (if bt969.2 = 0 then (if bt971.2 = bt969.2 then ((ints_Mul.f a0 bt969.1 a2).bind fun t978 => ((ints_Add.f a0 t978 bt971.1).bind fun t979 => (if t979 = (ji13) then ((ints_LtU.f a0 bt971.1 a2).bind fun t980 => (trunnionlaw13_IntsBack.j1 kj5 a0 a1 a2 ji13 (!t980))) else (trunnionlaw13_IntsBack.j1 kj5 a0 a1 a2 ji13 true)))) else (trunnionlaw13_IntsBack.j1 kj5 a0 a1 a2 ji13 true)) else (trunnionlaw13_IntsBack.j1 kj5 a0 a1 a2 ji13 false))))) = some r := H
      have A15 := Aside0.mk A150
      clear A150
      replace H := Option.bind_eq_some_iff.mp H
      obtain ⟨⟨t969, t970⟩, A160, H⟩ := H
      replace H : ((ints_RemU.f a0 a1 a2).bind fun bt971 => (if t966 = 0 then (if t968 = t966 then ((ints_Mul.f a0 t965 a2).bind fun t973 => ((ints_Add.f a0 t973 t967).bind fun t974 => (if t974 = (ji13) then (if t970 = 0 then (if bt971.2 = t970 then ((ints_Mul.f a0 t969 a2).bind fun t975 => ((ints_Add.f a0 t975 bt971.1).bind fun t976 => (if t976 = (ji13) then ((ints_LtU.f a0 bt971.1 a2).bind fun t977 => (trunnionlaw13_IntsBack.j1 kj5 a0 a1 a2 ji13 (!t977))) else (trunnionlaw13_IntsBack.j1 kj5 a0 a1 a2 ji13 true)))) else (trunnionlaw13_IntsBack.j1 kj5 a0 a1 a2 ji13 true)) else (trunnionlaw13_IntsBack.j1 kj5 a0 a1 a2 ji13 false)) else (trunnionlaw13_IntsBack.j1 kj5 a0 a1 a2 ji13 true)))) else (trunnionlaw13_IntsBack.j1 kj5 a0 a1 a2 ji13 true)) else (if t970 = 0 then (if bt971.2 = t970 then ((ints_Mul.f a0 t969 a2).bind fun t978 => ((ints_Add.f a0 t978 bt971.1).bind fun t979 => (if t979 = (ji13) then ((ints_LtU.f a0 bt971.1 a2).bind fun t980 => (trunnionlaw13_IntsBack.j1 kj5 a0 a1 a2 ji13 (!t980))) else (trunnionlaw13_IntsBack.j1 kj5 a0 a1 a2 ji13 true)))) else (trunnionlaw13_IntsBack.j1 kj5 a0 a1 a2 ji13 true)) else (trunnionlaw13_IntsBack.j1 kj5 a0 a1 a2 ji13 false)))) = some r := H
      have A16 := Aside0.mk A160
      clear A160
      replace H := Option.bind_eq_some_iff.mp H
      obtain ⟨⟨t971, t972⟩, A170, H⟩ := H
      replace H : (if t966 = 0 then (if t968 = t966 then ((ints_Mul.f a0 t965 a2).bind fun t973 => ((ints_Add.f a0 t973 t967).bind fun t974 => (if t974 = (ji13) then (if t970 = 0 then (if t972 = t970 then ((ints_Mul.f a0 t969 a2).bind fun t975 => ((ints_Add.f a0 t975 t971).bind fun t976 => (if t976 = (ji13) then ((ints_LtU.f a0 t971 a2).bind fun t977 => (trunnionlaw13_IntsBack.j1 kj5 a0 a1 a2 ji13 (!t977))) else (trunnionlaw13_IntsBack.j1 kj5 a0 a1 a2 ji13 true)))) else (trunnionlaw13_IntsBack.j1 kj5 a0 a1 a2 ji13 true)) else (trunnionlaw13_IntsBack.j1 kj5 a0 a1 a2 ji13 false)) else (trunnionlaw13_IntsBack.j1 kj5 a0 a1 a2 ji13 true)))) else (trunnionlaw13_IntsBack.j1 kj5 a0 a1 a2 ji13 true)) else (if t970 = 0 then (if t972 = t970 then ((ints_Mul.f a0 t969 a2).bind fun t978 => ((ints_Add.f a0 t978 t971).bind fun t979 => (if t979 = (ji13) then ((ints_LtU.f a0 t971 a2).bind fun t980 => (trunnionlaw13_IntsBack.j1 kj5 a0 a1 a2 ji13 (!t980))) else (trunnionlaw13_IntsBack.j1 kj5 a0 a1 a2 ji13 true)))) else (trunnionlaw13_IntsBack.j1 kj5 a0 a1 a2 ji13 true)) else (trunnionlaw13_IntsBack.j1 kj5 a0 a1 a2 ji13 false))) = some r := H
      have A17 := Aside0.mk A170
      clear A170
      have HC18 := Aside0.mk H
      clear H
      go_upto_region 10 with (first | ((with_reducible refine gate_callee (f := 73) rfl ?_); refine goesL_ (some 35) rfl rfl Try.func73 (by kernel_rfl) rfl #[.int .i64 a0, .int .u64 a1, .int .u64 a2] rfl (by (try simp only [List.map_toArray, List.map_cons, List.map_nil]); first | done | rfl | (simp only [List.length_drop, List.length_take]; rfl)) ?_; (with_reducible refine (ints_DivS.calls a0 a1 a2 t965 t966 _ A14.out).mono ?_); rintro e w' ⟨rfl, ⟨nd, rfl⟩⟩; refine ⟨_, rfl, ?_⟩) | ((with_reducible refine gate_callee (f := 74) rfl ?_); refine goesL_ (some 42) rfl rfl Try.func74 (by kernel_rfl) rfl #[.int .i64 a0, .int .u64 a1, .int .u64 a2] rfl (by (try simp only [List.map_toArray, List.map_cons, List.map_nil]); first | done | rfl | (simp only [List.length_drop, List.length_take]; rfl)) ?_; (with_reducible refine (ints_RemS.calls a0 a1 a2 t967 t968 _ A15.out).mono ?_); rintro e w' ⟨rfl, ⟨nd, rfl⟩⟩; refine ⟨_, rfl, ?_⟩) | ((with_reducible refine gate_callee (f := 71) rfl ?_); refine goesL_ (some 49) rfl rfl Try.func71 (by kernel_rfl) rfl #[.int .i64 a0, .int .u64 a1, .int .u64 a2] rfl (by (try simp only [List.map_toArray, List.map_cons, List.map_nil]); first | done | rfl | (simp only [List.length_drop, List.length_take]; rfl)) ?_; (with_reducible refine (ints_DivU.calls a0 a1 a2 t969 t970 _ A16.out).mono ?_); rintro e w' ⟨rfl, ⟨nd, rfl⟩⟩; refine ⟨_, rfl, ?_⟩) | ((with_reducible refine gate_callee (f := 72) rfl ?_); refine goesL_ (some 56) rfl rfl Try.func72 (by kernel_rfl) rfl #[.int .i64 a0, .int .u64 a1, .int .u64 a2] rfl (by (try simp only [List.map_toArray, List.map_cons, List.map_nil]); first | done | rfl | (simp only [List.length_drop, List.length_take]; rfl)) ?_; (with_reducible refine (ints_RemU.calls a0 a1 a2 t971 t972 _ A17.out).mono ?_); rintro e w' ⟨rfl, ⟨nd, rfl⟩⟩; refine ⟨_, rfl, ?_⟩))
      (try simp only [Act.put, List.setIfInBounds_toArray, List.set_cons_zero, List.set_cons_succ])
      go_cut [103] (fun v103 wc => ∃ (kq : Nat) (x103_17 : Bool), v103 = .bool x103_17 ∧ Aside0 (trunnionlaw13_IntsBack.j1 kq a0 a1 a2 ji13 x103_17 = some r) ∧ Aside0 (kq ≤ kj5) ∧ Aside0 (Below w.heap.size w wc))
      case first =>
       have H := HC18.out
       clear HC18
       by_cases c19 : t966 = 0
       ·rw [if_pos c19] at H
        have c19b0 : (t966 == 0) = true := beq_iff_eq.mpr c19
        have c19b1 : (t966 != 0) = false := bne_eq_false_iff_eq.mpr c19
        clear c19
        (first | rw [c19b0] | (simp only [i64_w, i32_w]; rw [c19b0]) | skip)
        by_cases c20 : t968 = t966
        ·rw [if_pos c20] at H
         have c20b0 : (t968 == t966) = true := beq_iff_eq.mpr c20
         have c20b1 : (t968 != t966) = false := bne_eq_false_iff_eq.mpr c20
         clear c20
         replace H := Option.bind_eq_some_iff.mp H
         obtain ⟨t973, A210, H⟩ := H
         replace H : ((ints_Add.f a0 t973 t967).bind fun t974 => (if t974 = (ji13) then (if t970 = 0 then (if t972 = t970 then ((ints_Mul.f a0 t969 a2).bind fun t975 => ((ints_Add.f a0 t975 t971).bind fun t976 => (if t976 = (ji13) then ((ints_LtU.f a0 t971 a2).bind fun t977 => (trunnionlaw13_IntsBack.j1 kj5 a0 a1 a2 ji13 (!t977))) else (trunnionlaw13_IntsBack.j1 kj5 a0 a1 a2 ji13 true)))) else (trunnionlaw13_IntsBack.j1 kj5 a0 a1 a2 ji13 true)) else (trunnionlaw13_IntsBack.j1 kj5 a0 a1 a2 ji13 false)) else (trunnionlaw13_IntsBack.j1 kj5 a0 a1 a2 ji13 true))) = some r := H
         have A21 := Aside0.mk A210
         clear A210
         replace H := Option.bind_eq_some_iff.mp H
         obtain ⟨t974, A220, H⟩ := H
         replace H : (if t974 = (ji13) then (if t970 = 0 then (if t972 = t970 then ((ints_Mul.f a0 t969 a2).bind fun t975 => ((ints_Add.f a0 t975 t971).bind fun t976 => (if t976 = (ji13) then ((ints_LtU.f a0 t971 a2).bind fun t977 => (trunnionlaw13_IntsBack.j1 kj5 a0 a1 a2 ji13 (!t977))) else (trunnionlaw13_IntsBack.j1 kj5 a0 a1 a2 ji13 true)))) else (trunnionlaw13_IntsBack.j1 kj5 a0 a1 a2 ji13 true)) else (trunnionlaw13_IntsBack.j1 kj5 a0 a1 a2 ji13 false)) else (trunnionlaw13_IntsBack.j1 kj5 a0 a1 a2 ji13 true)) = some r := H
         have A22 := Aside0.mk A220
         clear A220
         by_cases c23 : t974 = (ji13)
         ·rw [if_pos c23] at H
          have c23b0 : (t974 == (ji13)) = true := beq_iff_eq.mpr c23
          have c23b1 : (t974 != (ji13)) = false := bne_eq_false_iff_eq.mpr c23
          clear c23
          by_cases c24 : t970 = 0
          ·rw [if_pos c24] at H
           have c24b0 : (t970 == 0) = true := beq_iff_eq.mpr c24
           have c24b1 : (t970 != 0) = false := bne_eq_false_iff_eq.mpr c24
           clear c24
           by_cases c25 : t972 = t970
           ·rw [if_pos c25] at H
            have c25b0 : (t972 == t970) = true := beq_iff_eq.mpr c25
            have c25b1 : (t972 != t970) = false := bne_eq_false_iff_eq.mpr c25
            clear c25
            replace H := Option.bind_eq_some_iff.mp H
            obtain ⟨t975, A260, H⟩ := H
            replace H : ((ints_Add.f a0 t975 t971).bind fun t976 => (if t976 = (ji13) then ((ints_LtU.f a0 t971 a2).bind fun t977 => (trunnionlaw13_IntsBack.j1 kj5 a0 a1 a2 ji13 (!t977))) else (trunnionlaw13_IntsBack.j1 kj5 a0 a1 a2 ji13 true))) = some r := H
            have A26 := Aside0.mk A260
            clear A260
            replace H := Option.bind_eq_some_iff.mp H
            obtain ⟨t976, A270, H⟩ := H
            replace H : (if t976 = (ji13) then ((ints_LtU.f a0 t971 a2).bind fun t977 => (trunnionlaw13_IntsBack.j1 kj5 a0 a1 a2 ji13 (!t977))) else (trunnionlaw13_IntsBack.j1 kj5 a0 a1 a2 ji13 true)) = some r := H
            have A27 := Aside0.mk A270
            clear A270
            by_cases c28 : t976 = (ji13)
            ·rw [if_pos c28] at H
             have c28b0 : (t976 == (ji13)) = true := beq_iff_eq.mpr c28
             have c28b1 : (t976 != (ji13)) = false := bne_eq_false_iff_eq.mpr c28
             clear c28
             replace H := Option.bind_eq_some_iff.mp H
             obtain ⟨t977, A290, H⟩ := H
             replace H : (trunnionlaw13_IntsBack.j1 kj5 a0 a1 a2 ji13 (!t977)) = some r := H
             have A29 := Aside0.mk A290
             clear A290
             have H' := Aside0.mk H
             clear H
             go_wp2_with (first | (go_at_call 36; (with_reducible refine (ints_Mul.calls a0 t965 a2 t973 _ A21.out).mono ?_); rintro e w' ⟨rfl, ⟨nd, rfl⟩⟩) | (go_at_call 34; (with_reducible refine (ints_Add.calls a0 t973 t967 t974 _ A22.out).mono ?_); rintro e w' ⟨rfl, ⟨nd, rfl⟩⟩) | (go_at_call 36; (with_reducible refine (ints_Mul.calls a0 t969 a2 t975 _ A26.out).mono ?_); rintro e w' ⟨rfl, ⟨nd, rfl⟩⟩) | (go_at_call 34; (with_reducible refine (ints_Add.calls a0 t975 t971 t976 _ A27.out).mono ?_); rintro e w' ⟨rfl, ⟨nd, rfl⟩⟩) | (go_at_call 106; (with_reducible refine (ints_LtU.calls a0 t971 a2 t977 _ A29.out).mono ?_); rintro e w' ⟨rfl, ⟨nd, rfl⟩⟩))
             go_meet
             case rel => exact ⟨_, (!t977), (by first | rfl | (simp; done) | (simp [*]; done)), H', ⟨by have := HJ5.out; first | omega | exact Nat.le_refl _⟩, ⟨by repeat (first | (with_reducible first | exact HB.out | apply below_alloc | apply pw_below_drewN | apply below_drew1) | exact HB.out)⟩⟩
            ·rw [if_neg c28] at H
             have c28b0 : (t976 == (ji13)) = false := beq_eq_false_iff_ne.mpr c28
             have c28b1 : (t976 != (ji13)) = true := bne_iff_ne.mpr c28
             have H' := Aside0.mk H
             clear H
             go_wp2_with (first | (go_at_call 36; (with_reducible refine (ints_Mul.calls a0 t965 a2 t973 _ A21.out).mono ?_); rintro e w' ⟨rfl, ⟨nd, rfl⟩⟩) | (go_at_call 34; (with_reducible refine (ints_Add.calls a0 t973 t967 t974 _ A22.out).mono ?_); rintro e w' ⟨rfl, ⟨nd, rfl⟩⟩) | (go_at_call 36; (with_reducible refine (ints_Mul.calls a0 t969 a2 t975 _ A26.out).mono ?_); rintro e w' ⟨rfl, ⟨nd, rfl⟩⟩) | (go_at_call 34; (with_reducible refine (ints_Add.calls a0 t975 t971 t976 _ A27.out).mono ?_); rintro e w' ⟨rfl, ⟨nd, rfl⟩⟩))
             go_meet
             case rel => exact ⟨_, (true), (by first | rfl | (simp; done) | (simp [*]; done)), H', ⟨by have := HJ5.out; first | omega | exact Nat.le_refl _⟩, ⟨by repeat (first | (with_reducible first | exact HB.out | apply below_alloc | apply pw_below_drewN | apply below_drew1) | exact HB.out)⟩⟩
           ·rw [if_neg c25] at H
            have c25b0 : (t972 == t970) = false := beq_eq_false_iff_ne.mpr c25
            have c25b1 : (t972 != t970) = true := bne_iff_ne.mpr c25
            have H' := Aside0.mk H
            clear H
            go_wp2_with (first | (go_at_call 36; (with_reducible refine (ints_Mul.calls a0 t965 a2 t973 _ A21.out).mono ?_); rintro e w' ⟨rfl, ⟨nd, rfl⟩⟩) | (go_at_call 34; (with_reducible refine (ints_Add.calls a0 t973 t967 t974 _ A22.out).mono ?_); rintro e w' ⟨rfl, ⟨nd, rfl⟩⟩))
            go_meet
            case rel => exact ⟨_, (true), (by first | rfl | (simp; done) | (simp [*]; done)), H', ⟨by have := HJ5.out; first | omega | exact Nat.le_refl _⟩, ⟨by repeat (first | (with_reducible first | exact HB.out | apply below_alloc | apply pw_below_drewN | apply below_drew1) | exact HB.out)⟩⟩
          ·rw [if_neg c24] at H
           have c24b0 : (t970 == 0) = false := beq_eq_false_iff_ne.mpr c24
           have c24b1 : (t970 != 0) = true := bne_iff_ne.mpr c24
           have H' := Aside0.mk H
           clear H
           go_wp2_with (first | (go_at_call 36; (with_reducible refine (ints_Mul.calls a0 t965 a2 t973 _ A21.out).mono ?_); rintro e w' ⟨rfl, ⟨nd, rfl⟩⟩) | (go_at_call 34; (with_reducible refine (ints_Add.calls a0 t973 t967 t974 _ A22.out).mono ?_); rintro e w' ⟨rfl, ⟨nd, rfl⟩⟩))
           go_meet
           case rel => exact ⟨_, (false), (by first | rfl | (simp; done) | (simp [*]; done)), H', ⟨by have := HJ5.out; first | omega | exact Nat.le_refl _⟩, ⟨by repeat (first | (with_reducible first | exact HB.out | apply below_alloc | apply pw_below_drewN | apply below_drew1) | exact HB.out)⟩⟩
         ·rw [if_neg c23] at H
          have c23b0 : (t974 == (ji13)) = false := beq_eq_false_iff_ne.mpr c23
          have c23b1 : (t974 != (ji13)) = true := bne_iff_ne.mpr c23
          have H' := Aside0.mk H
          clear H
          go_wp2_with (first | (go_at_call 36; (with_reducible refine (ints_Mul.calls a0 t965 a2 t973 _ A21.out).mono ?_); rintro e w' ⟨rfl, ⟨nd, rfl⟩⟩) | (go_at_call 34; (with_reducible refine (ints_Add.calls a0 t973 t967 t974 _ A22.out).mono ?_); rintro e w' ⟨rfl, ⟨nd, rfl⟩⟩))
          go_meet
          case rel => exact ⟨_, (true), (by first | rfl | (simp; done) | (simp [*]; done)), H', ⟨by have := HJ5.out; first | omega | exact Nat.le_refl _⟩, ⟨by repeat (first | (with_reducible first | exact HB.out | apply below_alloc | apply pw_below_drewN | apply below_drew1) | exact HB.out)⟩⟩
        ·rw [if_neg c20] at H
         have c20b0 : (t968 == t966) = false := beq_eq_false_iff_ne.mpr c20
         have c20b1 : (t968 != t966) = true := bne_iff_ne.mpr c20
         have H' := Aside0.mk H
         clear H
         go_wp2
         go_meet
         case rel => exact ⟨_, (true), (by first | rfl | (simp; done) | (simp [*]; done)), H', ⟨by have := HJ5.out; first | omega | exact Nat.le_refl _⟩, ⟨by repeat (first | (with_reducible first | exact HB.out | apply below_alloc | apply pw_below_drewN | apply below_drew1) | exact HB.out)⟩⟩
       ·rw [if_neg c19] at H
        have c19b0 : (t966 == 0) = false := beq_eq_false_iff_ne.mpr c19
        have c19b1 : (t966 != 0) = true := bne_iff_ne.mpr c19
        (first | rw [c19b0] | (simp only [i64_w, i32_w]; rw [c19b0]) | skip)
        by_cases c30 : t970 = 0
        ·rw [if_pos c30] at H
         have c30b0 : (t970 == 0) = true := beq_iff_eq.mpr c30
         have c30b1 : (t970 != 0) = false := bne_eq_false_iff_eq.mpr c30
         clear c30
         by_cases c31 : t972 = t970
         ·rw [if_pos c31] at H
          have c31b0 : (t972 == t970) = true := beq_iff_eq.mpr c31
          have c31b1 : (t972 != t970) = false := bne_eq_false_iff_eq.mpr c31
          clear c31
          replace H := Option.bind_eq_some_iff.mp H
          obtain ⟨t978, A320, H⟩ := H
          replace H : ((ints_Add.f a0 t978 t971).bind fun t979 => (if t979 = (ji13) then ((ints_LtU.f a0 t971 a2).bind fun t980 => (trunnionlaw13_IntsBack.j1 kj5 a0 a1 a2 ji13 (!t980))) else (trunnionlaw13_IntsBack.j1 kj5 a0 a1 a2 ji13 true))) = some r := H
          have A32 := Aside0.mk A320
          clear A320
          replace H := Option.bind_eq_some_iff.mp H
          obtain ⟨t979, A330, H⟩ := H
          replace H : (if t979 = (ji13) then ((ints_LtU.f a0 t971 a2).bind fun t980 => (trunnionlaw13_IntsBack.j1 kj5 a0 a1 a2 ji13 (!t980))) else (trunnionlaw13_IntsBack.j1 kj5 a0 a1 a2 ji13 true)) = some r := H
          have A33 := Aside0.mk A330
          clear A330
          by_cases c34 : t979 = (ji13)
          ·rw [if_pos c34] at H
           have c34b0 : (t979 == (ji13)) = true := beq_iff_eq.mpr c34
           have c34b1 : (t979 != (ji13)) = false := bne_eq_false_iff_eq.mpr c34
           clear c34
           replace H := Option.bind_eq_some_iff.mp H
           obtain ⟨t980, A350, H⟩ := H
           replace H : (trunnionlaw13_IntsBack.j1 kj5 a0 a1 a2 ji13 (!t980)) = some r := H
           have A35 := Aside0.mk A350
           clear A350
           have H' := Aside0.mk H
           clear H
           go_wp2_with (first | (go_at_call 36; (with_reducible refine (ints_Mul.calls a0 t969 a2 t978 _ A32.out).mono ?_); rintro e w' ⟨rfl, ⟨nd, rfl⟩⟩) | (go_at_call 34; (with_reducible refine (ints_Add.calls a0 t978 t971 t979 _ A33.out).mono ?_); rintro e w' ⟨rfl, ⟨nd, rfl⟩⟩) | (go_at_call 106; (with_reducible refine (ints_LtU.calls a0 t971 a2 t980 _ A35.out).mono ?_); rintro e w' ⟨rfl, ⟨nd, rfl⟩⟩))
           go_meet
           case rel => exact ⟨_, (!t980), (by first | rfl | (simp; done) | (simp [*]; done)), H', ⟨by have := HJ5.out; first | omega | exact Nat.le_refl _⟩, ⟨by repeat (first | (with_reducible first | exact HB.out | apply below_alloc | apply pw_below_drewN | apply below_drew1) | exact HB.out)⟩⟩
          ·rw [if_neg c34] at H
           have c34b0 : (t979 == (ji13)) = false := beq_eq_false_iff_ne.mpr c34
           have c34b1 : (t979 != (ji13)) = true := bne_iff_ne.mpr c34
           have H' := Aside0.mk H
           clear H
           go_wp2_with (first | (go_at_call 36; (with_reducible refine (ints_Mul.calls a0 t969 a2 t978 _ A32.out).mono ?_); rintro e w' ⟨rfl, ⟨nd, rfl⟩⟩) | (go_at_call 34; (with_reducible refine (ints_Add.calls a0 t978 t971 t979 _ A33.out).mono ?_); rintro e w' ⟨rfl, ⟨nd, rfl⟩⟩))
           go_meet
           case rel => exact ⟨_, (true), (by first | rfl | (simp; done) | (simp [*]; done)), H', ⟨by have := HJ5.out; first | omega | exact Nat.le_refl _⟩, ⟨by repeat (first | (with_reducible first | exact HB.out | apply below_alloc | apply pw_below_drewN | apply below_drew1) | exact HB.out)⟩⟩
         ·rw [if_neg c31] at H
          have c31b0 : (t972 == t970) = false := beq_eq_false_iff_ne.mpr c31
          have c31b1 : (t972 != t970) = true := bne_iff_ne.mpr c31
          have H' := Aside0.mk H
          clear H
          go_wp2
          go_meet
          case rel => exact ⟨_, (true), (by first | rfl | (simp; done) | (simp [*]; done)), H', ⟨by have := HJ5.out; first | omega | exact Nat.le_refl _⟩, ⟨by repeat (first | (with_reducible first | exact HB.out | apply below_alloc | apply pw_below_drewN | apply below_drew1) | exact HB.out)⟩⟩
        ·rw [if_neg c30] at H
         have c30b0 : (t970 == 0) = false := beq_eq_false_iff_ne.mpr c30
         have c30b1 : (t970 != 0) = true := bne_iff_ne.mpr c30
         have H' := Aside0.mk H
         clear H
         go_wp2
         go_meet
         case rel => exact ⟨_, (false), (by first | rfl | (simp; done) | (simp [*]; done)), H', ⟨by have := HJ5.out; first | omega | exact Nat.le_refl _⟩, ⟨by repeat (first | (with_reducible first | exact HB.out | apply below_alloc | apply pw_below_drewN | apply below_drew1) | exact HB.out)⟩⟩
      case rest =>
       clear HC18
       try clear c1
       try clear c2
       try clear p2
       try clear c3
       try clear c5
       try clear p6
       try clear c7
       try clear c7b0
       try clear c7b1
       try clear c8
       try clear c10
       try clear c10b0
       try clear c10b1
       try clear c12
       try clear c12b0
       try clear c19
       try clear c19b0
       try clear c19b1
       try clear c20
       try clear c20b0
       try clear c20b1
       try clear c22
       try clear c23
       try clear c23b0
       try clear c23b1
       try clear c24
       try clear c24b0
       try clear c24b1
       try clear c25
       try clear c25b0
       try clear c25b1
       try clear c28
       try clear c28b0
       try clear c28b1
       try clear c30
       try clear c30b0
       try clear c30b1
       try clear c31
       try clear c31b0
       try clear c31b1
       try clear c33
       try clear c34
       try clear c34b0
       try clear c34b1
       try clear p2
       obtain ⟨kq, x103_17, rfl, HA, HJ17, HB⟩ := hcut
       cases kq with
       | zero => exact absurd HA.out (by simp [trunnionlaw13_IntsBack.j1])
       | succ kj17 =>
        have H := HA.out
        clear HA
        simp only [trunnionlaw13_IntsBack.j1] at H
        by_cases c36 : x103_17 = true
        ·subst c36
         have H1 : (some false) = some r := by rw [if_pos rfl] at H; exact H
         clear H
         have H := H1
         clear H1
         exact absurd ((Option.some.inj H).trans hr_.out) (by decide)
        ·replace c36 := Bool.eq_false_iff.mpr c36
         subst c36
         have H1 : ((ints_Rotl.f a0 a1 a2).bind fun t981 => ((ints_Rotr.f a0 t981 a2).bind fun t982 => (if t982 = ji13 then ((ints_Popcnt.f a0 a1).bind fun t983 => ((ints_Popcnt.f a0 (Go.bits .xor .u64 IntKind.u64.max a1)).bind fun t984 => (if (IntKind.u64.wrap (t983 + t984)) = (IntKind.u64.wrap (a0)) then ((ints_Add.f a0 a1 a2).bind fun t985 => ((ints_Sub.f a0 t985 a2).bind fun t986 => (some (t986 == ji13)))) else (some false)))) else (some false)))) = some r := by rw [if_neg (show ¬ (false = true) by decide)] at H; exact H
         clear H
         have H := H1
         clear H1
         replace H := Option.bind_eq_some_iff.mp H
         obtain ⟨t981, A370, H⟩ := H
         replace H : ((ints_Rotr.f a0 t981 a2).bind fun t982 => (if t982 = ji13 then ((ints_Popcnt.f a0 a1).bind fun t983 => ((ints_Popcnt.f a0 (Go.bits .xor .u64 IntKind.u64.max a1)).bind fun t984 => (if (IntKind.u64.wrap (t983 + t984)) = (IntKind.u64.wrap (a0)) then ((ints_Add.f a0 a1 a2).bind fun t985 => ((ints_Sub.f a0 t985 a2).bind fun t986 => (some (t986 == ji13)))) else (some false)))) else (some false))) = some r := H
         have A37 := Aside0.mk A370
         clear A370
         replace H := Option.bind_eq_some_iff.mp H
         obtain ⟨t982, A380, H⟩ := H
         replace H : (if t982 = ji13 then ((ints_Popcnt.f a0 a1).bind fun t983 => ((ints_Popcnt.f a0 (Go.bits .xor .u64 IntKind.u64.max a1)).bind fun t984 => (if (IntKind.u64.wrap (t983 + t984)) = (IntKind.u64.wrap (a0)) then ((ints_Add.f a0 a1 a2).bind fun t985 => ((ints_Sub.f a0 t985 a2).bind fun t986 => (some (t986 == ji13)))) else (some false)))) else (some false)) = some r := H
         have A38 := Aside0.mk A380
         clear A380
         by_cases c39 : t982 = ji13
         ·rw [if_pos c39] at H
          have c39b0 : (t982 == ji13) = true := beq_iff_eq.mpr c39
          have c39b1 : (t982 != ji13) = false := bne_eq_false_iff_eq.mpr c39
          clear c39
          replace H := Option.bind_eq_some_iff.mp H
          obtain ⟨t983, A400, H⟩ := H
          replace H : ((ints_Popcnt.f a0 (Go.bits .xor .u64 IntKind.u64.max a1)).bind fun t984 => (if (IntKind.u64.wrap (t983 + t984)) = (IntKind.u64.wrap (a0)) then ((ints_Add.f a0 a1 a2).bind fun t985 => ((ints_Sub.f a0 t985 a2).bind fun t986 => (some (t986 == ji13)))) else (some false))) = some r := H
          have A40 := Aside0.mk A400
          clear A400
          replace H := Option.bind_eq_some_iff.mp H
          obtain ⟨t984, A410, H⟩ := H
          replace H : (if (IntKind.u64.wrap (t983 + t984)) = (IntKind.u64.wrap (a0)) then ((ints_Add.f a0 a1 a2).bind fun t985 => ((ints_Sub.f a0 t985 a2).bind fun t986 => (some (t986 == ji13)))) else (some false)) = some r := H
          have A41 := Aside0.mk A410
          clear A410
          by_cases c42 : (IntKind.u64.wrap (t983 + t984)) = (IntKind.u64.wrap (a0))
          ·rw [if_pos c42] at H
           have c42b0 : ((IntKind.u64.wrap (t983 + t984)) == (IntKind.u64.wrap (a0))) = true := beq_iff_eq.mpr c42
           have c42b1 : ((IntKind.u64.wrap (t983 + t984)) != (IntKind.u64.wrap (a0))) = false := bne_eq_false_iff_eq.mpr c42
           clear c42
           replace H := Option.bind_eq_some_iff.mp H
           obtain ⟨t985, A430, H⟩ := H
           replace H : ((ints_Sub.f a0 t985 a2).bind fun t986 => (some (t986 == ji13))) = some r := H
           have A43 := Aside0.mk A430
           clear A430
           replace H := Option.bind_eq_some_iff.mp H
           obtain ⟨t986, A440, H⟩ := H
           replace H : (some (t986 == ji13)) = some r := H
           have A44 := Aside0.mk A440
           clear A440
           obtain rfl := Option.some.inj H
           go_wp2_with (first | ((with_reducible refine gate_callee (f := 49) rfl ?_); refine goesL_ (some 108) rfl rfl Try.func49 (by kernel_rfl) rfl #[.int .i64 a0, .int .u64 a1, .int .u64 a2] rfl (by (try simp only [List.map_toArray, List.map_cons, List.map_nil]); first | done | rfl | (simp only [List.length_drop, List.length_take]; rfl)) ?_; (with_reducible refine (ints_Rotl.calls a0 a1 a2 t981 _ A37.out).mono ?_); rintro e w45 ⟨rfl, hb⟩; refine ⟨_, rfl, ?_⟩; have n0_ := Aside0.mk (below_step (by repeat (first | (with_reducible first | exact HB.out | apply below_alloc | apply pw_below_drewN | apply below_drew1) | exact HB.out)) hb); clear HB; have HB := n0_; clear n0_; (try clear hb); (try clear hb2); (try clear hk); (try clear hi)) | ((with_reducible refine gate_callee (f := 50) rfl ?_); refine goesL_ (some 110) rfl rfl Try.func50 (by kernel_rfl) rfl #[.int .i64 a0, .int .u64 t981, .int .u64 a2] rfl (by (try simp only [List.map_toArray, List.map_cons, List.map_nil]); first | done | rfl | (simp only [List.length_drop, List.length_take]; rfl)) ?_; (with_reducible refine (ints_Rotr.calls a0 t981 a2 t982 _ A38.out).mono ?_); rintro e w46 ⟨rfl, hb⟩; refine ⟨_, rfl, ?_⟩; have n0_ := Aside0.mk (below_step (by repeat (first | (with_reducible first | exact HB.out | apply below_alloc | apply pw_below_drewN | apply below_drew1) | exact HB.out)) hb); clear HB; have HB := n0_; clear n0_; (try clear hb); (try clear hb2); (try clear hk); (try clear hi)) | (go_at_call 107; (with_reducible refine (ints_Popcnt.calls a0 a1 t983 _ A40.out).mono ?_); rintro e w' ⟨rfl, ⟨nd, rfl⟩⟩) | (go_at_call 107; (with_reducible refine (ints_Popcnt.calls a0 (Go.bits .xor .u64 IntKind.u64.max a1) t984 _ A41.out).mono ?_); rintro e w' ⟨rfl, ⟨nd, rfl⟩⟩) | (go_at_call 34; (with_reducible refine (ints_Add.calls a0 a1 a2 t985 _ A43.out).mono ?_); rintro e w' ⟨rfl, ⟨nd, rfl⟩⟩) | (go_at_call 35; (with_reducible refine (ints_Sub.calls a0 t985 a2 t986 _ A44.out).mono ?_); rintro e w' ⟨rfl, ⟨nd, rfl⟩⟩))
           go_ret
           exact ⟨by first | rfl | (simp [errW_none, errW_some] <;> rfl) | (simp only [← hji9, ← hji11, ← hji13]; first | rfl | (simp [errW_none, errW_some] <;> rfl)) | (simp [*, errW_none, errW_some] <;> rfl), by repeat (first | (with_reducible first | exact HB.out | apply below_alloc | apply pw_below_drewN | apply below_drew1) | exact HB.out)⟩
          ·rw [if_neg c42] at H
           have c42b0 : ((IntKind.u64.wrap (t983 + t984)) == (IntKind.u64.wrap (a0))) = false := beq_eq_false_iff_ne.mpr c42
           have c42b1 : ((IntKind.u64.wrap (t983 + t984)) != (IntKind.u64.wrap (a0))) = true := bne_iff_ne.mpr c42
           exact absurd ((Option.some.inj H).trans hr_.out) (by decide)
         ·rw [if_neg c39] at H
          have c39b0 : (t982 == ji13) = false := beq_eq_false_iff_ne.mpr c39
          have c39b1 : (t982 != ji13) = true := bne_iff_ne.mpr c39
          exact absurd ((Option.some.inj H).trans hr_.out) (by decide)
     ·rw [if_neg c10] at H
      exact absurd H (by simp)
 ·replace c5 := Bool.eq_false_iff.mpr c5
  subst c5
  have H1 : (some false) = some r := by rw [if_neg (show ¬ (false = true) by decide)] at H; exact H
  clear H
  have H := H1
  clear H1
  exact absurd ((Option.some.inj H).trans hr_.out) (by decide)

/-- THE ONE PURE STATEMENT of trunnionlaw13_IntsBack: yours. -/
def trunnionlaw13_IntsBack.Pure : Prop := ∀ (a0 : Int) (a1 : Int) (a2 : Int), (Lit.int .i64 a0).wf = true → (Lit.int .u64 a1).wf = true → (Lit.int .u64 a2).wf = true → ∃ k, trunnionlaw13_IntsBack.f k a0 a1 a2 = some true
theorem trunnionlaw13_IntsBack.walk (P : trunnionlaw13_IntsBack.Pure) (a0 : Int) (a1 : Int) (a2 : Int) (w : World) (w0 : (Lit.int .i64 a0).wf = true) (w1 : (Lit.int .u64 a1).wf = true) (w2 : (Lit.int .u64 a2).wf = true) :
  Calls Try.prog 22 #[.int .i64 a0, .int .u64 a1, .int .u64 a2] w fun e w' => e = .returned (.bool true) ∧ Below w.heap.size w w' := by
 obtain ⟨k, h⟩ := P a0 a1 a2 w0 w1 w2
 refine (trunnionlaw13_IntsBack.calls k a0 a1 a2 true w h ⟨rfl⟩).mono ?_
 rintro e w' ⟨rfl, hd⟩
 exact ⟨rfl, hd⟩

end Go.Proofs.Ytmjfenbbgfohlaa.PA

namespace Bit
theorem or_pow (x c k : Nat) (hx : x < 2 ^ k) : x ||| c * 2 ^ k = x + c * 2 ^ k := by
  rw [Nat.mul_comm, Nat.or_comm, ← Nat.two_pow_add_eq_or_of_lt hx, Nat.add_comm]
theorem and_low (a k : Nat) : a &&& (2 ^ k - 1) = a % 2 ^ k := Nat.and_two_pow_sub_one_eq_mod a k
end Bit

set_option linter.unusedVariables false
set_option linter.unusedSimpArgs false
namespace Go.Proofs.Ytmjfenbbgfohlaa.Th
open Go.RowKit Go.Proofs.YtmjfenbbgfohlaaW.PrintWords Go.Proofs.YtmjfenbbgfohlaaW.PrintLast Go.Proofs.YtmjfenbbgfohlaaW.PrintMore Go.Proofs.Ytmjfenbbgfohlaa.PA Bit
theorem wf_u64 {a : Int} (h : (Lit.int .u64 a).wf = true) : 0 ≤ a ∧ a < 18446744073709551616 := by
  simp [Lit.wf, IntKind.min, IntKind.max, IntKind.signed, IntKind.bits] at h; omega
/-! ### shape.Cut, sign -/
/-- a width's greatest power -/
def cutN (w : Int) (a : Nat) : Nat := if w = 32 then a % 4294967296 else if w = 64 then a else 0
theorem shCut (w : Int) (a : Nat) (ha : a < 18446744073709551616) : shape_Cut.f w a = some ((cutN w a : Nat) : Int) := by
  unfold shape_Cut.f cutN
  by_cases h : w = 32
  · rw [if_pos h, if_pos h, show (4294967295 : Int) = ((4294967295 : Nat) : Int) from rfl, u64_and_nat a _ ha (by decide)]
    rw [show (4294967295 : Nat) = 2 ^ 32 - 1 by decide, and_low]
  · rw [if_neg h, if_neg h]
    by_cases h2 : w = 64
    · rw [if_pos h2, if_pos h2]
    · rw [if_neg h2, if_neg h2]; rfl
def sb (w : Int) : Nat := if w = 32 then 2147483648 else 9223372036854775808
/-- has it a sign -/
def sgB (w : Int) (a : Nat) : Bool := decide (a / sb w % 2 = 1)
/-! ### the document's -/
theorem Ev.pos {α : Type} {c : Prop} [Decidable c] {f g : Nat → Option α} {r : α} (h : c) (k : Ev f r) : Ev (fun n => if c then f n else g n) r := Ev.congr (fun _ => if_pos h) k
theorem Ev.neg {α : Type} {c : Prop} [Decidable c] {f g : Nat → Option α} {r : α} (h : ¬ c) (k : Ev g r) : Ev (fun n => if c then f n else g n) r := Ev.congr (fun _ => if_neg h) k
theorem Ev.bs {α β : Type} {g : Option α} {a : α} {f : Nat → α → Option β} {r : β} (h : g = some a) (k : Ev (fun n => f n a) r) : Ev (fun n => g.bind (f n)) r := by subst h; exact k
theorem Ev.out {α : Type} {r s : α} (h : r = s) : Ev (fun _ => some r) s := by subst h; exact Ev.now _
theorem u64_id {n : Int} (h : 0 ≤ n) (h2 : n < 18446744073709551616) : IntKind.u64.wrap n = n := by rw [IntKind.wrap_u64]; omega
theorem w64_id {n : Int} (h : -9223372036854775808 ≤ n) (h2 : n < 9223372036854775808) : wrap64 n = n := by unfold wrap64; omega
end Go.Proofs.Ytmjfenbbgfohlaa.Th

namespace Dig
/-! ### words of B signs, the lowest first -/
def OkB (B : Nat) (l : List Int) : Prop := ∀ d ∈ l, 0 ≤ d ∧ d < B
section
variable {B : Nat}
theorem OkB.nil : OkB B [] := fun _ h => by cases h
theorem OkB.cons {d : Int} {l : List Int} (h : 0 ≤ d ∧ d < B) (k : OkB B l) : OkB B (d :: l) := fun x hx => by
  rcases List.mem_cons.1 hx with rfl | hx
  · exact h
  · exact k x hx
theorem OkB.head {d : Int} {l : List Int} (k : OkB B (d :: l)) : 0 ≤ d ∧ d < B := k d List.mem_cons_self
end
/-! ### words of 32 bits -/
theorem W2 : 2 ≤ 4294967296 := by decide
def Ok (l : List Int) : Prop := ∀ d ∈ l, 0 ≤ d ∧ d < 4294967296
theorem Ok.nil : Ok [] := fun _ h => by cases h
theorem Ok.cons {d : Int} {l : List Int} (h : 0 ≤ d ∧ d < 4294967296) (k : Ok l) : Ok (d :: l) := OkB.cons (B := 4294967296) h k
end Dig

set_option linter.unusedVariables false
set_option linter.unusedSimpArgs false
namespace Go.Proofs.Ytmjfenbbgfohlaa.Th
open Go.RowKit Go.Proofs.YtmjfenbbgfohlaaW.PrintWords Go.Proofs.YtmjfenbbgfohlaaW.PrintLast Go.Proofs.YtmjfenbbgfohlaaW.PrintMore Go.Proofs.Ytmjfenbbgfohlaa.PA Bit Dig
def pw (w : Int) : Nat := if w = 32 then 4294967296 else 18446744073709551616
theorem cutP (w : Int) (hw : w = 32 ∨ w = 64) (a : Nat) (ha : a < 18446744073709551616) : cutN w a = a % pw w := by
  unfold cutN pw; rcases hw with rfl | rfl
  · rfl
  · rw [if_neg (by decide), if_pos rfl, if_neg (by decide)]; omega
theorem u64_nat (n : Nat) : IntKind.u64.wrap (n : Int) = ((n % 18446744073709551616 : Nat) : Int) := by rw [IntKind.wrap_u64]; omega
theorem awake13 : trunnionlaw13_awake.f = some true := by decide +kernel
theorem addS (w : Int) (hw : w = 32 ∨ w = 64) (a b : Nat) (ha : a < 18446744073709551616) (hb : b < 18446744073709551616) : ints_Add.f w a b = some (((a + b) % pw w : Nat) : Int) := by
  unfold ints_Add.f pw
  rcases hw with rfl | rfl
  · rw [if_pos rfl, if_pos rfl]; congr 1; omega
  · rw [if_neg (by decide), if_pos rfl, if_neg (by decide), IntKind.wrap_u64]; congr 1
theorem subS (w : Int) (hw : w = 32 ∨ w = 64) (a b : Nat) (ha : a < 18446744073709551616) (hb : b < 18446744073709551616) : ints_Sub.f w a b = some (((a + pw w - b % pw w) % pw w : Nat) : Int) := by
  unfold ints_Sub.f pw
  rcases hw with rfl | rfl
  · rw [if_pos rfl, if_pos rfl]; congr 1; omega
  · rw [if_neg (by decide), if_pos rfl, if_neg (by decide), IntKind.wrap_u64]; congr 1; omega
theorem mulS (w : Int) (hw : w = 32 ∨ w = 64) (a b : Nat) (ha : a < 18446744073709551616) (hb : b < 18446744073709551616) : ints_Mul.f w a b = some (((a * b) % pw w : Nat) : Int) := by
  unfold ints_Mul.f pw
  rcases hw with rfl | rfl
  · rw [if_pos rfl, if_pos rfl]; congr 1
    rw [show (a : Int) % 4294967296 * ((b : Int) % 4294967296) % 4294967296 = (a : Int) * b % 4294967296 from (Int.mul_emod _ _ _).symm]
    omega
  · rw [if_neg (by decide), if_pos rfl, if_neg (by decide), IntKind.wrap_u64]; congr 1
theorem pw_64 (w : Int) : pw w ≤ 18446744073709551616 := by unfold pw; split <;> omega
theorem pw_0 (w : Int) : 0 < pw w := by unfold pw; split <;> decide
theorem pw_two (w : Int) (hw : w = 32 ∨ w = 64) : pw w = 2 ^ w.toNat := by rcases hw with rfl | rfl <;> decide
end Go.Proofs.Ytmjfenbbgfohlaa.Th

set_option linter.unusedVariables false
set_option linter.unusedSimpArgs false
namespace Go.Proofs.Ytmjfenbbgfohlaa.Th
open Go.RowKit Go.Proofs.YtmjfenbbgfohlaaW.PrintWords Go.Proofs.YtmjfenbbgfohlaaW.PrintLast Go.Proofs.YtmjfenbbgfohlaaW.PrintMore Go.Proofs.Ytmjfenbbgfohlaa.PA Bit Dig
theorem known13 (w : Int) : ints_known.f w = some (decide (w = 32 ∨ w = 64)) := by
  unfold ints_known.f
  by_cases h : w = 32
  · subst h; rfl
  · by_cases h2 : w = 64
    · subst h2; rfl
    · rw [decide_eq_false (by omega)]; simp [h, h2]
/-- a number with its sign -/
def sgn (w : Int) (a : Nat) : Int := (a % pw w : Nat) - (if sgB w a then (pw w : Int) else 0)
theorem signedS (w : Int) (hw : w = 32 ∨ w = 64) (a : Nat) (ha : a < 18446744073709551616) : ints_signed.f w a = some (sgn w a) := by
  unfold ints_signed.f sgn sgB pw sb
  rcases hw with rfl | rfl
  · simp only [if_true, decide_eq_true_eq]
    rw [show wrap32 ((a : Int) % 4294967296) = if a / 2147483648 % 2 = 1 then ((a % 4294967296 : Nat) : Int) - 4294967296 else ((a % 4294967296 : Nat) : Int) by unfold wrap32; split <;> omega]
    congr 1
    split
    · rw [w64_id (by omega) (by omega)]; rfl
    · rw [w64_id (by omega) (by omega)]; omega
  · simp only [show ¬ ((64 : Int) = 32) by decide, if_false, decide_eq_true_eq]
    congr 1
    unfold wrap64
    split <;> omega
end Go.Proofs.Ytmjfenbbgfohlaa.Th

set_option linter.unusedVariables false
set_option linter.unusedSimpArgs false
namespace Go.Proofs.Ytmjfenbbgfohlaa.Th
open Go.RowKit Go.Proofs.YtmjfenbbgfohlaaW.PrintWords Go.Proofs.YtmjfenbbgfohlaaW.PrintLast Go.Proofs.YtmjfenbbgfohlaaW.PrintMore Go.Proofs.Ytmjfenbbgfohlaa.PA Bit Dig
/-- turned by m places -/
def rotN (w : Int) (c m : Nat) : Nat := c * 2 ^ m % pw w ||| c / 2 ^ (w.toNat - m)
theorem and31 (n : Nat) (h : n < 18446744073709551616) : Go.bits .and .u64 (n : Int) 31 = ((n % 32 : Nat) : Int) := by
  rw [show (31 : Int) = ((31 : Nat) : Int) from rfl, u64_and_nat n _ h (by decide), show (31 : Nat) = 2 ^ 5 - 1 by decide, and_low]
theorem and63 (n : Nat) (h : n < 18446744073709551616) : Go.bits .and .u64 (n : Int) 63 = ((n % 64 : Nat) : Int) := by
  rw [show (63 : Int) = ((63 : Nat) : Int) from rfl, u64_and_nat n _ h (by decide), show (63 : Nat) = 2 ^ 6 - 1 by decide, and_low]
theorem rot32 (a m : Nat) (hm : m < 32) : IntKind.u64.wrap (Go.bits .or .u32 (((a : Int) % 4294967296) * 2 ^ min ((m : Int)).toNat 32 % 4294967296) (((a : Int) % 4294967296) / 2 ^ min (IntKind.u64.wrap (32 - (m : Int))).toNat 32)) = ((rotN 32 (a % 4294967296) m : Nat) : Int) := by
  have hc : a % 4294967296 < 4294967296 := Nat.mod_lt _ (by decide)
  rw [show (a : Int) % 4294967296 = ((a % 4294967296 : Nat) : Int) by omega]
  generalize a % 4294967296 = c at hc ⊢
  rw [show min ((m : Int)).toNat 32 = m by omega, show IntKind.u64.wrap (32 - (m : Int)) = ((32 - m : Nat) : Int) by rw [IntKind.wrap_u64]; omega, show min (((32 - m : Nat) : Int)).toNat 32 = 32 - m by omega]
  rw [show (c : Int) * 2 ^ m % 4294967296 = ((c * 2 ^ m % 4294967296 : Nat) : Int) by rw [Int.natCast_emod, Int.natCast_mul, Int.natCast_pow]; rfl, show (c : Int) / 2 ^ (32 - m) = ((c / 2 ^ (32 - m) : Nat) : Int) by rw [Int.natCast_ediv, Int.natCast_pow]; rfl]
  have h1 : c * 2 ^ m % 4294967296 < 2 ^ 32 := Nat.mod_lt _ (by decide)
  have h2 : c / 2 ^ (32 - m) < 2 ^ 32 := Nat.lt_of_le_of_lt (Nat.div_le_self _ _) hc
  have h3 := Nat.or_lt_two_pow h1 h2
  have h4 : (2 : Nat) ^ 32 = 4294967296 := by decide
  rw [u32_or_nat _ _ (by omega) (by omega), u64_id (by omega) (by omega)]
  unfold rotN pw
  rfl
theorem rot64 (a m : Nat) (ha : a < 18446744073709551616) (hm : m < 64) : Go.bits .or .u64 (IntKind.u64.wrap ((a : Int) * 2 ^ min ((m : Int)).toNat 64)) ((a : Int) / 2 ^ min (IntKind.u64.wrap (64 - (m : Int))).toNat 64) = ((rotN 64 a m : Nat) : Int) := by
  rw [show min ((m : Int)).toNat 64 = m by omega, show IntKind.u64.wrap (64 - (m : Int)) = ((64 - m : Nat) : Int) by rw [IntKind.wrap_u64]; omega, show min (((64 - m : Nat) : Int)).toNat 64 = 64 - m by omega]
  rw [show (a : Int) * 2 ^ m = ((a * 2 ^ m : Nat) : Int) by rw [Int.natCast_mul, Int.natCast_pow]; rfl, u64_nat, show (a : Int) / 2 ^ (64 - m) = ((a / 2 ^ (64 - m) : Nat) : Int) by rw [Int.natCast_ediv, Int.natCast_pow]; rfl]
  have h2 : a / 2 ^ (64 - m) < 18446744073709551616 := Nat.lt_of_le_of_lt (Nat.div_le_self _ _) ha
  rw [u64_or_nat _ _ (Nat.mod_lt _ (by decide)) h2]
  unfold rotN pw
  rfl
theorem rotlS (w : Int) (hw : w = 32 ∨ w = 64) (a b : Nat) (ha : a < 18446744073709551616) (hb : b < 18446744073709551616) : ints_Rotl.f w a b = some ((rotN w (a % pw w) (b % w.toNat) : Nat) : Int) := by
  unfold ints_Rotl.f
  rcases hw with rfl | rfl
  · have e : Go.bits .and .u64 (IntKind.u64.wrap (wrap64 (Int.tmod (b : Int) 32))) 31 = ((b % 32 : Nat) : Int) := by
      rw [Int.tmod_eq_emod_of_nonneg (by omega), w64_id (by omega) (by omega), u64_id (by omega) (by omega), show (b : Int) % 32 = ((b % 32 : Nat) : Int) by omega, and31 _ (by omega), Nat.mod_mod]
    rw [if_pos rfl, e, rot32 a _ (by omega)]; rfl
  · have e : Go.bits .and .u64 (IntKind.u64.wrap (wrap64 (Int.tmod (b : Int) 64))) 63 = ((b % 64 : Nat) : Int) := by
      rw [Int.tmod_eq_emod_of_nonneg (by omega), w64_id (by omega) (by omega), u64_id (by omega) (by omega), show (b : Int) % 64 = ((b % 64 : Nat) : Int) by omega, and63 _ (by omega), Nat.mod_mod]
    rw [if_neg (by decide), if_pos rfl, e, rot64 a _ ha (by omega), show a % pw 64 = a by unfold pw; rw [if_neg (by decide)]; omega]; rfl
theorem rotrS (w : Int) (hw : w = 32 ∨ w = 64) (a b : Nat) (ha : a < 18446744073709551616) (hb : b < 18446744073709551616) : ints_Rotr.f w a b = some ((rotN w (a % pw w) ((w.toNat - b % w.toNat) % w.toNat) : Nat) : Int) := by
  unfold ints_Rotr.f
  rcases hw with rfl | rfl
  · have e : Go.bits .and .u64 (IntKind.u64.wrap (wrap64 (-(wrap64 (Int.tmod (b : Int) 32))))) 31 = (((32 - b % 32) % 32 : Nat) : Int) := by
      rw [Int.tmod_eq_emod_of_nonneg (by omega), w64_id (n := (b : Int) % 32) (by omega) (by omega), w64_id (by omega) (by omega), IntKind.wrap_u64, show -((b : Int) % 32) % 18446744073709551616 = (((18446744073709551616 - b % 32) % 18446744073709551616 : Nat) : Int) by omega, and31 _ (by omega)]
      congr 1; omega
    rw [if_pos rfl, e, rot32 a _ (by omega)]; rfl
  · have e : Go.bits .and .u64 (IntKind.u64.wrap (wrap64 (-(wrap64 (Int.tmod (b : Int) 64))))) 63 = (((64 - b % 64) % 64 : Nat) : Int) := by
      rw [Int.tmod_eq_emod_of_nonneg (by omega), w64_id (n := (b : Int) % 64) (by omega) (by omega), w64_id (by omega) (by omega), IntKind.wrap_u64, show -((b : Int) % 64) % 18446744073709551616 = (((18446744073709551616 - b % 64) % 18446744073709551616 : Nat) : Int) by omega, and63 _ (by omega)]
      congr 1; omega
    rw [if_neg (by decide), if_pos rfl, e, rot64 a _ ha (by omega), show a % pw 64 = a by unfold pw; rw [if_neg (by decide)]; omega]; rfl
/-! ### the document's turns -/
end Go.Proofs.Ytmjfenbbgfohlaa.Th

set_option linter.unusedVariables false
set_option linter.unusedSimpArgs false
namespace Go.Proofs.Ytmjfenbbgfohlaa.Th
open Go.RowKit Go.Proofs.YtmjfenbbgfohlaaW.PrintWords Go.Proofs.YtmjfenbbgfohlaaW.PrintLast Go.Proofs.YtmjfenbbgfohlaaW.PrintMore Go.Proofs.Ytmjfenbbgfohlaa.PA Bit Dig
/-! ### quotients -/
theorem u64_small (n : Nat) (h : n < 18446744073709551616) : IntKind.u64.wrap (n : Int) = (n : Int) := u64_id (by omega) (by omega)
theorem submul (P a p b : Nat) (hP : 0 < P) : (((a + P - (p * b % P) % P) % P : Nat) : Int) = ((a : Int) - p * b) % P := by
  have h0 : p * b % P < P := Nat.mod_lt _ hP
  have h1 := Nat.div_add_mod (p * b) P
  rw [Nat.mod_mod, Int.natCast_emod, ← Int.natCast_mul]
  generalize p * b = t at *
  have e : ((a + P - t % P : Nat) : Int) = ((a : Int) - t) + P * (1 + ((t / P : Nat) : Int)) := by
    rw [Int.mul_add, Int.mul_one, ← Int.natCast_mul]
    generalize P * (t / P) = u at *
    omega
  rw [e, Int.add_mul_emod_self_left]
theorem sub_mul_congr (P a p b x q y : Int) (ha : a % P = x % P) (hp : p % P = q % P) (hb : b % P = y % P) : (a - p * b) % P = (x - q * y) % P := by
  rw [Int.sub_emod, Int.mul_emod, ha, hp, hb, ← Int.mul_emod, ← Int.sub_emod]
theorem nat_emod (a P : Nat) : ((a : Int)) % (P : Int) = ((a % P : Nat) : Int) % (P : Int) := by rw [Int.natCast_emod, Int.emod_emod_of_dvd _ (Int.dvd_refl _)]
theorem divUS (w : Int) (hw : w = 32 ∨ w = 64) (a b : Nat) (ha : a < 18446744073709551616) (hb : b < 18446744073709551616) :
    ints_DivU.f w a b = some (if b % pw w = 0 then (0, 2) else (((a % pw w / (b % pw w) : Nat) : Int), 0)) := by
  unfold ints_DivU.f
  have h1 := Nat.mod_le a (pw w)
  have h2 := Nat.div_le_self (a % pw w) (b % pw w)
  rw [shCut w a ha, shCut w b hb, Option.bind_some, Option.bind_some, known13, Option.bind_some, decide_eq_true hw, if_pos rfl, cutP w hw a ha, cutP w hw b hb]
  by_cases h : b % pw w = 0
  · rw [if_pos (by omega), if_pos h]
  · rw [if_neg (by omega), if_neg h]
    rw [Int.tdiv_eq_ediv_of_nonneg (by omega), ← Int.natCast_ediv, u64_small _ (Nat.lt_of_le_of_lt (Nat.le_trans h2 h1) ha)]
theorem remUS (w : Int) (hw : w = 32 ∨ w = 64) (a b : Nat) (ha : a < 18446744073709551616) (hb : b < 18446744073709551616) :
    ints_RemU.f w a b = some (if b % pw w = 0 then (0, 2) else (((a % pw w % (b % pw w) : Nat) : Int), 0)) := by
  unfold ints_RemU.f
  have h1 := Nat.mod_le a (pw w)
  have h2 := Nat.div_le_self (a % pw w) (b % pw w)
  rw [divUS w hw a b ha hb, Option.bind_some]
  by_cases h : b % pw w = 0
  · rw [if_pos h, if_neg (by decide), if_pos h]
  · rw [if_neg h, if_pos rfl, if_neg h]
    have hP := pw_0 w
    have h3 := Nat.mod_lt (a % pw w / (b % pw w) * b) hP
    have h4 := pw_64 w
    show ((ints_Mul.f w ((a % pw w / (b % pw w) : Nat) : Int) b).bind fun t546 => ((ints_Sub.f w a t546).bind fun t547 => (some (t547, 0)))) = _
    rw [mulS w hw _ b (by omega) hb, Option.bind_some, subS w hw a _ ha (by omega), Option.bind_some]
    congr 2
    rw [submul _ _ _ _ hP]
    rw [sub_mul_congr (pw w) a ((a % pw w / (b % pw w) : Nat) : Int) b ((a % pw w : Nat) : Int) ((a % pw w / (b % pw w) : Nat) : Int) ((b % pw w : Nat) : Int) (nat_emod _ _) rfl (nat_emod _ _)]
    have h5 := Nat.div_add_mod (a % pw w) (b % pw w)
    have h6 := Nat.mod_lt (a % pw w) (show 0 < b % pw w by omega)
    have h7 := Nat.mod_lt b hP
    rw [← Int.natCast_mul, Nat.mul_comm]
    generalize b % pw w * (a % pw w / (b % pw w)) = u at *
    rw [show ((a % pw w : Nat) : Int) - u = ((a % pw w % (b % pw w) : Nat) : Int) by omega]
    exact Int.emod_eq_of_lt (by omega) (by omega)
/-- how much a signed number is -/
def mg (w : Int) (a : Nat) : Nat := if sgB w a then pw w - a % pw w else a % pw w
theorem sgn_mg (w : Int) (a : Nat) : sgn w a = if sgB w a then -((mg w a : Nat) : Int) else ((mg w a : Nat) : Int) := by
  unfold sgn mg
  have := Nat.mod_lt a (pw_0 w)
  cases sgB w a
  · simp
  · simp only [if_true]; omega
theorem mg_bd (w : Int) (hw : w = 32 ∨ w = 64) (a : Nat) : mg w a ≤ sb w ∧ (sgB w a = false → mg w a < sb w) ∧ (sgB w a = true → 0 < mg w a) ∧ pw w = 2 * sb w := by
  rcases hw with rfl | rfl
  · simp only [mg, sgB, pw, sb, if_true]
    by_cases h : a / 2147483648 % 2 = 1
    · simp only [h, decide_true, if_true]; exact ⟨by omega, (fun h => by cases h), (fun _ => by omega), by first | trivial | omega⟩
    · simp only [h, decide_false, if_neg (show ¬ (false = true) by decide)]; exact ⟨by omega, (fun _ => by omega), (fun h => by cases h), by first | trivial | omega⟩
  · simp only [mg, sgB, pw, sb, show ¬ ((64 : Int) = 32) by decide, if_false]
    by_cases h : a / 9223372036854775808 % 2 = 1
    · simp only [h, decide_true, if_true]; exact ⟨by omega, (fun h => by cases h), (fun _ => by omega), by first | trivial | omega⟩
    · simp only [h, decide_false, if_neg (show ¬ (false = true) by decide)]; exact ⟨by omega, (fun _ => by omega), (fun h => by cases h), by first | trivial | omega⟩
theorem sgn_zero (w : Int) (hw : w = 32 ∨ w = 64) (b : Nat) : sgn w b = 0 ↔ b % pw w = 0 := by
  unfold sgn
  have := Nat.mod_lt b (pw_0 w)
  have h := mg_bd w hw b
  unfold mg at h
  cases hs : sgB w b
  · simp; omega
  · simp only [hs, if_true] at h ⊢; omega
theorem mg_zero (w : Int) (hw : w = 32 ∨ w = 64) (b : Nat) : mg w b = 0 ↔ b % pw w = 0 := by
  rw [← sgn_zero w hw b, sgn_mg]; split <;> omega
/-- the signed quotient, by how much the two are -/
theorem tdiv_mg (w : Int) (a b : Nat) : (sgn w a).tdiv (sgn w b) = if sgB w a = sgB w b then ((mg w a / mg w b : Nat) : Int) else -((mg w a / mg w b : Nat) : Int) := by
  rw [sgn_mg w a, sgn_mg w b, Int.natCast_ediv]
  have e : (((mg w a : Nat) : Int)).tdiv ((mg w b : Nat) : Int) = ((mg w a : Nat) : Int) / ((mg w b : Nat) : Int) := Int.tdiv_eq_ediv_of_nonneg (by omega)
  cases sgB w a <;> cases sgB w b <;> simp [Int.neg_tdiv, Int.tdiv_neg, e]
def ovf (w : Int) (a b : Nat) : Bool := (sgB w a == sgB w b) && decide (mg w a / mg w b = sb w)
theorem ovf_iff (w : Int) (hw : w = 32 ∨ w = 64) (a b : Nat) (hb : b % pw w ≠ 0) : ovf w a b = true ↔ (sgn w b = -1 ∧ sgn w a = -((sb w : Nat) : Int)) := by
  have h1 := mg_bd w hw a
  have h2 := mg_bd w hw b
  have h3 : 0 < mg w b := Nat.pos_of_ne_zero fun h => hb ((mg_zero w hw b).1 h)
  have hs : 0 < sb w := by unfold sb; split <;> decide
  have key : mg w a / mg w b = sb w ↔ mg w a = sb w ∧ mg w b = 1 := by
    constructor
    · intro h
      have h4 : mg w b * sb w ≤ mg w a := by rw [← h]; exact Nat.mul_div_le _ _
      have h5 : mg w b = 1 := by
        rcases Nat.lt_or_ge 1 (mg w b) with h6 | h6
        · have := Nat.mul_le_mul_right (sb w) (show 2 ≤ mg w b from h6); omega
        · omega
      rw [h5, Nat.one_mul] at h4
      exact ⟨by omega, h5⟩
    · rintro ⟨h4, h5⟩; rw [h4, h5, Nat.div_one]
  unfold ovf
  rw [Bool.and_eq_true, decide_eq_true_eq, key, sgn_mg w a, sgn_mg w b]
  cases h4 : sgB w a <;> cases h5 : sgB w b <;> simp [h4, h5] at h1 h2 ⊢ <;> omega
theorem shl_m1 (w : Int) (hw : w = 32 ∨ w = 64) : shl .i64 (-1) (wrap64 (w - 1)) = -((sb w : Nat) : Int) := by rcases hw with rfl | rfl <;> decide +kernel
theorem cut_wrap (w : Int) (hw : w = 32 ∨ w = 64) (t : Int) : shape_Cut.f w (IntKind.u64.wrap t) = some (t % (pw w : Int)) := by
  rw [IntKind.wrap_u64]
  obtain ⟨x, hx⟩ := Int.eq_ofNat_of_zero_le (show 0 ≤ t % 18446744073709551616 by omega)
  rw [hx, shCut w x (by omega), cutP w hw x (by omega)]
  congr 1
  rw [Int.natCast_emod, ← hx]
  rcases hw with rfl | rfl
  · rw [show pw 32 = 4294967296 from rfl]; omega
  · rw [show pw 64 = 18446744073709551616 from rfl]; omega
theorem divSS (w : Int) (hw : w = 32 ∨ w = 64) (a b : Nat) (ha : a < 18446744073709551616) (hb : b < 18446744073709551616) :
    ints_DivS.f w a b = some (if b % pw w = 0 then (0, 2) else if ovf w a b then (0, 3) else ((sgn w a).tdiv (sgn w b) % (pw w : Int), 0)) := by
  unfold ints_DivS.f
  rw [signedS w hw a ha, signedS w hw b hb, Option.bind_some, Option.bind_some, known13, Option.bind_some, decide_eq_true hw, if_pos rfl]
  by_cases h : b % pw w = 0
  · rw [if_pos ((sgn_zero w hw b).2 h), if_pos h]
  · rw [if_neg (fun h' => h ((sgn_zero w hw b).1 h')), if_neg h]
    have hsb : sb w ≤ 9223372036854775808 := by unfold sb; split <;> omega
    have h1 := mg_bd w hw a
    have hq := Nat.div_le_self (mg w a) (mg w b)
    have hq0 : 0 ≤ mg w a / mg w b := Nat.zero_le _
    have hwr : ovf w a b = false → wrap64 ((sgn w a).tdiv (sgn w b)) = (sgn w a).tdiv (sgn w b) := by
      intro ho
      rw [tdiv_mg]
      unfold ovf at ho
      generalize mg w a / mg w b = q at *
      split
      · rename_i he
        rw [he, beq_self_eq_true, Bool.true_and, decide_eq_false_iff_not] at ho
        exact w64_id (by omega) (by omega)
      · exact w64_id (by omega) (by omega)
    have hiff := ovf_iff w hw a b h
    rw [shl_m1 w hw, if_pos (show 0 ≤ wrap64 (w - 1) by rcases hw with rfl | rfl <;> decide +kernel)]
    cases ho : ovf w a b
    · rw [ho] at hiff
      rw [hwr ho, cut_wrap w hw, Option.bind_some]
      by_cases h2 : sgn w b = -1
      · rw [if_pos h2, if_neg (fun h3 => by have := hiff.2 ⟨h2, h3⟩; cases this)]; rfl
      · rw [if_neg h2]; rfl
    · obtain ⟨h2, h3⟩ := hiff.1 ho
      rw [if_pos h2, if_pos h3]; rfl
theorem sgn_emod (w : Int) (a : Nat) : ((a : Int)) % (pw w : Int) = sgn w a % (pw w : Int) := by
  unfold sgn
  split
  · rw [Int.sub_emod_right]; exact nat_emod _ _
  · rw [Int.sub_zero]; exact nat_emod _ _
theorem remSS (w : Int) (hw : w = 32 ∨ w = 64) (a b : Nat) (ha : a < 18446744073709551616) (hb : b < 18446744073709551616) :
    ints_RemS.f w a b = some (if b % pw w = 0 then (0, 2) else ((sgn w a - (sgn w a).tdiv (sgn w b) * sgn w b) % (pw w : Int), 0)) := by
  unfold ints_RemS.f
  rw [divSS w hw a b ha hb, Option.bind_some]
  by_cases h : b % pw w = 0
  · rw [if_pos h, if_pos rfl, if_pos h]
  · rw [if_neg h, if_neg h]
    have hP := pw_0 w
    have h4 := pw_64 w
    cases ho : ovf w a b
    · simp only [Bool.false_eq_true, if_false, show ¬ ((0 : Int) = 2) by decide, show ¬ ((0 : Int) = 3) by decide]
      have p1 : 0 ≤ (sgn w a).tdiv (sgn w b) % (pw w : Int) := Int.emod_nonneg _ (by omega)
      have p2 : (sgn w a).tdiv (sgn w b) % (pw w : Int) < pw w := Int.emod_lt_of_pos _ (by omega)
      obtain ⟨p, hp⟩ := Int.eq_ofNat_of_zero_le p1
      show ((ints_Mul.f w ((sgn w a).tdiv (sgn w b) % (pw w : Int)) b).bind fun t550 => ((ints_Sub.f w a t550).bind fun t551 => (some (t551, 0)))) = _
      rw [hp]
      have h3 := Nat.mod_lt (p * b) hP
      rw [mulS w hw p b (by omega) hb, Option.bind_some, subS w hw a _ ha (by omega), Option.bind_some]
      congr 2
      rw [submul _ _ _ _ hP]
      refine sub_mul_congr _ _ _ _ _ _ _ (sgn_emod w a) ?_ (sgn_emod w b)
      rw [← hp, Int.emod_emod_of_dvd _ (Int.dvd_refl _)]
    · obtain ⟨h2, h3⟩ := (ovf_iff w hw a b h).1 ho
      simp only [if_true, show ¬ ((3 : Int) = 2) by decide, if_false]
      rw [h2, h3, Int.tdiv_neg, Int.tdiv_one]
      congr 2
      rw [show (-((sb w : Nat) : Int) - - -((sb w : Nat) : Int) * -1) = 0 by omega]; rfl
end Go.Proofs.Ytmjfenbbgfohlaa.Th

set_option linter.unusedVariables false
namespace Pop
/-! ### how many bits are 1, by sums of digits -/
def ds (B : Nat) : Nat → Nat → Nat
  | 0, _ => 0
  | n + 1, x => x % B + ds B n (x / B)
def mk (B : Nat) : Nat → Nat
  | 0 => 0
  | n + 1 => (B - 1) + B * B * mk B n
theorem and_rec (k x m : Nat) : x &&& ((2 ^ k - 1) + 2 ^ k * 2 ^ k * m) = x % 2 ^ k + 2 ^ k * 2 ^ k * (x / (2 ^ k * 2 ^ k) &&& m) := by
  have h1 : 2 ^ k - 1 < 2 ^ (k + k) := by
    have a : 0 < 2 ^ k := Nat.pow_pos (by decide)
    have b : 2 ^ k ≤ 2 ^ (k + k) := Nat.pow_le_pow_right (by decide) (by omega)
    omega
  have h2 : x % 2 ^ k < 2 ^ (k + k) := by
    have a : x % 2 ^ k < 2 ^ k := Nat.mod_lt _ (Nat.pow_pos (by decide))
    have b : 2 ^ k ≤ 2 ^ (k + k) := Nat.pow_le_pow_right (by decide) (by omega)
    omega
  rw [← Nat.pow_add]
  refine Nat.eq_of_testBit_eq fun j => ?_
  rw [Nat.testBit_and, Nat.add_comm (2 ^ k - 1), Nat.add_comm (x % 2 ^ k), Nat.testBit_two_pow_mul_add _ h1, Nat.testBit_two_pow_mul_add _ h2]
  by_cases h : j < k + k
  · rw [if_pos h, if_pos h, Nat.testBit_two_pow_sub_one, Nat.testBit_mod_two_pow, Bool.and_comm]
  · rw [if_neg h, if_neg h, Nat.testBit_and, Nat.testBit_div_two_pow, show j - (k + k) + (k + k) = j by omega]
theorem div2 (B x : Nat) : x / B / B = x / (B * B) := Nat.div_div_eq_div_mul ..
/-- one step: two digits are made one -/
theorem step (k : Nat) (hk : 0 < k) (n : Nat) : ∀ x, ds (2 ^ k * 2 ^ k) n ((x / 2 ^ k &&& mk (2 ^ k) n) + (x &&& mk (2 ^ k) n)) = ds (2 ^ k) (n + n) x := by
  have hB : 2 ≤ 2 ^ k := by
    have : 2 ^ 1 ≤ 2 ^ k := Nat.pow_le_pow_right (by decide) hk
    simpa using this
  induction n with
  | zero => intro x; rfl
  | succ n ih =>
    intro x
    have e1 := and_rec k x (mk (2 ^ k) n)
    have e2 := and_rec k (x / 2 ^ k) (mk (2 ^ k) n)
    have hh := ih (x / (2 ^ k * 2 ^ k))
    generalize hBd : 2 ^ k = B at *
    have e3 : x / B / (B * B) = x / (B * B) / B := by rw [Nat.div_div_eq_div_mul, Nat.div_div_eq_div_mul, Nat.mul_comm]
    rw [e3] at e2
    show (_ + _) % (B * B) + ds (B * B) n ((_ + _) / (B * B)) = _
    rw [show mk B (n + 1) = (B - 1) + B * B * mk B n from rfl, e1, e2]
    have l0 := Nat.mod_lt x (show 0 < B by omega)
    have l1 := Nat.mod_lt (x / B) (show 0 < B by omega)
    have hBB : B * 2 ≤ B * B := Nat.mul_le_mul_left B hB
    generalize (x / (B * B) / B &&& mk B n) = u at *
    generalize (x / (B * B) &&& mk B n) = v at *
    have e4 : x / B % B + B * B * u + (x % B + B * B * v) = B * B * (u + v) + (x / B % B + x % B) := by rw [Nat.mul_add]; omega
    rw [e4, Nat.mul_add_mod, Nat.mul_add_div (by omega), Nat.mod_eq_of_lt (by omega), Nat.div_eq_of_lt (a := x / B % B + x % B) (by omega), Nat.add_zero, hh]
    rw [show n + 1 + (n + 1) = (n + n) + 1 + 1 by omega]
    show _ = x % B + (x / B % B + ds B (n + n) (x / B / B))
    rw [div2]; omega
/-- all digits are at most so much -/
def le (B c : Nat) : Nat → Nat → Prop
  | 0, _ => True
  | n + 1, x => x % B ≤ c ∧ le B c n (x / B)
theorem step_le (k : Nat) (hk : 0 < k) (c n : Nat) : ∀ x, le (2 ^ k) c (n + n) x → le (2 ^ k * 2 ^ k) (c + c) n ((x / 2 ^ k &&& mk (2 ^ k) n) + (x &&& mk (2 ^ k) n)) := by
  have hB : 2 ≤ 2 ^ k := by
    have : 2 ^ 1 ≤ 2 ^ k := Nat.pow_le_pow_right (by decide) hk
    simpa using this
  induction n with
  | zero => intro x _; trivial
  | succ n ih =>
    intro x h
    rw [show n + 1 + (n + 1) = (n + n) + 1 + 1 by omega] at h
    obtain ⟨h1, h2, h3⟩ := h
    rw [div2] at h3
    have e1 := and_rec k x (mk (2 ^ k) n)
    have e2 := and_rec k (x / 2 ^ k) (mk (2 ^ k) n)
    have hh := ih (x / (2 ^ k * 2 ^ k)) h3
    generalize hBd : 2 ^ k = B at *
    have e3 : x / B / (B * B) = x / (B * B) / B := by rw [Nat.div_div_eq_div_mul, Nat.div_div_eq_div_mul, Nat.mul_comm]
    rw [e3] at e2
    show (_ + _) % (B * B) ≤ c + c ∧ le (B * B) (c + c) n ((_ + _) / (B * B))
    rw [show mk B (n + 1) = (B - 1) + B * B * mk B n from rfl, e1, e2]
    have l0 := Nat.mod_lt x (show 0 < B by omega)
    have l1 := Nat.mod_lt (x / B) (show 0 < B by omega)
    have hBB : B * 2 ≤ B * B := Nat.mul_le_mul_left B hB
    generalize (x / (B * B) / B &&& mk B n) = u at *
    generalize (x / (B * B) &&& mk B n) = v at *
    have e4 : x / B % B + B * B * u + (x % B + B * B * v) = B * B * (u + v) + (x / B % B + x % B) := by rw [Nat.mul_add]; omega
    rw [e4, Nat.mul_add_mod, Nat.mul_add_div (by omega), Nat.mod_eq_of_lt (by omega), Nat.div_eq_of_lt (a := x / B % B + x % B) (by omega), Nat.add_zero]
    exact ⟨by omega, hh⟩
/-- where the digits are small, they may be added first -/
theorem add_first (n : Nat) : ∀ x, le 16 4 (n + n) x → ((x / 16 + x) &&& mk 16 n) = (x / 16 &&& mk 16 n) + (x &&& mk 16 n) := by
  induction n with
  | zero => intro x _; simp [mk]
  | succ n ih =>
    intro x h
    rw [show n + 1 + (n + 1) = (n + n) + 1 + 1 by omega] at h
    obtain ⟨h1, h2, h3⟩ := h
    rw [div2] at h3
    have e1 := and_rec 4 x (mk 16 n)
    have e2 := and_rec 4 (x / 16) (mk 16 n)
    have e3 := and_rec 4 (x / 16 + x) (mk 16 n)
    rw [show (2 : Nat) ^ 4 = 16 by decide] at e1 e2 e3
    have hh := ih (x / (16 * 16)) h3
    rw [show mk 16 (n + 1) = (16 - 1) + 16 * 16 * mk 16 n from rfl, e1, e2, e3]
    rcases n with _ | n
    · rw [show mk 16 0 = 0 from rfl, Nat.and_zero, Nat.and_zero, Nat.and_zero]; omega
    have hd : x / (16 * 16) % 16 ≤ 4 := by
      rw [show n + 1 + (n + 1) = (n + n) + 1 + 1 by omega] at h3
      exact h3.1
    have e4 : (x / 16 + x) / (16 * 16) = x / (16 * 16) / 16 + x / (16 * 16) := by omega
    have e5 : x / 16 / (16 * 16) = x / (16 * 16) / 16 := by omega
    rw [e4, e5, hh]
    omega
theorem le_bits (n : Nat) : ∀ x, le 2 1 n x := by
  induction n with
  | zero => intro x; trivial
  | succ n ih => intro x; exact ⟨by omega, ih _⟩
theorem le_ds8 (x : Nat) (h : le 256 8 8 x) (hx : x < 18446744073709551616) : ∃ b0 b1 b2 b3 b4 b5 b6 b7 : Nat, b0 ≤ 8 ∧ b1 ≤ 8 ∧ b2 ≤ 8 ∧ b3 ≤ 8 ∧ b4 ≤ 8 ∧ b5 ≤ 8 ∧ b6 ≤ 8 ∧ b7 ≤ 8 ∧
    x = b0 + 256 * (b1 + 256 * (b2 + 256 * (b3 + 256 * (b4 + 256 * (b5 + 256 * (b6 + 256 * b7)))))) ∧ ds 256 8 x = b0 + b1 + b2 + b3 + b4 + b5 + b6 + b7 := by
  obtain ⟨h0, h1, h2, h3, h4, h5, h6, h7, _⟩ := h
  refine ⟨_, _, _, _, _, _, _, _, h0, h1, h2, h3, h4, h5, h6, h7, by omega, ?_⟩
  simp only [ds]; omega
/-- the last three sums -/
theorem last_sums (b0 b1 b2 b3 b4 b5 b6 b7 : Nat) (h0 : b0 ≤ 8) (h1 : b1 ≤ 8) (h2 : b2 ≤ 8) (h3 : b3 ≤ 8) (h4 : b4 ≤ 8) (h5 : b5 ≤ 8) (h6 : b6 ≤ 8) (h7 : b7 ≤ 8) (x y z : Nat)
    (hx : x = b0 + 256 * (b1 + 256 * (b2 + 256 * (b3 + 256 * (b4 + 256 * (b5 + 256 * (b6 + 256 * b7)))))))
    (hy : y = x + x / 256) (hz : z = y + y / 65536) : x < 1300000000000000000 ∧ y < 1400000000000000000 ∧ z < 1500000000000000000 ∧ (z + z / 4294967296) % 128 = b0 + b1 + b2 + b3 + b4 + b5 + b6 + b7 := by
  have ey : y = (b0 + b1) + 256 * ((b1 + b2) + 256 * ((b2 + b3) + 256 * ((b3 + b4) + 256 * ((b4 + b5) + 256 * ((b5 + b6) + 256 * ((b6 + b7) + 256 * b7)))))) := by omega
  have ez : z = (b0 + b1 + b2 + b3) + 256 * ((b1 + b2 + b3 + b4) + 256 * ((b2 + b3 + b4 + b5) + 256 * ((b3 + b4 + b5 + b6) + 256 * ((b4 + b5 + b6 + b7) + 256 * ((b5 + b6 + b7) + 256 * ((b6 + b7) + 256 * b7)))))) := by
    clear hx; omega
  refine ⟨by omega, by clear hx hy; omega, by clear hx hy hz ey; omega, ?_⟩
  clear hx hy hz ey
  have e : z / 4294967296 = (b4 + b5 + b6 + b7) + 256 * ((b5 + b6 + b7) + 256 * ((b6 + b7) + 256 * b7)) := by omega
  rw [e]
  clear e
  omega
theorem ds_more (n : Nat) : ∀ m x, x < 2 ^ n → ds 2 (n + m) x = ds 2 n x := by
  induction n with
  | zero =>
    intro m x h
    obtain rfl : x = 0 := by simpa using h
    rw [Nat.zero_add]
    induction m with
    | zero => rfl
    | succ m ih => show 0 % 2 + ds 2 m (0 / 2) = _; simpa using ih
  | succ n ih =>
    intro m x h
    rw [show n + 1 + m = (n + m) + 1 by omega]
    show x % 2 + ds 2 (n + m) (x / 2) = x % 2 + ds 2 n (x / 2)
    rw [ih m (x / 2) (by rw [Nat.pow_succ] at h; omega)]
/-- what is 1 and what is 0 are all -/
theorem ds_not (n : Nat) : ∀ x, x < 2 ^ n → ds 2 n x + ds 2 n (2 ^ n - 1 - x) = n := by
  induction n with
  | zero => intro x _; rfl
  | succ n ih =>
    intro x h
    have hp := Nat.pow_pos (n := n) (show 0 < 2 by decide)
    rw [Nat.pow_succ] at h ⊢
    show x % 2 + ds 2 n (x / 2) + ((2 ^ n * 2 - 1 - x) % 2 + ds 2 n ((2 ^ n * 2 - 1 - x) / 2)) = n + 1
    have e : (2 ^ n * 2 - 1 - x) / 2 = 2 ^ n - 1 - x / 2 := by omega
    have := ih (x / 2) (by omega)
    rw [e]
    omega
end Pop

set_option linter.unusedVariables false
set_option linter.unusedSimpArgs false
namespace Go.Proofs.Ytmjfenbbgfohlaa.Th
open Go.RowKit Go.Proofs.YtmjfenbbgfohlaaW.PrintWords Go.Proofs.YtmjfenbbgfohlaaW.PrintLast Go.Proofs.YtmjfenbbgfohlaaW.PrintMore Go.Proofs.Ytmjfenbbgfohlaa.PA Bit Dig
def pc1 (x : Int) : Int := IntKind.u64.wrap ((Go.bits .and .u64 (x / 2) 6148914691236517205) + (Go.bits .and .u64 x 6148914691236517205))
def pc2 (x : Int) : Int := IntKind.u64.wrap ((Go.bits .and .u64 (x / 4) 3689348814741910323) + (Go.bits .and .u64 x 3689348814741910323))
def pc3 (x : Int) : Int := Go.bits .and .u64 (IntKind.u64.wrap ((x / 16) + x)) 1085102592571150095
def pc4 (x : Int) : Int := IntKind.u64.wrap (x + (x / 256))
def pc5 (x : Int) : Int := IntKind.u64.wrap (x + (x / 65536))
def pc6 (x : Int) : Int := IntKind.u64.wrap (x + (x / 4294967296))
theorem ones_eq (a : Int) : bits_OnesCount64.f a = some (Go.bits .and .i64 (wrap64 (pc6 (pc5 (pc4 (pc3 (pc2 (pc1 a))))))) 127) := rfl
theorem i64_and127 (a : Nat) (ha : a < 9223372036854775808) : Go.bits .and .i64 (a : Int) 127 = ((a % 128 : Nat) : Int) := by
  show IntKind.i64.wrap ((BitVec.ofInt 64 (a : Int) &&& BitVec.ofInt 64 (127 : Int)).toNat : Int) = _
  rw [BitVec.toNat_and, ofInt_u64 a (by omega), show (127 : Int) = ((127 : Nat) : Int) from rfl, ofInt_u64 127 (by decide), nat_mask7, i64_w, w64_id (by omega) (by omega)]
theorem and_lt (a m : Nat) : a &&& m ≤ m := Nat.and_le_right
theorem pc1N (a : Nat) (ha : a < 18446744073709551616) : pc1 a = (((a / 2 &&& 6148914691236517205) + (a &&& 6148914691236517205) : Nat) : Int) := by
  unfold pc1
  have h1 := and_lt (a / 2) 6148914691236517205
  have h2 := and_lt a 6148914691236517205
  rw [show (a : Int) / 2 = ((a / 2 : Nat) : Int) by omega, show (6148914691236517205 : Int) = ((6148914691236517205 : Nat) : Int) from rfl, u64_and_nat _ _ (by omega) (by decide), u64_and_nat _ _ ha (by decide), u64_id (by omega) (by omega)]
  omega
theorem pc2N (a : Nat) (ha : a < 18446744073709551616) : pc2 a = (((a / 4 &&& 3689348814741910323) + (a &&& 3689348814741910323) : Nat) : Int) := by
  unfold pc2
  have h1 := and_lt (a / 4) 3689348814741910323
  have h2 := and_lt a 3689348814741910323
  rw [show (a : Int) / 4 = ((a / 4 : Nat) : Int) by omega, show (3689348814741910323 : Int) = ((3689348814741910323 : Nat) : Int) from rfl, u64_and_nat _ _ (by omega) (by decide), u64_and_nat _ _ ha (by decide), u64_id (by omega) (by omega)]
  omega
theorem pc3N (a : Nat) (ha : a ≤ 7378697629483820646) : pc3 a = (((a / 16 + a) &&& 1085102592571150095 : Nat) : Int) := by
  unfold pc3
  rw [show (a : Int) / 16 + a = ((a / 16 + a : Nat) : Int) by omega, u64_id (by omega) (by omega), show (1085102592571150095 : Int) = ((1085102592571150095 : Nat) : Int) from rfl, u64_and_nat _ _ (by omega) (by decide)]
theorem onesS (a : Nat) (ha : a < 18446744073709551616) : bits_OnesCount64.f a = some ((Pop.ds 2 64 a : Nat) : Int) := by
  rw [ones_eq, pc1N a ha]
  have k1 := Pop.step 1 (by decide) 32 a
  have k2 := Pop.step_le 1 (by decide) 1 32 a (by rw [show (2 : Nat) ^ 1 = 2 by decide]; exact Pop.le_bits _ _)
  rw [show (2 : Nat) ^ 1 = 2 by decide, show Pop.mk 2 32 = 6148914691236517205 by decide +kernel] at k1 k2
  have b1 := and_lt (a / 2) 6148914691236517205
  have b2 := and_lt a 6148914691236517205
  have b2' : (a / 2 &&& 6148914691236517205) + (a &&& 6148914691236517205) < 18446744073709551616 := by omega
  generalize (a / 2 &&& 6148914691236517205) + (a &&& 6148914691236517205) = y at *
  clear b1 b2
  rw [pc2N y (by omega)]
  have k3 := Pop.step 2 (by decide) 16 y
  have k4 := Pop.step_le 2 (by decide) 2 16 y k2
  rw [show (2 : Nat) ^ 2 = 4 by decide, show Pop.mk 4 16 = 3689348814741910323 by decide +kernel] at k3 k4
  have b3 := and_lt (y / 4) 3689348814741910323
  have b4 := and_lt y 3689348814741910323
  have b4' : (y / 4 &&& 3689348814741910323) + (y &&& 3689348814741910323) ≤ 7378697629483820646 := by omega
  generalize (y / 4 &&& 3689348814741910323) + (y &&& 3689348814741910323) = z at *
  clear b3 b4
  rw [pc3N z (by omega)]
  have k5 := Pop.step 4 (by decide) 8 z
  have k6 := Pop.step_le 4 (by decide) 4 8 z k4
  have k7 := Pop.add_first 8 z k4
  rw [show (2 : Nat) ^ 4 = 16 by decide, ← k7, show Pop.mk 16 8 = 1085102592571150095 by decide +kernel] at k5 k6
  have b5 := and_lt (z / 16 + z) 1085102592571150095
  generalize (z / 16 + z) &&& 1085102592571150095 = u at *
  obtain ⟨c0, c1, c2, c3, c4, c5, c6, c7, h0, h1, h2, h3, h4, h5, h6, h7, hx, hs⟩ := Pop.le_ds8 u k6 (by omega)
  obtain ⟨l1, l2, l3, l4⟩ := Pop.last_sums c0 c1 c2 c3 c4 c5 c6 c7 h0 h1 h2 h3 h4 h5 h6 h7 u _ _ hx rfl rfl
  have k1' : Pop.ds 4 32 _ = Pop.ds 2 64 a := k1
  clear k1 k2 k4 k6 k7 b2' b4' b5
  have hs' : Pop.ds 256 8 u = Pop.ds 2 64 a := k5.trans (k3.trans k1')
  rw [hs'] at hs
  clear k3 k5 k1' hs' hx
  have e4 : pc4 u = ((u + u / 256 : Nat) : Int) := by unfold pc4; rw [u64_id (by omega) (by omega)]; omega
  generalize hv : u + u / 256 = v at *
  have e5 : pc5 v = ((v + v / 65536 : Nat) : Int) := by unfold pc5; rw [u64_id (by omega) (by omega)]; omega
  generalize hw : v + v / 65536 = w at *
  have e6 : pc6 w = ((w + w / 4294967296 : Nat) : Int) := by unfold pc6; rw [u64_id (by omega) (by omega)]; omega
  rw [e4, e5, e6, w64_id (by omega) (by omega)]
  rw [i64_and127 _ (by omega), l4, ← hs]
theorem popS (w : Int) (hw : w = 32 ∨ w = 64) (a : Nat) (ha : a < 18446744073709551616) : ints_Popcnt.f w a = some ((Pop.ds 2 64 (a % pw w) : Nat) : Int) := by
  unfold ints_Popcnt.f
  have h1 := Nat.mod_le a (pw w)
  rw [shCut w a ha, Option.bind_some, cutP w hw a ha, onesS _ (by omega), Option.bind_some]
  have hb : ∀ n x, Pop.ds 2 n x ≤ n := by
    intro n
    induction n with
    | zero => intro x; exact Nat.le_refl _
    | succ n ih => intro x; have := ih (x / 2); show x % 2 + Pop.ds 2 n (x / 2) ≤ n + 1; omega
  have h2 := hb 64 (a % pw w)
  rw [u64_id (by omega) (by omega)]
end Go.Proofs.Ytmjfenbbgfohlaa.Th

set_option linter.unusedVariables false
set_option linter.unusedSimpArgs false
namespace Go.Proofs.Ytmjfenbbgfohlaa.Th
open Go.RowKit Go.Proofs.YtmjfenbbgfohlaaW.PrintWords Go.Proofs.YtmjfenbbgfohlaaW.PrintLast Go.Proofs.YtmjfenbbgfohlaaW.PrintMore Go.Proofs.Ytmjfenbbgfohlaa.PA Bit Dig
theorem rot_val (w : Int) (hw : w = 32 ∨ w = 64) (c m : Nat) (hm : m ≤ w.toNat) (hc : c < pw w) : rotN w c m = c % 2 ^ (w.toNat - m) * 2 ^ m + c / 2 ^ (w.toNat - m) := by
  unfold rotN
  have e : pw w = 2 ^ (w.toNat - m) * 2 ^ m := by rw [pw_two w hw, ← Nat.pow_add]; congr 1; omega
  have h1 : c / 2 ^ (w.toNat - m) < 2 ^ m := by rw [Nat.div_lt_iff_lt_mul (Nat.pow_pos (by decide)), Nat.mul_comm, ← e]; exact hc
  rw [e, Nat.mul_mod_mul_right, Nat.or_comm, or_pow _ _ m h1, Nat.add_comm]
theorem rot_lt (w : Int) (hw : w = 32 ∨ w = 64) (c m : Nat) (hm : m ≤ w.toNat) (hc : c < pw w) : rotN w c m < pw w := by
  rw [rot_val w hw c m hm hc]
  have e : pw w = 2 ^ (w.toNat - m) * 2 ^ m := by rw [pw_two w hw, ← Nat.pow_add]; congr 1; omega
  have h1 : c / 2 ^ (w.toNat - m) < 2 ^ m := by rw [Nat.div_lt_iff_lt_mul (Nat.pow_pos (by decide)), Nat.mul_comm, ← e]; exact hc
  have h2 := Nat.mod_lt c (show 0 < 2 ^ (w.toNat - m) from Nat.pow_pos (by decide))
  have h3 := Nat.mul_le_mul_right (2 ^ m) (show c % 2 ^ (w.toNat - m) + 1 ≤ 2 ^ (w.toNat - m) from h2)
  rw [← e, Nat.add_mul] at h3
  omega
theorem rot_back (w : Int) (hw : w = 32 ∨ w = 64) (c m : Nat) (hm : m < w.toNat) (hc : c < pw w) : rotN w (rotN w c m) ((w.toNat - m) % w.toNat) = c := by
  have hr := rot_lt w hw c m (by omega) hc
  rcases Nat.eq_zero_or_pos m with h | h
  · subst h
    have e0 : ∀ c, c < pw w → rotN w c 0 = c := by
      intro c hc
      rw [rot_val w hw c 0 (by omega) hc, Nat.sub_zero, ← pw_two w hw, Nat.mod_eq_of_lt hc, Nat.div_eq_of_lt hc]; simp
    rw [Nat.sub_zero, Nat.mod_self, e0 c hc, e0 c hc]
  · rw [Nat.mod_eq_of_lt (show w.toNat - m < w.toNat by omega), rot_val w hw _ _ (by omega) hr, show w.toNat - (w.toNat - m) = m by omega, rot_val w hw c m (by omega) hc]
    have e : pw w = 2 ^ (w.toNat - m) * 2 ^ m := by rw [pw_two w hw, ← Nat.pow_add]; congr 1; omega
    have h1 : c / 2 ^ (w.toNat - m) < 2 ^ m := by rw [Nat.div_lt_iff_lt_mul (Nat.pow_pos (by decide)), Nat.mul_comm, ← e]; exact hc
    have h3 := Nat.div_add_mod c (2 ^ (w.toNat - m))
    have hp : 0 < 2 ^ m := Nat.pow_pos (by decide)
    generalize c / 2 ^ (w.toNat - m) = q at *
    generalize c % 2 ^ (w.toNat - m) = r at *
    rw [Nat.mul_comm r, Nat.mul_add_mod, Nat.mod_eq_of_lt h1, Nat.mul_add_div hp, Nat.div_eq_of_lt h1, Nat.add_zero, Nat.mul_comm q]
    exact h3
theorem not_val (a : Nat) (ha : a < 18446744073709551616) : Go.bits .xor .u64 IntKind.u64.max (a : Int) = ((18446744073709551615 - a : Nat) : Int) := by
  rw [show IntKind.u64.max = ((18446744073709551615 : Nat) : Int) from rfl, u64_xor_nat _ a (by decide) ha]
  congr 1
  refine Nat.eq_of_testBit_eq fun i => ?_
  have h := Nat.testBit_two_pow_sub_succ (n := 64) (x := a) ha i
  rw [show (2 : Nat) ^ 64 - (a + 1) = 18446744073709551615 - a by have : (2 : Nat) ^ 64 = 18446744073709551616 := by decide
                                                                  omega] at h
  rw [h, Nat.testBit_xor, show (18446744073709551615 : Nat) = 2 ^ 64 - 1 by decide, Nat.testBit_two_pow_sub_one]
  by_cases hi : i < 64
  · simp [hi]
  · have : a.testBit i = false := Nat.testBit_lt_two_pow (Nat.lt_of_lt_of_le ha (by rw [show (18446744073709551616 : Nat) = 2 ^ 64 by decide]; exact Nat.pow_le_pow_right (by decide) (by omega)))
    simp [hi, this]
theorem ds_pw (w : Int) (hw : w = 32 ∨ w = 64) (a : Nat) (ha : a < 18446744073709551616) : Pop.ds 2 64 (a % pw w) + Pop.ds 2 64 ((18446744073709551615 - a) % pw w) = w.toNat := by
  rcases hw with rfl | rfl
  · have e : (18446744073709551615 - a) % pw 32 = 2 ^ 32 - 1 - a % pw 32 := by
      rw [show pw 32 = 4294967296 from rfl, show (2 : Nat) ^ 32 = 4294967296 by decide]; omega
    have h1 : a % pw 32 < 2 ^ 32 := Nat.mod_lt _ (by decide)
    rw [e, Pop.ds_more 32 32 _ h1, Pop.ds_more 32 32 _ (by omega), Pop.ds_not 32 _ h1]; rfl
  · have e : (18446744073709551615 - a) % pw 64 = 2 ^ 64 - 1 - a % pw 64 := by
      rw [show pw 64 = 18446744073709551616 from rfl, show (2 : Nat) ^ 64 = 18446744073709551616 by decide]; omega
    have h1 : a % pw 64 < 2 ^ 64 := Nat.mod_lt _ (by decide)
    rw [e, Pop.ds_not 64 _ h1]; rfl
theorem cut_shift (w : Int) (hw : w = 32 ∨ w = 64) (a : Nat) (ha : a < 18446744073709551616) : shr .u64 (shl .u64 (a : Int) (wrap64 (64 - w))) (wrap64 (64 - w)) = ((a % pw w : Nat) : Int) := by
  rcases hw with rfl | rfl
  · rw [show wrap64 (64 - 32) = 32 by decide +kernel]
    unfold shl shr
    rw [show min ((32 : Int)).toNat IntKind.u64.bits = 32 by decide, IntKind.wrap_u64, show (2 : Int) ^ 32 = 4294967296 by decide, show pw 32 = 4294967296 from rfl]
    omega
  · rw [show wrap64 (64 - 64) = 0 by decide +kernel]
    unfold shl shr
    rw [show min ((0 : Int)).toNat IntKind.u64.bits = 0 by decide, IntKind.wrap_u64, show pw 64 = 18446744073709551616 from rfl]
    omega
theorem back_add (w : Int) (hw : w = 32 ∨ w = 64) (a b : Nat) (p r : Int) (ha : a < 18446744073709551616) (hb : b < 18446744073709551616) (q x y : Int) (hp : p = q % (pw w : Int)) (hr : r = (x - q * y) % (pw w : Int))
    (hx : ((a : Int)) % (pw w : Int) = x % (pw w : Int)) (hy : ((b : Int)) % (pw w : Int) = y % (pw w : Int)) :
    ∃ t, ints_Mul.f w p b = some t ∧ ints_Add.f w t r = some ((a % pw w : Nat) : Int) := by
  have hP := pw_0 w
  have h64 := pw_64 w
  have p1 : 0 ≤ p ∧ p < pw w := by rw [hp]; exact ⟨Int.emod_nonneg _ (by omega), Int.emod_lt_of_pos _ (by omega)⟩
  have r1 : 0 ≤ r ∧ r < pw w := by rw [hr]; exact ⟨Int.emod_nonneg _ (by omega), Int.emod_lt_of_pos _ (by omega)⟩
  obtain ⟨p, rfl⟩ := Int.eq_ofNat_of_zero_le p1.1
  obtain ⟨r, rfl⟩ := Int.eq_ofNat_of_zero_le r1.1
  have h3 := Nat.mod_lt (p * b) hP
  refine ⟨_, mulS w hw p b (by omega) hb, ?_⟩
  rw [addS w hw _ r (by omega) (by omega)]
  congr 1
  have hpp : ((p : Nat) : Int) % (pw w : Int) = q % (pw w : Int) := by rw [hp, Int.emod_emod_of_dvd _ (Int.dvd_refl _)]
  rw [Nat.mod_add_mod, Int.natCast_emod, Int.natCast_add, Int.natCast_mul, hr, Int.add_emod, Int.emod_emod_of_dvd _ (Int.dvd_refl _), Int.mul_emod, hpp, hy, ← Int.mul_emod, ← Int.add_emod,
    show q * y + (x - q * y) = x by omega, ← hx, Int.natCast_emod]
theorem back_j1 (w : Int) (hw : w = 32 ∨ w = 64) (a b : Nat) (ha : a < 18446744073709551616) (hb : b < 18446744073709551616) : Ev (fun k => trunnionlaw13_IntsBack.j1 k w a b ((a % pw w : Nat) : Int) false) true := by
  have hP := pw_0 w
  have h64 := pw_64 w
  have hc := Nat.mod_lt a hP
  have hm := Nat.mod_lt b (show 0 < w.toNat by omega)
  have hl := rot_lt w hw (a % pw w) (b % w.toNat) (by omega) hc
  have hb2 := rot_back w hw (a % pw w) (b % w.toNat) hm hc
  have d1 := rotlS w hw a b ha hb
  have d2 := rotrS w hw (rotN w (a % pw w) (b % w.toNat)) b (by omega) hb
  rw [Nat.mod_eq_of_lt hl, hb2] at d2
  have d3 := popS w hw a ha
  have d4 := popS w hw (18446744073709551615 - a) (by omega)
  have hs := ds_pw w hw a ha
  have h5 := Nat.mod_lt (a + b) hP
  have d5 := addS w hw a b ha hb
  have d6 := subS w hw ((a + b) % pw w) b (by omega) hb
  refine Ev.step (fun _ => trunnionlaw13_IntsBack.j1.eq_2 ..) ?_
  rw [not_val a ha]
  refine Ev.neg (by decide) (Ev.bs d1 (Ev.bs d2 (Ev.pos rfl (Ev.bs d3 (Ev.bs d4 (Ev.pos ?_ (Ev.bs d5 (Ev.bs d6 (Ev.out ?_)))))))))
  · rw [u64_id (by omega) (by omega), u64_id (by omega) (by omega)]; omega
  · have e : ((a + b) % pw w + pw w - b % pw w) % pw w = a % pw w := by
      clear d1 d2 d3 d4 d5 d6 hb2 hl hs
      rcases hw with rfl | rfl
      · rw [show pw 32 = 4294967296 from rfl]; omega
      · rw [show pw 64 = 18446744073709551616 from rfl]; omega
    rw [e]; simp
theorem back_j0 (w : Int) (hw : w = 32 ∨ w = 64) (a b : Nat) (ha : a < 18446744073709551616) (hb : b < 18446744073709551616) : Ev (fun k => trunnionlaw13_IntsBack.j0 k w a b false) true := by
  have hP := pw_0 w
  have h64 := pw_64 w
  have hj := back_j1 w hw a b ha hb
  refine Ev.step (fun _ => trunnionlaw13_IntsBack.j0.eq_2 ..) ?_
  rw [cut_shift w hw a ha]
  refine Ev.neg (by decide) (Ev.pos (by rw [w64_id (by omega) (by omega)]; omega) (Ev.bs (divSS w hw a b ha hb) (Ev.bs (remSS w hw a b ha hb) (Ev.bs (divUS w hw a b ha hb) (Ev.bs (remUS w hw a b ha hb) ?_)))))
  by_cases h : b % pw w = 0
  · simp only [if_pos h]
    exact Ev.neg (by decide) (Ev.neg (by decide) hj)
  · simp only [if_neg h]
    have m0 := Nat.mod_lt (a % pw w) (show 0 < b % pw w by omega)
    have m1 := Nat.mod_lt b hP
    have m2 := Nat.mod_lt a hP
    have hu : IntKind.u64.wrap 0 = 0 := by decide
    obtain ⟨t, t1, t2⟩ := back_add w hw a b ((a % pw w / (b % pw w) : Nat) : Int) ((a % pw w % (b % pw w) : Nat) : Int) ha hb ((a % pw w / (b % pw w) : Nat) : Int) ((a % pw w : Nat) : Int) ((b % pw w : Nat) : Int)
      (by rw [Int.emod_eq_of_lt (Int.natCast_nonneg _) (Int.ofNat_lt.2 (Nat.lt_of_le_of_lt (Nat.div_le_self _ _) m2))])
      (by
        have h5 := Nat.div_add_mod (a % pw w) (b % pw w)
        rw [← Int.natCast_mul, Nat.mul_comm]
        generalize b % pw w * (a % pw w / (b % pw w)) = u at *
        rw [show ((a % pw w : Nat) : Int) - u = ((a % pw w % (b % pw w) : Nat) : Int) by omega, Int.emod_eq_of_lt (by omega) (by omega)])
      (nat_emod _ _) (nat_emod _ _)
    have lt1 : ints_LtU.f w ((a % pw w % (b % pw w) : Nat) : Int) b = some true := by
      unfold ints_LtU.f
      rw [shCut w _ (by omega), Option.bind_some, shCut w b hb, Option.bind_some, cutP w hw _ (by omega), cutP w hw b hb, Nat.mod_eq_of_lt (show a % pw w % (b % pw w) < pw w by omega), decide_eq_true (by omega)]
    cases ho : ovf w a b
    · simp only [if_neg (show ¬ (false = true) by decide)]
      obtain ⟨s, s1, s2⟩ := back_add w hw a b ((sgn w a).tdiv (sgn w b) % (pw w : Int)) ((sgn w a - (sgn w a).tdiv (sgn w b) * sgn w b) % (pw w : Int)) ha hb ((sgn w a).tdiv (sgn w b)) (sgn w a) (sgn w b) rfl rfl (sgn_emod w a) (sgn_emod w b)
      exact Ev.pos trivial (Ev.pos trivial (Ev.bs s1 (Ev.bs s2 (Ev.pos rfl (Ev.pos trivial (Ev.pos trivial (Ev.bs t1 (Ev.bs t2 (Ev.pos rfl (Ev.bs lt1 hj))))))))))
    · simp only [if_true]
      exact Ev.neg (by decide) (Ev.bs t1 (Ev.bs t2 (Ev.pos rfl (Ev.bs lt1 hj))))
theorem IntsBackP : trunnionlaw13_IntsBack.Pure := by
  intro w a b hw0 ha0 hb0
  obtain ⟨ha1, ha2⟩ := wf_u64 ha0
  obtain ⟨a, rfl⟩ := Int.eq_ofNat_of_zero_le ha1
  have ha : a < 18446744073709551616 := by omega
  obtain ⟨hb1, hb2⟩ := wf_u64 hb0
  obtain ⟨b, rfl⟩ := Int.eq_ofNat_of_zero_le hb1
  have hb : b < 18446744073709551616 := by omega
  refine Ev.rounds ?_
  unfold trunnionlaw13_IntsBack.f
  refine Ev.bs awake13 (Ev.pos rfl ?_)
  by_cases h1 : w = 32
  · exact Ev.pos h1 (back_j0 w (.inl h1) a b ha hb)
  · refine Ev.neg h1 ?_
    by_cases h2 : w = 64
    · subst h2
      exact back_j0 64 (.inr rfl) a b ha hb
    · have : (w != 64) = true := by simp [h2]
      rw [this]
      exact Ev.step (fun _ => trunnionlaw13_IntsBack.j0.eq_2 ..) (Ev.pos rfl (Ev.out rfl))
end Go.Proofs.Ytmjfenbbgfohlaa.Th

namespace Go.Proofs.Ytmjfenbbgfohlaa.Pure
theorem IntsBack : Go.Proofs.Ytmjfenbbgfohlaa.PA.trunnionlaw13_IntsBack.Pure := Go.Proofs.Ytmjfenbbgfohlaa.Th.IntsBackP
end Go.Proofs.Ytmjfenbbgfohlaa.Pure

namespace Go.Proofs.Ytmjfenbbgfohlaa.Facts
theorem words_word (w : List Char) (r : List Char) (h : w.all (fun c => c != Char.ofNat 32) = true) : wordsSigns (w ++ Char.ofNat 32 :: r) = w :: wordsSigns r := by
  induction w with
  | nil => rfl
  | cons c w ih =>
    rw [List.all_cons, Bool.and_eq_true] at h
    have hc : c ≠ Char.ofNat 32 := bne_iff_ne.1 h.1
    rw [List.cons_append]
    rw [wordsSigns.eq_3 c _ (fun e => hc e), ih h.2]
def w1 : List Char := [Char.ofNat 104, Char.ofNat 97, Char.ofNat 114, Char.ofNat 110, Char.ofNat 101, Char.ofNat 115, Char.ofNat 115]
def w2 : List Char := [Char.ofNat 101, Char.ofNat 57, Char.ofNat 57, Char.ofNat 97, Char.ofNat 57, Char.ofNat 55, Char.ofNat 53, Char.ofNat 98, Char.ofNat 102, Char.ofNat 48, Char.ofNat 101, Char.ofNat 53, Char.ofNat 99, Char.ofNat 55, Char.ofNat 52, Char.ofNat 56, Char.ofNat 48, Char.ofNat 48, Char.ofNat 48, Char.ofNat 98, Char.ofNat 51, Char.ofNat 97, Char.ofNat 56, Char.ofNat 52, Char.ofNat 54, Char.ofNat 50, Char.ofNat 99, Char.ofNat 99, Char.ofNat 52, Char.ofNat 50, Char.ofNat 57, Char.ofNat 51, Char.ofNat 51, Char.ofNat 49, Char.ofNat 51, Char.ofNat 99, Char.ofNat 57, Char.ofNat 55, Char.ofNat 51, Char.ofNat 57, Char.ofNat 52, Char.ofNat 98, Char.ofNat 52, Char.ofNat 51, Char.ofNat 57, Char.ofNat 101, Char.ofNat 54, Char.ofNat 51, Char.ofNat 53, Char.ofNat 55, Char.ofNat 52, Char.ofNat 56, Char.ofNat 49, Char.ofNat 54, Char.ofNat 97, Char.ofNat 56, Char.ofNat 56, Char.ofNat 51, Char.ofNat 98, Char.ofNat 49, Char.ofNat 50, Char.ofNat 52, Char.ofNat 48, Char.ofNat 56]
def w3 : List Char := [Char.ofNat 99, Char.ofNat 117, Char.ofNat 116]
set_option maxRecDepth 100000 in
def tailSigns : List Char := [Char.ofNat 97, Char.ofNat 116, Char.ofNat 32, Char.ofNat 116, Char.ofNat 114, Char.ofNat 117, Char.ofNat 110, Char.ofNat 110, Char.ofNat 105, Char.ofNat 111, Char.ofNat 110, Char.ofNat 47, Char.ofNat 116, Char.ofNat 114, Char.ofNat 117, Char.ofNat 110, Char.ofNat 110, Char.ofNat 105, Char.ofNat 111, Char.ofNat 110, Char.ofNat 108, Char.ofNat 97, Char.ofNat 119, Char.ofNat 49, Char.ofNat 48, Char.ofNat 46, Char.ofNat 83, Char.ofNat 105, Char.ofNat 103, Char.ofNat 110, Char.ofNat 65, Char.ofNat 103, Char.ofNat 97, Char.ofNat 105, Char.ofNat 110, Char.ofNat 32, Char.ofNat 116, Char.ofNat 114, Char.ofNat 117, Char.ofNat 110, Char.ofNat 110, Char.ofNat 105, Char.ofNat 111, Char.ofNat 110, Char.ofNat 47, Char.ofNat 116, Char.ofNat 114, Char.ofNat 117, Char.ofNat 110, Char.ofNat 110, Char.ofNat 105, Char.ofNat 111, Char.ofNat 110, Char.ofNat 108, Char.ofNat 97, Char.ofNat 119, Char.ofNat 49, Char.ofNat 48, Char.ofNat 46, Char.ofNat 83, Char.ofNat 105, Char.ofNat 103, Char.ofNat 110, Char.ofNat 84, Char.ofNat 117, Char.ofNat 114, Char.ofNat 110, Char.ofNat 115, Char.ofNat 32, Char.ofNat 116, Char.ofNat 114, Char.ofNat 117, Char.ofNat 110, Char.ofNat 110, Char.ofNat 105, Char.ofNat 111, Char.ofNat 110, Char.ofNat 47, Char.ofNat 116, Char.ofNat 114, Char.ofNat 117, Char.ofNat 110, Char.ofNat 110, Char.ofNat 105, Char.ofNat 111, Char.ofNat 110, Char.ofNat 108, Char.ofNat 97, Char.ofNat 119, Char.ofNat 49, Char.ofNat 48, Char.ofNat 46, Char.ofNat 83, Char.ofNat 105, Char.ofNat 103, Char.ofNat 110, Char.ofNat 66, Char.ofNat 97, Char.ofNat 99, Char.ofNat 107, Char.ofNat 32, Char.ofNat 116, Char.ofNat 114, Char.ofNat 117, Char.ofNat 110, Char.ofNat 110, Char.ofNat 105, Char.ofNat 111, Char.ofNat 110, Char.ofNat 47, Char.ofNat 116, Char.ofNat 114, Char.ofNat 117, Char.ofNat 110, Char.ofNat 110, Char.ofNat 105, Char.ofNat 111, Char.ofNat 110, Char.ofNat 108, Char.ofNat 97, Char.ofNat 119, Char.ofNat 49, Char.ofNat 51, Char.ofNat 46, Char.ofNat 73, Char.ofNat 110, Char.ofNat 116, Char.ofNat 115, Char.ofNat 83, Char.ofNat 117, Char.ofNat 109, Char.ofNat 115, Char.ofNat 32, Char.ofNat 116, Char.ofNat 114, Char.ofNat 117, Char.ofNat 110, Char.ofNat 110, Char.ofNat 105, Char.ofNat 111, Char.ofNat 110, Char.ofNat 47, Char.ofNat 116, Char.ofNat 114, Char.ofNat 117, Char.ofNat 110, Char.ofNat 110, Char.ofNat 105, Char.ofNat 111, Char.ofNat 110, Char.ofNat 108, Char.ofNat 97, Char.ofNat 119, Char.ofNat 48, Char.ofNat 50, Char.ofNat 46, Char.ofNat 83, Char.ofNat 104, Char.ofNat 97, Char.ofNat 112, Char.ofNat 101, Char.ofNat 79, Char.ofNat 114, Char.ofNat 100, Char.ofNat 101, Char.ofNat 114, Char.ofNat 32, Char.ofNat 116, Char.ofNat 114, Char.ofNat 117, Char.ofNat 110, Char.ofNat 110, Char.ofNat 105, Char.ofNat 111, Char.ofNat 110, Char.ofNat 47, Char.ofNat 116, Char.ofNat 114, Char.ofNat 117, Char.ofNat 110, Char.ofNat 110, Char.ofNat 105, Char.ofNat 111, Char.ofNat 110, Char.ofNat 108, Char.ofNat 97, Char.ofNat 119, Char.ofNat 48, Char.ofNat 50, Char.ofNat 46, Char.ofNat 83, Char.ofNat 104, Char.ofNat 97, Char.ofNat 112, Char.ofNat 101, Char.ofNat 79, Char.ofNat 112, Char.ofNat 101, Char.ofNat 110, Char.ofNat 115, Char.ofNat 32, Char.ofNat 116, Char.ofNat 114, Char.ofNat 117, Char.ofNat 110, Char.ofNat 110, Char.ofNat 105, Char.ofNat 111, Char.ofNat 110, Char.ofNat 47, Char.ofNat 116, Char.ofNat 114, Char.ofNat 117, Char.ofNat 110, Char.ofNat 110, Char.ofNat 105, Char.ofNat 111, Char.ofNat 110, Char.ofNat 108, Char.ofNat 97, Char.ofNat 119, Char.ofNat 49, Char.ofNat 51, Char.ofNat 46, Char.ofNat 73, Char.ofNat 110, Char.ofNat 116, Char.ofNat 115, Char.ofNat 83, Char.ofNat 104, Char.ofNat 105, Char.ofNat 102, Char.ofNat 116, Char.ofNat 115, Char.ofNat 32, Char.ofNat 116, Char.ofNat 114, Char.ofNat 117, Char.ofNat 110, Char.ofNat 110, Char.ofNat 105, Char.ofNat 111, Char.ofNat 110, Char.ofNat 47, Char.ofNat 116, Char.ofNat 114, Char.ofNat 117, Char.ofNat 110, Char.ofNat 110, Char.ofNat 105, Char.ofNat 111, Char.ofNat 110, Char.ofNat 108, Char.ofNat 97, Char.ofNat 119, Char.ofNat 48, Char.ofNat 49, Char.ofNat 46, Char.ofNat 87, Char.ofNat 105, Char.ofNat 100, Char.ofNat 101, Char.ofNat 82, Char.ofNat 111, Char.ofNat 111, Char.ofNat 116, Char.ofNat 115, Char.ofNat 32, Char.ofNat 116, Char.ofNat 114, Char.ofNat 117, Char.ofNat 110, Char.ofNat 110, Char.ofNat 105, Char.ofNat 111, Char.ofNat 110, Char.ofNat 47, Char.ofNat 116, Char.ofNat 114, Char.ofNat 117, Char.ofNat 110, Char.ofNat 110, Char.ofNat 105, Char.ofNat 111, Char.ofNat 110, Char.ofNat 108, Char.ofNat 97, Char.ofNat 119, Char.ofNat 48, Char.ofNat 50, Char.ofNat 46, Char.ofNat 83, Char.ofNat 104, Char.ofNat 97, Char.ofNat 112, Char.ofNat 101, Char.ofNat 69, Char.ofNat 110, Char.ofNat 100, Char.ofNat 115, Char.ofNat 32, Char.ofNat 116, Char.ofNat 114, Char.ofNat 117, Char.ofNat 110, Char.ofNat 110, Char.ofNat 105, Char.ofNat 111, Char.ofNat 110, Char.ofNat 47, Char.ofNat 116, Char.ofNat 114, Char.ofNat 117, Char.ofNat 110, Char.ofNat 110, Char.ofNat 105, Char.ofNat 111, Char.ofNat 110, Char.ofNat 108, Char.ofNat 97, Char.ofNat 119, Char.ofNat 49, Char.ofNat 51, Char.ofNat 46, Char.ofNat 73, Char.ofNat 110, Char.ofNat 116, Char.ofNat 115, Char.ofNat 68, Char.ofNat 105, Char.ofNat 118, Char.ofNat 115, Char.ofNat 32, Char.ofNat 116, Char.ofNat 114, Char.ofNat 117, Char.ofNat 110, Char.ofNat 110, Char.ofNat 105, Char.ofNat 111, Char.ofNat 110, Char.ofNat 47, Char.ofNat 116, Char.ofNat 114, Char.ofNat 117, Char.ofNat 110, Char.ofNat 110, Char.ofNat 105, Char.ofNat 111, Char.ofNat 110, Char.ofNat 108, Char.ofNat 97, Char.ofNat 119, Char.ofNat 49, Char.ofNat 51, Char.ofNat 46, Char.ofNat 73, Char.ofNat 110, Char.ofNat 116, Char.ofNat 115, Char.ofNat 80, Char.ofNat 111, Char.ofNat 119, Char.ofNat 101, Char.ofNat 114, Char.ofNat 115, Char.ofNat 32, Char.ofNat 116, Char.ofNat 114, Char.ofNat 117, Char.ofNat 110, Char.ofNat 110, Char.ofNat 105, Char.ofNat 111, Char.ofNat 110, Char.ofNat 47, Char.ofNat 116, Char.ofNat 114, Char.ofNat 117, Char.ofNat 110, Char.ofNat 110, Char.ofNat 105, Char.ofNat 111, Char.ofNat 110, Char.ofNat 108, Char.ofNat 97, Char.ofNat 119, Char.ofNat 48, Char.ofNat 49, Char.ofNat 46, Char.ofNat 87, Char.ofNat 105, Char.ofNat 100, Char.ofNat 101, Char.ofNat 83, Char.ofNat 104, Char.ofNat 105, Char.ofNat 102, Char.ofNat 116, Char.ofNat 115, Char.ofNat 32, Char.ofNat 116, Char.ofNat 114, Char.ofNat 117, Char.ofNat 110, Char.ofNat 110, Char.ofNat 105, Char.ofNat 111, Char.ofNat 110, Char.ofNat 47, Char.ofNat 116, Char.ofNat 114, Char.ofNat 117, Char.ofNat 110, Char.ofNat 110, Char.ofNat 105, Char.ofNat 111, Char.ofNat 110, Char.ofNat 108, Char.ofNat 97, Char.ofNat 119, Char.ofNat 48, Char.ofNat 49, Char.ofNat 46, Char.ofNat 87, Char.ofNat 105, Char.ofNat 100, Char.ofNat 101, Char.ofNat 76, Char.ofNat 101, Char.ofNat 110, Char.ofNat 115, Char.ofNat 32, Char.ofNat 116, Char.ofNat 114, Char.ofNat 117, Char.ofNat 110, Char.ofNat 110, Char.ofNat 105, Char.ofNat 111, Char.ofNat 110, Char.ofNat 47, Char.ofNat 116, Char.ofNat 114, Char.ofNat 117, Char.ofNat 110, Char.ofNat 110, Char.ofNat 105, Char.ofNat 111, Char.ofNat 110, Char.ofNat 108, Char.ofNat 97, Char.ofNat 119, Char.ofNat 48, Char.ofNat 49, Char.ofNat 46, Char.ofNat 87, Char.ofNat 105, Char.ofNat 100, Char.ofNat 101, Char.ofNat 83, Char.ofNat 117, Char.ofNat 109, Char.ofNat 115, Char.ofNat 32, Char.ofNat 116, Char.ofNat 114, Char.ofNat 117, Char.ofNat 110, Char.ofNat 110, Char.ofNat 105, Char.ofNat 111, Char.ofNat 110, Char.ofNat 47, Char.ofNat 116, Char.ofNat 114, Char.ofNat 117, Char.ofNat 110, Char.ofNat 110, Char.ofNat 105, Char.ofNat 111, Char.ofNat 110, Char.ofNat 108, Char.ofNat 97, Char.ofNat 119, Char.ofNat 48, Char.ofNat 56, Char.ofNat 46, Char.ofNat 79, Char.ofNat 114, Char.ofNat 100, Char.ofNat 101, Char.ofNat 114, Char.ofNat 80, Char.ofNat 105, Char.ofNat 99, Char.ofNat 107, Char.ofNat 115, Char.ofNat 32, Char.ofNat 116, Char.ofNat 114, Char.ofNat 117, Char.ofNat 110, Char.ofNat 110, Char.ofNat 105, Char.ofNat 111, Char.ofNat 110, Char.ofNat 47, Char.ofNat 116, Char.ofNat 114, Char.ofNat 117, Char.ofNat 110, Char.ofNat 110, Char.ofNat 105, Char.ofNat 111, Char.ofNat 110, Char.ofNat 108, Char.ofNat 97, Char.ofNat 119, Char.ofNat 48, Char.ofNat 50, Char.ofNat 46, Char.ofNat 83, Char.ofNat 104, Char.ofNat 97, Char.ofNat 112, Char.ofNat 101, Char.ofNat 66, Char.ofNat 97, Char.ofNat 99, Char.ofNat 107, Char.ofNat 32, Char.ofNat 116, Char.ofNat 114, Char.ofNat 117, Char.ofNat 110, Char.ofNat 110, Char.ofNat 105, Char.ofNat 111, Char.ofNat 110, Char.ofNat 47, Char.ofNat 116, Char.ofNat 114, Char.ofNat 117, Char.ofNat 110, Char.ofNat 110, Char.ofNat 105, Char.ofNat 111, Char.ofNat 110, Char.ofNat 108, Char.ofNat 97, Char.ofNat 119, Char.ofNat 48, Char.ofNat 56, Char.ofNat 46, Char.ofNat 79, Char.ofNat 114, Char.ofNat 100, Char.ofNat 101, Char.ofNat 114, Char.ofNat 65, Char.ofNat 115, Char.ofNat 107, Char.ofNat 115, Char.ofNat 32, Char.ofNat 116, Char.ofNat 114, Char.ofNat 117, Char.ofNat 110, Char.ofNat 110, Char.ofNat 105, Char.ofNat 111, Char.ofNat 110, Char.ofNat 47, Char.ofNat 116, Char.ofNat 114, Char.ofNat 117, Char.ofNat 110, Char.ofNat 110, Char.ofNat 105, Char.ofNat 111, Char.ofNat 110, Char.ofNat 108, Char.ofNat 97, Char.ofNat 119, Char.ofNat 48, Char.ofNat 56, Char.ofNat 46, Char.ofNat 79, Char.ofNat 114, Char.ofNat 100, Char.ofNat 101, Char.ofNat 114, Char.ofNat 75, Char.ofNat 101, Char.ofNat 101, Char.ofNat 112, Char.ofNat 115, Char.ofNat 32, Char.ofNat 116, Char.ofNat 114, Char.ofNat 117, Char.ofNat 110, Char.ofNat 110, Char.ofNat 105, Char.ofNat 111, Char.ofNat 110, Char.ofNat 47, Char.ofNat 116, Char.ofNat 114, Char.ofNat 117, Char.ofNat 110, Char.ofNat 110, Char.ofNat 105, Char.ofNat 111, Char.ofNat 110, Char.ofNat 108, Char.ofNat 97, Char.ofNat 119, Char.ofNat 48, Char.ofNat 56, Char.ofNat 46, Char.ofNat 79, Char.ofNat 114, Char.ofNat 100, Char.ofNat 101, Char.ofNat 114, Char.ofNat 67, Char.ofNat 104, Char.ofNat 97, Char.ofNat 105, Char.ofNat 110, Char.ofNat 32, Char.ofNat 116, Char.ofNat 114, Char.ofNat 117, Char.ofNat 110, Char.ofNat 110, Char.ofNat 105, Char.ofNat 111, Char.ofNat 110, Char.ofNat 47, Char.ofNat 116, Char.ofNat 114, Char.ofNat 117, Char.ofNat 110, Char.ofNat 110, Char.ofNat 105, Char.ofNat 111, Char.ofNat 110, Char.ofNat 108, Char.ofNat 97, Char.ofNat 119, Char.ofNat 49, Char.ofNat 51, Char.ofNat 46, Char.ofNat 73, Char.ofNat 110, Char.ofNat 116, Char.ofNat 115, Char.ofNat 66, Char.ofNat 97, Char.ofNat 99, Char.ofNat 107, Char.ofNat 32, Char.ofNat 116, Char.ofNat 114, Char.ofNat 117, Char.ofNat 110, Char.ofNat 110, Char.ofNat 105, Char.ofNat 111, Char.ofNat 110, Char.ofNat 47, Char.ofNat 116, Char.ofNat 114, Char.ofNat 117, Char.ofNat 110, Char.ofNat 110, Char.ofNat 105, Char.ofNat 111, Char.ofNat 110, Char.ofNat 108, Char.ofNat 97, Char.ofNat 119, Char.ofNat 48, Char.ofNat 49, Char.ofNat 46, Char.ofNat 87, Char.ofNat 105, Char.ofNat 100, Char.ofNat 101, Char.ofNat 68, Char.ofNat 105, Char.ofNat 118, Char.ofNat 115, Char.ofNat 32, Char.ofNat 116, Char.ofNat 114, Char.ofNat 117, Char.ofNat 110, Char.ofNat 110, Char.ofNat 105, Char.ofNat 111, Char.ofNat 110, Char.ofNat 47, Char.ofNat 116, Char.ofNat 114, Char.ofNat 117, Char.ofNat 110, Char.ofNat 110, Char.ofNat 105, Char.ofNat 111, Char.ofNat 110, Char.ofNat 108, Char.ofNat 97, Char.ofNat 119, Char.ofNat 48, Char.ofNat 49, Char.ofNat 46, Char.ofNat 87, Char.ofNat 105, Char.ofNat 100, Char.ofNat 101, Char.ofNat 66, Char.ofNat 97, Char.ofNat 99, Char.ofNat 107]
set_option maxRecDepth 100000 in
theorem head_list : Try.prog.initOrder.toList = w1 ++ Char.ofNat 32 :: (w2 ++ Char.ofNat 32 :: (w3 ++ Char.ofNat 32 :: tailSigns)) :=
  (congrArg String.toList (show Try.prog.initOrder = String.ofList (w1 ++ Char.ofNat 32 :: (w2 ++ Char.ofNat 32 :: (w3 ++ Char.ofNat 32 :: tailSigns))) from rfl)).trans String.toList_ofList
theorem words : ∃ rest, behindMainWord (wordsSigns Try.prog.initOrder.toList) = w3 :: rest := by
  refine ⟨wordsSigns tailSigns, ?_⟩
  rw [head_list, words_word w1 _ (by kernel_rfl), words_word w2 _ (by kernel_rfl), words_word w3 _ (by kernel_rfl)]
  generalize wordsSigns tailSigns = rest
  have e : ((w1 == "harness".toList || w1 == "ownmain".toList) && isSumSigns w2) = true := by kernel_rfl
  show (if ((w1 == "harness".toList || w1 == "ownmain".toList) && isSumSigns w2) = true then w3 :: rest else w1 :: w2 :: w3 :: rest) = w3 :: rest
  rw [if_pos e]
theorem c3 : (w3 == "gc".toList) = false ∧ (w3 == "spec".toList) = false ∧ (w3 == "cut".toList) = true ∧ (w3 == "carried".toList) = false ∧ (w3 == "finals".toList) = false := ⟨by kernel_rfl, by kernel_rfl, by kernel_rfl, by kernel_rfl, by kernel_rfl⟩
theorem strip (rest : List (List Char)) : stripLifts liftWords (w3 :: rest) = ([], w3 :: rest) := by
  have key : ∀ l : List String, l.all (fun o => !(w3 == o.toList)) = true → stripLifts l (w3 :: rest) = ([], w3 :: rest) := by
    intro l
    induction l with
    | nil => intro _; rfl
    | cons o l ih =>
      intro h
      rw [List.all_cons, Bool.and_eq_true] at h
      unfold stripLifts
      rw [if_neg (fun e => by have h1 := h.1; rw [e] at h1; cases h1)]
      exact ih h.2
  exact key liftWords (by kernel_rfl)
theorem make_of (P : Program) (h : ∃ rest, behindMainWord (wordsSigns P.initOrder.toList) = w3 :: rest) : P.make = some .cut := by
  obtain ⟨rest, h⟩ := h
  unfold Program.make
  rw [h]
  show (if (w3 == "gc".toList || w3 == "spec".toList) = true then some Make.whole else if (w3 == "cut".toList || (w3 == "finals".toList && rest.head? == some "cut".toList)) = true then some Make.cut else _) = some Make.cut
  rw [if_neg (by rw [c3.1, c3.2.1]; decide), if_pos (by rw [c3.2.2.1, Bool.true_or])]
set_option maxRecDepth 100000 in
theorem liftsFact : Try.prog.liftsFinal = false := by
  unfold Program.liftsFinal Program.headLifts
  rw [head_list]
  kernel_rfl
theorem doorFact : (!Try.prog.laysLater && !Try.prog.bearsReflect && Try.prog.doorFits []) = true := by kernel_rfl
theorem makeFact : Try.prog.make = some .cut := make_of _ words
theorem enter_of (P : Program) (h : ∃ rest, behindMainWord (wordsSigns P.initOrder.toList) = w3 :: rest) (d : (!P.laysLater && !P.bearsReflect && P.doorFits []) = true) : P.mayEnter = true := by
  obtain ⟨rest, h⟩ := h
  rw [Bool.and_eq_true, Bool.and_eq_true] at d
  have e : ((some w3 == some "cut".toList) : Bool) = true := by kernel_rfl
  unfold Program.mayEnter
  rw [h]
  show ((_ || _) || ((stripLifts liftWords (w3 :: rest)).2.head? == some "cut".toList && ((stripLifts liftWords (w3 :: rest)).1.contains "finals" || !P.laysLater) && ((stripLifts liftWords (w3 :: rest)).1.contains "reflectrows" || !P.bearsReflect) &&
      ((stripLifts liftWords (w3 :: rest)).1.contains "reflectrows" || !(stripLifts liftWords (w3 :: rest)).1.contains "leanrows") && P.doorFits (stripLifts liftWords (w3 :: rest)).1)) = true
  rw [strip, Bool.or_eq_true]
  refine .inr ?_
  rw [Bool.and_eq_true, Bool.and_eq_true, Bool.and_eq_true, Bool.and_eq_true, Bool.or_eq_true, Bool.or_eq_true]
  exact ⟨⟨⟨⟨e, .inr d.1.1⟩, .inr d.1.2⟩, rfl⟩, d.2⟩
theorem enterFact : Try.prog.mayEnter = true := enter_of _ words doorFact
end Go.Proofs.Ytmjfenbbgfohlaa.Facts
