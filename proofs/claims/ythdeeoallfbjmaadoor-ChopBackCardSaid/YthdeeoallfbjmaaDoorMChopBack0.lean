/- What the Go functions that the statement ChopBack reaches compute, and the mathematics on it, in the order in which one leans on the other; for every input. -/
import Derived.Test.YthdeeoallfbjmaaDoorVChopBack1
import Derived.Test.YthdeeoallfbjmaaDoorProg
import Derived.Below
import Derived.Deep.Draws
import Derived.Deep.AppendLies
import Derived.Maps.AppendAt
import Derived.OwnWalk
import Derived.Laws.BytesArg
import Derived.Laws.MakeOwn
import Derived.Laws.OwnMore
import Derived.Deep.OwnRows
import Derived.Tactics
import Derived.Lib.ConvBytes
import Derived.Laws.Slices
import Derived.WalkKit
import Derived.KernelRfl
import Derived.RowKit3
import Derived.Deep.LoopGhost
import Derived.Deep.QuietTactic
import Derived.BigQuiet
import Derived.WideLaws
import Derived.Deep.DeepCutAuto
import Derived.Deep.CutBlock
import Derived.Deep.RegionHeld3
import Derived.Laws.Rows
import Derived.Lib.AppendStr
import Derived.ArgAppend
import Derived.Laws.IdiomCopy
import Derived.OrdersHeld
import Derived.Laws.BitsLemmas
import Derived.RowKit
import Derived.Test.YthdeeoallfbjmaaDoorVChopBack0
import Derived.Shelf.Strconv.Itoa0
import Derived.Shelf.Spec.TrailingZeros
import Derived.Shelf.Spec.BitsCarry
namespace Go.Proofs.YthdeeoallfbjmaaDoor.PA
open Go.RowKit Go.Proofs.YthdeeoallfbjmaaDoorW.PrintWords Go.Proofs.YthdeeoallfbjmaaDoorW.PrintLast Go.Proofs.YthdeeoallfbjmaaDoorW.PrintMore
attribute [local go_sem] max2_int min2_int max_two min_two max_three min_three max_four min_four   -- for this text's walks alone
set_option linter.unusedVariables false
set_option linter.unusedSimpArgs false
set_option maxHeartbeats 8000000
set_option maxRecDepth 100000



def errW : Option Int → Value
  | none => .nilIface
  | some c => .iface 0 (.int .i64 c)
theorem errW_none : errW none = .nilIface := rfl
theorem errW_some (c : Int) : errW (some c) = .iface 0 (.int .i64 c) := rfl

theorem info4 : (Tryd.prog.info? 4).map (fun i => (i.zero, i.size, i.bytes)) = some (some (.bool false), 1, 1) := by kernel_rfl
theorem info22 : (Tryd.prog.info? 22).map (fun i => (i.zero, i.size, i.bytes)) = some (some (.int .u64 0), 1, 8) := by kernel_rfl
-- the values' own types
structure S99 where
  f0 : Int
  f1 : Int
def z99 : S99 := ⟨(0 : Int), (0 : Int)⟩
def k99 : Kd S99 := Kd.iso (Kd.pair (Kd.int .u64) (Kd.int .u64)) (fun x : S99 => (x.f0, x.f1))
theorem k99_heap : Kd.Heap k99 := Kd.heap_iso _ (Kd.heap_pair (Kd.heap_int .u64) (Kd.heap_int .u64))
theorem k99_open {w : World} {x : S99} {cs : List Value} (h : k99.K w x cs) : cs = [.int .u64 x.f0, .int .u64 x.f1] := by
  obtain ⟨_, _, rfl, rfl, rfl⟩ := h
  exact rfl
theorem k99_openM {w : World} {base : Nat} {ok : Nat → Prop} {x : S99} {cs : List Value} (h : k99.M w base ok x cs) : cs = [.int .u64 x.f0, .int .u64 x.f1] := by
  obtain ⟨_, _, rfl, rfl, rfl⟩ := h
  exact rfl
theorem k99_mk (w : World) (x : S99)  : k99.K w x [.int .u64 x.f0, .int .u64 x.f1] := ⟨[.int .u64 x.f0], [.int .u64 x.f1], rfl, rfl, rfl⟩
theorem k99_mkM (w : World) (base : Nat) (ok : Nat → Prop) (x : S99)  : k99.M w base ok x [.int .u64 x.f0, .int .u64 x.f1] := ⟨[.int .u64 x.f0], [.int .u64 x.f1], rfl, rfl, rfl⟩
theorem k99_mkF (W : World) (ok : Nat → Prop) (x : S99) : Kd.FK k99 W ok x [.int .u64 x.f0, .int .u64 x.f1] := fun W2 _ => k99_mk W2 x
def rd_T99 (xs : List S99) (i : Int) : S99 := xs.getD i.toNat z99
theorem at_T99 {w : World} {A : Option Addr} {n : Nat} {xs : List S99} (h : Kd.C k99 w A n xs) (i : Int) (h0 : 0 ≤ i) (h1 : i < n) : ∃ ad , A = some ad ∧ w.cell? (ad.add (i.toNat * 2)) = some (.int .u64 (rd_T99 xs i).f0) ∧ w.cell? ⟨(ad.add (i.toNat * 2)).block, (ad.add (i.toNat * 2)).off + 1, none⟩ = some (.int .u64 (rd_T99 xs i).f1) := by
  obtain ⟨ad, c, e, _, hK, hc0⟩ := Kd.C_get h z99 i h0 h1
  have hc : ∀ j u, c[j]? = some u → w.cell? (ad.add (i.toNat * 2 + j)) = some u := hc0
  obtain rfl := k99_open hK
  exact ⟨ad, e, hc 0 _ rfl, by rw [← add_field _ _ 1 (by omega)]; exact hc 1 _ rfl⟩

end Go.Proofs.YthdeeoallfbjmaaDoor.PA
namespace Go.Proofs
open Go.Shelf
def Tryd.lays129_ren : Go.Shelf.Ren := ⟨fun | 129 => 41 | n => n, fun | 53 => 22 | 3 => 3 | 4 => 4 | 46 => 39 | 5 => 5 | 9 => 9 | n => n, fun | n => n⟩
theorem Tryd.lays129 : Go.Proofs.Lays.n129 Tryd.prog Tryd.lays129_ren := {
  mixed := by kernel_rfl
  f129 := Tryd.func41.trans (congrArg some (by kernel_rfl))
  t3 := Tryd.underlying3
  a3 := Tryd.isAgg3
  z3 := Tryd.sizeOf3
  v3 := Tryd.zeroValue3
  t4 := Tryd.underlying4
  a4 := Tryd.isAgg4
  z4 := Tryd.sizeOf4
  v4 := Tryd.zeroValue4
  t5 := Tryd.underlying5
  a5 := Tryd.isAgg5
  z5 := Tryd.sizeOf5
  v5 := Tryd.zeroValue5
  t9 := Tryd.underlying9
  a9 := Tryd.isAgg9
  z9 := Tryd.sizeOf9
  v9 := Tryd.zeroValue9
  t46 := Tryd.underlying39
  a46 := Tryd.isAgg39
  z46 := Tryd.sizeOf39
  v46 := Tryd.zeroValue39
  t53 := Tryd.underlying22
  a53 := Tryd.isAgg22
  z53 := Tryd.sizeOf22
  v53 := Tryd.zeroValue22 }
theorem Tryd.bits_Len64 (x : Int) (w : World) (h0 : 0 ≤ x) (h1 : x ≤ 18446744073709551615) :
    Calls Tryd.prog 41 #[.int .u64 x] w fun e w' => e = .returned (.int .i64 (Lib.bitLen x.toNat)) ∧ w' = w := Any.bits_Len64 Tryd.lays129 x w h0 h1
end Go.Proofs
namespace Go.Proofs.YthdeeoallfbjmaaDoor.PA
open Go.RowKit Go.Proofs.YthdeeoallfbjmaaDoorW.PrintWords Go.Proofs.YthdeeoallfbjmaaDoorW.PrintLast Go.Proofs.YthdeeoallfbjmaaDoorW.PrintMore
attribute [local go_sem] max2_int min2_int max_two min_two max_three min_three max_four min_four   -- for this text's walks alone
set_option linter.unusedVariables false
set_option linter.unusedSimpArgs false
set_option maxHeartbeats 8000000
set_option maxRecDepth 100000
-- IMPORT Derived.Test.YthdeeoallfbjmaaDoorShelf
def bits_Len64.f (a0 : Int) : Option (Int) := if 0 ≤ a0 ∧ a0 ≤ 18446744073709551615 then some ((Lib.bitLen a0.toNat : Nat) : Int) else none
theorem bits_Len64.calls (a0 : Int) (r : Int) (w : World) (h : bits_Len64.f a0 = some r) :
  Calls Tryd.prog 41 #[.int .u64 a0] w fun e w' => e = .returned (.int .i64 r) ∧ Drawn0 w w' := by
 unfold bits_Len64.f at h
 split at h
 ·rename_i hr
  obtain rfl := Option.some.inj h
  refine (Tryd.bits_Len64 a0 w hr.1 hr.2).mono ?_
  rintro e w' ⟨rfl, rfl⟩
  exact ⟨rfl, Drawn0.refl _⟩
 ·cases h
-- IMPORT Derived.Shelf.Spec.TrailingZeros
def bits_TrailingZeros64.f (a0 : Int) : Option (Int) := if 0 ≤ a0 ∧ a0 ≤ 18446744073709551615 then some ((Lib.ctz 64 a0.toNat : Nat) : Int) else none
def Tab (w : World) : Prop := TabAt 0 Lib.deBruijn64tab w
def TT (w : World) : Prop := Tab w ∧ 0 < w.heap.size
theorem TT.go {w w' : World} (hb : Below w.heap.size w w') (h : Aside0 (TT w)) : Aside0 (TT w') :=
 ⟨fun j hj => (hb.cell (p := ⟨0, j, none⟩) h.out.2).trans (h.out.1 j hj), Nat.lt_of_lt_of_le h.out.2 hb.size⟩
set_option maxHeartbeats 1000000 in
theorem bits_TrailingZeros64.core (x k idx : Nat) (w : World) (hx0 : ((x : Int) == 0) = false)
  (key : IntKind.u64.wrap (bits BinOp.and IntKind.u64 (x : Int) (IntKind.u64.wrap (-(x : Int))) * 285870213051353865) / 288230376151711744 = (idx : Int))
  (hi : idx < 64) (hk : k < 64) (hcell : w.cell? ⟨0, idx, none⟩ = some (.int .u8 k)) :
  Calls Tryd.prog 42 #[.int .u64 x] w fun e w' => e = .returned (.int .i64 k) ∧ w' = w := by
 go_enter Tryd.func42, Tryd.ntmps42
 go_wp2_with (simp only [key])
 go_ret
 exact ⟨rfl, rfl⟩
theorem bits_TrailingZeros64.zero (w : World) : Calls Tryd.prog 42 #[.int .u64 0] w fun e w' => e = .returned (.int .i64 64) ∧ w' = w := by
 go_enter Tryd.func42, Tryd.ntmps42
 go_wp2
 go_ret
 exact ⟨rfl, rfl⟩
theorem bits_TrailingZeros64.calls (a0 : Int) (r : Int) (w : World) (h : bits_TrailingZeros64.f a0 = some r) (T_ : Aside0 (TT w)) :
  Calls Tryd.prog 42 #[.int .u64 a0] w fun e w' => e = .returned (.int .i64 r) ∧ Drawn0 w w' := by
 unfold bits_TrailingZeros64.f at h
 split at h
 ·rename_i hr
  obtain rfl := Option.some.inj h
  obtain ⟨x, rfl⟩ := Int.eq_ofNat_of_zero_le hr.1
  have hx : x < 18446744073709551616 := by omega
  rw [Int.toNat_natCast]
  by_cases hx0 : x = 0
  ·subst hx0
   exact (bits_TrailingZeros64.zero w).mono fun e w' ⟨he, hw⟩ => ⟨he, hw ▸ Drawn0.refl _⟩
  ·obtain ⟨hlow, hk⟩ := Lib.lowest_bit 64 x hx0 hx
   obtain ⟨hi, htab⟩ := Lib.deBruijn64_at _ hk
   have hcell := T_.out.1 _ hi
   rw [htab] at hcell
   exact (bits_TrailingZeros64.core x _ _ w (by simp; omega) (tz64_key x _ hx hx0 hlow) hi hk hcell).mono fun e w' ⟨he, hw⟩ => ⟨he, hw ▸ Drawn0.refl _⟩
 ·cases h
def cast_known.f (a0 : Int) : Option (Bool) := if a0 = 32 then (some true) else (some (a0 == 64))
theorem cast_known.calls (a0 : Int) (r : Bool) (w : World) (h : cast_known.f a0 = some r) :
  Calls Tryd.prog 53 #[.int .i64 a0] w fun e w' => e = .returned (.bool r) ∧ Drawn0 w w' := by
 have H : (if a0 = 32 then (some true) else (some (a0 == 64))) = some r := h
 clear h
 by_cases c2 : a0 = 32
 ·rw [if_pos c2] at H
  have c2b0 : (a0 == 32) = true := beq_iff_eq.mpr c2
  have c2b1 : (a0 != 32) = false := bne_eq_false_iff_eq.mpr c2
  clear c2
  obtain rfl := Option.some.inj H
  go_enter Tryd.func53, Tryd.ntmps53
  go_wp2
  go_ret
  exact ⟨sm_, by repeat (first | exact Drawn0.refl _ | apply Drawn0.step)⟩
 ·rw [if_neg c2] at H
  have c2b0 : (a0 == 32) = false := beq_eq_false_iff_ne.mpr c2
  have c2b1 : (a0 != 32) = true := bne_iff_ne.mpr c2
  obtain rfl := Option.some.inj H
  go_enter Tryd.func53, Tryd.ntmps53
  go_wp2
  go_ret
  exact ⟨sm_, by repeat (first | exact Drawn0.refl _ | apply Drawn0.step)⟩
def cast_amount_int32.f (a0 : Int) : Option (Int × Bool) := if a0 < 0 then (some (IntKind.u64.wrap (-(IntKind.u64.wrap (a0))), true)) else (some (IntKind.u64.wrap (a0), false))
theorem cast_amount_int32.calls (a0 : Int) (r1 : Int) (r2 : Bool) (w : World) (h : cast_amount_int32.f a0 = some (r1, r2)) :
  Calls Tryd.prog 92 #[.int .i32 a0] w fun e w' => e = .returned (.tuple #[.int .u64 r1, .bool r2]) ∧ Drawn0 w w' := by
 have H : (if a0 < 0 then (some (IntKind.u64.wrap (-(IntKind.u64.wrap (a0))), true)) else (some (IntKind.u64.wrap (a0), false))) = some (r1, r2) := h
 clear h
 by_cases c2 : a0 < 0
 ·rw [if_pos c2] at H
  have c2b0 : decide (a0 < 0) = true := decide_eq_true c2
  clear c2
  simp only [Option.some.injEq, Prod.mk.injEq] at H
  obtain ⟨rfl, rfl⟩ := H
  go_enter Tryd.func92, Tryd.ntmps92
  go_wp2
  go_ret2
  exact ⟨sm_, by repeat (first | exact Drawn0.refl _ | apply Drawn0.step)⟩
 ·rw [if_neg c2] at H
  have c2b0 : decide (a0 < 0) = false := decide_eq_false c2
  clear c2
  simp only [Option.some.injEq, Prod.mk.injEq] at H
  obtain ⟨rfl, rfl⟩ := H
  go_enter Tryd.func92, Tryd.ntmps92
  go_wp2
  go_ret2
  exact ⟨sm_, by repeat (first | exact Drawn0.refl _ | apply Drawn0.step)⟩
def cast_amount_int64.f (a0 : Int) : Option (Int × Bool) := if a0 < 0 then (some (IntKind.u64.wrap (-(IntKind.u64.wrap (a0))), true)) else (some (IntKind.u64.wrap (a0), false))
theorem cast_amount_int64.calls (a0 : Int) (r1 : Int) (r2 : Bool) (w : World) (h : cast_amount_int64.f a0 = some (r1, r2)) :
  Calls Tryd.prog 93 #[.int .i64 a0] w fun e w' => e = .returned (.tuple #[.int .u64 r1, .bool r2]) ∧ Drawn0 w w' := by
 have H : (if a0 < 0 then (some (IntKind.u64.wrap (-(IntKind.u64.wrap (a0))), true)) else (some (IntKind.u64.wrap (a0), false))) = some (r1, r2) := h
 clear h
 by_cases c2 : a0 < 0
 ·rw [if_pos c2] at H
  have c2b0 : decide (a0 < 0) = true := decide_eq_true c2
  clear c2
  simp only [Option.some.injEq, Prod.mk.injEq] at H
  obtain ⟨rfl, rfl⟩ := H
  go_enter Tryd.func93, Tryd.ntmps93
  go_wp2
  go_ret2
  exact ⟨sm_, by repeat (first | exact Drawn0.refl _ | apply Drawn0.step)⟩
 ·rw [if_neg c2] at H
  have c2b0 : decide (a0 < 0) = false := decide_eq_false c2
  clear c2
  simp only [Option.some.injEq, Prod.mk.injEq] at H
  obtain ⟨rfl, rfl⟩ := H
  go_enter Tryd.func93, Tryd.ntmps93
  go_wp2
  go_ret2
  exact ⟨sm_, by repeat (first | exact Drawn0.refl _ | apply Drawn0.step)⟩
def cast_signed.f (a0 : Int) (a1 : Int) : Option (Int × Bool) := if a0 = 32 then ((cast_amount_int32.f (wrap32 ((a1) % 4294967296))).bind fun bt198 => (some (bt198.1, bt198.2))) else ((cast_amount_int64.f (wrap64 (a1))).bind fun bt200 => (some (bt200.1, bt200.2)))
theorem cast_signed.calls (a0 : Int) (a1 : Int) (r1 : Int) (r2 : Bool) (w : World) (h : cast_signed.f a0 a1 = some (r1, r2)) :
  Calls Tryd.prog 71 #[.int .i64 a0, .int .u64 a1] w fun e w' => e = .returned (.tuple #[.int .u64 r1, .bool r2]) ∧ Drawn0 w w' := by
 have H : (if a0 = 32 then ((cast_amount_int32.f (wrap32 ((a1) % 4294967296))).bind fun bt198 => (some (bt198.1, bt198.2))) else ((cast_amount_int64.f (wrap64 (a1))).bind fun bt200 => (some (bt200.1, bt200.2)))) = some (r1, r2) := h
 clear h
 by_cases c3 : a0 = 32
 ·rw [if_pos c3] at H
  have c3b0 : (a0 == 32) = true := beq_iff_eq.mpr c3
  have c3b1 : (a0 != 32) = false := bne_eq_false_iff_eq.mpr c3
  clear c3
  replace H := ob_ H
  obtain ⟨⟨t198, t199⟩, A40, H⟩ := H
  replace H : (some (t198, t199)) = some (r1, r2) := H
  have A4 := A_ A40;clear A40
  simp only [Option.some.injEq, Prod.mk.injEq] at H
  obtain ⟨rfl, rfl⟩ := H
  go_enter Tryd.func71, Tryd.ntmps71
  go_wp2_with (first | ((with_reducible refine gate_callee (f := 92) rfl ?_); refine goesL_ (some 11) rfl rfl Tryd.func92 (by kernel_rfl) rfl #[.int .i32 (wrap32 ((a1) % 4294967296))] rfl mp_ ?_; (with_reducible refine (cast_amount_int32.calls (wrap32 ((a1) % 4294967296)) t198 t199 _ A4.out).mono ?_); rintro e w' ⟨rfl, ⟨nd, rfl⟩⟩; refine ⟨_, rfl, ?_⟩))
  go_ret2
  exact ⟨sm_, by repeat (first | exact Drawn0.refl _ | apply Drawn0.step)⟩
 ·rw [if_neg c3] at H
  have c3b0 : (a0 == 32) = false := beq_eq_false_iff_ne.mpr c3
  have c3b1 : (a0 != 32) = true := bne_iff_ne.mpr c3
  replace H := ob_ H
  obtain ⟨⟨t200, t201⟩, A50, H⟩ := H
  replace H : (some (t200, t201)) = some (r1, r2) := H
  have A5 := A_ A50;clear A50
  simp only [Option.some.injEq, Prod.mk.injEq] at H
  obtain ⟨rfl, rfl⟩ := H
  go_enter Tryd.func71, Tryd.ntmps71
  go_wp2_with (first | ((with_reducible refine gate_callee (f := 93) rfl ?_); refine goesL_ (some 16) rfl rfl Tryd.func93 (by kernel_rfl) rfl #[.int .i64 (wrap64 (a1))] rfl mp_ ?_; (with_reducible refine (cast_amount_int64.calls (wrap64 (a1)) t200 t201 _ A5.out).mono ?_); rintro e w' ⟨rfl, ⟨nd, rfl⟩⟩; refine ⟨_, rfl, ?_⟩))
  go_ret2
  exact ⟨sm_, by repeat (first | exact Drawn0.refl _ | apply Drawn0.step)⟩
def shape_Cut.f (a0 : Int) (a1 : Int) : Option (Int) := if a0 = 32 then (some (Go.bits .and .u64 a1 4294967295)) else (if a0 = 64 then (some a1) else (some 0))
theorem shape_Cut.calls (a0 : Int) (a1 : Int) (r : Int) (w : World) (h : shape_Cut.f a0 a1 = some r) :
  Calls Tryd.prog 34 #[.int .i64 a0, .int .u64 a1] w fun e w' => e = .returned (.int .u64 r) ∧ Drawn0 w w' := by
 have H : (if a0 = 32 then (some (Go.bits .and .u64 a1 4294967295)) else (if a0 = 64 then (some a1) else (some 0))) = some r := h
 clear h
 by_cases c3 : a0 = 32
 ·rw [if_pos c3] at H
  have c3b0 : (a0 == 32) = true := beq_iff_eq.mpr c3
  have c3b1 : (a0 != 32) = false := bne_eq_false_iff_eq.mpr c3
  clear c3
  obtain rfl := Option.some.inj H
  go_enter Tryd.func34, Tryd.ntmps34
  go_wp2
  go_ret
  exact ⟨sm_, by repeat (first | exact Drawn0.refl _ | apply Drawn0.step)⟩
 ·rw [if_neg c3] at H
  have c3b0 : (a0 == 32) = false := beq_eq_false_iff_ne.mpr c3
  have c3b1 : (a0 != 32) = true := bne_iff_ne.mpr c3
  by_cases c4 : a0 = 64
  ·rw [if_pos c4] at H
   have c4b0 : (a0 == 64) = true := beq_iff_eq.mpr c4
   have c4b1 : (a0 != 64) = false := bne_eq_false_iff_eq.mpr c4
   clear c4
   obtain rfl := Option.some.inj H
   go_enter Tryd.func34, Tryd.ntmps34
   go_wp2
   go_ret
   exact ⟨sm_, by repeat (first | exact Drawn0.refl _ | apply Drawn0.step)⟩
  ·rw [if_neg c4] at H
   have c4b0 : (a0 == 64) = false := beq_eq_false_iff_ne.mpr c4
   have c4b1 : (a0 != 64) = true := bne_iff_ne.mpr c4
   obtain rfl := Option.some.inj H
   go_enter Tryd.func34, Tryd.ntmps34
   go_wp2
   go_ret
   exact ⟨sm_, by repeat (first | exact Drawn0.refl _ | apply Drawn0.step)⟩
def cast_read.f (a0 : Int) (a1 : Int) (a2 : Bool) : Option (Int × Bool) := if a2 = true then ((cast_signed.f a0 a1).bind fun bt202 => (some (bt202.1, bt202.2))) else ((shape_Cut.f a0 a1).bind fun t204 => (some (t204, false)))
theorem cast_read.calls (a0 : Int) (a1 : Int) (a2 : Bool) (r1 : Int) (r2 : Bool) (w : World) (h : cast_read.f a0 a1 a2 = some (r1, r2)) :
  Calls Tryd.prog 54 #[.int .i64 a0, .int .u64 a1, .bool a2] w fun e w' => e = .returned (.tuple #[.int .u64 r1, .bool r2]) ∧ Drawn0 w w' := by
 have H : (if a2 = true then ((cast_signed.f a0 a1).bind fun bt202 => (some (bt202.1, bt202.2))) else ((shape_Cut.f a0 a1).bind fun t204 => (some (t204, false)))) = some (r1, r2) := h
 clear h
 by_cases c4 : a2 = true
 ·subst c4
  have H1 : ((cast_signed.f a0 a1).bind fun bt202 => (some (bt202.1, bt202.2))) = some (r1, r2) := by rw [if_pos rfl] at H; exact H
  clear H;have H := H1;clear H1
  replace H := ob_ H
  obtain ⟨⟨t202, t203⟩, A50, H⟩ := H
  replace H : (some (t202, t203)) = some (r1, r2) := H
  have A5 := A_ A50;clear A50
  simp only [Option.some.injEq, Prod.mk.injEq] at H
  obtain ⟨rfl, rfl⟩ := H
  go_enter Tryd.func54, Tryd.ntmps54
  go_wp2_with (first | ((with_reducible refine gate_callee (f := 71) rfl ?_); refine goesL_ (some 11) rfl rfl Tryd.func71 (by kernel_rfl) rfl #[.int .i64 a0, .int .u64 a1] rfl mp_ ?_; (with_reducible refine (cast_signed.calls a0 a1 t202 t203 _ A5.out).mono ?_); rintro e w' ⟨rfl, ⟨nd, rfl⟩⟩; refine ⟨_, rfl, ?_⟩))
  go_ret2
  exact ⟨sm_, by repeat (first | exact Drawn0.refl _ | apply Drawn0.step)⟩
 ·replace c4 := Bool.eq_false_iff.mpr c4
  subst c4
  have H1 : ((shape_Cut.f a0 a1).bind fun t204 => (some (t204, false))) = some (r1, r2) := by rw [if_neg (show ¬ (false = true) by decide)] at H; exact H
  clear H;have H := H1;clear H1
  replace H := ob_ H
  obtain ⟨t204, A60, H⟩ := H
  replace H : (some (t204, false)) = some (r1, r2) := H
  have A6 := A_ A60;clear A60
  simp only [Option.some.injEq, Prod.mk.injEq] at H
  obtain ⟨rfl, rfl⟩ := H
  go_enter Tryd.func54, Tryd.ntmps54
  go_wp2_with (first | ((with_reducible refine gate_callee (f := 34) rfl ?_); refine goesL_ (some 16) rfl rfl Tryd.func34 (by kernel_rfl) rfl #[.int .i64 a0, .int .u64 a1] rfl mp_ ?_; (with_reducible refine (shape_Cut.calls a0 a1 t204 _ A6.out).mono ?_); rintro e w' ⟨rfl, ⟨nd, rfl⟩⟩; refine ⟨_, rfl, ?_⟩))
  go_ret2
  exact ⟨sm_, by repeat (first | exact Drawn0.refl _ | apply Drawn0.step)⟩
def shape_of.f (a0 : Int) : Option (Int × Int × Bool) := if a0 = 32 then (some (8, 23, true)) else (if a0 = 64 then (some (11, 52, true)) else (some (0, 0, false)))
theorem shape_of.calls (a0 : Int) (r1 : Int) (r2 : Int) (r3 : Bool) (w : World) (h : shape_of.f a0 = some (r1, r2, r3)) :
  Calls Tryd.prog 63 #[.int .i64 a0] w fun e w' => e = .returned (.tuple #[.agg #[.int .i64 r1, .int .i64 r2], .bool r3]) ∧ Below w.heap.size w w' := by
 have hu78 := Tryd.underlying78
 have HB := A_ (Below.refl w.heap.size w)
 have H : (if a0 = 32 then (some (8, 23, true)) else (if a0 = 64 then (some (11, 52, true)) else (some (0, 0, false)))) = some (r1, r2, r3) := h
 clear h
 by_cases c2 : a0 = 32
 ·rw [if_pos c2] at H
  have c2b0 : (a0 == 32) = true := beq_iff_eq.mpr c2
  have c2b1 : (a0 != 32) = false := bne_eq_false_iff_eq.mpr c2
  clear c2
  simp only [Option.some.injEq, Prod.mk.injEq] at H
  obtain ⟨rfl, rfl, rfl⟩ := H
  go_enter Tryd.func63, Tryd.ntmps63
  go_wp2_with (first | ((with_reducible refine gate_dst (N := 2) rfl ?_); refine be_ 2 #[.int .i64 0, .int .i64 0] 78 ?_; intro gb205 hg w3 hbox hb; have BK205 := A_ (hbox); have GW205 := A_ (sz_ hg (hb_ HB.out)); have GE205 := A_ (sz_ hg (hb_ HB.out)); replace HB := A_ (below_step (hb_ HB.out) hb); clear hb hbox hg; have hcz4_0 := bv_ BK205.out 0; have hcz4_1 := bv_ BK205.out 1; have hfz4_0 := blk_frozen BK205.out 0; have hfz4_1 := blk_frozen BK205.out 1))
  refine bodyPost_ret (results_ct rfl _ _ gb205 78 #[.int .i64 8, .int .i64 23] (0, 0) _ rfl (by (with_reducible repeat (first | refine blk_drewN ?_ _ | refine blk_drew ?_ | refine blk_alloc ?_ _)); refine blk_put (cs := #[.int .i64 8, .int .i64 0]) ?_ 1 _ rfl; (with_reducible repeat (first | refine blk_drewN ?_ _ | refine blk_drew ?_ | refine blk_alloc ?_ _)); refine blk_put (cs := #[.int .i64 0, .int .i64 0]) ?_ 0 _ rfl; (with_reducible repeat (first | refine blk_drewN ?_ _ | refine blk_drew ?_ | refine blk_alloc ?_ _)); exact BK205.out) Tryd.underlying78 rfl (by kernel_rfl)) rfl ?_
  exact ⟨er_, hb1_ HB.out GE205.out⟩
 ·rw [if_neg c2] at H
  have c2b0 : (a0 == 32) = false := beq_eq_false_iff_ne.mpr c2
  have c2b1 : (a0 != 32) = true := bne_iff_ne.mpr c2
  by_cases c5 : a0 = 64
  ·rw [if_pos c5] at H
   have c5b0 : (a0 == 64) = true := beq_iff_eq.mpr c5
   have c5b1 : (a0 != 64) = false := bne_eq_false_iff_eq.mpr c5
   clear c5
   simp only [Option.some.injEq, Prod.mk.injEq] at H
   obtain ⟨rfl, rfl, rfl⟩ := H
   go_enter Tryd.func63, Tryd.ntmps63
   go_wp2_with (first | ((with_reducible refine gate_dst (N := 2) rfl ?_); refine be_ 2 #[.int .i64 0, .int .i64 0] 78 ?_; intro gb205 hg w6 hbox hb; have BK205 := A_ (hbox); have GW205 := A_ (sz_ hg (hb_ HB.out)); have GE205 := A_ (sz_ hg (hb_ HB.out)); replace HB := A_ (below_step (hb_ HB.out) hb); clear hb hbox hg; have hcz7_0 := bv_ BK205.out 0; have hcz7_1 := bv_ BK205.out 1; have hfz7_0 := blk_frozen BK205.out 0; have hfz7_1 := blk_frozen BK205.out 1))
   refine bodyPost_ret (results_ct rfl _ _ gb205 78 #[.int .i64 11, .int .i64 52] (0, 0) _ rfl (by (with_reducible repeat (first | refine blk_drewN ?_ _ | refine blk_drew ?_ | refine blk_alloc ?_ _)); refine blk_put (cs := #[.int .i64 11, .int .i64 0]) ?_ 1 _ rfl; (with_reducible repeat (first | refine blk_drewN ?_ _ | refine blk_drew ?_ | refine blk_alloc ?_ _)); refine blk_put (cs := #[.int .i64 0, .int .i64 0]) ?_ 0 _ rfl; (with_reducible repeat (first | refine blk_drewN ?_ _ | refine blk_drew ?_ | refine blk_alloc ?_ _)); exact BK205.out) Tryd.underlying78 rfl (by kernel_rfl)) rfl ?_
   exact ⟨er_, hb1_ HB.out GE205.out⟩
  ·rw [if_neg c5] at H
   have c5b0 : (a0 == 64) = false := beq_eq_false_iff_ne.mpr c5
   have c5b1 : (a0 != 64) = true := bne_iff_ne.mpr c5
   simp only [Option.some.injEq, Prod.mk.injEq] at H
   obtain ⟨rfl, rfl, rfl⟩ := H
   go_enter Tryd.func63, Tryd.ntmps63
   go_wp2_with (first | ((with_reducible refine gate_dst (N := 2) rfl ?_); refine be_ 2 #[.int .i64 0, .int .i64 0] 78 ?_; intro gb205 hg w8 hbox hb; have BK205 := A_ (hbox); have GW205 := A_ (sz_ hg (hb_ HB.out)); have GE205 := A_ (sz_ hg (hb_ HB.out)); replace HB := A_ (below_step (hb_ HB.out) hb); clear hb hbox hg; have hcz9_0 := bv_ BK205.out 0; have hcz9_1 := bv_ BK205.out 1; have hfz9_0 := blk_frozen BK205.out 0; have hfz9_1 := blk_frozen BK205.out 1))
   refine bodyPost_ret (results_ct rfl _ _ gb205 78 #[.int .i64 0, .int .i64 0] (0, 0) _ rfl (by (with_reducible repeat (first | refine blk_drewN ?_ _ | refine blk_drew ?_ | refine blk_alloc ?_ _)); refine blk_put (cs := #[.int .i64 0, .int .i64 0]) ?_ 1 _ rfl; (with_reducible repeat (first | refine blk_drewN ?_ _ | refine blk_drew ?_ | refine blk_alloc ?_ _)); refine blk_put (cs := #[.int .i64 0, .int .i64 0]) ?_ 0 _ rfl; (with_reducible repeat (first | refine blk_drewN ?_ _ | refine blk_drew ?_ | refine blk_alloc ?_ _)); exact BK205.out) Tryd.underlying78 rfl (by kernel_rfl)) rfl ?_
   exact ⟨er_, hb1_ HB.out GE205.out⟩
def shape_Fields.f (a0 : Int) : Option (Int × Int) := (shape_of.f a0).bind fun bt222 => (some (bt222.1, bt222.2.1))
theorem shape_Fields.calls (a0 : Int) (r1 : Int) (r2 : Int) (w : World) (h : shape_Fields.f a0 = some (r1, r2)) :
  Calls Tryd.prog 55 #[.int .i64 a0] w fun e w' => e = .returned (.tuple #[.int .i64 r1, .int .i64 r2]) ∧ Below w.heap.size w w' := by
 have hu78 := Tryd.underlying78
 have HB := A_ (Below.refl w.heap.size w)
 have H : ((shape_of.f a0).bind fun bt222 => (some (bt222.1, bt222.2.1))) = some (r1, r2) := h
 clear h
 replace H := ob_ H
 obtain ⟨⟨t222, t223, t224⟩, A20, H⟩ := H
 replace H : (some (t222, t223)) = some (r1, r2) := H
 have A2 := A_ A20;clear A20
 simp only [Option.some.injEq, Prod.mk.injEq] at H
 obtain ⟨rfl, rfl⟩ := H
 go_enter Tryd.func55, Tryd.ntmps55
 go_wp2_with (first | (go_at_call 63; (with_reducible refine (shape_of.calls a0 t222 t223 t224 _ A2.out).mono ?_); rintro e w3 ⟨rfl, hb⟩; replace HB := A_ (below_step (hb_ HB.out) hb); (try clear hb); (try clear hb2); (try clear hk); (try clear hi)) | ((with_reducible refine gate_dst (N := 4) rfl ?_); refine be_ 4 #[.int .i64 0, .int .i64 0] 78 ?_; intro gb225 hg w4 hbox hb; have BK225 := A_ (hbox); have GW225 := A_ (sz_ hg (hb_ HB.out)); have GE225 := A_ (sz_ hg (hb_ HB.out)); replace HB := A_ (below_step (hb_ HB.out) hb); clear hb hbox hg; have hcz5_0 := bv_ BK225.out 0; have hcz5_1 := bv_ BK225.out 1; have hfz5_0 := blk_frozen BK225.out 0; have hfz5_1 := blk_frozen BK225.out 1))
 repeat (go_quiet (first | (go_at_call 63; (with_reducible refine (shape_of.calls a0 t222 t223 t224 _ A2.out).mono ?_); rintro e w3 ⟨rfl, hb⟩; replace HB := A_ (below_step (hb_ HB.out) hb); (try clear hb); (try clear hb2); (try clear hk); (try clear hi)) | ((with_reducible refine gate_dst (N := 4) rfl ?_); refine be_ 4 #[.int .i64 0, .int .i64 0] 78 ?_; intro gb225 hg w4 hbox hb; have BK225 := A_ (hbox); have GW225 := A_ (sz_ hg (hb_ HB.out)); have GE225 := A_ (sz_ hg (hb_ HB.out)); replace HB := A_ (below_step (hb_ HB.out) hb); clear hb hbox hg; have hcz5_0 := bv_ BK225.out 0; have hcz5_1 := bv_ BK225.out 1; have hfz5_0 := blk_frozen BK225.out 0; have hfz5_1 := blk_frozen BK225.out 1)); try go_wp2_with (first | (go_at_call 63; (with_reducible refine (shape_of.calls a0 t222 t223 t224 _ A2.out).mono ?_); rintro e w3 ⟨rfl, hb⟩; replace HB := A_ (below_step (hb_ HB.out) hb); (try clear hb); (try clear hb2); (try clear hk); (try clear hi)) | ((with_reducible refine gate_dst (N := 4) rfl ?_); refine be_ 4 #[.int .i64 0, .int .i64 0] 78 ?_; intro gb225 hg w4 hbox hb; have BK225 := A_ (hbox); have GW225 := A_ (sz_ hg (hb_ HB.out)); have GE225 := A_ (sz_ hg (hb_ HB.out)); replace HB := A_ (below_step (hb_ HB.out) hb); clear hb hbox hg; have hcz5_0 := bv_ BK225.out 0; have hcz5_1 := bv_ BK225.out 1; have hfz5_0 := blk_frozen BK225.out 0; have hfz5_1 := blk_frozen BK225.out 1)))
 go_ret2
 exact ⟨er_, hb1_ HB.out GE225.out⟩
def cast_Exact.j0 : Nat → Int → Int → Int → Bool → Bool → Option (Bool)
 | 0, _, _, _, _, _ => none
 | k + 1, x0, x1, x2, x3, x20 => if x20 = true then (some false) else ((cast_read.f x1 x2 x3).bind fun bt334 => ((shape_Fields.f x0).bind fun bt336 => ((bits_Len64.f bt334.1).bind fun t338 => ((bits_TrailingZeros64.f (Go.bits .or .u64 bt334.1 9223372036854775808)).bind fun t339 => (if (wrap64 (t338 - t339)) ≤ (wrap64 (bt336.2 + 1)) then (some true) else (some (bt334.1 == 0)))))))
def cast_Exact.f (k : Nat) (a0 : Int) (a1 : Int) (a2 : Int) (a3 : Bool) : Option (Bool) := (cast_known.f a0).bind fun t332 => (if t332 = true then ((cast_known.f a1).bind fun t333 => (cast_Exact.j0 k a0 a1 a2 a3 (!t333))) else (cast_Exact.j0 k a0 a1 a2 a3 true))
theorem cast_Exact.mono_l : ∀ k, (∀ y0 y1 y2 y3 y4, LeO (cast_Exact.j0 k y0 y1 y2 y3 y4) (cast_Exact.j0 (k + 1) y0 y1 y2 y3 y4))
 | 0 => fun _ _ _ _ _ r h => by simp [cast_Exact.j0] at h
 | k + 1 => by
  have ih0 := cast_Exact.mono_l k
  ·intro y0 y1 y2 y3 y4
   unfold cast_Exact.j0
   repeat' first
   | (with_reducible exact ih0 _ _ _ _ _)
   | (with_reducible exact LeO.refl _)
   | (with_reducible exact LeO.none _)
   | (with_reducible refine LeO.ite ?_ ?_)
   | (with_reducible refine LeO.bind ?_ (fun _ => ?_))
   | exact ih0 _ _ _ _ _
   | exact LeO.none _
   | refine LeO.ite ?_ ?_
   | refine LeO.bind ?_ (fun _ => ?_)
theorem cast_Exact.mono : ∀ a0 a1 a2 a3 k, LeO (cast_Exact.f k a0 a1 a2 a3) (cast_Exact.f (k + 1) a0 a1 a2 a3) := by
 intro a0 a1 a2 a3 k
 have ih0 := cast_Exact.mono_l k
 unfold cast_Exact.f
 repeat' first
   | (with_reducible exact ih0 _ _ _ _ _)
   | (with_reducible exact LeO.refl _)
   | (with_reducible exact LeO.none _)
   | (with_reducible refine LeO.ite ?_ ?_)
   | (with_reducible refine LeO.bind ?_ (fun _ => ?_))
   | exact ih0 _ _ _ _ _
   | exact LeO.none _
   | refine LeO.ite ?_ ?_
   | refine LeO.bind ?_ (fun _ => ?_)
theorem cast_Exact.calls (k : Nat) (a0 : Int) (a1 : Int) (a2 : Int) (a3 : Bool) (r : Bool) (w : World) (h : cast_Exact.f k a0 a1 a2 a3 = some r) (T_ : Aside0 (TT w)) :
  Calls Tryd.prog 27 #[.int .i64 a0, .int .i64 a1, .int .u64 a2, .bool a3] w fun e w' => e = .returned (.bool r) ∧ Below w.heap.size w w' := by
 have HB := A_ (Below.refl w.heap.size w)
 have H : ((cast_known.f a0).bind fun t332 => (if t332 = true then ((cast_known.f a1).bind fun t333 => (cast_Exact.j0 k a0 a1 a2 a3 (!t333))) else (cast_Exact.j0 k a0 a1 a2 a3 true))) = some r := h
 clear h;have HC5 := A_ H;clear H
 go_enter Tryd.func27, Tryd.ntmps27
 go_upto_region 1 with (fail)
 go_cut [20] (fun v20 wc => ∃ (kq : Nat) (x20_4 : Bool), v20 = .bool x20_4 ∧ Aside0 (cast_Exact.j0 kq a0 a1 a2 a3 x20_4 = some r) ∧ Aside0 (kq ≤ k) ∧ Aside0 (Below w.heap.size w wc))
 case first =>
  have H := HC5.out
  clear HC5
  replace H := ob_ H
  obtain ⟨t332, A60, H⟩ := H
  replace H : (if t332 = true then ((cast_known.f a1).bind fun t333 => (cast_Exact.j0 k a0 a1 a2 a3 (!t333))) else (cast_Exact.j0 k a0 a1 a2 a3 true)) = some r := H
  have A6 := A_ A60;clear A60
  by_cases c7 : t332 = true
  ·subst c7
   have H1 : ((cast_known.f a1).bind fun t333 => (cast_Exact.j0 k a0 a1 a2 a3 (!t333))) = some r := by rw [if_pos rfl] at H; exact H
   clear H;have H := H1;clear H1
   replace H := ob_ H
   obtain ⟨t333, A80, H⟩ := H
   replace H : (cast_Exact.j0 k a0 a1 a2 a3 (!t333)) = some r := H
   have A8 := A_ A80;clear A80
   have H' := A_ H
   clear H
   go_wp2_with (first | ((with_reducible refine gate_callee (f := 53) rfl ?_); refine goesL_ (some 14) rfl rfl Tryd.func53 (by kernel_rfl) rfl #[.int .i64 a0] rfl mp_ ?_; (with_reducible refine (cast_known.calls a0 true _ A6.out).mono ?_); rintro e w' ⟨rfl, ⟨nd, rfl⟩⟩; refine ⟨_, rfl, ?_⟩) | (go_at_call 53; (with_reducible refine (cast_known.calls a1 t333 _ A8.out).mono ?_); rintro e w' ⟨rfl, ⟨nd, rfl⟩⟩))
   go_meet
   case rel => exact ⟨_, (!t333), sm_, H', ⟨by first | omega | exact Nat.le_refl _⟩, ⟨hb_ HB.out⟩⟩
  ·replace c7 := Bool.eq_false_iff.mpr c7
   subst c7
   have H1 : (cast_Exact.j0 k a0 a1 a2 a3 true) = some r := by rw [if_neg (show ¬ (false = true) by decide)] at H; exact H
   clear H;have H := H1;clear H1
   have H' := A_ H
   clear H
   go_wp2_with (first | ((with_reducible refine gate_callee (f := 53) rfl ?_); refine goesL_ (some 14) rfl rfl Tryd.func53 (by kernel_rfl) rfl #[.int .i64 a0] rfl mp_ ?_; (with_reducible refine (cast_known.calls a0 false _ A6.out).mono ?_); rintro e w' ⟨rfl, ⟨nd, rfl⟩⟩; refine ⟨_, rfl, ?_⟩))
   go_meet
   case rel => exact ⟨_, (true), sm_, H', ⟨by first | omega | exact Nat.le_refl _⟩, ⟨hb_ HB.out⟩⟩
 case rest =>
  clear HC5
  try clear c2
  try clear p2
  try clear c5
  try clear c7
  obtain ⟨kq, x20_4, rfl, HA, HJ4, HB⟩ := hcut
  cases kq with
  | zero => exact absurd HA.out (by simp [cast_Exact.j0])
  | succ kj4 =>
   have H := HA.out
   clear HA
   simp only [cast_Exact.j0] at H
   by_cases c9 : x20_4 = true
   ·subst c9
    have H1 : (some false) = some r := by rw [if_pos rfl] at H; exact H
    clear H;have H := H1;clear H1
    obtain rfl := Option.some.inj H
    go_wp2
    go_ret
    exact ⟨er_, hb_ HB.out⟩
   ·replace c9 := Bool.eq_false_iff.mpr c9
    subst c9
    have H1 : ((cast_read.f a1 a2 a3).bind fun bt334 => ((shape_Fields.f a0).bind fun bt336 => ((bits_Len64.f bt334.1).bind fun t338 => ((bits_TrailingZeros64.f (Go.bits .or .u64 bt334.1 9223372036854775808)).bind fun t339 => (if (wrap64 (t338 - t339)) ≤ (wrap64 (bt336.2 + 1)) then (some true) else (some (bt334.1 == 0))))))) = some r := by rw [if_neg (show ¬ (false = true) by decide)] at H; exact H
    clear H;have H := H1;clear H1
    replace H := ob_ H
    obtain ⟨⟨t334, t335⟩, A100, H⟩ := H
    replace H : ((shape_Fields.f a0).bind fun bt336 => ((bits_Len64.f t334).bind fun t338 => ((bits_TrailingZeros64.f (Go.bits .or .u64 t334 9223372036854775808)).bind fun t339 => (if (wrap64 (t338 - t339)) ≤ (wrap64 (bt336.2 + 1)) then (some true) else (some (t334 == 0)))))) = some r := H
    have A10 := A_ A100;clear A100
    replace H := ob_ H
    obtain ⟨⟨t336, t337⟩, A110, H⟩ := H
    replace H : ((bits_Len64.f t334).bind fun t338 => ((bits_TrailingZeros64.f (Go.bits .or .u64 t334 9223372036854775808)).bind fun t339 => (if (wrap64 (t338 - t339)) ≤ (wrap64 (t337 + 1)) then (some true) else (some (t334 == 0))))) = some r := H
    have A11 := A_ A110;clear A110
    replace H := ob_ H
    obtain ⟨t338, A120, H⟩ := H
    replace H : ((bits_TrailingZeros64.f (Go.bits .or .u64 t334 9223372036854775808)).bind fun t339 => (if (wrap64 (t338 - t339)) ≤ (wrap64 (t337 + 1)) then (some true) else (some (t334 == 0)))) = some r := H
    have A12 := A_ A120;clear A120
    replace H := ob_ H
    obtain ⟨t339, A130, H⟩ := H
    replace H : (if (wrap64 (t338 - t339)) ≤ (wrap64 (t337 + 1)) then (some true) else (some (t334 == 0))) = some r := H
    have A13 := A_ A130;clear A130
    by_cases c14 : (wrap64 (t338 - t339)) ≤ (wrap64 (t337 + 1))
    ·rw [if_pos c14] at H
     have c14b0 : decide ((wrap64 (t338 - t339)) ≤ (wrap64 (t337 + 1))) = true := decide_eq_true c14
     clear c14
     obtain rfl := Option.some.inj H
     go_wp2_with (first | ((with_reducible refine gate_callee (f := 54) rfl ?_); refine goesL_ (some 25) rfl rfl Tryd.func54 (by kernel_rfl) rfl #[.int .i64 a1, .int .u64 a2, .bool a3] rfl mp_ ?_; (with_reducible refine (cast_read.calls a1 a2 a3 t334 t335 _ A10.out).mono ?_); rintro e w' ⟨rfl, ⟨nd, rfl⟩⟩; refine ⟨_, rfl, ?_⟩) | ((with_reducible refine gate_callee (f := 55) rfl ?_); refine goesL_ (some 30) rfl rfl Tryd.func55 (by kernel_rfl) rfl #[.int .i64 a0] rfl mp_ ?_; (with_reducible refine (shape_Fields.calls a0 t336 t337 _ A11.out).mono ?_); rintro e w15 ⟨rfl, hb⟩; refine ⟨_, rfl, ?_⟩; replace HB := A_ (below_step (hb_ HB.out) hb); (try clear hb); (try clear hb2); (try clear hk); (try clear hi)) | ((with_reducible refine gate_callee (f := 41) rfl ?_); refine goesL_ (some 34) rfl rfl Tryd.func41 (by kernel_rfl) rfl #[.int .u64 t334] rfl mp_ ?_; (with_reducible refine (bits_Len64.calls t334 t338 _ A12.out).mono ?_); rintro e w' ⟨rfl, ⟨nd, rfl⟩⟩; refine ⟨_, rfl, ?_⟩) | ((with_reducible refine gate_callee (f := 42) rfl ?_); refine goesL_ (some 37) rfl rfl Tryd.func42 (by kernel_rfl) rfl #[.int .u64 (Go.bits .or .u64 t334 9223372036854775808)] rfl mp_ ?_; (refine (bits_TrailingZeros64.calls (Go.bits .or .u64 t334 9223372036854775808) t339 _ A13.out (TT.go (hb_ HB.out) T_)).mono ?_); rintro e w' ⟨rfl, ⟨nd, rfl⟩⟩; refine ⟨_, rfl, ?_⟩))
     go_ret
     exact ⟨er_, hb_ HB.out⟩
    ·rw [if_neg c14] at H
     have c14b0 : decide ((wrap64 (t338 - t339)) ≤ (wrap64 (t337 + 1))) = false := decide_eq_false c14
     clear c14
     obtain rfl := Option.some.inj H
     go_wp2_with (first | ((with_reducible refine gate_callee (f := 54) rfl ?_); refine goesL_ (some 25) rfl rfl Tryd.func54 (by kernel_rfl) rfl #[.int .i64 a1, .int .u64 a2, .bool a3] rfl mp_ ?_; (with_reducible refine (cast_read.calls a1 a2 a3 t334 t335 _ A10.out).mono ?_); rintro e w' ⟨rfl, ⟨nd, rfl⟩⟩; refine ⟨_, rfl, ?_⟩) | ((with_reducible refine gate_callee (f := 55) rfl ?_); refine goesL_ (some 30) rfl rfl Tryd.func55 (by kernel_rfl) rfl #[.int .i64 a0] rfl mp_ ?_; (with_reducible refine (shape_Fields.calls a0 t336 t337 _ A11.out).mono ?_); rintro e w16 ⟨rfl, hb⟩; refine ⟨_, rfl, ?_⟩; replace HB := A_ (below_step (hb_ HB.out) hb); (try clear hb); (try clear hb2); (try clear hk); (try clear hi)) | ((with_reducible refine gate_callee (f := 41) rfl ?_); refine goesL_ (some 34) rfl rfl Tryd.func41 (by kernel_rfl) rfl #[.int .u64 t334] rfl mp_ ?_; (with_reducible refine (bits_Len64.calls t334 t338 _ A12.out).mono ?_); rintro e w' ⟨rfl, ⟨nd, rfl⟩⟩; refine ⟨_, rfl, ?_⟩) | ((with_reducible refine gate_callee (f := 42) rfl ?_); refine goesL_ (some 37) rfl rfl Tryd.func42 (by kernel_rfl) rfl #[.int .u64 (Go.bits .or .u64 t334 9223372036854775808)] rfl mp_ ?_; (refine (bits_TrailingZeros64.calls (Go.bits .or .u64 t334 9223372036854775808) t339 _ A13.out (TT.go (hb_ HB.out) T_)).mono ?_); rintro e w' ⟨rfl, ⟨nd, rfl⟩⟩; refine ⟨_, rfl, ?_⟩))
     go_ret
     exact ⟨er_, hb_ HB.out⟩
end Go.Proofs.YthdeeoallfbjmaaDoor.PA
set_option linter.unusedVariables false
set_option linter.unusedSimpArgs false
namespace Go.Proofs.YthdeeoallfbjmaaDoor.Nr
open Go.RowKit Go.Proofs.YthdeeoallfbjmaaDoorW.PrintWords Go.Proofs.YthdeeoallfbjmaaDoorW.PrintLast Go.Proofs.YthdeeoallfbjmaaDoorW.PrintMore
def Nr (w : World) (v : Value) (l : List Int) : Prop := ∃ A c, v = .slice A l.length c ∧ l.length ≤ c ∧ Kd.C (Kd.int .u64) w A l.length l
def IsRow (v : Option Value) : Prop := ∃ A n c, v = some (.slice A n c)
theorem Nr.below {w w1 : World} {v : Value} {l : List Int} (h : Nr w v l) (hb : Below w.heap.size w w1) : Nr w1 v l := by
  obtain ⟨A, c, e, hc, h⟩ := h
  exact ⟨A, c, e, hc, Kd.C_below h hb⟩
theorem Nr.alloc {w : World} {v : Value} {l : List Int} (h : Nr w v l) (o : Obj) : Nr (w.alloc o) v l := h.below (below_alloc (Below.refl _ _) o)
theorem Nr.drew {w : World} {v : Value} {l : List Int} (h : Nr w v l) : Nr w.drew v l := h.below (below_drew1 (Below.refl _ _))
theorem Nr.drewN {w : World} {v : Value} {l : List Int} (h : Nr w v l) (n : Nat) : Nr (w.drewN n) v l := h.below (pw_below_drewN (Below.refl _ _) n)
theorem Nr.set {w : World} {v : Value} {l : List Int} (h : Nr w v l) {p : Addr} (x : Value) (hp : IsRow (w.cell? p)) : Nr (w.setCell p x) v l := by
  obtain ⟨A, c, e, hc, h1, h2, h3⟩ := h
  refine ⟨A, c, e, hc, h1, h2, fun hn => ?_⟩
  obtain ⟨ad, e1, h4⟩ := h3 hn
  refine ⟨ad, e1, fun j q hj => ?_⟩
  obtain ⟨cs, k1, k2, k3⟩ := h4 j q hj
  refine ⟨cs, k1, k2, fun i u hu => ?_⟩
  have k4 := k3 i u hu
  have k5 : u = .int .u64 q := by
    have k6 : cs = [Value.int .u64 q] := k2
    rw [k6] at hu
    rcases i with _ | i
    · simpa using hu.symm
    · simp at hu
  rw [World.cell?_setCell_other]
  · exact k4
  · intro e2
    obtain ⟨B, n, d, hp⟩ := hp
    rw [e2, k4, k5] at hp
    cases hp
theorem Nr.nil (w : World) : Nr w (.slice none 0 0) [] := ⟨none, 0, rfl, Nat.le_refl _, Kd.C_nil _ w⟩
theorem Nr.of_R {w : World} {e base : Nat} {ok : Nat → Prop} {v : Value} {l : List Int} (h : Kd.R (Kd.int .u64) e w base ok v l) : Nr w v l := Kd.R_reads h
theorem Nr.of_C {w : World} {A : Option Addr} {c : Nat} {l : List Int} (hc : l.length ≤ c) (h : Kd.C (Kd.int .u64) w A l.length l) : Nr w (.slice A l.length c) l := ⟨A, c, rfl, hc, h⟩
theorem IsRow.slice (A : Option Addr) (n c : Nat) : IsRow (some (.slice A n c)) := ⟨A, n, c, rfl⟩
theorem bcell {W w1 : World} (hb : Below W.heap.size W w1) : (∀ b o, b < W.heap.size → w1.cell? ⟨b, o, none⟩ = W.cell? ⟨b, o, none⟩) ∧ (∀ b o, b < W.heap.size → w1.frozen? ⟨b, o, none⟩ = W.frozen? ⟨b, o, none⟩) :=
  ⟨fun b o h => hb.cell (p := ⟨b, o, none⟩) h, fun b o h => hb.frozen (p := ⟨b, o, none⟩) h⟩
theorem al {W : World} {b : Nat} (h : b < W.heap.size) (o : Nat) (x : Obj) : (W.alloc x).cell? ⟨b, o, none⟩ = W.cell? ⟨b, o, none⟩ := (bcell (below_alloc (Below.refl _ W) x)).1 b o h
theorem alf {W : World} {b : Nat} (h : b < W.heap.size) (o : Nat) (x : Obj) : (W.alloc x).frozen? ⟨b, o, none⟩ = W.frozen? ⟨b, o, none⟩ := (bcell (below_alloc (Below.refl _ W) x)).2 b o h
theorem lt_al {n : Nat} {W : World} {x : Obj} (h : n < W.heap.size) : n < (W.alloc x).heap.size := Nat.lt_of_lt_of_le h (below_alloc (Below.refl _ W) x).size
theorem Nr.of_V {w : World} {e base : Nat} {ok : Nat → Prop} {v : Value} {l : List Int} (h : Kd.V (Kd.int .u64) e w base ok v l) : Nr w v l := by
  obtain ⟨A, c, hv, hl, hf⟩ := h
  exact ⟨A, c, hv, hl, Kd.F_now hf⟩
def At (ok : Nat → Prop) (v : Value) : Prop := ∀ ad n c, v = .slice (some ad) n c → 0 < n → ok ad.block
theorem At.mono {ok ok' : Nat → Prop} {v : Value} (h : At ok v) (i : ∀ k, ok k → ok' k) : At ok' v := fun ad n c e hn => i _ (h ad n c e hn)
theorem At.of_V {w : World} {e base : Nat} {ok : Nat → Prop} {v : Value} {l : List Int} (h : Kd.V (Kd.int .u64) e w base ok v l) : At ok v := by
  obtain ⟨A, c, hv, hl, hf⟩ := h
  intro ad n c' e1 hn
  rw [hv] at e1
  injection e1 with e1 e2 e3
  subst e2
  exact Kd.F_in hf e1 hn (by decide)
theorem At.of_R {w : World} {e base : Nat} {ok : Nat → Prop} {v : Value} {l : List Int} (h : Kd.R (Kd.int .u64) e w base ok v l) : At (fun k => base ≤ k ∧ k < w.heap.size) v := by
  intro ad n c e1 hn
  obtain ⟨A, c', e2, hl, _⟩ := Kd.R_reads h
  have hlen : 0 < l.length := by
    rw [e2] at e1
    injection e1 with _ e3 _
    omega
  obtain ⟨g, cap, e3, hb, hlt, _⟩ := Kd.R_form h hlen
  rw [e3] at e1
  injection e1 with e4 _ _
  injection e4 with e4
  rw [← e4]; exact ⟨hb, hlt⟩
theorem Nr.toV {w : World} {e base : Nat} {ok : Nat → Prop} {v : Value} {l : List Int} (h : Nr w v l) (ha : At ok v) : Kd.V (Kd.int .u64) e w base ok v l := by
  obtain ⟨A, c, hv, hl, hc⟩ := h
  refine ⟨A, c, hv, hl, ?_⟩
  intro W' hW'
  obtain ⟨h1, h2, h3⟩ := hc
  refine ⟨h1, h2, fun hn => ?_⟩
  obtain ⟨ad, e1, h4⟩ := h3 hn
  refine ⟨ad, e1, fun j p hj => ?_⟩
  obtain ⟨cs, k1, k2, k3⟩ := h4 j p hj
  refine ⟨cs, k1, k2, fun i u hu => ?_⟩
  have k4 := k3 i u hu
  have hok : ok ad.block := ha ad l.length c (by rw [hv, e1]) hn
  have hb := World.block_lt_of_cell? w _ k4
  have hblk : ∀ n, (ad.add n).block = ad.block := fun n => by rw [add_block]
  rw [hblk] at hb
  have e := hW' ad.block hok hb
  have e2 : W'.heap[(ad.add (j * (Kd.int .u64).sz + i)).block]? = w.heap[(ad.add (j * (Kd.int .u64).sz + i)).block]? := by rw [hblk]; exact e
  simpa [World.cell?, e2] using k4
theorem Rs {w : World} {e base : Nat} {ok : Nat → Prop} {v : Value} {l : List Int} (h : Kd.R (Kd.int .u64) e w base ok v l) {p : Addr} (hne : v.ownBlock ≠ some p.block) (x : Value) : Kd.R (Kd.int .u64) e (w.setCell p x) base ok v l :=
  Kd.R_mono (Kd.R_far (Kd.R_far1 h rfl (g := p.block) (fun e => hne e.symm)) (fun _ hk => hk.2) x) (fun _ hk => hk.1)
theorem Rok {w : World} {e base base' : Nat} {ok ok' : Nat → Prop} {v : Value} {l : List Int} (h : Kd.R (Kd.int .u64) e w base ok v l) (hb : base' ≤ base) (hok : ∀ k, v.ownBlock = some k → base ≤ k → k < w.heap.size → ok' k) : Kd.R (Kd.int .u64) e w base' ok' v l :=
  Kd.R_reok rfl (Kd.R_lower h hb) (fun k hk => hok k hk (Kd.R_base h k hk) (Kd.R_lt h k hk))
structure Ow (e base : Nat) (w : World) (v : Value) (l : List Int) : Prop where
  out : Kd.R (Kd.int .u64) e w base (fun k => base ≤ k) v l
theorem Ow.nil (e base : Nat) (w : World) : Ow e base w (.slice none 0 0) [] := ⟨Kd.R_nil _ _ _ _ _⟩
theorem Ow.below {e base : Nat} {w w1 : World} {v : Value} {l : List Int} (h : Ow e base w v l) (hb : Below w.heap.size w w1) : Ow e base w1 v l := ⟨Kd.R_below h.out hb⟩
theorem Ow.alloc {e base : Nat} {w : World} {v : Value} {l : List Int} (h : Ow e base w v l) (o : Obj) : Ow e base (w.alloc o) v l := ⟨Kd.R_alloc h.out o⟩
theorem Ow.drew {e base : Nat} {w : World} {v : Value} {l : List Int} (h : Ow e base w v l) : Ow e base w.drew v l := ⟨Kd.R_drew h.out⟩
theorem Ow.drewN {e base : Nat} {w : World} {v : Value} {l : List Int} (h : Ow e base w v l) (n : Nat) : Ow e base (w.drewN n) v l := ⟨Kd.R_drewN h.out n⟩
theorem Ow.set {e base : Nat} {w : World} {v : Value} {l : List Int} (h : Ow e base w v l) {p : Addr} (x : Value) (hne : v.ownBlock ≠ some p.block) : Ow e base (w.setCell p x) v l := ⟨Rs h.out hne x⟩
theorem Ow.of_R {e base base' : Nat} {w : World} {ok : Nat → Prop} {v : Value} {l : List Int} (h : Kd.R (Kd.int .u64) e w base ok v l) (hb : base' ≤ base) : Ow e base' w v l := ⟨Rok h hb (fun k _ h1 _ => Nat.le_trans hb h1)⟩
theorem Ow.nr {e base : Nat} {w : World} {v : Value} {l : List Int} (h : Ow e base w v l) : Nr w v l := Nr.of_R h.out
end Go.Proofs.YthdeeoallfbjmaaDoor.Nr
namespace Go.Proofs.YthdeeoallfbjmaaDoor.PA
open Go.RowKit Go.Proofs.YthdeeoallfbjmaaDoorW.PrintWords Go.Proofs.YthdeeoallfbjmaaDoorW.PrintLast Go.Proofs.YthdeeoallfbjmaaDoorW.PrintMore
attribute [local go_sem] max2_int min2_int max_two min_two max_three min_three max_four min_four   -- for this text's walks alone
set_option linter.unusedVariables false
set_option linter.unusedSimpArgs false
set_option maxHeartbeats 8000000
set_option maxRecDepth 100000
theorem eqA99 (d : Nat) (w : World) (x0 y0 : Int) (x1 y1 : Int) :
  (Op.equalIn (d + 2) 99 (.agg #[.int .u64 x0, .int .u64 x1]) (.agg #[.int .u64 y0, .int .u64 y1])).run Tryd.prog w = .ok (x0 == y0 && (x1 == y1)) w := by
 refine eqA_of Tryd.underlying99 (by kernel_rfl) ?_
 refine eqf_cons (by rfl) (by go_simp; rfl) (by go_simp; rfl) (by go_simp) ?_
 exact eqf_last (by rfl) (by go_simp; rfl) (by go_simp; rfl) (by go_simp)
def wide_Left.f (a0_0 : Int) (a0_1 : Int) (a1 : Int) : Option (Int × Int) := if a1 ≤ 0 then (some (a0_0, a0_1)) else (if a1 ≥ 128 then (some (0, 0)) else (if a1 ≥ 64 then (if 0 ≤ (wrap64 (a1 - 64)) then (some (shl .u64 a0_1 (wrap64 (a1 - 64)), 0)) else (none)) else (if 0 ≤ a1 then (if 0 ≤ (wrap64 (64 - a1)) then (some (Go.bits .or .u64 (shl .u64 a0_0 a1) (shr .u64 a0_1 (wrap64 (64 - a1))), shl .u64 a0_1 a1)) else (none)) else (none))))
def wide_Left.T7 : Bool × List (List Nat × List Nat) := (true, [([], []), ([0], [0]), ([], []), ([1, 2], [1, 2]), ([], []), ([4], [4]), ([], []), ([6], [6]), ([5, 7], [5, 7]), ([3, 8], [3, 8]), ([], []), ([10], [10]), ([], []), ([11, 12], [11, 12]), ([9, 13], [9, 13]), ([14, 0, 1, 2, 3, 4, 5, 6, 7, 8, 9, 10, 11, 12, 13, 14], [14])])
def wide_Left.B7 : List Nat := [0, 1, 0, 7, 0, 16, 0, 64, 240, 511, 0, 1024, 0, 7168, 16383, 32767]
theorem wide_Left.tab7 : rtab .any (opsOf Tryd.f104 7) = wide_Left.T7 := by kernel_rfl
theorem wide_Left.bits7 : waitsOk wide_Left.T7.2 wide_Left.B7 = true := by kernel_rfl
theorem wide_Left.calls (a0_0 : Int) (a0_1 : Int) (a1 : Int) (r1 : Int) (r2 : Int) (w : World) (h : wide_Left.f a0_0 a0_1 a1 = some (r1, r2)) :
  Calls Tryd.prog 104 #[.agg #[.int .u64 a0_0, .int .u64 a0_1], .int .i64 a1] w fun e w' => e = .returned (.agg #[.int .u64 r1, .int .u64 r2]) ∧ Below w.heap.size w w' := by
 have hu99 := Tryd.underlying99
 have HB := A_ (Below.refl w.heap.size w)
 have H : (if a1 ≤ 0 then (some (a0_0, a0_1)) else (if a1 ≥ 128 then (some (0, 0)) else (if a1 ≥ 64 then (if 0 ≤ (wrap64 (a1 - 64)) then (some (shl .u64 a0_1 (wrap64 (a1 - 64)), 0)) else (none)) else (if 0 ≤ a1 then (if 0 ≤ (wrap64 (64 - a1)) then (some (Go.bits .or .u64 (shl .u64 a0_0 a1) (shr .u64 a0_1 (wrap64 (64 - a1))), shl .u64 a0_1 a1)) else (none)) else (none))))) = some (r1, r2) := h
 clear h
 by_cases c3 : a1 ≤ 0
 ·rw [if_pos c3] at H
  have c3b0 : decide (a1 ≤ 0) = true := decide_eq_true c3
  clear c3
  simp only [Option.some.injEq, Prod.mk.injEq] at H
  obtain ⟨rfl, rfl⟩ := H
  go_enter Tryd.func104, Tryd.ntmps104
  go_wp2_with (first | ((with_reducible refine gate_dst (N := 2) rfl ?_); refine be_ 2 #[.int .u64 a0_0, .int .u64 a0_1] 99 ?_; intro gb237 hg w4 hbox hb; have BK237 := A_ (hbox); have GW237 := A_ (sz_ hg (hb_ HB.out)); have GE237 := A_ (sz_ hg (hb_ HB.out)); replace HB := A_ (below_step (hb_ HB.out) hb); clear hb hbox hg) | ((with_reducible refine gate_dst (N := 4) rfl ?_); refine be_ 4 #[.int .u64 0, .int .u64 0] 99 ?_; intro gb238 hg w5 hbox hb; have BK238 := A_ (hbox); have GW238 := A_ (sz_ hg (hb1_ HB.out GE237.out)); have GE238 := A_ (sz_ hg (hb1_ HB.out GE237.out)); have NB237_238 := A_ (nl_ hg BK237.out); have NB238_237 := A_ (ng_ hg BK237.out); replace BK237 := A_ (bb_ BK237.out hb); replace HB := A_ (below_step (hb1_ HB.out GE237.out) hb); clear hb hbox hg; have hnb6 := NB237_238.out; have hnc6 := NB238_237.out; have hcz7_0 := bv_ BK237.out 0; have hcz7_1 := bv_ BK237.out 1; have hfz7_0 := blk_frozen BK237.out 0; have hfz7_1 := blk_frozen BK237.out 1; have hcz8_0 := bv_ BK238.out 0; have hcz8_1 := bv_ BK238.out 1; have hfz8_0 := blk_frozen BK238.out 0; have hfz8_1 := blk_frozen BK238.out 1))
  refine bodyPost_ret (results_cell_row rfl _ _ gb238 99 #[.int .u64 a0_0, .int .u64 a0_1] (0, 0) _ rfl (by (with_reducible repeat (first | refine blk_drewN ?_ _ | refine blk_drew ?_ | refine blk_alloc ?_ _)); refine blk_put (cs := #[.int .u64 a0_0, .int .u64 0]) ?_ 1 _ rfl; (with_reducible repeat (first | refine blk_drewN ?_ _ | refine blk_drew ?_ | refine blk_alloc ?_ _)); refine blk_put (cs := #[.int .u64 0, .int .u64 0]) ?_ 0 _ rfl; (with_reducible repeat (first | refine blk_drewN ?_ _ | refine blk_drew ?_ | refine blk_alloc ?_ _)); exact BK238.out) Tryd.underlying99 rfl (by kernel_rfl)) rfl ?_
  exact ⟨er_, hb2_ HB.out GE237.out GE238.out⟩
 ·rw [if_neg c3] at H
  have c3b0 : decide (a1 ≤ 0) = false := decide_eq_false c3
  clear c3
  by_cases c9 : a1 ≥ 128
  ·rw [if_pos c9] at H
   have c9b0 : decide (128 ≤ a1) = true := decide_eq_true c9
   clear c9
   simp only [Option.some.injEq, Prod.mk.injEq] at H
   obtain ⟨rfl, rfl⟩ := H
   go_enter Tryd.func104, Tryd.ntmps104
   go_wp2_with (first | ((with_reducible refine gate_dst (N := 2) rfl ?_); refine be_ 2 #[.int .u64 a0_0, .int .u64 a0_1] 99 ?_; intro gb237 hg w10 hbox hb; have BK237 := A_ (hbox); have GW237 := A_ (sz_ hg (hb_ HB.out)); have GE237 := A_ (sz_ hg (hb_ HB.out)); replace HB := A_ (below_step (hb_ HB.out) hb); clear hb hbox hg) | ((with_reducible refine gate_dst (N := 4) rfl ?_); refine be_ 4 #[.int .u64 0, .int .u64 0] 99 ?_; intro gb238 hg w11 hbox hb; have BK238 := A_ (hbox); have GW238 := A_ (sz_ hg (hb1_ HB.out GE237.out)); have GE238 := A_ (sz_ hg (hb1_ HB.out GE237.out)); have NB237_238 := A_ (nl_ hg BK237.out); have NB238_237 := A_ (ng_ hg BK237.out); replace BK237 := A_ (bb_ BK237.out hb); replace HB := A_ (below_step (hb1_ HB.out GE237.out) hb); clear hb hbox hg; have hnb12 := NB238_237.out; have hnc12 := NB237_238.out; have hcz13_0 := bv_ BK238.out 0; have hcz13_1 := bv_ BK238.out 1; have hfz13_0 := blk_frozen BK238.out 0; have hfz13_1 := blk_frozen BK238.out 1))
   refine bodyPost_ret (results_cell_row rfl _ _ gb238 99 #[.int .u64 0, .int .u64 0] (0, 0) _ rfl (by (with_reducible repeat (first | refine blk_drewN ?_ _ | refine blk_drew ?_ | refine blk_alloc ?_ _)); refine blk_put (cs := #[.int .u64 0, .int .u64 0]) ?_ 1 _ rfl; (with_reducible repeat (first | refine blk_drewN ?_ _ | refine blk_drew ?_ | refine blk_alloc ?_ _)); refine blk_put (cs := #[.int .u64 0, .int .u64 0]) ?_ 0 _ rfl; (with_reducible repeat (first | refine blk_drewN ?_ _ | refine blk_drew ?_ | refine blk_alloc ?_ _)); exact BK238.out) Tryd.underlying99 rfl (by kernel_rfl)) rfl ?_
   exact ⟨er_, hb2_ HB.out GE237.out GE238.out⟩
  ·rw [if_neg c9] at H
   have c9b0 : decide (128 ≤ a1) = false := decide_eq_false c9
   clear c9
   by_cases c14 : a1 ≥ 64
   ·rw [if_pos c14] at H
    have c14b0 : decide (64 ≤ a1) = true := decide_eq_true c14
    clear c14
    obtain ⟨ji15, hji15⟩ : ∃ j_ : Int, (wrap64 (a1 - 64)) = j_ := ⟨_, rfl⟩
    replace H : (if 0 ≤ (ji15) then (some (shl .u64 a0_1 (ji15), 0)) else (none)) = some (r1, r2) := by first | (rw [hji15] at H; exact H) | (simp only [hji15] at H ⊢; exact H)
    have hji15w : (IntKind.i64.wrap (a1 - 64)) = ji15 := (i64_w _).trans hji15
    by_cases c16 : 0 ≤ (ji15)
    ·rw [if_pos c16] at H
     have c16b0 := eq_true c16
     have c16b1 : decide (0 ≤ (ji15)) = true := decide_eq_true c16
     clear c16
     obtain ⟨ji17, hji17⟩ : ∃ j_ : Int, (shl .u64 a0_1 (ji15)) = j_ := ⟨_, rfl⟩
     replace H : (some (ji17, 0)) = some (r1, r2) := by first | (rw [hji17] at H; exact H) | (simp only [hji17] at H ⊢; exact H)
     have hji17_ : (IntKind.u64.wrap (a0_1 * 2 ^ min (ji15).toNat 64)) = ji17 := hji17
     have hji17z : (ji15) ≤ 64 → (IntKind.u64.wrap (a0_1 * 2 ^ (ji15).toNat)) = ji17 := shl_small hji17
     simp only [Option.some.injEq, Prod.mk.injEq] at H
     obtain ⟨rfl, rfl⟩ := H
     go_enter Tryd.func104, Tryd.ntmps104
     go_wp2_with (first | ((with_reducible refine gate_dst (N := 2) rfl ?_); refine be_ 2 #[.int .u64 a0_0, .int .u64 a0_1] 99 ?_; intro gb237 hg w18 hbox hb; have BK237 := A_ (hbox); have GW237 := A_ (sz_ hg (hb_ HB.out)); have GE237 := A_ (sz_ hg (hb_ HB.out)); replace HB := A_ (below_step (hb_ HB.out) hb); clear hb hbox hg) | ((with_reducible refine gate_dst (N := 4) rfl ?_); refine be_ 4 #[.int .u64 0, .int .u64 0] 99 ?_; intro gb238 hg w19 hbox hb; have BK238 := A_ (hbox); have GW238 := A_ (sz_ hg (hb1_ HB.out GE237.out)); have GE238 := A_ (sz_ hg (hb1_ HB.out GE237.out)); have NB237_238 := A_ (nl_ hg BK237.out); have NB238_237 := A_ (ng_ hg BK237.out); replace BK237 := A_ (bb_ BK237.out hb); replace HB := A_ (below_step (hb1_ HB.out GE237.out) hb); clear hb hbox hg; have hnb20 := NB237_238.out; have hnc20 := NB238_237.out; have hcz21_0 := bv_ BK237.out 0; have hcz21_1 := bv_ BK237.out 1; have hfz21_0 := blk_frozen BK237.out 0; have hfz21_1 := blk_frozen BK237.out 1; have hcz22_0 := bv_ BK238.out 0; have hcz22_1 := bv_ BK238.out 1; have hfz22_0 := blk_frozen BK238.out 0; have hfz22_1 := blk_frozen BK238.out 1))
     refine bodyPost_ret (results_cell_row rfl _ _ gb238 99 #[.int .u64 ji17, .int .u64 0] (0, 0) _ rfl (by (with_reducible repeat (first | refine blk_drewN ?_ _ | refine blk_drew ?_ | refine blk_alloc ?_ _)); refine blk_put (cs := #[.int .u64 ji17, .int .u64 0]) ?_ 1 _ rfl; (with_reducible repeat (first | refine blk_drewN ?_ _ | refine blk_drew ?_ | refine blk_alloc ?_ _)); refine blk_put (cs := #[.int .u64 0, .int .u64 0]) ?_ 0 _ rfl; (with_reducible repeat (first | refine blk_drewN ?_ _ | refine blk_drew ?_ | refine blk_alloc ?_ _)); exact BK238.out) Tryd.underlying99 rfl (by kernel_rfl)) rfl ?_
     exact ⟨by first | rfl | (simp [errW_none, errW_some] <;> rfl) | (simp only [← hji15, ← hji17]; first | rfl | (simp [errW_none, errW_some] <;> rfl)) | (simp [*, errW_none, errW_some] <;> rfl), hb2_ HB.out GE237.out GE238.out⟩
    ·rw [if_neg c16] at H
     exact absurd H (by simp)
   ·rw [if_neg c14] at H
    have c14b0 : decide (64 ≤ a1) = false := decide_eq_false c14
    clear c14
    by_cases c23 : 0 ≤ a1
    ·rw [if_pos c23] at H
     have c23b0 := eq_true c23
     have c23b1 : decide (0 ≤ a1) = true := decide_eq_true c23
     clear c23
     obtain ⟨ji24, hji24⟩ : ∃ j_ : Int, (shl .u64 a0_0 a1) = j_ := ⟨_, rfl⟩
     replace H : (if 0 ≤ (wrap64 (64 - a1)) then (some (Go.bits .or .u64 (ji24) (shr .u64 a0_1 (wrap64 (64 - a1))), shl .u64 a0_1 a1)) else (none)) = some (r1, r2) := by first | (rw [hji24] at H; exact H) | (simp only [hji24] at H ⊢; exact H)
     have hji24_ : (IntKind.u64.wrap (a0_0 * 2 ^ min a1.toNat 64)) = ji24 := hji24
     have hji24z : a1 ≤ 64 → (IntKind.u64.wrap (a0_0 * 2 ^ a1.toNat)) = ji24 := shl_small hji24
     obtain ⟨ji25, hji25⟩ : ∃ j_ : Int, (wrap64 (64 - a1)) = j_ := ⟨_, rfl⟩
     replace H : (if 0 ≤ (ji25) then (some (Go.bits .or .u64 (ji24) (shr .u64 a0_1 (ji25)), shl .u64 a0_1 a1)) else (none)) = some (r1, r2) := by first | (rw [hji25] at H; exact H) | (simp only [hji25] at H ⊢; exact H)
     have hji25w : (IntKind.i64.wrap (64 - a1)) = ji25 := (i64_w _).trans hji25
     by_cases c26 : 0 ≤ (ji25)
     ·rw [if_pos c26] at H
      have c26b0 := eq_true c26
      have c26b1 : decide (0 ≤ (ji25)) = true := decide_eq_true c26
      clear c26
      obtain ⟨ji27, hji27⟩ : ∃ j_ : Int, (shr .u64 a0_1 (ji25)) = j_ := ⟨_, rfl⟩
      replace H : (some (Go.bits .or .u64 (ji24) (ji27), shl .u64 a0_1 a1)) = some (r1, r2) := by first | (rw [hji27] at H; exact H) | (simp only [hji27] at H ⊢; exact H)
      have hji27_ : (a0_1 / 2 ^ min (ji25).toNat 64) = ji27 := hji27
      have hji27z : (ji25) ≤ 64 → (a0_1 / 2 ^ (ji25).toNat) = ji27 := shr_small hji27
      have c28b0 := eq_true (of_decide_eq_true (by first | (with_reducible assumption) | assumption) : 0 ≤ a1)
      obtain ⟨ji29, hji29⟩ : ∃ j_ : Int, (shl .u64 a0_1 a1) = j_ := ⟨_, rfl⟩
      replace H : (some (Go.bits .or .u64 (ji24) (ji27), ji29)) = some (r1, r2) := by first | (rw [hji29] at H; exact H) | (simp only [hji29] at H ⊢; exact H)
      have hji29_ : (IntKind.u64.wrap (a0_1 * 2 ^ min a1.toNat 64)) = ji29 := hji29
      have hji29z : a1 ≤ 64 → (IntKind.u64.wrap (a0_1 * 2 ^ a1.toNat)) = ji29 := shl_small hji29
      simp only [Option.some.injEq, Prod.mk.injEq] at H
      obtain ⟨rfl, rfl⟩ := H
      go_enter Tryd.func104, Tryd.ntmps104
      try go_wp2_with (first | ((with_reducible refine gate_dst (N := 2) rfl ?_); refine be_ 2 #[.int .u64 a0_0, .int .u64 a0_1] 99 ?_; intro gb237 hg w30 hbox hb; have BK237 := A_ (hbox); have GW237 := A_ (sz_ hg (hb_ HB.out)); have GE237 := A_ (sz_ hg (hb_ HB.out)); replace HB := A_ (below_step (hb_ HB.out) hb); clear hb hbox hg) | ((with_reducible refine gate_dst (N := 4) rfl ?_); refine be_ 4 #[.int .u64 0, .int .u64 0] 99 ?_; intro gb238 hg w31 hbox hb; have BK238 := A_ (hbox); have GW238 := A_ (sz_ hg (hb1_ HB.out GE237.out)); have GE238 := A_ (sz_ hg (hb1_ HB.out GE237.out)); have NB237_238 := A_ (nl_ hg BK237.out); have NB238_237 := A_ (ng_ hg BK237.out); replace BK237 := A_ (bb_ BK237.out hb); replace HB := A_ (below_step (hb1_ HB.out GE237.out) hb); clear hb hbox hg))
      replace BK237 := A_ (blk_drew BK237.out)
      replace BK238 := A_ (blk_drew BK238.out)
      replace HB := A_ (below_drew1 HB.out)
      refine start_ (n := 16) (S := fun w' => w'.cell? ⟨gb237, 0, none⟩ = some (.int .u64 a0_0) ∧ w'.cell? ⟨gb237, 1, none⟩ = some (.int .u64 a0_1)) (ds := []) #[false, false, false, false, false, false, false, false, false, false, false, false, false, false, false, false] (by kernel_rfl) rfl rfl ⟨bc_ BK237.out 0, bc_ BK237.out 1⟩ (fun hHeld => ?_); refine with_tabW wide_Left.tab7 wide_Left.bits7 (fun HT_ HW_ => ?_)
      generalize w31.drew = w32 at BK237 BK238 HB hHeld ⊢
      refine pu_ 0 (some 22) #[true, false, false, false, false, false, false, false, false, false, false, false, false, false, false, false] rfl rfl (any_of HT_.out (by kernel_rfl)) ?_
      refine pu_ 2 (some 24) #[true, false, true, false, false, false, false, false, false, false, false, false, false, false, false, false] rfl rfl (any_of HT_.out (by kernel_rfl)) ?_
      refine pu_ 4 (some 26) #[true, false, true, false, true, false, false, false, false, false, false, false, false, false, false, false] rfl rfl (any_of HT_.out (by kernel_rfl)) ?_
      refine pu_ 6 (some 28) #[true, false, true, false, true, false, true, false, false, false, false, false, false, false, false, false] rfl rfl (any_of HT_.out (by kernel_rfl)) ?_
      refine pu_ 7 (some 29) #[true, false, true, false, true, false, true, true, false, false, false, false, false, false, false, false] rfl rfl (any_of HT_.out (by kernel_rfl)) ?_
      refine pu_ 10 (some 32) #[true, false, true, false, true, false, true, true, false, false, true, false, false, false, false, false] rfl rfl (any_of HT_.out (by kernel_rfl)) ?_
      refine pu_ 12 (some 34) #[true, false, true, false, true, false, true, true, false, false, true, false, true, false, false, false] rfl rfl (any_of HT_.out (by kernel_rfl)) ?_
      refine tk2_ 1 (some 23) #[true, true, true, false, true, false, true, true, false, false, true, false, true, false, false, false] rfl rfl (take_ofW HT_.out HW_.out (by kernel_rfl)) hHeld ?_
      refine pu_ 3 (some 25) #[true, true, true, true, true, false, true, true, false, false, true, false, true, false, false, false] rfl rfl (any_of HT_.out (by kernel_rfl)) ?_
      refine tk2_ 5 (some 27) #[true, true, true, true, true, true, true, true, false, false, true, false, true, false, false, false] rfl rfl (take_ofW HT_.out HW_.out (by kernel_rfl)) hHeld ?_
      refine pu_ 8 (some 30) #[true, true, true, true, true, true, true, true, true, false, true, false, true, false, false, false] rfl rfl (any_of HT_.out (by kernel_rfl)) ?_
      refine pu_ 9 (some 31) #[true, true, true, true, true, true, true, true, true, true, true, false, true, false, false, false] rfl rfl (any_of HT_.out (by kernel_rfl)) ?_
      refine tk2_ 11 (some 33) #[true, true, true, true, true, true, true, true, true, true, true, true, true, false, false, false] rfl rfl (take_ofW HT_.out HW_.out (by kernel_rfl)) hHeld ?_
      refine pu_ 13 (some 35) #[true, true, true, true, true, true, true, true, true, true, true, true, true, true, false, false] rfl rfl (any_of HT_.out (by kernel_rfl)) ?_
      refine pu_ 14 (some 36) #[true, true, true, true, true, true, true, true, true, true, true, true, true, true, true, false] rfl rfl (any_of HT_.out (by kernel_rfl)) ?_
      refine one_ (i := 15) (N := none) #[true, true, true, true, true, true, true, true, true, true, true, true, true, true, true, true] rfl rfl (one_of HT_.out (by kernel_rfl)) (by decide) (fun K hK => ?_)
      have hs33 : w32.cell? ⟨gb238, 0, none⟩ = some (.int .u64 0) := bc_ BK238.out 0
      have hfs33 := blk_frozen BK238.out 0
      have hns33_0 := NB237_238.out
      have hms33_0 := NB238_237.out
      have hs34 : w32.cell? ⟨gb238, 1, none⟩ = some (.int .u64 0) := bc_ BK238.out 1
      have hfs34 := blk_frozen BK238.out 1
      have hns34_0 := NB237_238.out
      have hms34_0 := NB238_237.out
      refine skip_ (w1 := ?_) (by rfl) rfl ?_ ?_
      rotate_left
      ·go_simp
       rfl
      refine hK.out _ _ ⟨((cell_far (p := ⟨gb238, _, none⟩) NB237_238.out _).trans (((cell_far (p := ⟨gb238, _, none⟩) NB237_238.out _).trans (hHeld.1)))), ((cell_far (p := ⟨gb238, _, none⟩) NB237_238.out _).trans (((cell_far (p := ⟨gb238, _, none⟩) NB237_238.out _).trans (hHeld.2))))⟩ (fun hHeld => ?_)
      clear hK K
      refine done_ (done_of HT_.out (by kernel_rfl)) ?_
      try go_wp2
      refine bodyPost_ret (results_cell_row rfl _ _ gb238 99 #[.int .u64 (Go.bits .or .u64 (ji24) (ji27)), .int .u64 ji29] (0, 0) _ rfl (by (with_reducible repeat (first | refine blk_drewN ?_ _ | refine blk_drew ?_ | refine blk_alloc ?_ _)); refine blk_put (cs := #[.int .u64 (Go.bits .or .u64 (ji24) (ji27)), .int .u64 0]) ?_ 1 _ rfl; (with_reducible repeat (first | refine blk_drewN ?_ _ | refine blk_drew ?_ | refine blk_alloc ?_ _)); refine blk_put (cs := #[.int .u64 0, .int .u64 0]) ?_ 0 _ rfl; (with_reducible repeat (first | refine blk_drewN ?_ _ | refine blk_drew ?_ | refine blk_alloc ?_ _)); exact BK238.out) Tryd.underlying99 rfl (by kernel_rfl)) rfl ?_
      exact ⟨by first | rfl | (simp [errW_none, errW_some] <;> rfl) | (simp only [← hji24, ← hji25, ← hji27, ← hji29]; first | rfl | (simp [errW_none, errW_some] <;> rfl)) | (simp [*, errW_none, errW_some] <;> rfl), hb2_ HB.out GE237.out GE238.out⟩
     ·rw [if_neg c26] at H
      exact absurd H (by simp)
    ·rw [if_neg c23] at H
     exact absurd H (by simp)
-- IMPORT Derived.Deep.RegionHeld3
-- IMPORT Derived.Test.YthdeeoallfbjmaaDoorPAEq99
def wide_Right.f (a0_0 : Int) (a0_1 : Int) (a1 : Int) : Option (Int × Int × Bool) :=
 if a1 ≤ 0 then some (a0_0, a0_1, false) else if a1 ≥ 128 then some (0, 0, (!(a0_0 == 0) || !(a0_1 == 0))) else
 if a1 ≥ 64 then (wide_Left.f 0 (shr .u64 a0_0 (wrap64 (a1 - 64))) a1).bind fun b => some (0, shr .u64 a0_0 (wrap64 (a1 - 64)), (!(b.1 == a0_0) || !(b.2 == a0_1)))
 else (wide_Left.f (shr .u64 a0_0 a1) (Go.bits .or .u64 (shr .u64 a0_1 a1) (shl .u64 a0_0 (wrap64 (64 - a1)))) a1).bind fun b => some (shr .u64 a0_0 a1, Go.bits .or .u64 (shr .u64 a0_1 a1) (shl .u64 a0_0 (wrap64 (64 - a1))), (!(b.1 == a0_0) || !(b.2 == a0_1)))
attribute [local go_sem high] eqA99
theorem wide_Right.bcell {W w1 : World} (hb : Below W.heap.size W w1) : (∀ b o, b < W.heap.size → w1.cell? ⟨b, o, none⟩ = W.cell? ⟨b, o, none⟩) ∧ (∀ b o, b < W.heap.size → w1.frozen? ⟨b, o, none⟩ = W.frozen? ⟨b, o, none⟩) :=
 ⟨fun b o h => hb.cell (p := ⟨b, o, none⟩) h, fun b o h => hb.frozen (p := ⟨b, o, none⟩) h⟩
theorem wide_Right.calls0 (a0_0 : Int) (a0_1 : Int) (a1 : Int) (w : World) (h : a1 ≤ 0) :
  Calls Tryd.prog 108 #[.agg #[.int .u64 a0_0, .int .u64 a0_1], .int .i64 a1] w fun e w' => e = .returned (.tuple #[.agg #[.int .u64 a0_0, .int .u64 a0_1], .bool false]) ∧ Below w.heap.size w w' := by
 have hu40 := Tryd.underlying99
 have c0 : decide (a1 ≤ 0) = true := decide_eq_true h
 clear h
 go_enter Tryd.func108, Tryd.ntmps108
 go_wp2
 exact bodyPost_ret (v := .tuple #[.agg #[.int .u64 a0_0, .int .u64 a0_1], .bool false]) (by simp [results, Tryd.results108, go_sem]) rfl ⟨rfl, below_alloc (below_alloc (Below.refl _ _) _) _⟩
theorem wide_Right.calls128 (a0_0 : Int) (a0_1 : Int) (a1 : Int) (w : World) (h : ¬ a1 ≤ 0) (h2 : a1 ≥ 128) :
  Calls Tryd.prog 108 #[.agg #[.int .u64 a0_0, .int .u64 a0_1], .int .i64 a1] w fun e w' => e = .returned (.tuple #[.agg #[.int .u64 0, .int .u64 0], .bool (!(a0_0 == 0) || !(a0_1 == 0))]) ∧ Below w.heap.size w w' := by
 have hu40 := Tryd.underlying99
 have c0 : decide (a1 ≤ 0) = false := decide_eq_false h
 have c1 : decide (128 ≤ a1) = true := decide_eq_true h2
 clear h h2
 go_enter Tryd.func108, Tryd.ntmps108
 go_wp2
 go_region
 go_wp2
 exact bodyPost_ret (v := .tuple #[.agg #[.int .u64 0, .int .u64 0], .bool (!(a0_0 == 0) || !(a0_1 == 0))]) (by simp [results, Tryd.results108, go_sem]) rfl ⟨rfl, below_drew (below_alloc (below_alloc (Below.refl _ _) _) _)⟩
theorem wide_Right.calls64 (a0_0 : Int) (a0_1 : Int) (a1 : Int) (x y : Int) (w : World) (h : ¬ a1 ≤ 0) (h2 : ¬ a1 ≥ 128) (h3 : a1 ≥ 64) (hl : wide_Left.f 0 (shr .u64 a0_0 (wrap64 (a1 - 64))) a1 = some (x, y)) :
  Calls Tryd.prog 108 #[.agg #[.int .u64 a0_0, .int .u64 a0_1], .int .i64 a1] w fun e w' => e = .returned (.tuple #[.agg #[.int .u64 0, .int .u64 (shr .u64 a0_0 (wrap64 (a1 - 64)))], .bool (!(x == a0_0) || !(y == a0_1))]) ∧ Below w.heap.size w w' := by
 have hu40 := Tryd.underlying99
 have c0 : decide (a1 ≤ 0) = false := decide_eq_false h
 have c1 : decide (128 ≤ a1) = false := decide_eq_false h2
 have c2 : decide (64 ≤ a1) = true := decide_eq_true h3
 have ew : wrap64 (a1 - 64) = a1 - 64 := by unfold wrap64; omega
 rw [ew] at hl ⊢
 have g0 := eq_true (show 64 ≤ a1 from h3)
 have g1 : a1 < 128 := by omega
 have es : shr .u64 a0_0 (a1 - 64) = a0_0 / 2 ^ (a1 - 64).toNat := by unfold shr; rw [show min (a1 - 64).toNat IntKind.u64.bits = (a1 - 64).toNat by rw [show IntKind.u64.bits = 64 by decide]; omega]
 rw [es] at hl ⊢
 clear es
 obtain ⟨s, hs⟩ : ∃ s, a0_0 / 2 ^ (a1 - 64).toNat = s := ⟨_, rfl⟩
 rw [hs] at hl ⊢
 have B0 := A_ hl;clear h h2 hl
 go_enter Tryd.func108, Tryd.ntmps108
 go_wp2
 go_region_held3 (fun w' => w'.cell? ⟨w.heap.size, 0, none⟩ = some (.int .u64 a0_0) ∧ w'.cell? ⟨w.heap.size, 1, none⟩ = some (.int .u64 a0_1) ∧ w'.cell? ⟨w.heap.size + 1, 0, none⟩ = some (.int .u64 0) ∧ w'.cell? ⟨w.heap.size + 1, 1, none⟩ = some (.int .u64 s) ∧ w'.frozen? ⟨w.heap.size + 1, 0, none⟩ = false ∧ w.heap.size + 1 < w'.heap.size ∧ Below w.heap.size w w')
  (((try go_split_ands); (try dsimp only); (repeat' apply And.intro) <;> first | assumption | (simp [go_sem, World.cell?_alloc_past]; done) | (simp [go_sem, World.cell?_alloc_past, *]; done) | (rw [hc _ _ (by omega)]; assumption) | (rw [hf _ _ (by omega)]; assumption) | (have := hb.size; omega) | (refine below_step ?_ hb; assumption) | (repeat (first | assumption | exact Below.refl _ _ | apply below_drew1 | apply below_alloc | (refine below_set ?_ (by omega))))))
  ((go_at_call 104; refine (wide_Left.calls 0 s a1 x y _ B0.out).mono ?_; rintro e w1 ⟨rfl, hb⟩; obtain ⟨hc, hf⟩ := wide_Right.bcell hb))
 rename_i hH
 obtain ⟨q0, q1, q2, q3, q4, q5, q6⟩ := hH
 go_wp2
 exact bodyPost_ret (v := .tuple #[.agg #[.int .u64 0, .int .u64 s], .bool (!(x == a0_0) || !(y == a0_1))]) (by simp [results, Tryd.results108, go_sem, q2, q3]) rfl ⟨rfl, q6⟩
theorem wide_Right.calls1 (a0_0 : Int) (a0_1 : Int) (a1 : Int) (x y : Int) (w : World) (h : ¬ a1 ≤ 0) (h2 : ¬ a1 ≥ 128) (h3 : ¬ a1 ≥ 64) (hl : wide_Left.f (shr .u64 a0_0 a1) (Go.bits .or .u64 (shr .u64 a0_1 a1) (shl .u64 a0_0 (wrap64 (64 - a1)))) a1 = some (x, y)) :
  Calls Tryd.prog 108 #[.agg #[.int .u64 a0_0, .int .u64 a0_1], .int .i64 a1] w fun e w' => e = .returned (.tuple #[.agg #[.int .u64 (shr .u64 a0_0 a1), .int .u64 (Go.bits .or .u64 (shr .u64 a0_1 a1) (shl .u64 a0_0 (wrap64 (64 - a1))))], .bool (!(x == a0_0) || !(y == a0_1))]) ∧ Below w.heap.size w w' := by
 have hu40 := Tryd.underlying99
 have c0 : decide (a1 ≤ 0) = false := decide_eq_false h
 have c1 : decide (128 ≤ a1) = false := decide_eq_false h2
 have c2 : decide (64 ≤ a1) = false := decide_eq_false h3
 have ew : wrap64 (64 - a1) = 64 - a1 := by unfold wrap64; omega
 rw [ew] at hl ⊢
 have gw : IntKind.i64.wrap (64 - a1) = 64 - a1 := by rw [i64_w]; unfold wrap64; omega
 have g0 := eq_true (show 0 ≤ a1 by omega)
 have g1 : a1 < 64 := by omega
 have g2 : 0 ≤ 64 - a1 := by omega
 have es : ∀ z : Int, shr .u64 z a1 = z / 2 ^ a1.toNat := fun z => by unfold shr; rw [show min a1.toNat IntKind.u64.bits = a1.toNat by rw [show IntKind.u64.bits = 64 by decide]; omega]
 have et : shl .u64 a0_0 (64 - a1) = IntKind.u64.wrap (a0_0 * 2 ^ min (64 - a1).toNat 64) := rfl
 rw [es, es, et] at hl ⊢
 clear es et
 obtain ⟨s, hs⟩ : ∃ s, a0_0 / 2 ^ a1.toNat = s := ⟨_, rfl⟩
 obtain ⟨s1, hs1⟩ : ∃ s, a0_1 / 2 ^ a1.toNat = s := ⟨_, rfl⟩
 obtain ⟨s2, hs2⟩ : ∃ s, IntKind.u64.wrap (a0_0 * 2 ^ min (64 - a1).toNat 64) = s := ⟨_, rfl⟩
 rw [hs, hs1, hs2] at hl ⊢
 obtain ⟨t, ht⟩ : ∃ t, Go.bits .or .u64 s1 s2 = t := ⟨_, rfl⟩
 rw [ht] at hl ⊢
 have B0 := A_ hl;clear h h2 h3 hl ew
 go_enter Tryd.func108, Tryd.ntmps108
 have g3 := eq_true (show a1 ≤ 64 by omega)
 go_wp2
 go_region_held3 (fun w' => w'.cell? ⟨w.heap.size, 0, none⟩ = some (.int .u64 a0_0) ∧ w'.cell? ⟨w.heap.size, 1, none⟩ = some (.int .u64 a0_1) ∧ w'.frozen? ⟨w.heap.size + 1, 0, none⟩ = false ∧ w.heap.size + 1 < w'.heap.size ∧ Below w.heap.size w w')
  (((try go_split_ands); (try dsimp only); (repeat' apply And.intro) <;> first | assumption | (simp [go_sem, World.cell?_alloc_past]; done) | (simp [go_sem, World.cell?_alloc_past, *]; done) | (rw [hc _ _ (by omega)]; assumption) | (rw [hf _ _ (by omega)]; assumption) | (have := hb.size; omega) | (refine below_step ?_ hb; assumption) | (repeat (first | assumption | exact Below.refl _ _ | apply below_drew1 | apply below_alloc | (refine below_set ?_ (by omega))))))
  (fail)
 rename_i hH0
 clear hH0
 go_wp2
 go_region_held3 (fun w' => w'.cell? ⟨w.heap.size, 0, none⟩ = some (.int .u64 a0_0) ∧ w'.cell? ⟨w.heap.size, 1, none⟩ = some (.int .u64 a0_1) ∧ w'.cell? ⟨w.heap.size + 1, 0, none⟩ = some (.int .u64 s) ∧ w'.cell? ⟨w.heap.size + 1, 1, none⟩ = some (.int .u64 t) ∧ w'.frozen? ⟨w.heap.size + 1, 0, none⟩ = false ∧ w.heap.size + 1 < w'.heap.size ∧ Below w.heap.size w w')
  (((try go_split_ands); (try dsimp only); (repeat' apply And.intro) <;> first | assumption | (simp [go_sem, World.cell?_alloc_past]; done) | (simp [go_sem, World.cell?_alloc_past, *]; done) | (rw [hc _ _ (by omega)]; assumption) | (rw [hf _ _ (by omega)]; assumption) | (have := hb.size; omega) | (refine below_step ?_ hb; assumption) | (repeat (first | assumption | exact Below.refl _ _ | apply below_drew1 | apply below_alloc | (refine below_set ?_ (by omega))))))
  ((go_at_call 104; refine (wide_Left.calls s t a1 x y _ B0.out).mono ?_; rintro e w1 ⟨rfl, hb⟩; obtain ⟨hc, hf⟩ := wide_Right.bcell hb))
 rename_i hH
 obtain ⟨q0, q1, q2, q3, q4, q5, q6⟩ := hH
 go_wp2
 exact bodyPost_ret (v := .tuple #[.agg #[.int .u64 s, .int .u64 t], .bool (!(x == a0_0) || !(y == a0_1))]) (by simp [results, Tryd.results108, go_sem, q2, q3]) rfl ⟨rfl, q6⟩
theorem wide_Right.calls (a0_0 : Int) (a0_1 : Int) (a1 : Int) (r1 : Int) (r2 : Int) (r3 : Bool) (w : World) (h : wide_Right.f a0_0 a0_1 a1 = some (r1, r2, r3)) :
  Calls Tryd.prog 108 #[.agg #[.int .u64 a0_0, .int .u64 a0_1], .int .i64 a1] w fun e w' => e = .returned (.tuple #[.agg #[.int .u64 r1, .int .u64 r2], .bool r3]) ∧ Below w.heap.size w w' := by
 unfold wide_Right.f at h
 by_cases h1 : a1 ≤ 0
 ·rw [if_pos h1] at h
  simp only [Option.some.injEq, Prod.mk.injEq] at h
  obtain ⟨rfl, rfl, rfl⟩ := h
  exact wide_Right.calls0 _ _ a1 w h1
 ·rw [if_neg h1] at h
  by_cases h2 : a1 ≥ 128
  ·rw [if_pos h2] at h
   simp only [Option.some.injEq, Prod.mk.injEq] at h
   obtain ⟨rfl, rfl, rfl⟩ := h
   exact wide_Right.calls128 _ _ a1 w h1 h2
  ·rw [if_neg h2] at h
   by_cases h3 : a1 ≥ 64
   ·rw [if_pos h3] at h
    obtain ⟨⟨x, y⟩, A0, H⟩ := ob_ h
    simp only [Option.some.injEq, Prod.mk.injEq] at H
    obtain ⟨rfl, rfl, rfl⟩ := H
    exact wide_Right.calls64 _ _ a1 x y w h1 h2 h3 A0
   ·rw [if_neg h3] at h
    obtain ⟨⟨x, y⟩, A0, H⟩ := ob_ h
    simp only [Option.some.injEq, Prod.mk.injEq] at H
    obtain ⟨rfl, rfl, rfl⟩ := H
    exact wide_Right.calls1 _ _ a1 x y w h1 h2 h3 A0
def wide_of.f (a0_0 : Int) (a0_1 : Int) : Option (Int × Int) := some (a0_1, a0_0)
theorem wide_of.calls (a0_0 : Int) (a0_1 : Int) (r1 : Int) (r2 : Int) (w : World) (h : wide_of.f a0_0 a0_1 = some (r1, r2)) :
  Calls Tryd.prog 113 #[.agg #[.int .u64 a0_0, .int .u64 a0_1]] w fun e w' => e = .returned (.agg #[.int .u64 r1, .int .u64 r2]) ∧ Below w.heap.size w w' := by
 have hu131 := Tryd.underlying131
 have hu99 := Tryd.underlying99
 have HB := A_ (Below.refl w.heap.size w)
 have H : (some (a0_1, a0_0)) = some (r1, r2) := h
 clear h
 simp only [Option.some.injEq, Prod.mk.injEq] at H
 obtain ⟨rfl, rfl⟩ := H
 go_enter Tryd.func113, Tryd.ntmps113
 go_wp2_with (first | ((with_reducible refine gate_dst (N := 1) rfl ?_); refine be_ 1 #[.int .u64 a0_0, .int .u64 a0_1] 131 ?_; intro gb235 hg w2 hbox hb; have BK235 := A_ (hbox); have GW235 := A_ (sz_ hg (hb_ HB.out)); have GE235 := A_ (sz_ hg (hb_ HB.out)); replace HB := A_ (below_step (hb_ HB.out) hb); clear hb hbox hg) | ((with_reducible refine gate_dst (N := 2) rfl ?_); refine be_ 2 #[.int .u64 0, .int .u64 0] 99 ?_; intro gb236 hg w3 hbox hb; have BK236 := A_ (hbox); have GW236 := A_ (sz_ hg (hb1_ HB.out GE235.out)); have GE236 := A_ (sz_ hg (hb1_ HB.out GE235.out)); have NB235_236 := A_ (nl_ hg BK235.out); have NB236_235 := A_ (ng_ hg BK235.out); replace BK235 := A_ (bb_ BK235.out hb); replace HB := A_ (below_step (hb1_ HB.out GE235.out) hb); clear hb hbox hg; have hnb4 := NB235_236.out; have hnc4 := NB236_235.out; have hcz5_0 := bv_ BK235.out 0; have hcz5_1 := bv_ BK235.out 1; have hfz5_0 := blk_frozen BK235.out 0; have hfz5_1 := blk_frozen BK235.out 1; have hcz6_0 := bv_ BK236.out 0; have hcz6_1 := bv_ BK236.out 1; have hfz6_0 := blk_frozen BK236.out 0; have hfz6_1 := blk_frozen BK236.out 1))
 refine bodyPost_ret (results_cell_row rfl _ _ gb236 99 #[.int .u64 a0_1, .int .u64 a0_0] (0, 0) _ rfl (by (with_reducible repeat (first | refine blk_drewN ?_ _ | refine blk_drew ?_ | refine blk_alloc ?_ _)); refine blk_put (cs := #[.int .u64 a0_1, .int .u64 0]) ?_ 1 _ rfl; (with_reducible repeat (first | refine blk_drewN ?_ _ | refine blk_drew ?_ | refine blk_alloc ?_ _)); refine blk_put (cs := #[.int .u64 0, .int .u64 0]) ?_ 0 _ rfl; (with_reducible repeat (first | refine blk_drewN ?_ _ | refine blk_drew ?_ | refine blk_alloc ?_ _)); exact BK236.out) Tryd.underlying99 rfl (by kernel_rfl)) rfl ?_
 exact ⟨er_, hb2_ HB.out GE235.out GE236.out⟩
-- IMPORT Derived.Deep.RegionHeld3
-- IMPORT Derived.Shelf.Spec.BitsCarry
-- IMPORT Derived.Test.YthdeeoallfbjmaaDoorNr
-- IMPORT Derived.Deep.DeepCutAuto
def wide_Add.f (a0_0 : Int) (a0_1 : Int) (a1_0 : Int) (a1_1 : Int) : Option (Int × Int) :=
 if (0 ≤ a0_0 ∧ a0_0 < 18446744073709551616) ∧ (0 ≤ a0_1 ∧ a0_1 < 18446744073709551616) ∧ (0 ≤ a1_0 ∧ a1_0 < 18446744073709551616) ∧ (0 ≤ a1_1 ∧ a1_1 < 18446744073709551616) then
  some ((a0_0 + a1_0 + (a0_1 + a1_1) / 18446744073709551616) % 18446744073709551616, (a0_1 + a1_1) % 18446744073709551616) else none
theorem wide_Add.add64 (x y c : Int) (hx : 0 ≤ x) (hy : 0 ≤ y) (hc0 : 0 ≤ c) (hc : c ≤ 1) (w : World) : (callFunc 112 #[.int .u64 x, .int .u64 y, .int .u64 c]).run Tryd.prog w =
  .ok (.value (.tuple #[.int .u64 ((x + y + c) % 18446744073709551616), .int .u64 ((x + y + c) / 18446744073709551616)])) w := by
 obtain ⟨x, rfl⟩ := Int.eq_ofNat_of_zero_le hx
 obtain ⟨y, rfl⟩ := Int.eq_ofNat_of_zero_le hy
 obtain ⟨c, rfl⟩ := Int.eq_ofNat_of_zero_le hc0
 rw [run_callFunc_extern Tryd.func112 (by kernel_rfl) (by kernel_rfl) (by kernel_rfl) (e := add64Entry) (by kernel_rfl), run_add64 x y c (by omega) (by omega) (by omega) (by omega)]
 simp only [Result.andThen]
 try (congr 5 <;> omega)
theorem wide_Add.add64_0 (x y : Int) (hx : 0 ≤ x) (hy : 0 ≤ y) (w : World) : (callFunc 112 #[.int .u64 x, .int .u64 y, .int .u64 0]).run Tryd.prog w =
  .ok (.value (.tuple #[.int .u64 ((x + y) % 18446744073709551616), .int .u64 ((x + y) / 18446744073709551616)])) w := by
 simpa using wide_Add.add64 x y 0 hx hy (Int.le_refl 0) (by decide) w
theorem wide_Add.words (a0 a1 : Int) (w : World) : Calls Tryd.prog 111 #[.agg #[.int .u64 a0, .int .u64 a1]] w fun e w' => e = .returned (.agg #[.int .u64 a1, .int .u64 a0]) ∧ ∃ o1 o2 : Obj, w' = (w.alloc o1).alloc o2 := by
 have hu40 := Tryd.underlying99
 go_enter Tryd.func111, Tryd.ntmps111
 go_wp2
 exact bodyPost_ret (v := .agg #[.int .u64 a1, .int .u64 a0]) (by simp [results, Tryd.results111, go_sem]) rfl ⟨rfl, _, _, rfl⟩
theorem wide_Add.calls (a0_0 : Int) (a0_1 : Int) (a1_0 : Int) (a1_1 : Int) (r1 : Int) (r2 : Int) (w : World) (h : wide_Add.f a0_0 a0_1 a1_0 a1_1 = some (r1, r2)) :
  Calls Tryd.prog 103 #[.agg #[.int .u64 a0_0, .int .u64 a0_1], .agg #[.int .u64 a1_0, .int .u64 a1_1]] w fun e w' => e = .returned (.agg #[.int .u64 r1, .int .u64 r2]) ∧ Below w.heap.size w w' := by
 unfold wide_Add.f at h
 split at h
 rotate_left
 ·cases h
 rename_i hr
 obtain ⟨⟨p1, p2⟩, ⟨p3, p4⟩, ⟨p5, p6⟩, ⟨p7, p8⟩⟩ := hr
 simp only [Option.some.injEq, Prod.mk.injEq] at h
 obtain ⟨hs1, hs0⟩ := h
 have k0 : 0 ≤ (a0_1 + a1_1) / 18446744073709551616 := by omega
 have k1 : (a0_1 + a1_1) / 18446744073709551616 ≤ 1 := by omega
 obtain ⟨c1, hc1⟩ : ∃ c, (a0_1 + a1_1) / 18446744073709551616 = c := ⟨_, rfl⟩
 rw [hc1] at k0 k1 hs1
 have A0 := A_ (fun w => wide_Add.add64_0 a0_1 a1_1 p3 p7 w)
 have A1 := A_ (fun w => wide_Add.add64 a0_0 a1_0 c1 p1 p5 k0 k1 w)
 rw [hs0, hc1] at A0
 rw [hs1] at A1
 clear p1 p2 p3 p4 p5 p6 p7 p8 k0 k1 hs0 hs1 hc1
 have hu40 := Tryd.underlying99
 go_enter Tryd.func103, Tryd.ntmps103
 go_upto_region 1 with fail
 go_cut [5, 6] (fun s5 s6 wx => ∃ g h : Nat, s5 = .pointer (some ⟨g, 0, none⟩) ∧ s6 = .pointer (some ⟨h, 0, none⟩) ∧ w.heap.size + 2 < g ∧ w.heap.size + 2 < h ∧ g ≠ h ∧ wx.cell? ⟨g, 0, none⟩ = some (.int .u64 a0_1) ∧ wx.cell? ⟨g, 1, none⟩ = some (.int .u64 a0_0) ∧ wx.cell? ⟨h, 0, none⟩ = some (.int .u64 a1_1) ∧ wx.cell? ⟨h, 1, none⟩ = some (.int .u64 a1_0) ∧ wx.cell? ⟨w.heap.size + 2, 0, none⟩ = some (.int .u64 0) ∧ wx.cell? ⟨w.heap.size + 2, 1, none⟩ = some (.int .u64 0) ∧ wx.frozen? ⟨g, 0, none⟩ = false ∧ wx.frozen? ⟨g, 1, none⟩ = false ∧ wx.frozen? ⟨w.heap.size + 2, 0, none⟩ = false ∧ wx.frozen? ⟨w.heap.size + 2, 1, none⟩ = false ∧ Below w.heap.size w wx)
 case first =>
  go_region_held3 (fun w' => w'.cell? ⟨w.heap.size, 0, none⟩ = some (.int .u64 a0_0) ∧ w'.cell? ⟨w.heap.size, 1, none⟩ = some (.int .u64 a0_1) ∧ w'.cell? ⟨w.heap.size + 1, 0, none⟩ = some (.int .u64 a1_0) ∧ w'.cell? ⟨w.heap.size + 1, 1, none⟩ = some (.int .u64 a1_1))
   (simp [go_sem, World.cell?_alloc_past])
   ((first | (go_at_call 111; refine (wide_Add.words a0_0 a0_1 _).mono ?_; rintro e w1 ⟨rfl, o1, o2, rfl⟩) | (go_at_call 111; refine (wide_Add.words a1_0 a1_1 _).mono ?_; rintro e w2 ⟨rfl, o3, o4, rfl⟩)))
  all_goals (go_wp2_with fail; go_meet)
  all_goals (
   refine ⟨_, _, rfl, rfl, by omega, by omega, by omega, ?_, ?_, ?_, ?_, ?_, ?_, ?_, ?_, ?_, ?_, ?_⟩
   all_goals first | (simp [go_sem, World.cell?_alloc_past]; done) | (repeat (first | assumption | exact Below.refl _ _ | apply below_drew1 | apply below_alloc | (refine below_set ?_ (by omega)))))
 case rest =>
  obtain ⟨g, h, rfl, rfl, hg, hh, hgh, x0, x1, y0, y1, z0, z1, f0, f1, f2, f3, bl⟩ := hcut
  go_step
  go_wp2
  go_loopg [7, 13] 2 (fun k v7 v13 w' => ∃ (j c u0 u1 : Int), v7 = .int .u64 c ∧ v13 = .int .i64 j ∧ Aside0 ((k = 2 ∧ j = 0 ∧ c = 0 ∧ u0 = a0_1 ∧ u1 = a0_0) ∨ (k = 1 ∧ j = 1 ∧ c = c1 ∧ u0 = r2 ∧ u1 = a0_0) ∨ (k = 0 ∧ j = 2 ∧ u0 = r2 ∧ u1 = r1)) ∧ w'.cell? ⟨g, 0, none⟩ = some (.int .u64 u0) ∧ w'.cell? ⟨g, 1, none⟩ = some (.int .u64 u1) ∧ w'.cell? ⟨h, 0, none⟩ = some (.int .u64 a1_1) ∧ w'.cell? ⟨h, 1, none⟩ = some (.int .u64 a1_0) ∧ w'.cell? ⟨w.heap.size + 2, 0, none⟩ = some (.int .u64 0) ∧ w'.cell? ⟨w.heap.size + 2, 1, none⟩ = some (.int .u64 0) ∧ w'.frozen? ⟨g, 0, none⟩ = false ∧ w'.frozen? ⟨g, 1, none⟩ = false ∧ w'.frozen? ⟨w.heap.size + 2, 0, none⟩ = false ∧ w'.frozen? ⟨w.heap.size + 2, 1, none⟩ = false ∧ Aside0 (Below w.heap.size w w'))
  case atStart => exact ⟨0, 0, a0_1, a0_0, rfl, rfl, ⟨.inl ⟨rfl, rfl, rfl, rfl, rfl⟩⟩, x0, x1, y0, y1, z0, z1, f0, f1, f2, f3, ⟨bl⟩⟩
  case round =>
   clear x0 x1 y0 y1 z0 z1 f0 f1 f2 f3 bl
   obtain ⟨j, c, u0, u1, rfl, rfl, hj, x0, x1, y0, y1, z0, z1, f0, f1, f2, f3, bl⟩ := hrel
   rcases hj.out with ⟨rfl, rfl, rfl, rfl, rfl⟩ | ⟨rfl, rfl, rfl, rfl, rfl⟩ | ⟨rfl, rfl, rfl, rfl⟩
   ·clear hj
    go_wp2
    have A := A0.out
    go_region
    all_goals go_wp2
    go_roundg 1
    case measure => omega
    case rel =>
     refine ⟨1, c1, r2, u1, rfl, rfl, ⟨.inr (.inl ⟨rfl, rfl, rfl, rfl, rfl⟩)⟩, ?_, ?_, ?_, ?_, ?_, ?_, ?_, ?_, ?_, ?_, ?_⟩
     all_goals first
      | exact World.cell?_setCell_same _ _ _ x0
      | exact World.cell?_setCell_same _ _ _ x1
      | exact (World.cell?_setCell_far _ _ _ _ (fun e => by have e' : g = h := e; exact hgh e')).trans (by assumption)
      | exact (World.cell?_setCell_far _ _ _ _ (fun e => by have e' : g = w.heap.size + 2 := e; omega)).trans (by assumption)
      | exact (World.frozen?_setCell _ _ _ _).trans (by assumption)
      | (refine Eq.trans (World.cell?_setCell_other _ _ _ _ ?_) (by assumption); intro e; cases e)
      | exact ⟨below_drew1 (below_set bl.out (by omega))⟩
   ·clear hj
    go_wp2
    have A := A1.out
    go_region
    all_goals go_wp2
    go_roundg 0
    case measure => omega
    case rel =>
     refine ⟨2, _, u0, r1, rfl, rfl, ⟨.inr (.inr ⟨rfl, rfl, rfl, rfl⟩)⟩, ?_, ?_, ?_, ?_, ?_, ?_, ?_, ?_, ?_, ?_, ?_⟩
     all_goals first
      | exact World.cell?_setCell_same _ _ _ x0
      | exact World.cell?_setCell_same _ _ _ x1
      | exact (World.cell?_setCell_far _ _ _ _ (fun e => by have e' : g = h := e; exact hgh e')).trans (by assumption)
      | exact (World.cell?_setCell_far _ _ _ _ (fun e => by have e' : g = w.heap.size + 2 := e; omega)).trans (by assumption)
      | exact (World.frozen?_setCell _ _ _ _).trans (by assumption)
      | (refine Eq.trans (World.cell?_setCell_other _ _ _ _ ?_) (by assumption); intro e; cases e)
      | exact ⟨below_drew1 (below_set bl.out (by omega))⟩
   ·clear hj
    go_wp2_with (first | (go_at_call 113; refine (wide_of.calls u0 u1 u1 u0 _ rfl).mono ?_; rintro e w1 ⟨rfl, hb⟩; obtain ⟨hc, hf⟩ := Nr.bcell hb; have hs := hb.size; have e0 := (hc _ 0 (World.block_lt_of_cell? wr _ z0)).trans z0; have e1 := (hc _ 1 (World.block_lt_of_cell? wr _ z0)).trans z1; have e2 := (hf _ 0 (World.block_lt_of_cell? wr _ z0)).trans f2; have e3 := (hf _ 1 (World.block_lt_of_cell? wr _ z0)).trans f3; replace bl := A_ (below_step bl.out hb); clear hc hf hb hs))
    exact bodyPost_ret (v := .agg #[.int .u64 u1, .int .u64 u0]) (by simp [results, Tryd.results103, go_sem, e0, e1]) rfl ⟨rfl, below_set (below_set bl.out (by omega)) (by omega)⟩
def wide_Of.f (a0 : Int) : Option (Int × Int) := some (0, a0)
theorem wide_Of.calls (a0 : Int) (r1 : Int) (r2 : Int) (w : World) (h : wide_Of.f a0 = some (r1, r2)) :
  Calls Tryd.prog 85 #[.int .u64 a0] w fun e w' => e = .returned (.agg #[.int .u64 r1, .int .u64 r2]) ∧ Below w.heap.size w w' := by
 have hu99 := Tryd.underlying99
 have HB := A_ (Below.refl w.heap.size w)
 have H : (some (0, a0)) = some (r1, r2) := h
 clear h
 simp only [Option.some.injEq, Prod.mk.injEq] at H
 obtain ⟨rfl, rfl⟩ := H
 go_enter Tryd.func85, Tryd.ntmps85
 go_wp2_with (first | ((with_reducible refine gate_dst (N := 2) rfl ?_); refine be_ 2 #[.int .u64 0, .int .u64 0] 99 ?_; intro gb212 hg w2 hbox hb; have BK212 := A_ (hbox); have GW212 := A_ (sz_ hg (hb_ HB.out)); have GE212 := A_ (sz_ hg (hb_ HB.out)); replace HB := A_ (below_step (hb_ HB.out) hb); clear hb hbox hg; have hcz3_0 := bv_ BK212.out 0; have hcz3_1 := bv_ BK212.out 1; have hfz3_0 := blk_frozen BK212.out 0; have hfz3_1 := blk_frozen BK212.out 1))
 refine bodyPost_ret (results_cell_row rfl _ _ gb212 99 #[.int .u64 0, .int .u64 a0] (0, 0) _ rfl (by (with_reducible repeat (first | refine blk_drewN ?_ _ | refine blk_drew ?_ | refine blk_alloc ?_ _)); refine blk_put (cs := #[.int .u64 0, .int .u64 0]) ?_ 1 _ rfl; (with_reducible repeat (first | refine blk_drewN ?_ _ | refine blk_drew ?_ | refine blk_alloc ?_ _)); refine blk_put (cs := #[.int .u64 0, .int .u64 0]) ?_ 0 _ rfl; (with_reducible repeat (first | refine blk_drewN ?_ _ | refine blk_drew ?_ | refine blk_alloc ?_ _)); exact BK212.out) Tryd.underlying99 rfl (by kernel_rfl)) rfl ?_
 exact ⟨er_, hb1_ HB.out GE212.out⟩
end Go.Proofs.YthdeeoallfbjmaaDoor.PA
