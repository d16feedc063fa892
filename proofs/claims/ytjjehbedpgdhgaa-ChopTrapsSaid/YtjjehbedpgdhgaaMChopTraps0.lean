/- What the Go functions that the statement ChopTraps reaches compute, and the mathematics on it, in the order in which one leans on the other; for every input. -/
import Derived.Test.YtjjehbedpgdhgaaVChopTraps0
import Derived.Test.YtjjehbedpgdhgaaProg
import Derived.Below
import Derived.Deep.Draws
import Derived.Deep.AppendLies
import Derived.Maps.AppendAt
import Derived.OwnWalk
import Derived.Laws.BytesArg
import Derived.Laws.MakeOwn
import Derived.Laws.OwnMore
import Derived.Deep.OwnRows
import Derived.Tactics
import Derived.Lib.ConvBytes
import Derived.Laws.Slices
import Derived.WalkKit
import Derived.KernelRfl
import Derived.RowKit3
import Derived.Deep.LoopGhost
import Derived.Deep.QuietTactic
import Derived.BigQuiet
import Derived.WideLaws
import Derived.Deep.DeepCutAuto
import Derived.Deep.CutBlock
import Derived.Deep.RegionHeld3
import Derived.Laws.Rows
import Derived.Lib.AppendStr
import Derived.ArgAppend
import Derived.Laws.IdiomCopy
import Derived.OrdersHeld
import Derived.Laws.BitsLemmas
import Derived.RowKit
namespace Go.Proofs.Ytjjehbedpgdhgaa.PA
open Go.RowKit Go.Proofs.YtjjehbedpgdhgaaW.PrintWords Go.Proofs.YtjjehbedpgdhgaaW.PrintLast Go.Proofs.YtjjehbedpgdhgaaW.PrintMore
attribute [local go_sem] max2_int min2_int max_two min_two max_three min_three max_four min_four   -- for this text's walks alone
set_option linter.unusedVariables false
set_option linter.unusedSimpArgs false
set_option maxHeartbeats 8000000
set_option maxRecDepth 100000



def errW : Option Int → Value
  | none => .nilIface
  | some c => .iface 0 (.int .i64 c)
theorem errW_none : errW none = .nilIface := rfl
theorem errW_some (c : Int) : errW (some c) = .iface 0 (.int .i64 c) := rfl

theorem info22 : (Try.prog.info? 22).map (fun i => (i.zero, i.size, i.bytes)) = some (some (.int .u64 0), 1, 8) := by kernel_rfl
-- the values' own types
structure S50 where
  f0 : Int
  f1 : Int
def z50 : S50 := ⟨(0 : Int), (0 : Int)⟩
def k50 : Kd S50 := Kd.iso (Kd.pair (Kd.int .u64) (Kd.int .u64)) (fun x : S50 => (x.f0, x.f1))
theorem k50_open {w : World} {x : S50} {cs : List Value} (h : k50.K w x cs) : cs = [.int .u64 x.f0, .int .u64 x.f1] := by
  obtain ⟨_, _, rfl, rfl, rfl⟩ := h
  exact rfl
theorem k50_openM {w : World} {base : Nat} {ok : Nat → Prop} {x : S50} {cs : List Value} (h : k50.M w base ok x cs) : cs = [.int .u64 x.f0, .int .u64 x.f1] := by
  obtain ⟨_, _, rfl, rfl, rfl⟩ := h
  exact rfl
theorem k50_mk (w : World) (x : S50)  : k50.K w x [.int .u64 x.f0, .int .u64 x.f1] := ⟨[.int .u64 x.f0], [.int .u64 x.f1], rfl, rfl, rfl⟩
theorem k50_mkM (w : World) (base : Nat) (ok : Nat → Prop) (x : S50)  : k50.M w base ok x [.int .u64 x.f0, .int .u64 x.f1] := ⟨[.int .u64 x.f0], [.int .u64 x.f1], rfl, rfl, rfl⟩
theorem k50_mkF (W : World) (ok : Nat → Prop) (x : S50) : Kd.FK k50 W ok x [.int .u64 x.f0, .int .u64 x.f1] := fun W2 _ => k50_mk W2 x
def rd_T50 (xs : List S50) (i : Int) : S50 := xs.getD i.toNat z50
theorem at_T50 {w : World} {A : Option Addr} {n : Nat} {xs : List S50} (h : Kd.C k50 w A n xs) (i : Int) (h0 : 0 ≤ i) (h1 : i < n) : ∃ ad , A = some ad ∧ w.cell? (ad.add (i.toNat * 2)) = some (.int .u64 (rd_T50 xs i).f0) ∧ w.cell? ⟨(ad.add (i.toNat * 2)).block, (ad.add (i.toNat * 2)).off + 1, none⟩ = some (.int .u64 (rd_T50 xs i).f1) := by
  obtain ⟨ad, c, e, _, hK, hc0⟩ := Kd.C_get h z50 i h0 h1
  have hc : ∀ j u, c[j]? = some u → w.cell? (ad.add (i.toNat * 2 + j)) = some u := hc0
  obtain rfl := k50_open hK
  exact ⟨ad, e, hc 0 _ rfl, by rw [← add_field _ _ 1 (by omega)]; exact hc 1 _ rfl⟩

structure S30 where
  f0 : Bool
  f1 : Int
  f2 : Int
  f3 : Int
def z30 : S30 := ⟨false, (0 : Int), (0 : Int), (0 : Int)⟩
def k30 : Kd S30 := Kd.iso (Kd.pair Kd.bool (Kd.pair (Kd.int .i64) (Kd.pair (Kd.int .i64) (Kd.int .u64)))) (fun x : S30 => (x.f0, x.f1, x.f2, x.f3))
theorem k30_open {w : World} {x : S30} {cs : List Value} (h : k30.K w x cs) : cs = [.bool x.f0, .int .i64 x.f1, .int .i64 x.f2, .int .u64 x.f3] := by
  obtain ⟨_, _, rfl, rfl, ⟨_, _, rfl, rfl, ⟨_, _, rfl, rfl, rfl⟩⟩⟩ := h
  exact rfl
theorem k30_openM {w : World} {base : Nat} {ok : Nat → Prop} {x : S30} {cs : List Value} (h : k30.M w base ok x cs) : cs = [.bool x.f0, .int .i64 x.f1, .int .i64 x.f2, .int .u64 x.f3] := by
  obtain ⟨_, _, rfl, rfl, ⟨_, _, rfl, rfl, ⟨_, _, rfl, rfl, rfl⟩⟩⟩ := h
  exact rfl
theorem k30_mk (w : World) (x : S30)  : k30.K w x [.bool x.f0, .int .i64 x.f1, .int .i64 x.f2, .int .u64 x.f3] := ⟨[.bool x.f0], [.int .i64 x.f1, .int .i64 x.f2, .int .u64 x.f3], rfl, rfl, ⟨[.int .i64 x.f1], [.int .i64 x.f2, .int .u64 x.f3], rfl, rfl, ⟨[.int .i64 x.f2], [.int .u64 x.f3], rfl, rfl, rfl⟩⟩⟩
theorem k30_mkM (w : World) (base : Nat) (ok : Nat → Prop) (x : S30)  : k30.M w base ok x [.bool x.f0, .int .i64 x.f1, .int .i64 x.f2, .int .u64 x.f3] := ⟨[.bool x.f0], [.int .i64 x.f1, .int .i64 x.f2, .int .u64 x.f3], rfl, rfl, ⟨[.int .i64 x.f1], [.int .i64 x.f2, .int .u64 x.f3], rfl, rfl, ⟨[.int .i64 x.f2], [.int .u64 x.f3], rfl, rfl, rfl⟩⟩⟩
theorem k30_mkF (W : World) (ok : Nat → Prop) (x : S30) : Kd.FK k30 W ok x [.bool x.f0, .int .i64 x.f1, .int .i64 x.f2, .int .u64 x.f3] := fun W2 _ => k30_mk W2 x
def rd_T30 (xs : List S30) (i : Int) : S30 := xs.getD i.toNat z30
theorem at_T30 {w : World} {A : Option Addr} {n : Nat} {xs : List S30} (h : Kd.C k30 w A n xs) (i : Int) (h0 : 0 ≤ i) (h1 : i < n) : ∃ ad , A = some ad ∧ w.cell? (ad.add (i.toNat * 4)) = some (.bool (rd_T30 xs i).f0) ∧ w.cell? ⟨(ad.add (i.toNat * 4)).block, (ad.add (i.toNat * 4)).off + 1, none⟩ = some (.int .i64 (rd_T30 xs i).f1) ∧ w.cell? ⟨(ad.add (i.toNat * 4)).block, (ad.add (i.toNat * 4)).off + 2, none⟩ = some (.int .i64 (rd_T30 xs i).f2) ∧ w.cell? ⟨(ad.add (i.toNat * 4)).block, (ad.add (i.toNat * 4)).off + 3, none⟩ = some (.int .u64 (rd_T30 xs i).f3) := by
  obtain ⟨ad, c, e, _, hK, hc0⟩ := Kd.C_get h z30 i h0 h1
  have hc : ∀ j u, c[j]? = some u → w.cell? (ad.add (i.toNat * 4 + j)) = some u := hc0
  obtain rfl := k30_open hK
  exact ⟨ad, e, hc 0 _ rfl, by rw [← add_field _ _ 1 (by omega)]; exact hc 1 _ rfl, by rw [← add_field _ _ 2 (by omega)]; exact hc 2 _ rfl, by rw [← add_field _ _ 3 (by omega)]; exact hc 3 _ rfl⟩

def rd_L5 (xs : List (List Int)) (i : Int) : (List Int) := xs.getD i.toNat ([] : List Int)
theorem at_L5 {w : World} {A : Option Addr} {n : Nat} {xs : List (List Int)} (h : Kd.C (Kd.slice 22 (Kd.int .u64)) w A n xs) (i : Int) (h0 : 0 ≤ i) (h1 : i < n) : ∃ ad A0 c0, A = some ad ∧ w.cell? (ad.add i.toNat) = some (.slice A0 (rd_L5 xs i).length c0) ∧ (rd_L5 xs i).length ≤ c0 ∧ (Kd.int .u64).C w A0 (rd_L5 xs i).length (rd_L5 xs i) := by
  obtain ⟨ad, c, e, _, hK, hc0⟩ := Kd.C_get h ([] : List Int) i h0 h1
  have hc : ∀ j u, c[j]? = some u → w.cell? (ad.add (i.toNat * 1 + j)) = some u := hc0
  obtain ⟨A0, c0, rfl, l0, g0⟩ := hK
  exact ⟨ad, A0, c0, e, by have hq := hc 0 _ rfl; rwa [Nat.mul_one, Nat.add_zero] at hq, l0, g0⟩

structure S53 where
  f0 : (List Int)
def z53 : S53 := ⟨([] : List Int)⟩
def k53 : Kd S53 := Kd.iso (Kd.slice 22 (Kd.int .u64)) (fun x : S53 => x.f0)
theorem k53_open {w : World} {x : S53} {cs : List Value} (h : k53.K w x cs) : ∃ A0 c0, cs = [.slice A0 x.f0.length c0] ∧ x.f0.length ≤ c0 ∧ (Kd.int .u64).C w A0 x.f0.length x.f0 := by
  obtain ⟨A0, c0, rfl, l0, g0⟩ := h
  exact ⟨A0, c0, rfl, l0, g0⟩
theorem k53_openM {w : World} {base : Nat} {ok : Nat → Prop} {x : S53} {cs : List Value} (h : k53.M w base ok x cs) : ∃ v0, cs = [v0] ∧ (Kd.int .u64).R 22 w base ok v0 x.f0 := by
  obtain ⟨v0, rfl, g0⟩ := h
  exact ⟨v0, rfl, g0⟩
theorem k53_mk (w : World) (x : S53) {A0 : Option Addr} {c0 : Nat} (l0 : x.f0.length ≤ c0) (g0 : (Kd.int .u64).C w A0 x.f0.length x.f0) : k53.K w x [.slice A0 x.f0.length c0] := ⟨A0, c0, rfl, l0, g0⟩
theorem k53_mkM (w : World) (base : Nat) (ok : Nat → Prop) (x : S53) {v0 : Value} (g0 : (Kd.int .u64).R 22 w base ok v0 x.f0) : k53.M w base ok x [v0] := ⟨v0, rfl, g0⟩
theorem k53_openF {W : World} {ok : Nat → Prop} {x : S53} {cs : List Value} (h : Kd.FK k53 W ok x cs) : ∃ A0 c0, cs = [.slice A0 x.f0.length c0] ∧ x.f0.length ≤ c0 ∧ Kd.F (Kd.int .u64) W ok A0 x.f0.length x.f0 := by
  obtain ⟨A0, c0, rfl, l0, _⟩ := k53_open (Kd.FK_now h)
  exact ⟨A0, c0, rfl, l0, (fun W' hW => by obtain ⟨A0_, c0_, he, l0_, g0_⟩ := k53_open (h W' hW); injection (Option.some.inj (show some (Value.slice A0 x.f0.length c0) = some (Value.slice A0_ x.f0.length c0_) from congrArg (fun l => l[0]?) he)) with ha_ _ _; rw [ha_]; exact g0_)⟩
theorem k53_mkF (W : World) (ok : Nat → Prop) (x : S53) {A0 : Option Addr} {c0 : Nat} (l0 : x.f0.length ≤ c0) (g0 : Kd.F (Kd.int .u64) W ok A0 x.f0.length x.f0) : Kd.FK k53 W ok x [.slice A0 x.f0.length c0] := fun W2 hW => k53_mk W2 x l0 (g0 W2 hW)
def rd_T53 (xs : List S53) (i : Int) : S53 := xs.getD i.toNat z53
theorem at_T53 {w : World} {A : Option Addr} {n : Nat} {xs : List S53} (h : Kd.C k53 w A n xs) (i : Int) (h0 : 0 ≤ i) (h1 : i < n) : ∃ ad A0 c0, A = some ad ∧ w.cell? (ad.add i.toNat) = some (.slice A0 (rd_T53 xs i).f0.length c0) ∧ (rd_T53 xs i).f0.length ≤ c0 ∧ (Kd.int .u64).C w A0 (rd_T53 xs i).f0.length (rd_T53 xs i).f0 := by
  obtain ⟨ad, c, e, _, hK, hc0⟩ := Kd.C_get h z53 i h0 h1
  have hc : ∀ j u, c[j]? = some u → w.cell? (ad.add (i.toNat * 1 + j)) = some u := hc0
  obtain ⟨A0, c0, rfl, l0, g0⟩ := k53_open hK
  exact ⟨ad, A0, c0, e, by have hq := hc 0 _ rfl; rwa [Nat.mul_one, Nat.add_zero] at hq, l0, g0⟩

def chop_known.f (a0 : Int) : Option (Bool) := if a0 = 32 then (some true) else (some (a0 == 64))
theorem chop_known.calls (a0 : Int) (r : Bool) (w : World) (h : chop_known.f a0 = some r) :
  Calls Try.prog 63 #[.int .i64 a0] w fun e w' => e = .returned (.bool r) ∧ Drawn0 w w' := by
 have H : (if a0 = 32 then (some true) else (some (a0 == 64))) = some r := h
 clear h
 by_cases c2 : a0 = 32
 ·rw [if_pos c2] at H
  have c2b0 : (a0 == 32) = true := beq_iff_eq.mpr c2
  have c2b1 : (a0 != 32) = false := bne_eq_false_iff_eq.mpr c2
  clear c2
  obtain rfl := Option.some.inj H
  go_enter Try.func63, Try.ntmps63
  go_wp2
  go_ret
  exact ⟨sm_, by repeat (first | exact Drawn0.refl _ | apply Drawn0.step)⟩
 ·rw [if_neg c2] at H
  have c2b0 : (a0 == 32) = false := beq_eq_false_iff_ne.mpr c2
  have c2b1 : (a0 != 32) = true := bne_iff_ne.mpr c2
  obtain rfl := Option.some.inj H
  go_enter Try.func63, Try.ntmps63
  go_wp2
  go_ret
  exact ⟨sm_, by repeat (first | exact Drawn0.refl _ | apply Drawn0.step)⟩
def chop_Ends.f (a0 : Int) (a1 : Bool) : Option (Int × Int) := (chop_known.f a0).bind fun t425 => (if t425 = true then (if a1 = true then (if 0 ≤ (wrap64 (a0 - 1)) then (some (shl .u64 1 (wrap64 (a0 - 1)), IntKind.u64.wrap ((shl .u64 1 (wrap64 (a0 - 1))) - 1))) else (none)) else (if 0 ≤ (wrap64 (a0 - 1)) then (some (0, IntKind.u64.wrap ((IntKind.u64.wrap ((shl .u64 1 (wrap64 (a0 - 1))) * 2)) - 1))) else (none))) else (some (0, 0)))
theorem chop_Ends.calls (a0 : Int) (a1 : Bool) (r1 : Int) (r2 : Int) (w : World) (h : chop_Ends.f a0 a1 = some (r1, r2)) :
  Calls Try.prog 24 #[.int .i64 a0, .bool a1] w fun e w' => e = .returned (.tuple #[.int .u64 r1, .int .u64 r2]) ∧ Drawn0 w w' := by
 have H : ((chop_known.f a0).bind fun t425 => (if t425 = true then (if a1 = true then (if 0 ≤ (wrap64 (a0 - 1)) then (some (shl .u64 1 (wrap64 (a0 - 1)), IntKind.u64.wrap ((shl .u64 1 (wrap64 (a0 - 1))) - 1))) else (none)) else (if 0 ≤ (wrap64 (a0 - 1)) then (some (0, IntKind.u64.wrap ((IntKind.u64.wrap ((shl .u64 1 (wrap64 (a0 - 1))) * 2)) - 1))) else (none))) else (some (0, 0)))) = some (r1, r2) := h
 clear h
 replace H := ob_ H
 obtain ⟨t425, A30, H⟩ := H
 replace H : (if t425 = true then (if a1 = true then (if 0 ≤ (wrap64 (a0 - 1)) then (some (shl .u64 1 (wrap64 (a0 - 1)), IntKind.u64.wrap ((shl .u64 1 (wrap64 (a0 - 1))) - 1))) else (none)) else (if 0 ≤ (wrap64 (a0 - 1)) then (some (0, IntKind.u64.wrap ((IntKind.u64.wrap ((shl .u64 1 (wrap64 (a0 - 1))) * 2)) - 1))) else (none))) else (some (0, 0))) = some (r1, r2) := H
 have A3 := A_ A30;clear A30
 by_cases c4 : t425 = true
 ·subst c4
  have H1 : (if a1 = true then (if 0 ≤ (wrap64 (a0 - 1)) then (some (shl .u64 1 (wrap64 (a0 - 1)), IntKind.u64.wrap ((shl .u64 1 (wrap64 (a0 - 1))) - 1))) else (none)) else (if 0 ≤ (wrap64 (a0 - 1)) then (some (0, IntKind.u64.wrap ((IntKind.u64.wrap ((shl .u64 1 (wrap64 (a0 - 1))) * 2)) - 1))) else (none))) = some (r1, r2) := by rw [if_pos rfl] at H; exact H
  clear H;have H := H1;clear H1
  by_cases c5 : a1 = true
  ·subst c5
   have H1 : (if 0 ≤ (wrap64 (a0 - 1)) then (some (shl .u64 1 (wrap64 (a0 - 1)), IntKind.u64.wrap ((shl .u64 1 (wrap64 (a0 - 1))) - 1))) else (none)) = some (r1, r2) := by rw [if_pos rfl] at H; exact H
   clear H;have H := H1;clear H1
   obtain ⟨ji6, hji6⟩ : ∃ j_ : Int, (wrap64 (a0 - 1)) = j_ := ⟨_, rfl⟩
   replace H : (if 0 ≤ (ji6) then (some (shl .u64 1 (ji6), IntKind.u64.wrap ((shl .u64 1 (ji6)) - 1))) else (none)) = some (r1, r2) := by first | (rw [hji6] at H; exact H) | (simp only [hji6] at H ⊢; exact H)
   (try rw [hji6] at A3)
   have hji6w : (IntKind.i64.wrap (a0 - 1)) = ji6 := (i64_w _).trans hji6
   by_cases c7 : 0 ≤ (ji6)
   ·rw [if_pos c7] at H
    have c7b0 := eq_true c7
    have c7b1 : decide (0 ≤ (ji6)) = true := decide_eq_true c7
    clear c7
    obtain ⟨ji8, hji8⟩ : ∃ j_ : Int, (shl .u64 1 (ji6)) = j_ := ⟨_, rfl⟩
    replace H : (some (ji8, IntKind.u64.wrap ((ji8) - 1))) = some (r1, r2) := by first | (rw [hji8] at H; exact H) | (simp only [hji8] at H ⊢; exact H)
    (try rw [hji8] at A3)
    have hji8_ : (IntKind.u64.wrap (1 * 2 ^ min (ji6).toNat 64)) = ji8 := hji8
    have hji8z : (ji6) ≤ 64 → (IntKind.u64.wrap (1 * 2 ^ (ji6).toNat)) = ji8 := shl_small hji8
    have hji8u : (IntKind.u64.wrap (2 ^ min (ji6).toNat 64)) = ji8 := by have h_ := hji8_; rw [Int.one_mul] at h_; exact h_
    have hji8v : (ji6) ≤ 64 → (IntKind.u64.wrap (2 ^ (ji6).toNat)) = ji8 := fun hle_ => by have h_ := hji8z hle_; rw [Int.one_mul] at h_; exact h_
    simp only [Option.some.injEq, Prod.mk.injEq] at H
    obtain ⟨rfl, rfl⟩ := H
    go_enter Try.func24, Try.ntmps24
    go_wp2_with (first | (go_at_call 63; (with_reducible refine (chop_known.calls a0 true _ A3.out).mono ?_); rintro e w' ⟨rfl, ⟨nd, rfl⟩⟩; (try first | exact ⟨rfl, _, World.drewN_drewN _ _ _⟩ | exact ⟨rfl, _, Eq.trans (World.drewN_drewN _ _ _) (congrArg (World.drewN _) (Nat.add_assoc _ _ _))⟩)))
    repeat (go_quiet (first | (go_at_call 63; (with_reducible refine (chop_known.calls a0 true _ A3.out).mono ?_); rintro e w' ⟨rfl, ⟨nd, rfl⟩⟩; (try first | exact ⟨rfl, _, World.drewN_drewN _ _ _⟩ | exact ⟨rfl, _, Eq.trans (World.drewN_drewN _ _ _) (congrArg (World.drewN _) (Nat.add_assoc _ _ _))⟩))); try go_wp2_with (first | (go_at_call 63; (with_reducible refine (chop_known.calls a0 true _ A3.out).mono ?_); rintro e w' ⟨rfl, ⟨nd, rfl⟩⟩; (try first | exact ⟨rfl, _, World.drewN_drewN _ _ _⟩ | exact ⟨rfl, _, Eq.trans (World.drewN_drewN _ _ _) (congrArg (World.drewN _) (Nat.add_assoc _ _ _))⟩))))
    go_ret2
    exact ⟨by first | rfl | (simp; done) | (simp only [← hji6, ← hji8] <;> (first | rfl | simp)) | (simp [*]; done), by repeat (first | exact Drawn0.refl _ | apply Drawn0.step)⟩
   ·rw [if_neg c7] at H
    exact absurd H (by simp)
  ·replace c5 := Bool.eq_false_iff.mpr c5
   subst c5
   have H1 : (if 0 ≤ (wrap64 (a0 - 1)) then (some (0, IntKind.u64.wrap ((IntKind.u64.wrap ((shl .u64 1 (wrap64 (a0 - 1))) * 2)) - 1))) else (none)) = some (r1, r2) := by rw [if_neg (show ¬ (false = true) by decide)] at H; exact H
   clear H;have H := H1;clear H1
   obtain ⟨ji9, hji9⟩ : ∃ j_ : Int, (wrap64 (a0 - 1)) = j_ := ⟨_, rfl⟩
   replace H : (if 0 ≤ (ji9) then (some (0, IntKind.u64.wrap ((IntKind.u64.wrap ((shl .u64 1 (ji9)) * 2)) - 1))) else (none)) = some (r1, r2) := by first | (rw [hji9] at H; exact H) | (simp only [hji9] at H ⊢; exact H)
   (try rw [hji9] at A3)
   have hji9w : (IntKind.i64.wrap (a0 - 1)) = ji9 := (i64_w _).trans hji9
   by_cases c10 : 0 ≤ (ji9)
   ·rw [if_pos c10] at H
    have c10b0 := eq_true c10
    have c10b1 : decide (0 ≤ (ji9)) = true := decide_eq_true c10
    clear c10
    obtain ⟨ji11, hji11⟩ : ∃ j_ : Int, (shl .u64 1 (ji9)) = j_ := ⟨_, rfl⟩
    replace H : (some (0, IntKind.u64.wrap ((IntKind.u64.wrap ((ji11) * 2)) - 1))) = some (r1, r2) := by first | (rw [hji11] at H; exact H) | (simp only [hji11] at H ⊢; exact H)
    (try rw [hji11] at A3)
    have hji11_ : (IntKind.u64.wrap (1 * 2 ^ min (ji9).toNat 64)) = ji11 := hji11
    have hji11z : (ji9) ≤ 64 → (IntKind.u64.wrap (1 * 2 ^ (ji9).toNat)) = ji11 := shl_small hji11
    have hji11u : (IntKind.u64.wrap (2 ^ min (ji9).toNat 64)) = ji11 := by have h_ := hji11_; rw [Int.one_mul] at h_; exact h_
    have hji11v : (ji9) ≤ 64 → (IntKind.u64.wrap (2 ^ (ji9).toNat)) = ji11 := fun hle_ => by have h_ := hji11z hle_; rw [Int.one_mul] at h_; exact h_
    simp only [Option.some.injEq, Prod.mk.injEq] at H
    obtain ⟨rfl, rfl⟩ := H
    go_enter Try.func24, Try.ntmps24
    go_wp2_with (first | (go_at_call 63; (with_reducible refine (chop_known.calls a0 true _ A3.out).mono ?_); rintro e w' ⟨rfl, ⟨nd, rfl⟩⟩; (try first | exact ⟨rfl, _, World.drewN_drewN _ _ _⟩ | exact ⟨rfl, _, Eq.trans (World.drewN_drewN _ _ _) (congrArg (World.drewN _) (Nat.add_assoc _ _ _))⟩)))
    repeat (go_quiet (first | (go_at_call 63; (with_reducible refine (chop_known.calls a0 true _ A3.out).mono ?_); rintro e w' ⟨rfl, ⟨nd, rfl⟩⟩; (try first | exact ⟨rfl, _, World.drewN_drewN _ _ _⟩ | exact ⟨rfl, _, Eq.trans (World.drewN_drewN _ _ _) (congrArg (World.drewN _) (Nat.add_assoc _ _ _))⟩))); try go_wp2_with (first | (go_at_call 63; (with_reducible refine (chop_known.calls a0 true _ A3.out).mono ?_); rintro e w' ⟨rfl, ⟨nd, rfl⟩⟩; (try first | exact ⟨rfl, _, World.drewN_drewN _ _ _⟩ | exact ⟨rfl, _, Eq.trans (World.drewN_drewN _ _ _) (congrArg (World.drewN _) (Nat.add_assoc _ _ _))⟩))))
    go_ret2
    exact ⟨by first | rfl | (simp; done) | (simp only [← hji9, ← hji11] <;> (first | rfl | simp)) | (simp [*]; done), by repeat (first | exact Drawn0.refl _ | apply Drawn0.step)⟩
   ·rw [if_neg c10] at H
    exact absurd H (by simp)
 ·replace c4 := Bool.eq_false_iff.mpr c4
  subst c4
  have H1 : (some (0, 0)) = some (r1, r2) := by rw [if_neg (show ¬ (false = true) by decide)] at H; exact H
  clear H;have H := H1;clear H1
  simp only [Option.some.injEq, Prod.mk.injEq] at H
  obtain ⟨rfl, rfl⟩ := H
  go_enter Try.func24, Try.ntmps24
  go_wp2_with (first | (go_at_call 63; (with_reducible refine (chop_known.calls a0 false _ A3.out).mono ?_); rintro e w' ⟨rfl, ⟨nd, rfl⟩⟩; (try first | exact ⟨rfl, _, World.drewN_drewN _ _ _⟩ | exact ⟨rfl, _, Eq.trans (World.drewN_drewN _ _ _) (congrArg (World.drewN _) (Nat.add_assoc _ _ _))⟩)))
  repeat (go_quiet (first | (go_at_call 63; (with_reducible refine (chop_known.calls a0 false _ A3.out).mono ?_); rintro e w' ⟨rfl, ⟨nd, rfl⟩⟩; (try first | exact ⟨rfl, _, World.drewN_drewN _ _ _⟩ | exact ⟨rfl, _, Eq.trans (World.drewN_drewN _ _ _) (congrArg (World.drewN _) (Nat.add_assoc _ _ _))⟩))); try go_wp2_with (first | (go_at_call 63; (with_reducible refine (chop_known.calls a0 false _ A3.out).mono ?_); rintro e w' ⟨rfl, ⟨nd, rfl⟩⟩; (try first | exact ⟨rfl, _, World.drewN_drewN _ _ _⟩ | exact ⟨rfl, _, Eq.trans (World.drewN_drewN _ _ _) (congrArg (World.drewN _) (Nat.add_assoc _ _ _))⟩))))
  go_ret2
  exact ⟨sm_, by repeat (first | exact Drawn0.refl _ | apply Drawn0.step)⟩
def wide_Left.f (a0_0 : Int) (a0_1 : Int) (a1 : Int) : Option (Int × Int) := if a1 ≤ 0 then (some (a0_0, a0_1)) else (if a1 ≥ 128 then (some (0, 0)) else (if a1 ≥ 64 then (if 0 ≤ (wrap64 (a1 - 64)) then (some (shl .u64 a0_1 (wrap64 (a1 - 64)), 0)) else (none)) else (if 0 ≤ a1 then (if 0 ≤ (wrap64 (64 - a1)) then (some (Go.bits .or .u64 (shl .u64 a0_0 a1) (shr .u64 a0_1 (wrap64 (64 - a1))), shl .u64 a0_1 a1)) else (none)) else (none))))
def wide_Left.T7 : Bool × List (List Nat × List Nat) := (true, [([], []), ([0], [0]), ([], []), ([1, 2], [1, 2]), ([], []), ([4], [4]), ([], []), ([6], [6]), ([5, 7], [5, 7]), ([3, 8], [3, 8]), ([], []), ([10], [10]), ([], []), ([11, 12], [11, 12]), ([9, 13], [9, 13]), ([14, 0, 1, 2, 3, 4, 5, 6, 7, 8, 9, 10, 11, 12, 13, 14], [14])])
def wide_Left.B7 : List Nat := [0, 1, 0, 7, 0, 16, 0, 64, 240, 511, 0, 1024, 0, 7168, 16383, 32767]
theorem wide_Left.tab7 : rtab .any (opsOf Try.f87 7) = wide_Left.T7 := by kernel_rfl
theorem wide_Left.bits7 : waitsOk wide_Left.T7.2 wide_Left.B7 = true := by kernel_rfl
theorem wide_Left.calls (a0_0 : Int) (a0_1 : Int) (a1 : Int) (r1 : Int) (r2 : Int) (w : World) (h : wide_Left.f a0_0 a0_1 a1 = some (r1, r2)) :
  Calls Try.prog 87 #[.agg #[.int .u64 a0_0, .int .u64 a0_1], .int .i64 a1] w fun e w' => e = .returned (.agg #[.int .u64 r1, .int .u64 r2]) ∧ Below w.heap.size w w' := by
 have hu50 := Try.underlying50
 have HB := A_ (Below.refl w.heap.size w)
 have H : (if a1 ≤ 0 then (some (a0_0, a0_1)) else (if a1 ≥ 128 then (some (0, 0)) else (if a1 ≥ 64 then (if 0 ≤ (wrap64 (a1 - 64)) then (some (shl .u64 a0_1 (wrap64 (a1 - 64)), 0)) else (none)) else (if 0 ≤ a1 then (if 0 ≤ (wrap64 (64 - a1)) then (some (Go.bits .or .u64 (shl .u64 a0_0 a1) (shr .u64 a0_1 (wrap64 (64 - a1))), shl .u64 a0_1 a1)) else (none)) else (none))))) = some (r1, r2) := h
 clear h
 by_cases c3 : a1 ≤ 0
 ·rw [if_pos c3] at H
  have c3b0 : decide (a1 ≤ 0) = true := decide_eq_true c3
  clear c3
  simp only [Option.some.injEq, Prod.mk.injEq] at H
  obtain ⟨rfl, rfl⟩ := H
  go_enter Try.func87, Try.ntmps87
  go_wp2_with (first | ((with_reducible refine gate_dst (N := 2) rfl ?_); refine be_ 2 #[.int .u64 a0_0, .int .u64 a0_1] 50 ?_; intro gb158 hg w4 hbox hb; have BK158 := A_ (hbox); have GW158 := A_ (sz_ hg (hb_ HB.out)); have GE158 := A_ (sz_ hg (hb_ HB.out)); replace HB := A_ (below_step (hb_ HB.out) hb); clear hb hbox hg) | ((with_reducible refine gate_dst (N := 4) rfl ?_); refine be_ 4 #[.int .u64 0, .int .u64 0] 50 ?_; intro gb159 hg w5 hbox hb; have BK159 := A_ (hbox); have GW159 := A_ (sz_ hg (hb1_ HB.out GE158.out)); have GE159 := A_ (sz_ hg (hb1_ HB.out GE158.out)); have NB158_159 := A_ (nl_ hg BK158.out); have NB159_158 := A_ (ng_ hg BK158.out); replace BK158 := A_ (bb_ BK158.out hb); replace HB := A_ (below_step (hb1_ HB.out GE158.out) hb); clear hb hbox hg; have hnb6 := NB158_159.out; have hnc6 := NB159_158.out; have hcz7_0 := bv_ BK158.out 0; have hcz7_1 := bv_ BK158.out 1; have hfz7_0 := blk_frozen BK158.out 0; have hfz7_1 := blk_frozen BK158.out 1; have hcz8_0 := bv_ BK159.out 0; have hcz8_1 := bv_ BK159.out 1; have hfz8_0 := blk_frozen BK159.out 0; have hfz8_1 := blk_frozen BK159.out 1))
  refine bodyPost_ret (results_cell_row rfl _ _ gb159 50 #[.int .u64 a0_0, .int .u64 a0_1] (0, 0) _ rfl (by (with_reducible repeat (first | refine blk_drewN ?_ _ | refine blk_drew ?_ | refine blk_alloc ?_ _)); refine blk_put (cs := #[.int .u64 a0_0, .int .u64 0]) ?_ 1 _ rfl; (with_reducible repeat (first | refine blk_drewN ?_ _ | refine blk_drew ?_ | refine blk_alloc ?_ _)); refine blk_put (cs := #[.int .u64 0, .int .u64 0]) ?_ 0 _ rfl; (with_reducible repeat (first | refine blk_drewN ?_ _ | refine blk_drew ?_ | refine blk_alloc ?_ _)); exact BK159.out) Try.underlying50 rfl (by kernel_rfl)) rfl ?_
  exact ⟨er_, hb2_ HB.out GE158.out GE159.out⟩
 ·rw [if_neg c3] at H
  have c3b0 : decide (a1 ≤ 0) = false := decide_eq_false c3
  clear c3
  by_cases c9 : a1 ≥ 128
  ·rw [if_pos c9] at H
   have c9b0 : decide (128 ≤ a1) = true := decide_eq_true c9
   clear c9
   simp only [Option.some.injEq, Prod.mk.injEq] at H
   obtain ⟨rfl, rfl⟩ := H
   go_enter Try.func87, Try.ntmps87
   go_wp2_with (first | ((with_reducible refine gate_dst (N := 2) rfl ?_); refine be_ 2 #[.int .u64 a0_0, .int .u64 a0_1] 50 ?_; intro gb158 hg w10 hbox hb; have BK158 := A_ (hbox); have GW158 := A_ (sz_ hg (hb_ HB.out)); have GE158 := A_ (sz_ hg (hb_ HB.out)); replace HB := A_ (below_step (hb_ HB.out) hb); clear hb hbox hg) | ((with_reducible refine gate_dst (N := 4) rfl ?_); refine be_ 4 #[.int .u64 0, .int .u64 0] 50 ?_; intro gb159 hg w11 hbox hb; have BK159 := A_ (hbox); have GW159 := A_ (sz_ hg (hb1_ HB.out GE158.out)); have GE159 := A_ (sz_ hg (hb1_ HB.out GE158.out)); have NB158_159 := A_ (nl_ hg BK158.out); have NB159_158 := A_ (ng_ hg BK158.out); replace BK158 := A_ (bb_ BK158.out hb); replace HB := A_ (below_step (hb1_ HB.out GE158.out) hb); clear hb hbox hg; have hnb12 := NB159_158.out; have hnc12 := NB158_159.out; have hcz13_0 := bv_ BK159.out 0; have hcz13_1 := bv_ BK159.out 1; have hfz13_0 := blk_frozen BK159.out 0; have hfz13_1 := blk_frozen BK159.out 1))
   refine bodyPost_ret (results_cell_row rfl _ _ gb159 50 #[.int .u64 0, .int .u64 0] (0, 0) _ rfl (by (with_reducible repeat (first | refine blk_drewN ?_ _ | refine blk_drew ?_ | refine blk_alloc ?_ _)); refine blk_put (cs := #[.int .u64 0, .int .u64 0]) ?_ 1 _ rfl; (with_reducible repeat (first | refine blk_drewN ?_ _ | refine blk_drew ?_ | refine blk_alloc ?_ _)); refine blk_put (cs := #[.int .u64 0, .int .u64 0]) ?_ 0 _ rfl; (with_reducible repeat (first | refine blk_drewN ?_ _ | refine blk_drew ?_ | refine blk_alloc ?_ _)); exact BK159.out) Try.underlying50 rfl (by kernel_rfl)) rfl ?_
   exact ⟨er_, hb2_ HB.out GE158.out GE159.out⟩
  ·rw [if_neg c9] at H
   have c9b0 : decide (128 ≤ a1) = false := decide_eq_false c9
   clear c9
   by_cases c14 : a1 ≥ 64
   ·rw [if_pos c14] at H
    have c14b0 : decide (64 ≤ a1) = true := decide_eq_true c14
    clear c14
    obtain ⟨ji15, hji15⟩ : ∃ j_ : Int, (wrap64 (a1 - 64)) = j_ := ⟨_, rfl⟩
    replace H : (if 0 ≤ (ji15) then (some (shl .u64 a0_1 (ji15), 0)) else (none)) = some (r1, r2) := by first | (rw [hji15] at H; exact H) | (simp only [hji15] at H ⊢; exact H)
    have hji15w : (IntKind.i64.wrap (a1 - 64)) = ji15 := (i64_w _).trans hji15
    by_cases c16 : 0 ≤ (ji15)
    ·rw [if_pos c16] at H
     have c16b0 := eq_true c16
     have c16b1 : decide (0 ≤ (ji15)) = true := decide_eq_true c16
     clear c16
     obtain ⟨ji17, hji17⟩ : ∃ j_ : Int, (shl .u64 a0_1 (ji15)) = j_ := ⟨_, rfl⟩
     replace H : (some (ji17, 0)) = some (r1, r2) := by first | (rw [hji17] at H; exact H) | (simp only [hji17] at H ⊢; exact H)
     have hji17_ : (IntKind.u64.wrap (a0_1 * 2 ^ min (ji15).toNat 64)) = ji17 := hji17
     have hji17z : (ji15) ≤ 64 → (IntKind.u64.wrap (a0_1 * 2 ^ (ji15).toNat)) = ji17 := shl_small hji17
     simp only [Option.some.injEq, Prod.mk.injEq] at H
     obtain ⟨rfl, rfl⟩ := H
     go_enter Try.func87, Try.ntmps87
     go_wp2_with (first | ((with_reducible refine gate_dst (N := 2) rfl ?_); refine be_ 2 #[.int .u64 a0_0, .int .u64 a0_1] 50 ?_; intro gb158 hg w18 hbox hb; have BK158 := A_ (hbox); have GW158 := A_ (sz_ hg (hb_ HB.out)); have GE158 := A_ (sz_ hg (hb_ HB.out)); replace HB := A_ (below_step (hb_ HB.out) hb); clear hb hbox hg) | ((with_reducible refine gate_dst (N := 4) rfl ?_); refine be_ 4 #[.int .u64 0, .int .u64 0] 50 ?_; intro gb159 hg w19 hbox hb; have BK159 := A_ (hbox); have GW159 := A_ (sz_ hg (hb1_ HB.out GE158.out)); have GE159 := A_ (sz_ hg (hb1_ HB.out GE158.out)); have NB158_159 := A_ (nl_ hg BK158.out); have NB159_158 := A_ (ng_ hg BK158.out); replace BK158 := A_ (bb_ BK158.out hb); replace HB := A_ (below_step (hb1_ HB.out GE158.out) hb); clear hb hbox hg; have hnb20 := NB158_159.out; have hnc20 := NB159_158.out; have hcz21_0 := bv_ BK158.out 0; have hcz21_1 := bv_ BK158.out 1; have hfz21_0 := blk_frozen BK158.out 0; have hfz21_1 := blk_frozen BK158.out 1; have hcz22_0 := bv_ BK159.out 0; have hcz22_1 := bv_ BK159.out 1; have hfz22_0 := blk_frozen BK159.out 0; have hfz22_1 := blk_frozen BK159.out 1))
     refine bodyPost_ret (results_cell_row rfl _ _ gb159 50 #[.int .u64 ji17, .int .u64 0] (0, 0) _ rfl (by (with_reducible repeat (first | refine blk_drewN ?_ _ | refine blk_drew ?_ | refine blk_alloc ?_ _)); refine blk_put (cs := #[.int .u64 ji17, .int .u64 0]) ?_ 1 _ rfl; (with_reducible repeat (first | refine blk_drewN ?_ _ | refine blk_drew ?_ | refine blk_alloc ?_ _)); refine blk_put (cs := #[.int .u64 0, .int .u64 0]) ?_ 0 _ rfl; (with_reducible repeat (first | refine blk_drewN ?_ _ | refine blk_drew ?_ | refine blk_alloc ?_ _)); exact BK159.out) Try.underlying50 rfl (by kernel_rfl)) rfl ?_
     exact ⟨by first | rfl | (simp [errW_none, errW_some] <;> rfl) | (simp only [← hji15, ← hji17]; first | rfl | (simp [errW_none, errW_some] <;> rfl)) | (simp [*, errW_none, errW_some] <;> rfl), hb2_ HB.out GE158.out GE159.out⟩
    ·rw [if_neg c16] at H
     exact absurd H (by simp)
   ·rw [if_neg c14] at H
    have c14b0 : decide (64 ≤ a1) = false := decide_eq_false c14
    clear c14
    by_cases c23 : 0 ≤ a1
    ·rw [if_pos c23] at H
     have c23b0 := eq_true c23
     have c23b1 : decide (0 ≤ a1) = true := decide_eq_true c23
     clear c23
     obtain ⟨ji24, hji24⟩ : ∃ j_ : Int, (shl .u64 a0_0 a1) = j_ := ⟨_, rfl⟩
     replace H : (if 0 ≤ (wrap64 (64 - a1)) then (some (Go.bits .or .u64 (ji24) (shr .u64 a0_1 (wrap64 (64 - a1))), shl .u64 a0_1 a1)) else (none)) = some (r1, r2) := by first | (rw [hji24] at H; exact H) | (simp only [hji24] at H ⊢; exact H)
     have hji24_ : (IntKind.u64.wrap (a0_0 * 2 ^ min a1.toNat 64)) = ji24 := hji24
     have hji24z : a1 ≤ 64 → (IntKind.u64.wrap (a0_0 * 2 ^ a1.toNat)) = ji24 := shl_small hji24
     obtain ⟨ji25, hji25⟩ : ∃ j_ : Int, (wrap64 (64 - a1)) = j_ := ⟨_, rfl⟩
     replace H : (if 0 ≤ (ji25) then (some (Go.bits .or .u64 (ji24) (shr .u64 a0_1 (ji25)), shl .u64 a0_1 a1)) else (none)) = some (r1, r2) := by first | (rw [hji25] at H; exact H) | (simp only [hji25] at H ⊢; exact H)
     have hji25w : (IntKind.i64.wrap (64 - a1)) = ji25 := (i64_w _).trans hji25
     by_cases c26 : 0 ≤ (ji25)
     ·rw [if_pos c26] at H
      have c26b0 := eq_true c26
      have c26b1 : decide (0 ≤ (ji25)) = true := decide_eq_true c26
      clear c26
      obtain ⟨ji27, hji27⟩ : ∃ j_ : Int, (shr .u64 a0_1 (ji25)) = j_ := ⟨_, rfl⟩
      replace H : (some (Go.bits .or .u64 (ji24) (ji27), shl .u64 a0_1 a1)) = some (r1, r2) := by first | (rw [hji27] at H; exact H) | (simp only [hji27] at H ⊢; exact H)
      have hji27_ : (a0_1 / 2 ^ min (ji25).toNat 64) = ji27 := hji27
      have hji27z : (ji25) ≤ 64 → (a0_1 / 2 ^ (ji25).toNat) = ji27 := shr_small hji27
      have c28b0 := eq_true (of_decide_eq_true (by first | (with_reducible assumption) | assumption) : 0 ≤ a1)
      obtain ⟨ji29, hji29⟩ : ∃ j_ : Int, (shl .u64 a0_1 a1) = j_ := ⟨_, rfl⟩
      replace H : (some (Go.bits .or .u64 (ji24) (ji27), ji29)) = some (r1, r2) := by first | (rw [hji29] at H; exact H) | (simp only [hji29] at H ⊢; exact H)
      have hji29_ : (IntKind.u64.wrap (a0_1 * 2 ^ min a1.toNat 64)) = ji29 := hji29
      have hji29z : a1 ≤ 64 → (IntKind.u64.wrap (a0_1 * 2 ^ a1.toNat)) = ji29 := shl_small hji29
      simp only [Option.some.injEq, Prod.mk.injEq] at H
      obtain ⟨rfl, rfl⟩ := H
      go_enter Try.func87, Try.ntmps87
      try go_wp2_with (first | ((with_reducible refine gate_dst (N := 2) rfl ?_); refine be_ 2 #[.int .u64 a0_0, .int .u64 a0_1] 50 ?_; intro gb158 hg w30 hbox hb; have BK158 := A_ (hbox); have GW158 := A_ (sz_ hg (hb_ HB.out)); have GE158 := A_ (sz_ hg (hb_ HB.out)); replace HB := A_ (below_step (hb_ HB.out) hb); clear hb hbox hg) | ((with_reducible refine gate_dst (N := 4) rfl ?_); refine be_ 4 #[.int .u64 0, .int .u64 0] 50 ?_; intro gb159 hg w31 hbox hb; have BK159 := A_ (hbox); have GW159 := A_ (sz_ hg (hb1_ HB.out GE158.out)); have GE159 := A_ (sz_ hg (hb1_ HB.out GE158.out)); have NB158_159 := A_ (nl_ hg BK158.out); have NB159_158 := A_ (ng_ hg BK158.out); replace BK158 := A_ (bb_ BK158.out hb); replace HB := A_ (below_step (hb1_ HB.out GE158.out) hb); clear hb hbox hg))
      replace BK158 := A_ (blk_drew BK158.out)
      replace BK159 := A_ (blk_drew BK159.out)
      replace HB := A_ (below_drew1 HB.out)
      refine start_ (n := 16) (S := fun w' => w'.cell? ⟨gb158, 0, none⟩ = some (.int .u64 a0_0) ∧ w'.cell? ⟨gb158, 1, none⟩ = some (.int .u64 a0_1)) (ds := []) #[false, false, false, false, false, false, false, false, false, false, false, false, false, false, false, false] (by kernel_rfl) rfl rfl ⟨bc_ BK158.out 0, bc_ BK158.out 1⟩ (fun hHeld => ?_); refine with_tabW wide_Left.tab7 wide_Left.bits7 (fun HT_ HW_ => ?_)
      generalize w31.drew = w32 at BK158 BK159 HB hHeld ⊢
      refine pu_ 0 (some 22) #[true, false, false, false, false, false, false, false, false, false, false, false, false, false, false, false] rfl rfl (any_of HT_.out (by kernel_rfl)) ?_
      refine pu_ 2 (some 24) #[true, false, true, false, false, false, false, false, false, false, false, false, false, false, false, false] rfl rfl (any_of HT_.out (by kernel_rfl)) ?_
      refine pu_ 4 (some 26) #[true, false, true, false, true, false, false, false, false, false, false, false, false, false, false, false] rfl rfl (any_of HT_.out (by kernel_rfl)) ?_
      refine pu_ 6 (some 28) #[true, false, true, false, true, false, true, false, false, false, false, false, false, false, false, false] rfl rfl (any_of HT_.out (by kernel_rfl)) ?_
      refine pu_ 7 (some 29) #[true, false, true, false, true, false, true, true, false, false, false, false, false, false, false, false] rfl rfl (any_of HT_.out (by kernel_rfl)) ?_
      refine pu_ 10 (some 32) #[true, false, true, false, true, false, true, true, false, false, true, false, false, false, false, false] rfl rfl (any_of HT_.out (by kernel_rfl)) ?_
      refine pu_ 12 (some 34) #[true, false, true, false, true, false, true, true, false, false, true, false, true, false, false, false] rfl rfl (any_of HT_.out (by kernel_rfl)) ?_
      refine tk2_ 1 (some 23) #[true, true, true, false, true, false, true, true, false, false, true, false, true, false, false, false] rfl rfl (take_ofW HT_.out HW_.out (by kernel_rfl)) hHeld ?_
      refine pu_ 3 (some 25) #[true, true, true, true, true, false, true, true, false, false, true, false, true, false, false, false] rfl rfl (any_of HT_.out (by kernel_rfl)) ?_
      refine tk2_ 5 (some 27) #[true, true, true, true, true, true, true, true, false, false, true, false, true, false, false, false] rfl rfl (take_ofW HT_.out HW_.out (by kernel_rfl)) hHeld ?_
      refine pu_ 8 (some 30) #[true, true, true, true, true, true, true, true, true, false, true, false, true, false, false, false] rfl rfl (any_of HT_.out (by kernel_rfl)) ?_
      refine pu_ 9 (some 31) #[true, true, true, true, true, true, true, true, true, true, true, false, true, false, false, false] rfl rfl (any_of HT_.out (by kernel_rfl)) ?_
      refine tk2_ 11 (some 33) #[true, true, true, true, true, true, true, true, true, true, true, true, true, false, false, false] rfl rfl (take_ofW HT_.out HW_.out (by kernel_rfl)) hHeld ?_
      refine pu_ 13 (some 35) #[true, true, true, true, true, true, true, true, true, true, true, true, true, true, false, false] rfl rfl (any_of HT_.out (by kernel_rfl)) ?_
      refine pu_ 14 (some 36) #[true, true, true, true, true, true, true, true, true, true, true, true, true, true, true, false] rfl rfl (any_of HT_.out (by kernel_rfl)) ?_
      refine one_ (i := 15) (N := none) #[true, true, true, true, true, true, true, true, true, true, true, true, true, true, true, true] rfl rfl (one_of HT_.out (by kernel_rfl)) (by decide) (fun K hK => ?_)
      have hs33 : w32.cell? ⟨gb159, 0, none⟩ = some (.int .u64 0) := bc_ BK159.out 0
      have hfs33 := blk_frozen BK159.out 0
      have hns33_0 := NB158_159.out
      have hms33_0 := NB159_158.out
      have hs34 : w32.cell? ⟨gb159, 1, none⟩ = some (.int .u64 0) := bc_ BK159.out 1
      have hfs34 := blk_frozen BK159.out 1
      have hns34_0 := NB158_159.out
      have hms34_0 := NB159_158.out
      refine skip_ (w1 := ?_) (by rfl) rfl ?_ ?_
      rotate_left
      ·go_simp
       rfl
      refine hK.out _ _ ⟨((cell_far (p := ⟨gb159, _, none⟩) NB158_159.out _).trans (((cell_far (p := ⟨gb159, _, none⟩) NB158_159.out _).trans (hHeld.1)))), ((cell_far (p := ⟨gb159, _, none⟩) NB158_159.out _).trans (((cell_far (p := ⟨gb159, _, none⟩) NB158_159.out _).trans (hHeld.2))))⟩ (fun hHeld => ?_)
      clear hK K
      refine done_ (done_of HT_.out (by kernel_rfl)) ?_
      try go_wp2
      refine bodyPost_ret (results_cell_row rfl _ _ gb159 50 #[.int .u64 (Go.bits .or .u64 (ji24) (ji27)), .int .u64 ji29] (0, 0) _ rfl (by (with_reducible repeat (first | refine blk_drewN ?_ _ | refine blk_drew ?_ | refine blk_alloc ?_ _)); refine blk_put (cs := #[.int .u64 (Go.bits .or .u64 (ji24) (ji27)), .int .u64 0]) ?_ 1 _ rfl; (with_reducible repeat (first | refine blk_drewN ?_ _ | refine blk_drew ?_ | refine blk_alloc ?_ _)); refine blk_put (cs := #[.int .u64 0, .int .u64 0]) ?_ 0 _ rfl; (with_reducible repeat (first | refine blk_drewN ?_ _ | refine blk_drew ?_ | refine blk_alloc ?_ _)); exact BK159.out) Try.underlying50 rfl (by kernel_rfl)) rfl ?_
      exact ⟨by first | rfl | (simp [errW_none, errW_some] <;> rfl) | (simp only [← hji24, ← hji25, ← hji27, ← hji29]; first | rfl | (simp [errW_none, errW_some] <;> rfl)) | (simp [*, errW_none, errW_some] <;> rfl), hb2_ HB.out GE158.out GE159.out⟩
     ·rw [if_neg c26] at H
      exact absurd H (by simp)
    ·rw [if_neg c23] at H
     exact absurd H (by simp)
def wide_Of.f (a0 : Int) : Option (Int × Int) := some (0, a0)
theorem wide_Of.calls (a0 : Int) (r1 : Int) (r2 : Int) (w : World) (h : wide_Of.f a0 = some (r1, r2)) :
  Calls Try.prog 42 #[.int .u64 a0] w fun e w' => e = .returned (.agg #[.int .u64 r1, .int .u64 r2]) ∧ Below w.heap.size w w' := by
 have hu50 := Try.underlying50
 have HB := A_ (Below.refl w.heap.size w)
 have H : (some (0, a0)) = some (r1, r2) := h
 clear h
 simp only [Option.some.injEq, Prod.mk.injEq] at H
 obtain ⟨rfl, rfl⟩ := H
 go_enter Try.func42, Try.ntmps42
 go_wp2_with (first | ((with_reducible refine gate_dst (N := 2) rfl ?_); refine be_ 2 #[.int .u64 0, .int .u64 0] 50 ?_; intro gb142 hg w2 hbox hb; have BK142 := A_ (hbox); have GW142 := A_ (sz_ hg (hb_ HB.out)); have GE142 := A_ (sz_ hg (hb_ HB.out)); replace HB := A_ (below_step (hb_ HB.out) hb); clear hb hbox hg; have hcz3_0 := bv_ BK142.out 0; have hcz3_1 := bv_ BK142.out 1; have hfz3_0 := blk_frozen BK142.out 0; have hfz3_1 := blk_frozen BK142.out 1))
 refine bodyPost_ret (results_cell_row rfl _ _ gb142 50 #[.int .u64 0, .int .u64 a0] (0, 0) _ rfl (by (with_reducible repeat (first | refine blk_drewN ?_ _ | refine blk_drew ?_ | refine blk_alloc ?_ _)); refine blk_put (cs := #[.int .u64 0, .int .u64 0]) ?_ 1 _ rfl; (with_reducible repeat (first | refine blk_drewN ?_ _ | refine blk_drew ?_ | refine blk_alloc ?_ _)); refine blk_put (cs := #[.int .u64 0, .int .u64 0]) ?_ 0 _ rfl; (with_reducible repeat (first | refine blk_drewN ?_ _ | refine blk_drew ?_ | refine blk_alloc ?_ _)); exact BK142.out) Try.underlying50 rfl (by kernel_rfl)) rfl ?_
 exact ⟨er_, hb1_ HB.out GE142.out⟩
theorem eqA50 (d : Nat) (w : World) (x0 y0 : Int) (x1 y1 : Int) :
  (Op.equalIn (d + 2) 50 (.agg #[.int .u64 x0, .int .u64 x1]) (.agg #[.int .u64 y0, .int .u64 y1])).run Try.prog w = .ok (x0 == y0 && (x1 == y1)) w := by
 refine eqA_of Try.underlying50 (by kernel_rfl) ?_
 refine eqf_cons (by rfl) (by go_simp; rfl) (by go_simp; rfl) (by go_simp) ?_
 exact eqf_last (by rfl) (by go_simp; rfl) (by go_simp; rfl) (by go_simp)
-- IMPORT Derived.Deep.RegionHeld3
-- IMPORT Derived.Test.YtjjehbedpgdhgaaPAEq50
def wide_Right.f (a0_0 : Int) (a0_1 : Int) (a1 : Int) : Option (Int × Int × Bool) :=
 if a1 ≤ 0 then some (a0_0, a0_1, false) else if a1 ≥ 128 then some (0, 0, (!(a0_0 == 0) || !(a0_1 == 0))) else
 if a1 ≥ 64 then (wide_Left.f 0 (shr .u64 a0_0 (wrap64 (a1 - 64))) a1).bind fun b => some (0, shr .u64 a0_0 (wrap64 (a1 - 64)), (!(b.1 == a0_0) || !(b.2 == a0_1)))
 else (wide_Left.f (shr .u64 a0_0 a1) (Go.bits .or .u64 (shr .u64 a0_1 a1) (shl .u64 a0_0 (wrap64 (64 - a1)))) a1).bind fun b => some (shr .u64 a0_0 a1, Go.bits .or .u64 (shr .u64 a0_1 a1) (shl .u64 a0_0 (wrap64 (64 - a1))), (!(b.1 == a0_0) || !(b.2 == a0_1)))
attribute [local go_sem high] eqA50
theorem wide_Right.bcell {W w1 : World} (hb : Below W.heap.size W w1) : (∀ b o, b < W.heap.size → w1.cell? ⟨b, o, none⟩ = W.cell? ⟨b, o, none⟩) ∧ (∀ b o, b < W.heap.size → w1.frozen? ⟨b, o, none⟩ = W.frozen? ⟨b, o, none⟩) :=
 ⟨fun b o h => hb.cell (p := ⟨b, o, none⟩) h, fun b o h => hb.frozen (p := ⟨b, o, none⟩) h⟩
theorem wide_Right.calls0 (a0_0 : Int) (a0_1 : Int) (a1 : Int) (w : World) (h : a1 ≤ 0) :
  Calls Try.prog 67 #[.agg #[.int .u64 a0_0, .int .u64 a0_1], .int .i64 a1] w fun e w' => e = .returned (.tuple #[.agg #[.int .u64 a0_0, .int .u64 a0_1], .bool false]) ∧ Below w.heap.size w w' := by
 have hu40 := Try.underlying50
 have c0 : decide (a1 ≤ 0) = true := decide_eq_true h
 clear h
 go_enter Try.func67, Try.ntmps67
 go_wp2
 exact bodyPost_ret (v := .tuple #[.agg #[.int .u64 a0_0, .int .u64 a0_1], .bool false]) (by simp [results, Try.results67, go_sem]) rfl ⟨rfl, below_alloc (below_alloc (Below.refl _ _) _) _⟩
theorem wide_Right.calls128 (a0_0 : Int) (a0_1 : Int) (a1 : Int) (w : World) (h : ¬ a1 ≤ 0) (h2 : a1 ≥ 128) :
  Calls Try.prog 67 #[.agg #[.int .u64 a0_0, .int .u64 a0_1], .int .i64 a1] w fun e w' => e = .returned (.tuple #[.agg #[.int .u64 0, .int .u64 0], .bool (!(a0_0 == 0) || !(a0_1 == 0))]) ∧ Below w.heap.size w w' := by
 have hu40 := Try.underlying50
 have c0 : decide (a1 ≤ 0) = false := decide_eq_false h
 have c1 : decide (128 ≤ a1) = true := decide_eq_true h2
 clear h h2
 go_enter Try.func67, Try.ntmps67
 go_wp2
 go_region
 go_wp2
 exact bodyPost_ret (v := .tuple #[.agg #[.int .u64 0, .int .u64 0], .bool (!(a0_0 == 0) || !(a0_1 == 0))]) (by simp [results, Try.results67, go_sem]) rfl ⟨rfl, below_drew (below_alloc (below_alloc (Below.refl _ _) _) _)⟩
theorem wide_Right.calls64 (a0_0 : Int) (a0_1 : Int) (a1 : Int) (x y : Int) (w : World) (h : ¬ a1 ≤ 0) (h2 : ¬ a1 ≥ 128) (h3 : a1 ≥ 64) (hl : wide_Left.f 0 (shr .u64 a0_0 (wrap64 (a1 - 64))) a1 = some (x, y)) :
  Calls Try.prog 67 #[.agg #[.int .u64 a0_0, .int .u64 a0_1], .int .i64 a1] w fun e w' => e = .returned (.tuple #[.agg #[.int .u64 0, .int .u64 (shr .u64 a0_0 (wrap64 (a1 - 64)))], .bool (!(x == a0_0) || !(y == a0_1))]) ∧ Below w.heap.size w w' := by
 have hu40 := Try.underlying50
 have c0 : decide (a1 ≤ 0) = false := decide_eq_false h
 have c1 : decide (128 ≤ a1) = false := decide_eq_false h2
 have c2 : decide (64 ≤ a1) = true := decide_eq_true h3
 have ew : wrap64 (a1 - 64) = a1 - 64 := by unfold wrap64; omega
 rw [ew] at hl ⊢
 have g0 := eq_true (show 64 ≤ a1 from h3)
 have g1 : a1 < 128 := by omega
 have es : shr .u64 a0_0 (a1 - 64) = a0_0 / 2 ^ (a1 - 64).toNat := by unfold shr; rw [show min (a1 - 64).toNat IntKind.u64.bits = (a1 - 64).toNat by rw [show IntKind.u64.bits = 64 by decide]; omega]
 rw [es] at hl ⊢
 clear es
 obtain ⟨s, hs⟩ : ∃ s, a0_0 / 2 ^ (a1 - 64).toNat = s := ⟨_, rfl⟩
 rw [hs] at hl ⊢
 have B0 := A_ hl;clear h h2 hl
 go_enter Try.func67, Try.ntmps67
 go_wp2
 go_region_held3 (fun w' => w'.cell? ⟨w.heap.size, 0, none⟩ = some (.int .u64 a0_0) ∧ w'.cell? ⟨w.heap.size, 1, none⟩ = some (.int .u64 a0_1) ∧ w'.cell? ⟨w.heap.size + 1, 0, none⟩ = some (.int .u64 0) ∧ w'.cell? ⟨w.heap.size + 1, 1, none⟩ = some (.int .u64 s) ∧ w'.frozen? ⟨w.heap.size + 1, 0, none⟩ = false ∧ w.heap.size + 1 < w'.heap.size ∧ Below w.heap.size w w')
  (((try go_split_ands); (try dsimp only); (repeat' apply And.intro) <;> first | assumption | (simp [go_sem, World.cell?_alloc_past]; done) | (simp [go_sem, World.cell?_alloc_past, *]; done) | (rw [hc _ _ (by omega)]; assumption) | (rw [hf _ _ (by omega)]; assumption) | (have := hb.size; omega) | (refine below_step ?_ hb; assumption) | (repeat (first | assumption | exact Below.refl _ _ | apply below_drew1 | apply below_alloc | (refine below_set ?_ (by omega))))))
  ((go_at_call 87; refine (wide_Left.calls 0 s a1 x y _ B0.out).mono ?_; rintro e w1 ⟨rfl, hb⟩; obtain ⟨hc, hf⟩ := wide_Right.bcell hb))
 rename_i hH
 obtain ⟨q0, q1, q2, q3, q4, q5, q6⟩ := hH
 go_wp2
 exact bodyPost_ret (v := .tuple #[.agg #[.int .u64 0, .int .u64 s], .bool (!(x == a0_0) || !(y == a0_1))]) (by simp [results, Try.results67, go_sem, q2, q3]) rfl ⟨rfl, q6⟩
theorem wide_Right.calls1 (a0_0 : Int) (a0_1 : Int) (a1 : Int) (x y : Int) (w : World) (h : ¬ a1 ≤ 0) (h2 : ¬ a1 ≥ 128) (h3 : ¬ a1 ≥ 64) (hl : wide_Left.f (shr .u64 a0_0 a1) (Go.bits .or .u64 (shr .u64 a0_1 a1) (shl .u64 a0_0 (wrap64 (64 - a1)))) a1 = some (x, y)) :
  Calls Try.prog 67 #[.agg #[.int .u64 a0_0, .int .u64 a0_1], .int .i64 a1] w fun e w' => e = .returned (.tuple #[.agg #[.int .u64 (shr .u64 a0_0 a1), .int .u64 (Go.bits .or .u64 (shr .u64 a0_1 a1) (shl .u64 a0_0 (wrap64 (64 - a1))))], .bool (!(x == a0_0) || !(y == a0_1))]) ∧ Below w.heap.size w w' := by
 have hu40 := Try.underlying50
 have c0 : decide (a1 ≤ 0) = false := decide_eq_false h
 have c1 : decide (128 ≤ a1) = false := decide_eq_false h2
 have c2 : decide (64 ≤ a1) = false := decide_eq_false h3
 have ew : wrap64 (64 - a1) = 64 - a1 := by unfold wrap64; omega
 rw [ew] at hl ⊢
 have gw : IntKind.i64.wrap (64 - a1) = 64 - a1 := by rw [i64_w]; unfold wrap64; omega
 have g0 := eq_true (show 0 ≤ a1 by omega)
 have g1 : a1 < 64 := by omega
 have g2 : 0 ≤ 64 - a1 := by omega
 have es : ∀ z : Int, shr .u64 z a1 = z / 2 ^ a1.toNat := fun z => by unfold shr; rw [show min a1.toNat IntKind.u64.bits = a1.toNat by rw [show IntKind.u64.bits = 64 by decide]; omega]
 have et : shl .u64 a0_0 (64 - a1) = IntKind.u64.wrap (a0_0 * 2 ^ min (64 - a1).toNat 64) := rfl
 rw [es, es, et] at hl ⊢
 clear es et
 obtain ⟨s, hs⟩ : ∃ s, a0_0 / 2 ^ a1.toNat = s := ⟨_, rfl⟩
 obtain ⟨s1, hs1⟩ : ∃ s, a0_1 / 2 ^ a1.toNat = s := ⟨_, rfl⟩
 obtain ⟨s2, hs2⟩ : ∃ s, IntKind.u64.wrap (a0_0 * 2 ^ min (64 - a1).toNat 64) = s := ⟨_, rfl⟩
 rw [hs, hs1, hs2] at hl ⊢
 obtain ⟨t, ht⟩ : ∃ t, Go.bits .or .u64 s1 s2 = t := ⟨_, rfl⟩
 rw [ht] at hl ⊢
 have B0 := A_ hl;clear h h2 h3 hl ew
 go_enter Try.func67, Try.ntmps67
 have g3 := eq_true (show a1 ≤ 64 by omega)
 go_wp2
 go_region_held3 (fun w' => w'.cell? ⟨w.heap.size, 0, none⟩ = some (.int .u64 a0_0) ∧ w'.cell? ⟨w.heap.size, 1, none⟩ = some (.int .u64 a0_1) ∧ w'.frozen? ⟨w.heap.size + 1, 0, none⟩ = false ∧ w.heap.size + 1 < w'.heap.size ∧ Below w.heap.size w w')
  (((try go_split_ands); (try dsimp only); (repeat' apply And.intro) <;> first | assumption | (simp [go_sem, World.cell?_alloc_past]; done) | (simp [go_sem, World.cell?_alloc_past, *]; done) | (rw [hc _ _ (by omega)]; assumption) | (rw [hf _ _ (by omega)]; assumption) | (have := hb.size; omega) | (refine below_step ?_ hb; assumption) | (repeat (first | assumption | exact Below.refl _ _ | apply below_drew1 | apply below_alloc | (refine below_set ?_ (by omega))))))
  (fail)
 rename_i hH0
 clear hH0
 go_wp2
 go_region_held3 (fun w' => w'.cell? ⟨w.heap.size, 0, none⟩ = some (.int .u64 a0_0) ∧ w'.cell? ⟨w.heap.size, 1, none⟩ = some (.int .u64 a0_1) ∧ w'.cell? ⟨w.heap.size + 1, 0, none⟩ = some (.int .u64 s) ∧ w'.cell? ⟨w.heap.size + 1, 1, none⟩ = some (.int .u64 t) ∧ w'.frozen? ⟨w.heap.size + 1, 0, none⟩ = false ∧ w.heap.size + 1 < w'.heap.size ∧ Below w.heap.size w w')
  (((try go_split_ands); (try dsimp only); (repeat' apply And.intro) <;> first | assumption | (simp [go_sem, World.cell?_alloc_past]; done) | (simp [go_sem, World.cell?_alloc_past, *]; done) | (rw [hc _ _ (by omega)]; assumption) | (rw [hf _ _ (by omega)]; assumption) | (have := hb.size; omega) | (refine below_step ?_ hb; assumption) | (repeat (first | assumption | exact Below.refl _ _ | apply below_drew1 | apply below_alloc | (refine below_set ?_ (by omega))))))
  ((go_at_call 87; refine (wide_Left.calls s t a1 x y _ B0.out).mono ?_; rintro e w1 ⟨rfl, hb⟩; obtain ⟨hc, hf⟩ := wide_Right.bcell hb))
 rename_i hH
 obtain ⟨q0, q1, q2, q3, q4, q5, q6⟩ := hH
 go_wp2
 exact bodyPost_ret (v := .tuple #[.agg #[.int .u64 s, .int .u64 t], .bool (!(x == a0_0) || !(y == a0_1))]) (by simp [results, Try.results67, go_sem, q2, q3]) rfl ⟨rfl, q6⟩
theorem wide_Right.calls (a0_0 : Int) (a0_1 : Int) (a1 : Int) (r1 : Int) (r2 : Int) (r3 : Bool) (w : World) (h : wide_Right.f a0_0 a0_1 a1 = some (r1, r2, r3)) :
  Calls Try.prog 67 #[.agg #[.int .u64 a0_0, .int .u64 a0_1], .int .i64 a1] w fun e w' => e = .returned (.tuple #[.agg #[.int .u64 r1, .int .u64 r2], .bool r3]) ∧ Below w.heap.size w w' := by
 unfold wide_Right.f at h
 by_cases h1 : a1 ≤ 0
 ·rw [if_pos h1] at h
  simp only [Option.some.injEq, Prod.mk.injEq] at h
  obtain ⟨rfl, rfl, rfl⟩ := h
  exact wide_Right.calls0 _ _ a1 w h1
 ·rw [if_neg h1] at h
  by_cases h2 : a1 ≥ 128
  ·rw [if_pos h2] at h
   simp only [Option.some.injEq, Prod.mk.injEq] at h
   obtain ⟨rfl, rfl, rfl⟩ := h
   exact wide_Right.calls128 _ _ a1 w h1 h2
  ·rw [if_neg h2] at h
   by_cases h3 : a1 ≥ 64
   ·rw [if_pos h3] at h
    obtain ⟨⟨x, y⟩, A0, H⟩ := ob_ h
    simp only [Option.some.injEq, Prod.mk.injEq] at H
    obtain ⟨rfl, rfl, rfl⟩ := H
    exact wide_Right.calls64 _ _ a1 x y w h1 h2 h3 A0
   ·rw [if_neg h3] at h
    obtain ⟨⟨x, y⟩, A0, H⟩ := ob_ h
    simp only [Option.some.injEq, Prod.mk.injEq] at H
    obtain ⟨rfl, rfl, rfl⟩ := H
    exact wide_Right.calls1 _ _ a1 x y w h1 h2 h3 A0
def chop_amount.f (a0_0 : Bool) (a0_1 : Int) (a0_2 : Int) (a0_3 : Int) : Option (Int × Bool) := if a0_2 ≤ 0 then ((wide_Of.f a0_3).bind fun bt414 => ((wide_Right.f bt414.1 bt414.2 (wrap64 (-a0_2))).bind fun bt416 => (some (bt416.2.1, true)))) else ((wide_Of.f a0_3).bind fun bt420 => ((wide_Left.f bt420.1 bt420.2 (mn a0_2 70)).bind fun bt422 => (some (bt422.2, (bt422.1 == 0)))))
def chop_amount.T2 : Bool × List (List Nat × List Nat) := (true, [([], []), ([0], [0]), ([1], [1]), ([], []), ([3], [3]), ([4], [4]), ([2, 5, 2], [2, 5]), ([6], [6]), ([7], [7]), ([7], [7]), ([], []), ([10, 8, 6, 0, 1, 2, 3, 4, 5, 6, 7, 8, 10], [8, 10]), ([9, 11, 0, 1, 2, 3, 4, 5, 6, 7, 8, 9, 10, 11], [9])])
def chop_amount.B2 : List Nat := [0, 1, 3, 0, 8, 24, 63, 127, 255, 255, 0, 1535, 4095]
theorem chop_amount.tab2 : rtab .any (opsOf Try.f91 2) = chop_amount.T2 := by kernel_rfl
theorem chop_amount.bits2 : waitsOk chop_amount.T2.2 chop_amount.B2 = true := by kernel_rfl
def chop_amount.T4 : Bool × List (List Nat × List Nat) := (true, [([], []), ([0], [0]), ([1], [1]), ([], []), ([3], [3]), ([4], [4]), ([2, 5, 2], [2, 5]), ([], []), ([7, 6, 6, 0, 1, 2, 3, 4, 5, 6, 7], [6, 7])])
def chop_amount.B4 : List Nat := [0, 1, 3, 0, 8, 24, 63, 0, 255]
theorem chop_amount.tab4 : rtab .any (opsOf Try.f91 4) = chop_amount.T4 := by kernel_rfl
theorem chop_amount.bits4 : waitsOk chop_amount.T4.2 chop_amount.B4 = true := by kernel_rfl
theorem chop_amount.calls (a0_0 : Bool) (a0_1 : Int) (a0_2 : Int) (a0_3 : Int) (r1 : Int) (r2 : Bool) (w : World) (h : chop_amount.f a0_0 a0_1 a0_2 a0_3 = some (r1, r2)) :
  Calls Try.prog 91 #[.agg #[.bool a0_0, .int .i64 a0_1, .int .i64 a0_2, .int .u64 a0_3]] w fun e w' => e = .returned (.tuple #[.int .u64 r1, .bool r2]) ∧ Below w.heap.size w w' := by
 have hu30 := Try.underlying30
 have hu50 := Try.underlying50
 have HB := A_ (Below.refl w.heap.size w)
 have H : (if a0_2 ≤ 0 then ((wide_Of.f a0_3).bind fun bt414 => ((wide_Right.f bt414.1 bt414.2 (wrap64 (-a0_2))).bind fun bt416 => (some (bt416.2.1, true)))) else ((wide_Of.f a0_3).bind fun bt420 => ((wide_Left.f bt420.1 bt420.2 (mn a0_2 70)).bind fun bt422 => (some (bt422.2, (bt422.1 == 0)))))) = some (r1, r2) := h
 clear h
 by_cases c2 : a0_2 ≤ 0
 ·rw [if_pos c2] at H
  have c2b0 : decide (a0_2 ≤ 0) = true := decide_eq_true c2
  clear c2
  replace H := ob_ H
  obtain ⟨⟨t414, t415⟩, A30, H⟩ := H
  replace H : ((wide_Right.f t414 t415 (wrap64 (-a0_2))).bind fun bt416 => (some (bt416.2.1, true))) = some (r1, r2) := H
  have A3 := A_ A30;clear A30
  replace H := ob_ H
  obtain ⟨⟨t416, t417, t418⟩, A40, H⟩ := H
  replace H : (some (t417, true)) = some (r1, r2) := H
  have A4 := A_ A40;clear A40
  simp only [Option.some.injEq, Prod.mk.injEq] at H
  obtain ⟨rfl, rfl⟩ := H
  go_enter Try.func91, Try.ntmps91
  try go_wp2_with (first | ((with_reducible refine gate_dst (N := 1) rfl ?_); refine be_ 1 #[.bool a0_0, .int .i64 a0_1, .int .i64 a0_2, .int .u64 a0_3] 30 ?_; intro gb413 hg w5 hbox hb; have BK413 := A_ (hbox); have GW413 := A_ (sz_ hg (hb_ HB.out)); have GE413 := A_ (sz_ hg (hb_ HB.out)); replace HB := A_ (below_step (hb_ HB.out) hb); clear hb hbox hg; have hcz6_0 := bv_ BK413.out 0; have hcz6_1 := bv_ BK413.out 1; have hcz6_2 := bv_ BK413.out 2; have hcz6_3 := bv_ BK413.out 3; have hfz6_0 := blk_frozen BK413.out 0; have hfz6_1 := blk_frozen BK413.out 1; have hfz6_2 := blk_frozen BK413.out 2; have hfz6_3 := blk_frozen BK413.out 3))
  replace BK413 := A_ (blk_drew BK413.out)
  replace HB := A_ (below_drew1 HB.out)
  refine start_ (n := 13) (S := fun w' => w'.cell? ⟨gb413, 0, none⟩ = some (.bool a0_0) ∧ w'.cell? ⟨gb413, 1, none⟩ = some (.int .i64 a0_1) ∧ w'.cell? ⟨gb413, 2, none⟩ = some (.int .i64 a0_2) ∧ w'.cell? ⟨gb413, 3, none⟩ = some (.int .u64 a0_3)) (ds := []) #[false, false, false, false, false, false, false, false, false, false, false, false, false] (by kernel_rfl) rfl rfl ⟨bc_ BK413.out 0, bc_ BK413.out 1, bc_ BK413.out 2, bc_ BK413.out 3⟩ (fun hHeld => ?_); refine with_tabW chop_amount.tab2 chop_amount.bits2 (fun HT_ HW_ => ?_)
  generalize w5.drew = w7 at BK413 HB hHeld ⊢
  refine pu_ 0 (some 11) #[true, false, false, false, false, false, false, false, false, false, false, false, false] rfl rfl (any_of HT_.out (by kernel_rfl)) ?_
  refine pu_ 3 (some 14) #[true, false, false, true, false, false, false, false, false, false, false, false, false] rfl rfl (any_of HT_.out (by kernel_rfl)) ?_
  refine tk4_ 1 (some 12) #[true, true, false, true, false, false, false, false, false, false, false, false, false] rfl rfl (take_ofW HT_.out HW_.out (by kernel_rfl)) hHeld ?_
  refine tk4_ 4 (some 15) #[true, true, false, true, true, false, false, false, false, false, false, false, false] rfl rfl (take_ofW HT_.out HW_.out (by kernel_rfl)) hHeld ?_
  refine pu_ 5 (some 16) #[true, true, false, true, true, true, false, false, false, false, false, false, false] rfl rfl (any_of HT_.out (by kernel_rfl)) ?_
  refine join_ (σ := Nat) 2 #[true, true, true, true, true, true, true, true, true, true, true, false, false] (fun s_ => [(13, .agg #[.int .u64 t414, .int .u64 t415]), (17, .tuple #[.agg #[.int .u64 t416, .int .u64 t417], .bool t418]), (4, .pointer (some ⟨s_, 0, none⟩)), (10, .tuple #[.agg #[.int .u64 t416, .int .u64 t417], .bool t418]), (18, .agg #[.int .u64 t416, .int .u64 t417]), (19, .bool t418)]) (fun s_ w' => (w'.cell? ⟨gb413, 0, none⟩ = some (.bool a0_0) ∧ w'.cell? ⟨gb413, 1, none⟩ = some (.int .i64 a0_1) ∧ w'.cell? ⟨gb413, 2, none⟩ = some (.int .i64 a0_2) ∧ w'.cell? ⟨gb413, 3, none⟩ = some (.int .u64 a0_3)) ∧ (w'.heap[gb413]? = some (.cells #[.bool a0_0, .int .i64 a0_1, .int .i64 a0_2, .int .u64 a0_3] 30 (0, 0))) ∧ (w'.heap[s_]? = some (.cells #[.int .u64 0, .int .u64 0] 50 (0, 0))) ∧ (w.heap.size ≤ s_) ∧ (w.heap.size ≤ s_) ∧ (gb413 ≠ s_) ∧ (s_ ≠ gb413) ∧ (Below w.heap.size w w')) ?_ ?_
  rotate_left
  ·intro hCont
   refine two_ (i := 2) (j := 10) (Ni := some 13) (Nj := some 4) #[true, true, true, true, true, true, false, false, false, false, false, false, false] #[true, true, false, true, true, true, false, false, false, false, true, false, false] rfl rfl rfl rfl (two_of HT_.out (by kernel_rfl)) (by decide) (by decide) (fun K hK => ?_) (fun K hK => ?_)
   ·skip
    refine goes_ Try.func42 (by kernel_rfl) rfl #[.int .u64 a0_3] (by rfl) rfl rfl mp_ ?_
    with_reducible refine (wide_Of.calls a0_3 t414 t415 _ A3.out).mono ?_
    rintro e w8 ⟨rfl, hb⟩
    refine ⟨_, rfl, ?_⟩
    replace BK413 := A_ (bb_ BK413.out hb)
    replace HB := A_ (below_step (hb1_ HB.out GE413.out) hb);(try clear hb);(try clear hb2);(try clear hk);(try clear hi)
    refine hK.out _ _ ⟨bc_ BK413.out 0, bc_ BK413.out 1, bc_ BK413.out 2, bc_ BK413.out 3⟩ (fun hHeld => ?_)
    clear hK K
    refine norm_ (a' := ?_) ?_ ?_
    rotate_left
    ·show Act.put _ (some 13) _ = _
     simp only [Act.put, lI_, l0_, lS_, i64_w, i32_w]
     rfl
    refine two_ (i := 6) (j := 10) (Ni := some 17) (Nj := some 4) #[true, true, true, true, true, true, true, false, false, false, false, false, false] #[true, true, true, true, true, true, false, false, false, false, true, false, false] rfl rfl rfl rfl (two_of HT_.out (by kernel_rfl)) (by decide) (by decide) (fun K hK => ?_) (fun K hK => ?_)
    ·skip
     refine goes_ Try.func67 (by kernel_rfl) rfl #[.agg #[.int .u64 t414, .int .u64 t415], .int .i64 (wrap64 (-a0_2))] (by rfl) rfl rfl mp_ ?_
     with_reducible refine (wide_Right.calls t414 t415 (wrap64 (-a0_2)) t416 t417 t418 _ A4.out).mono ?_
     rintro e w9 ⟨rfl, hb⟩
     refine ⟨_, rfl, ?_⟩
     replace BK413 := A_ (bb_ BK413.out hb)
     replace HB := A_ (below_step (hb1_ HB.out GE413.out) hb);(try clear hb);(try clear hb2);(try clear hk);(try clear hi)
     refine hK.out _ _ ⟨bc_ BK413.out 0, bc_ BK413.out 1, bc_ BK413.out 2, bc_ BK413.out 3⟩ (fun hHeld => ?_)
     clear hK K
     refine norm_ (a' := ?_) ?_ ?_
     rotate_left
     ·show Act.put _ (some 17) _ = _
      simp only [Act.put, lI_, l0_, lS_, i64_w, i32_w]
      rfl
     refine pu_ 7 (some 10) #[true, true, true, true, true, true, true, true, false, false, false, false, false] rfl rfl (any_of HT_.out (by kernel_rfl)) ?_
     refine pu_ 8 (some 18) #[true, true, true, true, true, true, true, true, true, false, false, false, false] rfl rfl (any_of HT_.out (by kernel_rfl)) ?_
     refine pu_ 9 (some 19) #[true, true, true, true, true, true, true, true, true, true, false, false, false] rfl rfl (any_of HT_.out (by kernel_rfl)) ?_
     refine one_ (i := 10) (N := some 4) #[true, true, true, true, true, true, true, true, true, true, true, false, false] rfl rfl (one_of HT_.out (by kernel_rfl)) (by decide) (fun K hK => ?_)
     refine box_step ?hg (N := 4) ?hd (cs := #[.int .u64 0, .int .u64 0]) (t := 50) ?hr ?_; (case hd => rfl); (case hg => rfl); (case hr => first | (go_simp; done) | (go_simp; rfl))
     intro gb419 hg w10 hbox hb
     have BK419 := A_ (hbox)
     have GW419 := A_ (sz_ hg (hb1_ HB.out GE413.out))
     have GE419 := A_ (sz_ hg (hb1_ HB.out GE413.out))
     have NB413_419 := A_ (nl_ hg BK413.out)
     have NB419_413 := A_ (ng_ hg BK413.out)
     replace BK413 := A_ (bb_ BK413.out hb)
     replace HB := A_ (below_step (hb1_ HB.out GE413.out) hb);clear hb hbox hg
     refine hK.out _ _ ⟨bc_ BK413.out 0, bc_ BK413.out 1, bc_ BK413.out 2, bc_ BK413.out 3⟩ (fun hHeld => ?_)
     clear hK K
     refine norm_ (a' := ?_) ?_ ?_
     rotate_left
     ·show Act.put _ (some 4) _ = _
      simp only [Act.put, lI_, l0_, lS_, i64_w, i32_w]
      rfl
     exact norm_ (by simp only [putAll, Act.put, lI_, l0_, lS_]) (hCont (gb419) _ ⟨hHeld, (bk_ BK413.out), (bk_ BK419.out), GW419.out, GE419.out, NB413_419.out, NB419_413.out, (hb2_ HB.out GE413.out GE419.out)⟩)
    ·skip
     refine box_step ?hg (N := 4) ?hd (cs := #[.int .u64 0, .int .u64 0]) (t := 50) ?hr ?_; (case hd => rfl); (case hg => rfl); (case hr => first | (go_simp; done) | (go_simp; rfl))
     intro gb419 hg w9 hbox hb
     have BK419 := A_ (hbox)
     have GW419 := A_ (sz_ hg (hb1_ HB.out GE413.out))
     have GE419 := A_ (sz_ hg (hb1_ HB.out GE413.out))
     have NB413_419 := A_ (nl_ hg BK413.out)
     have NB419_413 := A_ (ng_ hg BK413.out)
     replace BK413 := A_ (bb_ BK413.out hb)
     replace HB := A_ (below_step (hb1_ HB.out GE413.out) hb);clear hb hbox hg
     refine hK.out _ _ ⟨bc_ BK413.out 0, bc_ BK413.out 1, bc_ BK413.out 2, bc_ BK413.out 3⟩ (fun hHeld => ?_)
     clear hK K
     refine norm_ (a' := ?_) ?_ ?_
     rotate_left
     ·show Act.put _ (some 4) _ = _
      simp only [Act.put, lI_, l0_, lS_, i64_w, i32_w]
      rfl
     refine one_ (i := 6) (N := some 17) #[true, true, true, true, true, true, true, false, false, false, true, false, false] rfl rfl (one_of HT_.out (by kernel_rfl)) (by decide) (fun K hK => ?_)
     refine goes_ Try.func67 (by kernel_rfl) rfl #[.agg #[.int .u64 t414, .int .u64 t415], .int .i64 (wrap64 (-a0_2))] (by rfl) rfl rfl mp_ ?_
     with_reducible refine (wide_Right.calls t414 t415 (wrap64 (-a0_2)) t416 t417 t418 _ A4.out).mono ?_
     rintro e w10 ⟨rfl, hb⟩
     refine ⟨_, rfl, ?_⟩
     replace BK413 := A_ (bb_ BK413.out hb)
     replace BK419 := A_ (bb_ BK419.out hb)
     replace HB := A_ (below_step (hb2_ HB.out GE413.out GE419.out) hb);(try clear hb);(try clear hb2);(try clear hk);(try clear hi)
     refine hK.out _ _ ⟨bc_ BK413.out 0, bc_ BK413.out 1, bc_ BK413.out 2, bc_ BK413.out 3⟩ (fun hHeld => ?_)
     clear hK K
     refine norm_ (a' := ?_) ?_ ?_
     rotate_left
     ·show Act.put _ (some 17) _ = _
      simp only [Act.put, lI_, l0_, lS_, i64_w, i32_w]
      rfl
     refine pu_ 7 (some 10) #[true, true, true, true, true, true, true, true, false, false, true, false, false] rfl rfl (any_of HT_.out (by kernel_rfl)) ?_
     refine pu_ 8 (some 18) #[true, true, true, true, true, true, true, true, true, false, true, false, false] rfl rfl (any_of HT_.out (by kernel_rfl)) ?_
     refine pu_ 9 (some 19) #[true, true, true, true, true, true, true, true, true, true, true, false, false] rfl rfl (any_of HT_.out (by kernel_rfl)) ?_
     exact norm_ (by simp only [putAll, Act.put, lI_, l0_, lS_]) (hCont (gb419) _ ⟨hHeld, (bk_ BK413.out), (bk_ BK419.out), GW419.out, GE419.out, NB413_419.out, NB419_413.out, (hb2_ HB.out GE413.out GE419.out)⟩)
   ·skip
    refine box_step ?hg (N := 4) ?hd (cs := #[.int .u64 0, .int .u64 0]) (t := 50) ?hr ?_; (case hd => rfl); (case hg => rfl); (case hr => first | (go_simp; done) | (go_simp; rfl))
    intro gb419 hg w8 hbox hb
    have BK419 := A_ (hbox)
    have GW419 := A_ (sz_ hg (hb1_ HB.out GE413.out))
    have GE419 := A_ (sz_ hg (hb1_ HB.out GE413.out))
    have NB413_419 := A_ (nl_ hg BK413.out)
    have NB419_413 := A_ (ng_ hg BK413.out)
    replace BK413 := A_ (bb_ BK413.out hb)
    replace HB := A_ (below_step (hb1_ HB.out GE413.out) hb);clear hb hbox hg
    refine hK.out _ _ ⟨bc_ BK413.out 0, bc_ BK413.out 1, bc_ BK413.out 2, bc_ BK413.out 3⟩ (fun hHeld => ?_)
    clear hK K
    refine norm_ (a' := ?_) ?_ ?_
    rotate_left
    ·show Act.put _ (some 4) _ = _
     simp only [Act.put, lI_, l0_, lS_, i64_w, i32_w]
     rfl
    refine one_ (i := 2) (N := some 13) #[true, true, true, true, true, true, false, false, false, false, true, false, false] rfl rfl (one_of HT_.out (by kernel_rfl)) (by decide) (fun K hK => ?_)
    refine goes_ Try.func42 (by kernel_rfl) rfl #[.int .u64 a0_3] (by rfl) rfl rfl mp_ ?_
    with_reducible refine (wide_Of.calls a0_3 t414 t415 _ A3.out).mono ?_
    rintro e w9 ⟨rfl, hb⟩
    refine ⟨_, rfl, ?_⟩
    replace BK413 := A_ (bb_ BK413.out hb)
    replace BK419 := A_ (bb_ BK419.out hb)
    replace HB := A_ (below_step (hb2_ HB.out GE413.out GE419.out) hb);(try clear hb);(try clear hb2);(try clear hk);(try clear hi)
    refine hK.out _ _ ⟨bc_ BK413.out 0, bc_ BK413.out 1, bc_ BK413.out 2, bc_ BK413.out 3⟩ (fun hHeld => ?_)
    clear hK K
    refine norm_ (a' := ?_) ?_ ?_
    rotate_left
    ·show Act.put _ (some 13) _ = _
     simp only [Act.put, lI_, l0_, lS_, i64_w, i32_w]
     rfl
    refine one_ (i := 6) (N := some 17) #[true, true, true, true, true, true, true, false, false, false, true, false, false] rfl rfl (one_of HT_.out (by kernel_rfl)) (by decide) (fun K hK => ?_)
    refine goes_ Try.func67 (by kernel_rfl) rfl #[.agg #[.int .u64 t414, .int .u64 t415], .int .i64 (wrap64 (-a0_2))] (by rfl) rfl rfl mp_ ?_
    with_reducible refine (wide_Right.calls t414 t415 (wrap64 (-a0_2)) t416 t417 t418 _ A4.out).mono ?_
    rintro e w10 ⟨rfl, hb⟩
    refine ⟨_, rfl, ?_⟩
    replace BK413 := A_ (bb_ BK413.out hb)
    replace BK419 := A_ (bb_ BK419.out hb)
    replace HB := A_ (below_step (hb2_ HB.out GE413.out GE419.out) hb);(try clear hb);(try clear hb2);(try clear hk);(try clear hi)
    refine hK.out _ _ ⟨bc_ BK413.out 0, bc_ BK413.out 1, bc_ BK413.out 2, bc_ BK413.out 3⟩ (fun hHeld => ?_)
    clear hK K
    refine norm_ (a' := ?_) ?_ ?_
    rotate_left
    ·show Act.put _ (some 17) _ = _
     simp only [Act.put, lI_, l0_, lS_, i64_w, i32_w]
     rfl
    refine pu_ 7 (some 10) #[true, true, true, true, true, true, true, true, false, false, true, false, false] rfl rfl (any_of HT_.out (by kernel_rfl)) ?_
    refine pu_ 8 (some 18) #[true, true, true, true, true, true, true, true, true, false, true, false, false] rfl rfl (any_of HT_.out (by kernel_rfl)) ?_
    refine pu_ 9 (some 19) #[true, true, true, true, true, true, true, true, true, true, true, false, false] rfl rfl (any_of HT_.out (by kernel_rfl)) ?_
    exact norm_ (by simp only [putAll, Act.put, lI_, l0_, lS_]) (hCont (gb419) _ ⟨hHeld, (bk_ BK413.out), (bk_ BK419.out), GW419.out, GE419.out, NB413_419.out, NB419_413.out, (hb2_ HB.out GE413.out GE419.out)⟩)
  rintro gb419 w11 ⟨hS_, h0_, h1_, h2_, h3_, h4_, h5_, h6_⟩
  have n0_ : Aside0 (w11.heap[gb413]? = some (.cells #[.bool a0_0, .int .i64 a0_1, .int .i64 a0_2, .int .u64 a0_3] 30 (0, 0))) := ⟨h0_⟩
  have n1_ : Aside0 (w11.heap[gb419]? = some (.cells #[.int .u64 0, .int .u64 0] 50 (0, 0))) := ⟨h1_⟩
  have n2_ : Aside0 (w.heap.size ≤ gb419) := ⟨h2_⟩
  have n3_ : Aside0 (w.heap.size ≤ gb419) := ⟨h3_⟩
  have n4_ : Aside0 (gb413 ≠ gb419) := ⟨h4_⟩
  have n5_ : Aside0 (gb419 ≠ gb413) := ⟨h5_⟩
  have n6_ : Aside0 (Below w.heap.size w w11) := ⟨h6_⟩
  clear BK413;clear HB;clear h0_ h1_ h2_ h3_ h4_ h5_ h6_;have BK413 := n0_;have BK419 := n1_;have GW419 := n2_;have GE419 := n3_;have NB413_419 := n4_;have NB419_413 := n5_;have HB := n6_;clear n0_ n1_ n2_ n3_ n4_ n5_ n6_
  have hHeld : w11.cell? ⟨gb413, 0, none⟩ = some (.bool a0_0) ∧ w11.cell? ⟨gb413, 1, none⟩ = some (.int .i64 a0_1) ∧ w11.cell? ⟨gb413, 2, none⟩ = some (.int .i64 a0_2) ∧ w11.cell? ⟨gb413, 3, none⟩ = some (.int .u64 a0_3) := hS_
  refine norm_ (a' := ?_) ?_ ?_
  rotate_left
  ·simp only [putAll, Act.put, lI_, l0_, lS_]
   rfl
  refine one_ (i := 11) (N := none) #[true, true, true, true, true, true, true, true, true, true, true, true, false] rfl rfl (one_of HT_.out (by kernel_rfl)) (by decide) (fun K hK => ?_)
  have hs12 : w11.cell? ⟨gb419, 0, none⟩ = some (.int .u64 0) := bc_ BK419.out 0
  have hfs12 := blk_frozen BK419.out 0
  have hns12_0 := NB413_419.out
  have hms12_0 := NB419_413.out
  have hs13 : w11.cell? ⟨gb419, 1, none⟩ = some (.int .u64 0) := bc_ BK419.out 1
  have hfs13 := blk_frozen BK419.out 1
  have hns13_0 := NB413_419.out
  have hms13_0 := NB419_413.out
  refine skip_ (w1 := ?_) (by rfl) rfl ?_ ?_
  rotate_left
  ·go_simp
   rfl
  refine hK.out _ _ ⟨((cell_far (p := ⟨gb419, _, none⟩) NB413_419.out _).trans (((cell_far (p := ⟨gb419, _, none⟩) NB413_419.out _).trans (hHeld.1)))), ((cell_far (p := ⟨gb419, _, none⟩) NB413_419.out _).trans (((cell_far (p := ⟨gb419, _, none⟩) NB413_419.out _).trans (hHeld.2.1)))), ((cell_far (p := ⟨gb419, _, none⟩) NB413_419.out _).trans (((cell_far (p := ⟨gb419, _, none⟩) NB413_419.out _).trans (hHeld.2.2.1)))), ((cell_far (p := ⟨gb419, _, none⟩) NB413_419.out _).trans (((cell_far (p := ⟨gb419, _, none⟩) NB413_419.out _).trans (hHeld.2.2.2))))⟩ (fun hHeld => ?_)
  clear hK K
  refine pu_ 12 (some 5) #[true, true, true, true, true, true, true, true, true, true, true, true, true] rfl rfl (any_of HT_.out (by kernel_rfl)) ?_
  refine done_ (done_of HT_.out (by kernel_rfl)) ?_
  have hnb14 := NB419_413.out
  have hnc14 := NB413_419.out
  have hcz15_0 := bv_ BK419.out 0
  have hcz15_1 := bv_ BK419.out 1
  have hfz15_0 := blk_frozen BK419.out 0
  have hfz15_1 := blk_frozen BK419.out 1
  try go_wp2
  go_ret2
  exact ⟨er_, hb2_ HB.out GE413.out GE419.out⟩
 ·rw [if_neg c2] at H
  have c2b0 : decide (a0_2 ≤ 0) = false := decide_eq_false c2
  clear c2
  replace H := ob_ H
  obtain ⟨⟨t420, t421⟩, A160, H⟩ := H
  replace H : ((wide_Left.f t420 t421 (mn a0_2 70)).bind fun bt422 => (some (bt422.2, (bt422.1 == 0)))) = some (r1, r2) := H
  have A16 := A_ A160;clear A160
  obtain ⟨ji17, hji17⟩ : ∃ j_ : Int, (mn a0_2 70) = j_ := ⟨_, rfl⟩
  replace H : ((wide_Left.f t420 t421 (ji17)).bind fun bt422 => (some (bt422.2, (bt422.1 == 0)))) = some (r1, r2) := by first | (rw [hji17] at H; exact H) | (simp only [hji17] at H ⊢; exact H)
  (try rw [hji17] at A16)
  (try (have hji17h : ji17 ≤ 70 := by (rw [← hji17]; unfold mn; (repeat' split) <;> omega)))
  (try (have hji17g : ji17 ≤ 64 := by omega))
  have hji17_ : (if 70 < a0_2 then 70 else a0_2) = ji17 := hji17
  replace H := ob_ H
  obtain ⟨⟨t422, t423⟩, A180, H⟩ := H
  replace H : (some (t423, (t422 == 0))) = some (r1, r2) := H
  have A18 := A_ A180;clear A180
  simp only [Option.some.injEq, Prod.mk.injEq] at H
  obtain ⟨rfl, rfl⟩ := H
  go_enter Try.func91, Try.ntmps91
  try go_wp2_with (first | ((with_reducible refine gate_dst (N := 1) rfl ?_); refine be_ 1 #[.bool a0_0, .int .i64 a0_1, .int .i64 a0_2, .int .u64 a0_3] 30 ?_; intro gb413 hg w19 hbox hb; have BK413 := A_ (hbox); have GW413 := A_ (sz_ hg (hb_ HB.out)); have GE413 := A_ (sz_ hg (hb_ HB.out)); replace HB := A_ (below_step (hb_ HB.out) hb); clear hb hbox hg; have hcz20_0 := bv_ BK413.out 0; have hcz20_1 := bv_ BK413.out 1; have hcz20_2 := bv_ BK413.out 2; have hcz20_3 := bv_ BK413.out 3; have hfz20_0 := blk_frozen BK413.out 0; have hfz20_1 := blk_frozen BK413.out 1; have hfz20_2 := blk_frozen BK413.out 2; have hfz20_3 := blk_frozen BK413.out 3))
  replace BK413 := A_ (blk_drew BK413.out)
  replace HB := A_ (below_drew1 HB.out)
  refine start_ (n := 9) (S := fun w' => w'.cell? ⟨gb413, 0, none⟩ = some (.bool a0_0) ∧ w'.cell? ⟨gb413, 1, none⟩ = some (.int .i64 a0_1) ∧ w'.cell? ⟨gb413, 2, none⟩ = some (.int .i64 a0_2) ∧ w'.cell? ⟨gb413, 3, none⟩ = some (.int .u64 a0_3)) (ds := []) #[false, false, false, false, false, false, false, false, false] (by kernel_rfl) rfl rfl ⟨bc_ BK413.out 0, bc_ BK413.out 1, bc_ BK413.out 2, bc_ BK413.out 3⟩ (fun hHeld => ?_); refine with_tabW chop_amount.tab4 chop_amount.bits4 (fun HT_ HW_ => ?_)
  generalize w19.drew = w21 at BK413 HB hHeld ⊢
  refine pu_ 0 (some 22) #[true, false, false, false, false, false, false, false, false] rfl rfl (any_of HT_.out (by kernel_rfl)) ?_
  refine pu_ 3 (some 25) #[true, false, false, true, false, false, false, false, false] rfl rfl (any_of HT_.out (by kernel_rfl)) ?_
  refine tk4_ 1 (some 23) #[true, true, false, true, false, false, false, false, false] rfl rfl (take_ofW HT_.out HW_.out (by kernel_rfl)) hHeld ?_
  refine tk4_ 4 (some 26) #[true, true, false, true, true, false, false, false, false] rfl rfl (take_ofW HT_.out HW_.out (by kernel_rfl)) hHeld ?_
  refine pu_ 5 (some 27) #[true, true, false, true, true, true, false, false, false] rfl rfl (any_of HT_.out (by kernel_rfl)) ?_
  refine join_ (σ := Nat) 1 #[true, true, true, true, true, true, true, true, false] (fun s_ => [(24, .agg #[.int .u64 t420, .int .u64 t421]), (28, .agg #[.int .u64 t422, .int .u64 t423]), (6, .pointer (some ⟨s_, 0, none⟩))]) (fun s_ w' => (w'.cell? ⟨gb413, 0, none⟩ = some (.bool a0_0) ∧ w'.cell? ⟨gb413, 1, none⟩ = some (.int .i64 a0_1) ∧ w'.cell? ⟨gb413, 2, none⟩ = some (.int .i64 a0_2) ∧ w'.cell? ⟨gb413, 3, none⟩ = some (.int .u64 a0_3)) ∧ (w'.heap[gb413]? = some (.cells #[.bool a0_0, .int .i64 a0_1, .int .i64 a0_2, .int .u64 a0_3] 30 (0, 0))) ∧ (w'.heap[s_]? = some (.cells #[.int .u64 0, .int .u64 0] 50 (0, 0))) ∧ (w.heap.size ≤ s_) ∧ (w.heap.size ≤ s_) ∧ (gb413 ≠ s_) ∧ (s_ ≠ gb413) ∧ (Below w.heap.size w w')) ?_ ?_
  rotate_left
  ·intro hCont
   refine two_ (i := 2) (j := 7) (Ni := some 24) (Nj := some 6) #[true, true, true, true, true, true, false, false, false] #[true, true, false, true, true, true, false, true, false] rfl rfl rfl rfl (two_of HT_.out (by kernel_rfl)) (by decide) (by decide) (fun K hK => ?_) (fun K hK => ?_)
   ·skip
    refine goes_ Try.func42 (by kernel_rfl) rfl #[.int .u64 a0_3] (by rfl) rfl rfl mp_ ?_
    with_reducible refine (wide_Of.calls a0_3 t420 t421 _ A16.out).mono ?_
    rintro e w22 ⟨rfl, hb⟩
    refine ⟨_, rfl, ?_⟩
    replace BK413 := A_ (bb_ BK413.out hb)
    replace HB := A_ (below_step (hb1_ HB.out GE413.out) hb);(try clear hb);(try clear hb2);(try clear hk);(try clear hi)
    refine hK.out _ _ ⟨bc_ BK413.out 0, bc_ BK413.out 1, bc_ BK413.out 2, bc_ BK413.out 3⟩ (fun hHeld => ?_)
    clear hK K
    refine norm_ (a' := ?_) ?_ ?_
    rotate_left
    ·show Act.put _ (some 24) _ = _
     simp only [Act.put, lI_, l0_, lS_, i64_w, i32_w]
     rfl
    refine two_ (i := 6) (j := 7) (Ni := some 28) (Nj := some 6) #[true, true, true, true, true, true, true, false, false] #[true, true, true, true, true, true, false, true, false] rfl rfl rfl rfl (two_of HT_.out (by kernel_rfl)) (by decide) (by decide) (fun K hK => ?_) (fun K hK => ?_)
    ·skip
     refine goes_ Try.func87 (by kernel_rfl) rfl #[.agg #[.int .u64 t420, .int .u64 t421], .int .i64 ji17] (by rfl) rfl rfl (by (try simp only [List.map_toArray, List.map_cons, List.map_nil]); first | done | (simp only [hji17]; rfl) | rfl | (simp only [List.length_drop, List.length_take]; rfl)) ?_
     with_reducible refine (wide_Left.calls t420 t421 ji17 t422 t423 _ A18.out).mono ?_
     rintro e w23 ⟨rfl, hb⟩
     refine ⟨_, rfl, ?_⟩
     replace BK413 := A_ (bb_ BK413.out hb)
     replace HB := A_ (below_step (hb1_ HB.out GE413.out) hb);(try clear hb);(try clear hb2);(try clear hk);(try clear hi)
     refine hK.out _ _ ⟨bc_ BK413.out 0, bc_ BK413.out 1, bc_ BK413.out 2, bc_ BK413.out 3⟩ (fun hHeld => ?_)
     clear hK K
     refine norm_ (a' := ?_) ?_ ?_
     rotate_left
     ·show Act.put _ (some 28) _ = _
      simp only [Act.put, lI_, l0_, lS_, i64_w, i32_w]
      rfl
     refine one_ (i := 7) (N := some 6) #[true, true, true, true, true, true, true, true, false] rfl rfl (one_of HT_.out (by kernel_rfl)) (by decide) (fun K hK => ?_)
     refine box_step ?hg (N := 6) ?hd (cs := #[.int .u64 0, .int .u64 0]) (t := 50) ?hr ?_; (case hd => rfl); (case hg => rfl); (case hr => first | (go_simp; done) | (go_simp; rfl))
     intro gb424 hg w24 hbox hb
     have BK424 := A_ (hbox)
     have GW424 := A_ (sz_ hg (hb1_ HB.out GE413.out))
     have GE424 := A_ (sz_ hg (hb1_ HB.out GE413.out))
     have NB413_424 := A_ (nl_ hg BK413.out)
     have NB424_413 := A_ (ng_ hg BK413.out)
     replace BK413 := A_ (bb_ BK413.out hb)
     replace HB := A_ (below_step (hb1_ HB.out GE413.out) hb);clear hb hbox hg
     refine hK.out _ _ ⟨bc_ BK413.out 0, bc_ BK413.out 1, bc_ BK413.out 2, bc_ BK413.out 3⟩ (fun hHeld => ?_)
     clear hK K
     refine norm_ (a' := ?_) ?_ ?_
     rotate_left
     ·show Act.put _ (some 6) _ = _
      simp only [Act.put, lI_, l0_, lS_, i64_w, i32_w]
      rfl
     exact norm_ (by simp only [putAll, Act.put, lI_, l0_, lS_]) (hCont (gb424) _ ⟨hHeld, (bk_ BK413.out), (bk_ BK424.out), GW424.out, GE424.out, NB413_424.out, NB424_413.out, (hb2_ HB.out GE413.out GE424.out)⟩)
    ·skip
     refine box_step ?hg (N := 6) ?hd (cs := #[.int .u64 0, .int .u64 0]) (t := 50) ?hr ?_; (case hd => rfl); (case hg => rfl); (case hr => first | (go_simp; done) | (go_simp; rfl))
     intro gb424 hg w23 hbox hb
     have BK424 := A_ (hbox)
     have GW424 := A_ (sz_ hg (hb1_ HB.out GE413.out))
     have GE424 := A_ (sz_ hg (hb1_ HB.out GE413.out))
     have NB413_424 := A_ (nl_ hg BK413.out)
     have NB424_413 := A_ (ng_ hg BK413.out)
     replace BK413 := A_ (bb_ BK413.out hb)
     replace HB := A_ (below_step (hb1_ HB.out GE413.out) hb);clear hb hbox hg
     refine hK.out _ _ ⟨bc_ BK413.out 0, bc_ BK413.out 1, bc_ BK413.out 2, bc_ BK413.out 3⟩ (fun hHeld => ?_)
     clear hK K
     refine norm_ (a' := ?_) ?_ ?_
     rotate_left
     ·show Act.put _ (some 6) _ = _
      simp only [Act.put, lI_, l0_, lS_, i64_w, i32_w]
      rfl
     refine one_ (i := 6) (N := some 28) #[true, true, true, true, true, true, true, true, false] rfl rfl (one_of HT_.out (by kernel_rfl)) (by decide) (fun K hK => ?_)
     refine goes_ Try.func87 (by kernel_rfl) rfl #[.agg #[.int .u64 t420, .int .u64 t421], .int .i64 ji17] (by rfl) rfl rfl (by (try simp only [List.map_toArray, List.map_cons, List.map_nil]); first | done | (simp only [hji17]; rfl) | rfl | (simp only [List.length_drop, List.length_take]; rfl)) ?_
     with_reducible refine (wide_Left.calls t420 t421 ji17 t422 t423 _ A18.out).mono ?_
     rintro e w24 ⟨rfl, hb⟩
     refine ⟨_, rfl, ?_⟩
     replace BK413 := A_ (bb_ BK413.out hb)
     replace BK424 := A_ (bb_ BK424.out hb)
     replace HB := A_ (below_step (hb2_ HB.out GE413.out GE424.out) hb);(try clear hb);(try clear hb2);(try clear hk);(try clear hi)
     refine hK.out _ _ ⟨bc_ BK413.out 0, bc_ BK413.out 1, bc_ BK413.out 2, bc_ BK413.out 3⟩ (fun hHeld => ?_)
     clear hK K
     refine norm_ (a' := ?_) ?_ ?_
     rotate_left
     ·show Act.put _ (some 28) _ = _
      simp only [Act.put, lI_, l0_, lS_, i64_w, i32_w]
      rfl
     exact norm_ (by simp only [putAll, Act.put, lI_, l0_, lS_]) (hCont (gb424) _ ⟨hHeld, (bk_ BK413.out), (bk_ BK424.out), GW424.out, GE424.out, NB413_424.out, NB424_413.out, (hb2_ HB.out GE413.out GE424.out)⟩)
   ·skip
    refine box_step ?hg (N := 6) ?hd (cs := #[.int .u64 0, .int .u64 0]) (t := 50) ?hr ?_; (case hd => rfl); (case hg => rfl); (case hr => first | (go_simp; done) | (go_simp; rfl))
    intro gb424 hg w22 hbox hb
    have BK424 := A_ (hbox)
    have GW424 := A_ (sz_ hg (hb1_ HB.out GE413.out))
    have GE424 := A_ (sz_ hg (hb1_ HB.out GE413.out))
    have NB413_424 := A_ (nl_ hg BK413.out)
    have NB424_413 := A_ (ng_ hg BK413.out)
    replace BK413 := A_ (bb_ BK413.out hb)
    replace HB := A_ (below_step (hb1_ HB.out GE413.out) hb);clear hb hbox hg
    refine hK.out _ _ ⟨bc_ BK413.out 0, bc_ BK413.out 1, bc_ BK413.out 2, bc_ BK413.out 3⟩ (fun hHeld => ?_)
    clear hK K
    refine norm_ (a' := ?_) ?_ ?_
    rotate_left
    ·show Act.put _ (some 6) _ = _
     simp only [Act.put, lI_, l0_, lS_, i64_w, i32_w]
     rfl
    refine one_ (i := 2) (N := some 24) #[true, true, true, true, true, true, false, true, false] rfl rfl (one_of HT_.out (by kernel_rfl)) (by decide) (fun K hK => ?_)
    refine goes_ Try.func42 (by kernel_rfl) rfl #[.int .u64 a0_3] (by rfl) rfl rfl mp_ ?_
    with_reducible refine (wide_Of.calls a0_3 t420 t421 _ A16.out).mono ?_
    rintro e w23 ⟨rfl, hb⟩
    refine ⟨_, rfl, ?_⟩
    replace BK413 := A_ (bb_ BK413.out hb)
    replace BK424 := A_ (bb_ BK424.out hb)
    replace HB := A_ (below_step (hb2_ HB.out GE413.out GE424.out) hb);(try clear hb);(try clear hb2);(try clear hk);(try clear hi)
    refine hK.out _ _ ⟨bc_ BK413.out 0, bc_ BK413.out 1, bc_ BK413.out 2, bc_ BK413.out 3⟩ (fun hHeld => ?_)
    clear hK K
    refine norm_ (a' := ?_) ?_ ?_
    rotate_left
    ·show Act.put _ (some 24) _ = _
     simp only [Act.put, lI_, l0_, lS_, i64_w, i32_w]
     rfl
    refine one_ (i := 6) (N := some 28) #[true, true, true, true, true, true, true, true, false] rfl rfl (one_of HT_.out (by kernel_rfl)) (by decide) (fun K hK => ?_)
    refine goes_ Try.func87 (by kernel_rfl) rfl #[.agg #[.int .u64 t420, .int .u64 t421], .int .i64 ji17] (by rfl) rfl rfl (by (try simp only [List.map_toArray, List.map_cons, List.map_nil]); first | done | (simp only [hji17]; rfl) | rfl | (simp only [List.length_drop, List.length_take]; rfl)) ?_
    with_reducible refine (wide_Left.calls t420 t421 ji17 t422 t423 _ A18.out).mono ?_
    rintro e w24 ⟨rfl, hb⟩
    refine ⟨_, rfl, ?_⟩
    replace BK413 := A_ (bb_ BK413.out hb)
    replace BK424 := A_ (bb_ BK424.out hb)
    replace HB := A_ (below_step (hb2_ HB.out GE413.out GE424.out) hb);(try clear hb);(try clear hb2);(try clear hk);(try clear hi)
    refine hK.out _ _ ⟨bc_ BK413.out 0, bc_ BK413.out 1, bc_ BK413.out 2, bc_ BK413.out 3⟩ (fun hHeld => ?_)
    clear hK K
    refine norm_ (a' := ?_) ?_ ?_
    rotate_left
    ·show Act.put _ (some 28) _ = _
     simp only [Act.put, lI_, l0_, lS_, i64_w, i32_w]
     rfl
    exact norm_ (by simp only [putAll, Act.put, lI_, l0_, lS_]) (hCont (gb424) _ ⟨hHeld, (bk_ BK413.out), (bk_ BK424.out), GW424.out, GE424.out, NB413_424.out, NB424_413.out, (hb2_ HB.out GE413.out GE424.out)⟩)
  rintro gb424 w25 ⟨hS_, h0_, h1_, h2_, h3_, h4_, h5_, h6_⟩
  have n0_ : Aside0 (w25.heap[gb413]? = some (.cells #[.bool a0_0, .int .i64 a0_1, .int .i64 a0_2, .int .u64 a0_3] 30 (0, 0))) := ⟨h0_⟩
  have n1_ : Aside0 (w25.heap[gb424]? = some (.cells #[.int .u64 0, .int .u64 0] 50 (0, 0))) := ⟨h1_⟩
  have n2_ : Aside0 (w.heap.size ≤ gb424) := ⟨h2_⟩
  have n3_ : Aside0 (w.heap.size ≤ gb424) := ⟨h3_⟩
  have n4_ : Aside0 (gb413 ≠ gb424) := ⟨h4_⟩
  have n5_ : Aside0 (gb424 ≠ gb413) := ⟨h5_⟩
  have n6_ : Aside0 (Below w.heap.size w w25) := ⟨h6_⟩
  clear BK413;clear HB;clear h0_ h1_ h2_ h3_ h4_ h5_ h6_;have BK413 := n0_;have BK424 := n1_;have GW424 := n2_;have GE424 := n3_;have NB413_424 := n4_;have NB424_413 := n5_;have HB := n6_;clear n0_ n1_ n2_ n3_ n4_ n5_ n6_
  have hHeld : w25.cell? ⟨gb413, 0, none⟩ = some (.bool a0_0) ∧ w25.cell? ⟨gb413, 1, none⟩ = some (.int .i64 a0_1) ∧ w25.cell? ⟨gb413, 2, none⟩ = some (.int .i64 a0_2) ∧ w25.cell? ⟨gb413, 3, none⟩ = some (.int .u64 a0_3) := hS_
  refine norm_ (a' := ?_) ?_ ?_
  rotate_left
  ·simp only [putAll, Act.put, lI_, l0_, lS_]
   rfl
  refine one_ (i := 8) (N := none) #[true, true, true, true, true, true, true, true, true] rfl rfl (one_of HT_.out (by kernel_rfl)) (by decide) (fun K hK => ?_)
  have hs26 : w25.cell? ⟨gb424, 0, none⟩ = some (.int .u64 0) := bc_ BK424.out 0
  have hfs26 := blk_frozen BK424.out 0
  have hns26_0 := NB413_424.out
  have hms26_0 := NB424_413.out
  have hs27 : w25.cell? ⟨gb424, 1, none⟩ = some (.int .u64 0) := bc_ BK424.out 1
  have hfs27 := blk_frozen BK424.out 1
  have hns27_0 := NB413_424.out
  have hms27_0 := NB424_413.out
  refine skip_ (w1 := ?_) (by rfl) rfl ?_ ?_
  rotate_left
  ·go_simp
   rfl
  refine hK.out _ _ ⟨((cell_far (p := ⟨gb424, _, none⟩) NB413_424.out _).trans (((cell_far (p := ⟨gb424, _, none⟩) NB413_424.out _).trans (hHeld.1)))), ((cell_far (p := ⟨gb424, _, none⟩) NB413_424.out _).trans (((cell_far (p := ⟨gb424, _, none⟩) NB413_424.out _).trans (hHeld.2.1)))), ((cell_far (p := ⟨gb424, _, none⟩) NB413_424.out _).trans (((cell_far (p := ⟨gb424, _, none⟩) NB413_424.out _).trans (hHeld.2.2.1)))), ((cell_far (p := ⟨gb424, _, none⟩) NB413_424.out _).trans (((cell_far (p := ⟨gb424, _, none⟩) NB413_424.out _).trans (hHeld.2.2.2))))⟩ (fun hHeld => ?_)
  clear hK K
  refine done_ (done_of HT_.out (by kernel_rfl)) ?_
  try go_wp2
  have n0_ : Aside0 (((w25.setCell ⟨gb424, 0, none⟩ (.int .u64 t422)).setCell ⟨gb424, 1, none⟩ (.int .u64 t423)).heap[gb413]? = some (.cells #[.bool a0_0, .int .i64 a0_1, .int .i64 a0_2, .int .u64 a0_3] 30 (0, 0))) := ⟨bf2_ BK413.out NB413_424.out NB413_424.out⟩
  have n1_ : Aside0 (((w25.setCell ⟨gb424, 0, none⟩ (.int .u64 t422)).setCell ⟨gb424, 1, none⟩ (.int .u64 t423)).heap[gb424]? = some (.cells #[.int .u64 t422, .int .u64 t423] 50 (0, 0))) := ⟨by (with_reducible repeat (first | refine blk_drewN ?_ _ | refine blk_drew ?_ | refine blk_alloc ?_ _)); refine blk_put (cs := #[.int .u64 t422, .int .u64 0]) ?_ 1 _ rfl; (with_reducible repeat (first | refine blk_drewN ?_ _ | refine blk_drew ?_ | refine blk_alloc ?_ _)); refine blk_put (cs := #[.int .u64 0, .int .u64 0]) ?_ 0 _ rfl; (with_reducible repeat (first | refine blk_drewN ?_ _ | refine blk_drew ?_ | refine blk_alloc ?_ _)); exact BK424.out⟩
  have n2_ : Aside0 (Below w.heap.size w ((w25.setCell ⟨gb424, 0, none⟩ (.int .u64 t422)).setCell ⟨gb424, 1, none⟩ (.int .u64 t423))) := ⟨hb2_ HB.out GE413.out GE424.out⟩
  (try clear BK413);(try clear BK424);(try clear HB)
  generalize ((w25.setCell ⟨gb424, 0, none⟩ (.int .u64 t422)).setCell ⟨gb424, 1, none⟩ (.int .u64 t423)) = w28 at n0_ n1_ n2_ ⊢
  have BK413 := n0_;have BK424 := n1_;have HB := n2_;clear n0_ n1_ n2_
  replace BK413 := A_ (blk_drew BK413.out)
  replace BK424 := A_ (blk_drew BK424.out)
  replace HB := A_ (below_drew1 HB.out)
  refine start_ (n := 7) (S := fun w' => w'.cell? ⟨gb424, 0, none⟩ = some (.int .u64 t422) ∧ w'.cell? ⟨gb424, 1, none⟩ = some (.int .u64 t423)) (ds := []) #[false, false, false, false, false, false, false] (by kernel_rfl) rfl rfl ⟨bc_ BK424.out 0, bc_ BK424.out 1⟩ (fun hHeld => ?_)
  generalize w28.drew = w29 at BK413 BK424 HB hHeld ⊢
  refine pu_ 0 (some 29) #[true, false, false, false, false, false, false] rfl rfl (by kernel_rfl) ?_
  refine pu_ 2 (some 31) #[true, false, true, false, false, false, false] rfl rfl (by kernel_rfl) ?_
  refine tk2_ 1 (some 30) #[true, true, true, false, false, false, false] rfl rfl (by kernel_rfl) hHeld ?_
  refine pu_ 5 (some 2) #[true, true, true, false, false, true, false] rfl rfl (by kernel_rfl) ?_
  refine tk2_ 3 (some 32) #[true, true, true, true, false, true, false] rfl rfl (by kernel_rfl) hHeld ?_
  refine pu_ 4 (some 33) #[true, true, true, true, true, true, false] rfl rfl (by kernel_rfl) ?_
  refine pu_ 6 (some 3) #[true, true, true, true, true, true, true] rfl rfl (by kernel_rfl) ?_
  refine done_ (by kernel_rfl) ?_
  try go_wp2
  go_ret2
  exact ⟨by first | rfl | (simp [errW_none, errW_some] <;> rfl) | (simp only [← hji17]; first | rfl | (simp [errW_none, errW_some] <;> rfl)) | (simp [*, errW_none, errW_some] <;> rfl), hb2_ HB.out GE413.out GE424.out⟩
def chop_sized.j0 : Nat → Bool → Int → Int → Bool → Option (Int)
 | 0, _, _, _, _ => none
 | k + 1, x0, x1, x10, x17 => if x17 = true then (some 2) else (if x0 = true then (some 0) else (if x1 > x10 then (some 3) else (some 0)))
def chop_sized.f (k : Nat) (a0 : Bool) (a1 : Int) (a2 : Int) (a3 : Bool) : Option (Int) := (chop_Ends.f a2 a3).bind fun bt426 => (if a0 = true then (chop_sized.j0 k a0 a1 bt426.2 (decide (a1 > bt426.1))) else (chop_sized.j0 k a0 a1 bt426.2 false))
theorem chop_sized.mono_l : ∀ k, (∀ y0 y1 y2 y3, LeO (chop_sized.j0 k y0 y1 y2 y3) (chop_sized.j0 (k + 1) y0 y1 y2 y3))
 | 0 => fun _ _ _ _ r h => by simp [chop_sized.j0] at h
 | k + 1 => by
  have ih0 := chop_sized.mono_l k
  ·intro y0 y1 y2 y3
   unfold chop_sized.j0
   repeat' first
   | (with_reducible exact ih0 _ _ _ _)
   | (with_reducible exact LeO.refl _)
   | (with_reducible exact LeO.none _)
   | (with_reducible refine LeO.ite ?_ ?_)
   | (with_reducible refine LeO.bind ?_ (fun _ => ?_))
   | exact ih0 _ _ _ _
   | exact LeO.none _
   | refine LeO.ite ?_ ?_
   | refine LeO.bind ?_ (fun _ => ?_)
theorem chop_sized.mono : ∀ a0 a1 a2 a3 k, LeO (chop_sized.f k a0 a1 a2 a3) (chop_sized.f (k + 1) a0 a1 a2 a3) := by
 intro a0 a1 a2 a3 k
 have ih0 := chop_sized.mono_l k
 unfold chop_sized.f
 repeat' first
   | (with_reducible exact ih0 _ _ _ _)
   | (with_reducible exact LeO.refl _)
   | (with_reducible exact LeO.none _)
   | (with_reducible refine LeO.ite ?_ ?_)
   | (with_reducible refine LeO.bind ?_ (fun _ => ?_))
   | exact ih0 _ _ _ _
   | exact LeO.none _
   | refine LeO.ite ?_ ?_
   | refine LeO.bind ?_ (fun _ => ?_)
theorem chop_sized.calls (k : Nat) (a0 : Bool) (a1 : Int) (a2 : Int) (a3 : Bool) (r : Int) (w : World) (h : chop_sized.f k a0 a1 a2 a3 = some r) :
  Calls Try.prog 92 #[.bool a0, .int .u64 a1, .int .i64 a2, .bool a3] w fun e w' => e = .returned (.int .i64 r) ∧ Drawn0 w w' := by
 have H : ((chop_Ends.f a2 a3).bind fun bt426 => (if a0 = true then (chop_sized.j0 k a0 a1 bt426.2 (decide (a1 > bt426.1))) else (chop_sized.j0 k a0 a1 bt426.2 false))) = some r := h
 clear h
 replace H := ob_ H
 obtain ⟨⟨t426, t427⟩, A50, H⟩ := H
 replace H : (if a0 = true then (chop_sized.j0 k a0 a1 t427 (decide (a1 > t426))) else (chop_sized.j0 k a0 a1 t427 false)) = some r := H
 have A5 := A_ A50;clear A50;have HC6 := A_ H;clear H
 go_enter Try.func92, Try.ntmps92
 go_upto_region 2 with (first | ((with_reducible refine gate_callee (f := 24) rfl ?_); refine gl_ (some 14) Try.func24 #[.int .i64 a2, .bool a3] ?_; (with_reducible refine (chop_Ends.calls a2 a3 t426 t427 _ A5.out).mono ?_); rintro e w' ⟨rfl, ⟨nd, rfl⟩⟩; refine ⟨_, rfl, ?_⟩))
 (try simp only [Act.put, lI_, l0_, lS_])
 go_cut [17] (fun v17 wc => ∃ (kq : Nat) (x17_5 : Bool), v17 = .bool x17_5 ∧ Aside0 (chop_sized.j0 kq a0 a1 t427 x17_5 = some r) ∧ Aside0 (kq ≤ k) ∧ Drawn0 w wc)
 case first =>
  have H := HC6.out
  clear HC6
  by_cases c7 : a0 = true
  ·subst c7
   have H1 : (chop_sized.j0 k true a1 t427 (decide (a1 > t426))) = some r := by rw [if_pos rfl] at H; exact H
   clear H;have H := H1;clear H1
   have H' := A_ H
   clear H
   go_wp2
   go_meet
   case rel => exact ⟨_, (decide (a1 > t426)), sm_, H', ⟨by first | omega | exact Nat.le_refl _⟩, by repeat (first | exact Drawn0.refl _ | apply Drawn0.step)⟩
  ·replace c7 := Bool.eq_false_iff.mpr c7
   subst c7
   have H1 : (chop_sized.j0 k false a1 t427 false) = some r := by rw [if_neg (show ¬ (false = true) by decide)] at H; exact H
   clear H;have H := H1;clear H1
   have H' := A_ H
   clear H
   go_wp2
   go_meet
   case rel => exact ⟨_, (false), sm_, H', ⟨by first | omega | exact Nat.le_refl _⟩, by repeat (first | exact Drawn0.refl _ | apply Drawn0.step)⟩
 case rest =>
  clear HC6
  try clear c2
  try clear p2
  try clear c7
  obtain ⟨kq, x17_5, rfl, HA, HJ5, ⟨mc5, rfl⟩⟩ := hcut
  cases kq with
  | zero => exact absurd HA.out (by simp [chop_sized.j0])
  | succ kj5 =>
   have H := HA.out
   clear HA
   simp only [chop_sized.j0] at H
   by_cases c8 : x17_5 = true
   ·subst c8
    have H1 : (some 2) = some r := by rw [if_pos rfl] at H; exact H
    clear H;have H := H1;clear H1
    obtain rfl := Option.some.inj H
    go_wp2
    go_ret
    exact ⟨sm_, by repeat (first | exact Drawn0.refl _ | apply Drawn0.step)⟩
   ·replace c8 := Bool.eq_false_iff.mpr c8
    subst c8
    have H1 : (if a0 = true then (some 0) else (if a1 > t427 then (some 3) else (some 0))) = some r := by rw [if_neg (show ¬ (false = true) by decide)] at H; exact H
    clear H;have H := H1;clear H1
    by_cases c9 : a0 = true
    ·subst c9
     have H1 : (some 0) = some r := by rw [if_pos rfl] at H; exact H
     clear H;have H := H1;clear H1
     obtain rfl := Option.some.inj H
     go_wp2
     go_ret
     exact ⟨sm_, by repeat (first | exact Drawn0.refl _ | apply Drawn0.step)⟩
    ·replace c9 := Bool.eq_false_iff.mpr c9
     subst c9
     have H1 : (if a1 > t427 then (some 3) else (some 0)) = some r := by rw [if_neg (show ¬ (false = true) by decide)] at H; exact H
     clear H;have H := H1;clear H1
     by_cases c10 : a1 > t427
     ·rw [if_pos c10] at H
      have c10b0 : decide (t427 < a1) = true := decide_eq_true c10
      clear c10
      obtain rfl := Option.some.inj H
      go_wp2
      go_ret
      exact ⟨sm_, by repeat (first | exact Drawn0.refl _ | apply Drawn0.step)⟩
     ·rw [if_neg c10] at H
      have c10b0 : decide (t427 < a1) = false := decide_eq_false c10
      clear c10
      obtain rfl := Option.some.inj H
      go_wp2
      go_ret
      exact ⟨sm_, by repeat (first | exact Drawn0.refl _ | apply Drawn0.step)⟩
def shape_Cut.f (a0 : Int) (a1 : Int) : Option (Int) := if a0 = 32 then (some (Go.bits .and .u64 a1 4294967295)) else (if a0 = 64 then (some a1) else (some 0))
theorem shape_Cut.calls (a0 : Int) (a1 : Int) (r : Int) (w : World) (h : shape_Cut.f a0 a1 = some r) :
  Calls Try.prog 16 #[.int .i64 a0, .int .u64 a1] w fun e w' => e = .returned (.int .u64 r) ∧ Drawn0 w w' := by
 have H : (if a0 = 32 then (some (Go.bits .and .u64 a1 4294967295)) else (if a0 = 64 then (some a1) else (some 0))) = some r := h
 clear h
 by_cases c3 : a0 = 32
 ·rw [if_pos c3] at H
  have c3b0 : (a0 == 32) = true := beq_iff_eq.mpr c3
  have c3b1 : (a0 != 32) = false := bne_eq_false_iff_eq.mpr c3
  clear c3
  obtain rfl := Option.some.inj H
  go_enter Try.func16, Try.ntmps16
  go_wp2
  go_ret
  exact ⟨sm_, by repeat (first | exact Drawn0.refl _ | apply Drawn0.step)⟩
 ·rw [if_neg c3] at H
  have c3b0 : (a0 == 32) = false := beq_eq_false_iff_ne.mpr c3
  have c3b1 : (a0 != 32) = true := bne_iff_ne.mpr c3
  by_cases c4 : a0 = 64
  ·rw [if_pos c4] at H
   have c4b0 : (a0 == 64) = true := beq_iff_eq.mpr c4
   have c4b1 : (a0 != 64) = false := bne_eq_false_iff_eq.mpr c4
   clear c4
   obtain rfl := Option.some.inj H
   go_enter Try.func16, Try.ntmps16
   go_wp2
   go_ret
   exact ⟨sm_, by repeat (first | exact Drawn0.refl _ | apply Drawn0.step)⟩
  ·rw [if_neg c4] at H
   have c4b0 : (a0 == 64) = false := beq_eq_false_iff_ne.mpr c4
   have c4b1 : (a0 != 64) = true := bne_iff_ne.mpr c4
   obtain rfl := Option.some.inj H
   go_enter Try.func16, Try.ntmps16
   go_wp2
   go_ret
   exact ⟨sm_, by repeat (first | exact Drawn0.refl _ | apply Drawn0.step)⟩
def shape_format_low.f (a0_0 : Int) (a0_1 : Int) : Option (Int) := if 0 ≤ (wrap64 (a0_0 - 1)) then (some (wrap64 ((wrap64 (2 - (shl .i64 1 (wrap64 (a0_0 - 1))))) - a0_1))) else (none)
theorem shape_format_low.calls (a0_0 : Int) (a0_1 : Int) (r : Int) (w : World) (h : shape_format_low.f a0_0 a0_1 = some r) :
  Calls Try.prog 56 #[.agg #[.int .i64 a0_0, .int .i64 a0_1]] w fun e w' => e = .returned (.int .i64 r) ∧ Below w.heap.size w w' := by
 have hu73 := Try.underlying73
 have HB := A_ (Below.refl w.heap.size w)
 have H : (if 0 ≤ (wrap64 (a0_0 - 1)) then (some (wrap64 ((wrap64 (2 - (shl .i64 1 (wrap64 (a0_0 - 1))))) - a0_1))) else (none)) = some r := h
 clear h
 obtain ⟨ji2, hji2⟩ : ∃ j_ : Int, (wrap64 (a0_0 - 1)) = j_ := ⟨_, rfl⟩
 replace H : (if 0 ≤ (ji2) then (some (wrap64 ((wrap64 (2 - (shl .i64 1 (ji2)))) - a0_1))) else (none)) = some r := by first | (rw [hji2] at H; exact H) | (simp only [hji2] at H ⊢; exact H)
 have hji2w : (IntKind.i64.wrap (a0_0 - 1)) = ji2 := (i64_w _).trans hji2
 by_cases c3 : 0 ≤ (ji2)
 ·rw [if_pos c3] at H
  have c3b0 := eq_true c3
  have c3b1 : decide (0 ≤ (ji2)) = true := decide_eq_true c3
  clear c3
  obtain ⟨ji4, hji4⟩ : ∃ j_ : Int, (shl .i64 1 (ji2)) = j_ := ⟨_, rfl⟩
  replace H : (some (wrap64 ((wrap64 (2 - (ji4))) - a0_1))) = some r := by first | (rw [hji4] at H; exact H) | (simp only [hji4] at H ⊢; exact H)
  have hji4_ : (IntKind.i64.wrap (1 * 2 ^ min (ji2).toNat 64)) = ji4 := hji4
  have hji4z : (ji2) ≤ 64 → (IntKind.i64.wrap (1 * 2 ^ (ji2).toNat)) = ji4 := shl_small hji4
  have hji4u : (IntKind.i64.wrap (2 ^ min (ji2).toNat 64)) = ji4 := by have h_ := hji4_; rw [Int.one_mul] at h_; exact h_
  have hji4v : (ji2) ≤ 64 → (IntKind.i64.wrap (2 ^ (ji2).toNat)) = ji4 := fun hle_ => by have h_ := hji4z hle_; rw [Int.one_mul] at h_; exact h_
  have hji4y : (wrap64 (1 * 2 ^ min (ji2).toNat 64)) = ji4 := (i64_w _).symm.trans hji4_
  have hji4x : (ji2) ≤ 64 → (wrap64 (1 * 2 ^ (ji2).toNat)) = ji4 := fun h_ => (i64_w _).symm.trans (hji4z h_)
  obtain rfl := Option.some.inj H
  go_enter Try.func56, Try.ntmps56
  go_wp2_with (first | ((with_reducible refine gate_dst (N := 1) rfl ?_); refine be_ 1 #[.int .i64 a0_0, .int .i64 a0_1] 73 ?_; intro gb115 hg w5 hbox hb; have BK115 := A_ (hbox); have GW115 := A_ (sz_ hg (hb_ HB.out)); have GE115 := A_ (sz_ hg (hb_ HB.out)); replace HB := A_ (below_step (hb_ HB.out) hb); clear hb hbox hg; have hcz6_0 := bv_ BK115.out 0; have hcz6_1 := bv_ BK115.out 1; have hfz6_0 := blk_frozen BK115.out 0; have hfz6_1 := blk_frozen BK115.out 1))
  repeat (go_quiet (first | ((with_reducible refine gate_dst (N := 1) rfl ?_); refine be_ 1 #[.int .i64 a0_0, .int .i64 a0_1] 73 ?_; intro gb115 hg w5 hbox hb; have BK115 := A_ (hbox); have GW115 := A_ (sz_ hg (hb_ HB.out)); have GE115 := A_ (sz_ hg (hb_ HB.out)); replace HB := A_ (below_step (hb_ HB.out) hb); clear hb hbox hg; have hcz6_0 := bv_ BK115.out 0; have hcz6_1 := bv_ BK115.out 1; have hfz6_0 := blk_frozen BK115.out 0; have hfz6_1 := blk_frozen BK115.out 1)); try go_wp2_with (first | ((with_reducible refine gate_dst (N := 1) rfl ?_); refine be_ 1 #[.int .i64 a0_0, .int .i64 a0_1] 73 ?_; intro gb115 hg w5 hbox hb; have BK115 := A_ (hbox); have GW115 := A_ (sz_ hg (hb_ HB.out)); have GE115 := A_ (sz_ hg (hb_ HB.out)); replace HB := A_ (below_step (hb_ HB.out) hb); clear hb hbox hg; have hcz6_0 := bv_ BK115.out 0; have hcz6_1 := bv_ BK115.out 1; have hfz6_0 := blk_frozen BK115.out 0; have hfz6_1 := blk_frozen BK115.out 1)))
  go_ret
  exact ⟨by first | rfl | (simp [errW_none, errW_some] <;> rfl) | (simp only [← hji2, ← hji4]; first | rfl | (simp [errW_none, errW_some] <;> rfl)) | (simp [*, errW_none, errW_some] <;> rfl), hb1_ HB.out GE115.out⟩
 ·rw [if_neg c3] at H
  exact absurd H (by simp)
def shape_format_ones.f (a0_0 : Int) (a0_1 : Int) : Option (Int) := if 0 ≤ a0_0 then (some (IntKind.u64.wrap ((shl .u64 1 a0_0) - 1))) else (none)
theorem shape_format_ones.calls (a0_0 : Int) (a0_1 : Int) (r : Int) (w : World) (h : shape_format_ones.f a0_0 a0_1 = some r) :
  Calls Try.prog 54 #[.agg #[.int .i64 a0_0, .int .i64 a0_1]] w fun e w' => e = .returned (.int .u64 r) ∧ Below w.heap.size w w' := by
 have hu73 := Try.underlying73
 have HB := A_ (Below.refl w.heap.size w)
 have H : (if 0 ≤ a0_0 then (some (IntKind.u64.wrap ((shl .u64 1 a0_0) - 1))) else (none)) = some r := h
 clear h
 by_cases c2 : 0 ≤ a0_0
 ·rw [if_pos c2] at H
  have c2b0 := eq_true c2
  have c2b1 : decide (0 ≤ a0_0) = true := decide_eq_true c2
  clear c2
  obtain ⟨ji3, hji3⟩ : ∃ j_ : Int, (shl .u64 1 a0_0) = j_ := ⟨_, rfl⟩
  replace H : (some (IntKind.u64.wrap ((ji3) - 1))) = some r := by first | (rw [hji3] at H; exact H) | (simp only [hji3] at H ⊢; exact H)
  have hji3_ : (IntKind.u64.wrap (1 * 2 ^ min a0_0.toNat 64)) = ji3 := hji3
  have hji3z : a0_0 ≤ 64 → (IntKind.u64.wrap (1 * 2 ^ a0_0.toNat)) = ji3 := shl_small hji3
  have hji3u : (IntKind.u64.wrap (2 ^ min a0_0.toNat 64)) = ji3 := by have h_ := hji3_; rw [Int.one_mul] at h_; exact h_
  have hji3v : a0_0 ≤ 64 → (IntKind.u64.wrap (2 ^ a0_0.toNat)) = ji3 := fun hle_ => by have h_ := hji3z hle_; rw [Int.one_mul] at h_; exact h_
  obtain rfl := Option.some.inj H
  go_enter Try.func54, Try.ntmps54
  go_wp2_with (first | ((with_reducible refine gate_dst (N := 1) rfl ?_); refine be_ 1 #[.int .i64 a0_0, .int .i64 a0_1] 73 ?_; intro gb105 hg w4 hbox hb; have BK105 := A_ (hbox); have GW105 := A_ (sz_ hg (hb_ HB.out)); have GE105 := A_ (sz_ hg (hb_ HB.out)); replace HB := A_ (below_step (hb_ HB.out) hb); clear hb hbox hg; have hcz5_0 := bv_ BK105.out 0; have hcz5_1 := bv_ BK105.out 1; have hfz5_0 := blk_frozen BK105.out 0; have hfz5_1 := blk_frozen BK105.out 1))
  go_ret
  exact ⟨by first | rfl | (simp [errW_none, errW_some] <;> rfl) | (simp only [← hji3]; first | rfl | (simp [errW_none, errW_some] <;> rfl)) | (simp [*, errW_none, errW_some] <;> rfl), hb1_ HB.out GE105.out⟩
 ·rw [if_neg c2] at H
  exact absurd H (by simp)
end Go.Proofs.Ytjjehbedpgdhgaa.PA
