/- What the Go functions that the statement TopRoots reaches compute, and the mathematics on it, in the order in which one leans on the other; for every input. -/
import Derived.Test.YtnmlmgmljoncoaaGreatDoorVTopRoots1
import Derived.Test.YtnmlmgmljoncoaaGreatDoorProg
import Derived.Below
import Derived.Deep.Draws
import Derived.Deep.AppendLies
import Derived.Maps.AppendAt
import Derived.OwnWalk
import Derived.Laws.BytesArg
import Derived.Laws.MakeOwn
import Derived.Laws.OwnMore
import Derived.Deep.OwnRows
import Derived.Tactics
import Derived.Lib.ConvBytes
import Derived.Laws.Slices
import Derived.WalkKit
import Derived.KernelRfl
import Derived.RowKit3
import Derived.Deep.LoopGhost
import Derived.Deep.QuietTactic
import Derived.BigQuiet
import Derived.WideLaws
import Derived.Deep.DeepCutAuto
import Derived.Deep.CutBlock
import Derived.Deep.RegionHeld3
import Derived.Laws.Rows
import Derived.Lib.AppendStr
import Derived.ArgAppend
import Derived.Laws.IdiomCopy
import Derived.OrdersHeld
import Derived.Laws.BitsLemmas
import Derived.RowKit
import Derived.Test.YtnmlmgmljoncoaaGreatDoorVTopRoots0
namespace Go.Proofs.YtnmlmgmljoncoaaGreatDoor.PA
open Go.RowKit Go.Proofs.YtnmlmgmljoncoaaGreatDoorW.PrintWords Go.Proofs.YtnmlmgmljoncoaaGreatDoorW.PrintLast Go.Proofs.YtnmlmgmljoncoaaGreatDoorW.PrintMore
attribute [local go_sem] max2_int min2_int max_two min_two max_three min_three max_four min_four   -- for this text's walks alone
set_option linter.unusedVariables false
set_option linter.unusedSimpArgs false
set_option maxHeartbeats 8000000
set_option maxRecDepth 100000



def errW : Option Int → Value
  | none => .nilIface
  | some c => .iface 0 (.int .i64 c)
theorem errW_none : errW none = .nilIface := rfl
theorem errW_some (c : Int) : errW (some c) = .iface 0 (.int .i64 c) := rfl

theorem info22 : (Tryz.prog.info? 22).map (fun i => (i.zero, i.size, i.bytes)) = some (some (.int .u64 0), 1, 8) := by kernel_rfl
-- the values' own types
structure S166 where
  f0 : Int
  f1 : Int
def z166 : S166 := ⟨(0 : Int), (0 : Int)⟩
def k166 : Kd S166 := Kd.iso (Kd.pair (Kd.int .u64) (Kd.int .u64)) (fun x : S166 => (x.f0, x.f1))
theorem k166_open {w : World} {x : S166} {cs : List Value} (h : k166.K w x cs) : cs = [.int .u64 x.f0, .int .u64 x.f1] := by
  obtain ⟨_, _, rfl, rfl, rfl⟩ := h
  exact rfl
theorem k166_openM {w : World} {base : Nat} {ok : Nat → Prop} {x : S166} {cs : List Value} (h : k166.M w base ok x cs) : cs = [.int .u64 x.f0, .int .u64 x.f1] := by
  obtain ⟨_, _, rfl, rfl, rfl⟩ := h
  exact rfl
theorem k166_mk (w : World) (x : S166)  : k166.K w x [.int .u64 x.f0, .int .u64 x.f1] := ⟨[.int .u64 x.f0], [.int .u64 x.f1], rfl, rfl, rfl⟩
theorem k166_mkM (w : World) (base : Nat) (ok : Nat → Prop) (x : S166)  : k166.M w base ok x [.int .u64 x.f0, .int .u64 x.f1] := ⟨[.int .u64 x.f0], [.int .u64 x.f1], rfl, rfl, rfl⟩
def rd_T166 (xs : List S166) (i : Int) : S166 := xs.getD i.toNat z166
theorem at_T166 {w : World} {A : Option Addr} {n : Nat} {xs : List S166} (h : Kd.C k166 w A n xs) (i : Int) (h0 : 0 ≤ i) (h1 : i < n) : ∃ ad , A = some ad ∧ w.cell? (ad.add (i.toNat * 2)) = some (.int .u64 (rd_T166 xs i).f0) ∧ w.cell? ⟨(ad.add (i.toNat * 2)).block, (ad.add (i.toNat * 2)).off + 1, none⟩ = some (.int .u64 (rd_T166 xs i).f1) := by
  obtain ⟨ad, c, e, _, hK, hc0⟩ := Kd.C_get h z166 i h0 h1
  have hc : ∀ j u, c[j]? = some u → w.cell? (ad.add (i.toNat * 2 + j)) = some u := hc0
  obtain rfl := k166_open hK
  exact ⟨ad, e, hc 0 _ rfl, by rw [← add_field _ _ 1 (by omega)]; exact hc 1 _ rfl⟩

structure S27 where
  f0 : Bool
  f1 : Int
  f2 : Int
  f3 : Int
def z27 : S27 := ⟨false, (0 : Int), (0 : Int), (0 : Int)⟩
def k27 : Kd S27 := Kd.iso (Kd.pair Kd.bool (Kd.pair (Kd.int .i64) (Kd.pair (Kd.int .i64) (Kd.int .u64)))) (fun x : S27 => (x.f0, x.f1, x.f2, x.f3))
theorem k27_open {w : World} {x : S27} {cs : List Value} (h : k27.K w x cs) : cs = [.bool x.f0, .int .i64 x.f1, .int .i64 x.f2, .int .u64 x.f3] := by
  obtain ⟨_, _, rfl, rfl, ⟨_, _, rfl, rfl, ⟨_, _, rfl, rfl, rfl⟩⟩⟩ := h
  exact rfl
theorem k27_openM {w : World} {base : Nat} {ok : Nat → Prop} {x : S27} {cs : List Value} (h : k27.M w base ok x cs) : cs = [.bool x.f0, .int .i64 x.f1, .int .i64 x.f2, .int .u64 x.f3] := by
  obtain ⟨_, _, rfl, rfl, ⟨_, _, rfl, rfl, ⟨_, _, rfl, rfl, rfl⟩⟩⟩ := h
  exact rfl
theorem k27_mk (w : World) (x : S27)  : k27.K w x [.bool x.f0, .int .i64 x.f1, .int .i64 x.f2, .int .u64 x.f3] := ⟨[.bool x.f0], [.int .i64 x.f1, .int .i64 x.f2, .int .u64 x.f3], rfl, rfl, ⟨[.int .i64 x.f1], [.int .i64 x.f2, .int .u64 x.f3], rfl, rfl, ⟨[.int .i64 x.f2], [.int .u64 x.f3], rfl, rfl, rfl⟩⟩⟩
theorem k27_mkM (w : World) (base : Nat) (ok : Nat → Prop) (x : S27)  : k27.M w base ok x [.bool x.f0, .int .i64 x.f1, .int .i64 x.f2, .int .u64 x.f3] := ⟨[.bool x.f0], [.int .i64 x.f1, .int .i64 x.f2, .int .u64 x.f3], rfl, rfl, ⟨[.int .i64 x.f1], [.int .i64 x.f2, .int .u64 x.f3], rfl, rfl, ⟨[.int .i64 x.f2], [.int .u64 x.f3], rfl, rfl, rfl⟩⟩⟩
def rd_T27 (xs : List S27) (i : Int) : S27 := xs.getD i.toNat z27
theorem at_T27 {w : World} {A : Option Addr} {n : Nat} {xs : List S27} (h : Kd.C k27 w A n xs) (i : Int) (h0 : 0 ≤ i) (h1 : i < n) : ∃ ad , A = some ad ∧ w.cell? (ad.add (i.toNat * 4)) = some (.bool (rd_T27 xs i).f0) ∧ w.cell? ⟨(ad.add (i.toNat * 4)).block, (ad.add (i.toNat * 4)).off + 1, none⟩ = some (.int .i64 (rd_T27 xs i).f1) ∧ w.cell? ⟨(ad.add (i.toNat * 4)).block, (ad.add (i.toNat * 4)).off + 2, none⟩ = some (.int .i64 (rd_T27 xs i).f2) ∧ w.cell? ⟨(ad.add (i.toNat * 4)).block, (ad.add (i.toNat * 4)).off + 3, none⟩ = some (.int .u64 (rd_T27 xs i).f3) := by
  obtain ⟨ad, c, e, _, hK, hc0⟩ := Kd.C_get h z27 i h0 h1
  have hc : ∀ j u, c[j]? = some u → w.cell? (ad.add (i.toNat * 4 + j)) = some u := hc0
  obtain rfl := k27_open hK
  exact ⟨ad, e, hc 0 _ rfl, by rw [← add_field _ _ 1 (by omega)]; exact hc 1 _ rfl, by rw [← add_field _ _ 2 (by omega)]; exact hc 2 _ rfl, by rw [← add_field _ _ 3 (by omega)]; exact hc 3 _ rfl⟩

def numeric_first.j0 : Nat → Int → Int → Int → Bool → Option (Int × Int × Int × Bool)
 | 0, _, _, _, _ => none
 | k + 1, x2, x3, x10, x14 => if x14 = true then (some (x3, x10, 32, true)) else (if x10 ≥ x2 then (if x10 < (wrap64 (2 * x2)) then (some (x3, wrap64 (x10 - x2), 64, true)) else (some (0, 0, 0, false))) else (some (0, 0, 0, false)))
def numeric_first.f (k : Nat) (a0 : Int) (a1 : Int) (a2 : Int) (a3 : Int) : Option (Int × Int × Int × Bool) := if (wrap64 (a0 - a1)) ≥ 0 then (numeric_first.j0 k a2 a3 (wrap64 (a0 - a1)) (decide ((wrap64 (a0 - a1)) < a2))) else (numeric_first.j0 k a2 a3 (wrap64 (a0 - a1)) false)
theorem numeric_first.mono_l : ∀ k, (∀ y0 y1 y2 y3, LeO (numeric_first.j0 k y0 y1 y2 y3) (numeric_first.j0 (k + 1) y0 y1 y2 y3))
 | 0 => fun _ _ _ _ r h => by simp [numeric_first.j0] at h
 | k + 1 => by
  have ih0 := numeric_first.mono_l k
  ·intro y0 y1 y2 y3
   unfold numeric_first.j0
   repeat' first
   | (with_reducible exact ih0 _ _ _ _)
   | (with_reducible exact LeO.refl _)
   | (with_reducible exact LeO.none _)
   | (with_reducible refine LeO.ite ?_ ?_)
   | (with_reducible refine LeO.bind ?_ (fun _ => ?_))
   | exact ih0 _ _ _ _
   | exact LeO.none _
   | refine LeO.ite ?_ ?_
   | refine LeO.bind ?_ (fun _ => ?_)
theorem numeric_first.mono : ∀ a0 a1 a2 a3 k, LeO (numeric_first.f k a0 a1 a2 a3) (numeric_first.f (k + 1) a0 a1 a2 a3) := by
 intro a0 a1 a2 a3 k
 have ih0 := numeric_first.mono_l k
 unfold numeric_first.f
 repeat' first
   | (with_reducible exact ih0 _ _ _ _)
   | (with_reducible exact LeO.refl _)
   | (with_reducible exact LeO.none _)
   | (with_reducible refine LeO.ite ?_ ?_)
   | (with_reducible refine LeO.bind ?_ (fun _ => ?_))
   | exact ih0 _ _ _ _
   | exact LeO.none _
   | refine LeO.ite ?_ ?_
   | refine LeO.bind ?_ (fun _ => ?_)
theorem numeric_first.calls (k : Nat) (a0 : Int) (a1 : Int) (a2 : Int) (a3 : Int) (r1 : Int) (r2 : Int) (r3 : Int) (r4 : Bool) (w : World) (h : numeric_first.f k a0 a1 a2 a3 = some (r1, r2, r3, r4)) :
  Calls Tryz.prog 59 #[.int .i64 a0, .int .i64 a1, .int .i64 a2, .int .i64 a3] w fun e w' => e = .returned (.tuple #[.agg #[.int .i64 r1, .int .i64 r2, .int .i64 r3], .bool r4]) ∧ Below w.heap.size w w' := by
 have hu56 := Tryz.underlying56
 have HB := A_ (Below.refl w.heap.size w)
 have H : (if (wrap64 (a0 - a1)) ≥ 0 then (numeric_first.j0 k a2 a3 (wrap64 (a0 - a1)) (decide ((wrap64 (a0 - a1)) < a2))) else (numeric_first.j0 k a2 a3 (wrap64 (a0 - a1)) false)) = some (r1, r2, r3, r4) := h
 clear h;have HC5 := A_ H;clear H
 go_enter Tryz.func59, Tryz.ntmps59
 go_upto_region 2 with (first | ((with_reducible refine gate_dst (N := 8) rfl ?_); refine be_ 8 #[.int .i64 0, .int .i64 0, .int .i64 0] 56 ?_; intro gb101 hg w6 hbox hb; have BK101 := A_ (hbox); have GW101 := A_ (sz_ hg (hb_ HB.out)); have GE101 := A_ (sz_ hg (hb_ HB.out)); replace HB := A_ (below_step (hb_ HB.out) hb); clear hb hbox hg))
 (try simp only [Act.put, lI_, l0_, lS_])
 go_cut [14] (fun v14 wc => ∃ (kq : Nat) (x14_4 : Bool), v14 = .bool x14_4 ∧ Aside0 (numeric_first.j0 kq a2 a3 (wrap64 (a0 - a1)) x14_4 = some (r1, r2, r3, r4)) ∧ Aside0 (kq ≤ k) ∧ Aside0 (wc.heap[gb101]? = some (.cells #[.int .i64 0, .int .i64 0, .int .i64 0] 56 (0, 0))) ∧ Aside0 (Below w.heap.size w wc))
 case first =>
  have H := HC5.out
  clear HC5
  by_cases c7 : (wrap64 (a0 - a1)) ≥ 0
  ·rw [if_pos c7] at H
   have c7b0 : decide (0 ≤ (wrap64 (a0 - a1))) = true := decide_eq_true c7
   clear c7
   (first | rw [c7b0] | (simp only [i64_w, i32_w]; rw [c7b0]) | skip)
   have H' := A_ H
   clear H
   go_wp2
   go_meet
   case rel => exact ⟨_, (decide ((wrap64 (a0 - a1)) < a2)), sm_, H', ⟨by first | omega | exact Nat.le_refl _⟩, ⟨bk_ BK101.out⟩, ⟨hb1_ HB.out GE101.out⟩⟩
  ·rw [if_neg c7] at H
   have c7b0 : decide (0 ≤ (wrap64 (a0 - a1))) = false := decide_eq_false c7
   clear c7
   (first | rw [c7b0] | (simp only [i64_w, i32_w]; rw [c7b0]) | skip)
   have H' := A_ H
   clear H
   go_wp2
   go_meet
   case rel => exact ⟨_, (false), sm_, H', ⟨by first | omega | exact Nat.le_refl _⟩, ⟨bk_ BK101.out⟩, ⟨hb1_ HB.out GE101.out⟩⟩
 case rest =>
  clear HC5
  try clear p2
  try clear c5
  try clear p6
  try clear c7
  try clear c7b0
  obtain ⟨kq, x14_4, rfl, HA, HJ4, BK101, HB⟩ := hcut
  cases kq with
  | zero => exact absurd HA.out (by simp [numeric_first.j0])
  | succ kj4 =>
   have H := HA.out
   clear HA
   simp only [numeric_first.j0] at H
   by_cases c8 : x14_4 = true
   ·subst c8
    have H1 : (some (a3, (wrap64 (a0 - a1)), 32, true)) = some (r1, r2, r3, r4) := by rw [if_pos rfl] at H; exact H
    clear H;have H := H1;clear H1
    simp only [Option.some.injEq, Prod.mk.injEq] at H
    obtain ⟨rfl, rfl, rfl, rfl⟩ := H
    have hcz9_0 := bv_ BK101.out 0
    have hcz9_1 := bv_ BK101.out 1
    have hcz9_2 := bv_ BK101.out 2
    have hfz9_0 := blk_frozen BK101.out 0
    have hfz9_1 := blk_frozen BK101.out 1
    have hfz9_2 := blk_frozen BK101.out 2
    go_wp2
    refine bodyPost_ret (results_ct rfl _ _ gb101 56 #[.int .i64 a3, .int .i64 (wrap64 (a0 - a1)), .int .i64 32] (0, 0) _ rfl (by (with_reducible repeat (first | refine blk_drewN ?_ _ | refine blk_drew ?_ | refine blk_alloc ?_ _)); refine blk_put (cs := #[.int .i64 a3, .int .i64 (wrap64 (a0 - a1)), .int .i64 0]) ?_ 2 _ rfl; (with_reducible repeat (first | refine blk_drewN ?_ _ | refine blk_drew ?_ | refine blk_alloc ?_ _)); refine blk_put (cs := #[.int .i64 a3, .int .i64 0, .int .i64 0]) ?_ 1 _ rfl; (with_reducible repeat (first | refine blk_drewN ?_ _ | refine blk_drew ?_ | refine blk_alloc ?_ _)); refine blk_put (cs := #[.int .i64 0, .int .i64 0, .int .i64 0]) ?_ 0 _ rfl; (with_reducible repeat (first | refine blk_drewN ?_ _ | refine blk_drew ?_ | refine blk_alloc ?_ _)); exact BK101.out) Tryz.underlying56 rfl (by kernel_rfl)) rfl ?_
    exact ⟨er_, hb1_ HB.out GE101.out⟩
   ·replace c8 := Bool.eq_false_iff.mpr c8
    subst c8
    have H1 : (if (wrap64 (a0 - a1)) ≥ a2 then (if (wrap64 (a0 - a1)) < (wrap64 (2 * a2)) then (some (a3, wrap64 ((wrap64 (a0 - a1)) - a2), 64, true)) else (some (0, 0, 0, false))) else (some (0, 0, 0, false))) = some (r1, r2, r3, r4) := by rw [if_neg (show ¬ (false = true) by decide)] at H; exact H
    clear H;have H := H1;clear H1
    by_cases c10 : (wrap64 (a0 - a1)) ≥ a2
    ·rw [if_pos c10] at H
     have c10b0 : decide (a2 ≤ (wrap64 (a0 - a1))) = true := decide_eq_true c10
     clear c10
     by_cases c11 : (wrap64 (a0 - a1)) < (wrap64 (2 * a2))
     ·rw [if_pos c11] at H
      have c11b0 : decide ((wrap64 (a0 - a1)) < (wrap64 (2 * a2))) = true := decide_eq_true c11
      clear c11
      simp only [Option.some.injEq, Prod.mk.injEq] at H
      obtain ⟨rfl, rfl, rfl, rfl⟩ := H
      have hcz12_0 := bv_ BK101.out 0
      have hcz12_1 := bv_ BK101.out 1
      have hcz12_2 := bv_ BK101.out 2
      have hfz12_0 := blk_frozen BK101.out 0
      have hfz12_1 := blk_frozen BK101.out 1
      have hfz12_2 := blk_frozen BK101.out 2
      go_wp2
      refine bodyPost_ret (results_ct rfl _ _ gb101 56 #[.int .i64 a3, .int .i64 (wrap64 ((wrap64 (a0 - a1)) - a2)), .int .i64 64] (0, 0) _ rfl (by (with_reducible repeat (first | refine blk_drewN ?_ _ | refine blk_drew ?_ | refine blk_alloc ?_ _)); refine blk_put (cs := #[.int .i64 a3, .int .i64 (wrap64 ((wrap64 (a0 - a1)) - a2)), .int .i64 0]) ?_ 2 _ rfl; (with_reducible repeat (first | refine blk_drewN ?_ _ | refine blk_drew ?_ | refine blk_alloc ?_ _)); refine blk_put (cs := #[.int .i64 a3, .int .i64 0, .int .i64 0]) ?_ 1 _ rfl; (with_reducible repeat (first | refine blk_drewN ?_ _ | refine blk_drew ?_ | refine blk_alloc ?_ _)); refine blk_put (cs := #[.int .i64 0, .int .i64 0, .int .i64 0]) ?_ 0 _ rfl; (with_reducible repeat (first | refine blk_drewN ?_ _ | refine blk_drew ?_ | refine blk_alloc ?_ _)); exact BK101.out) Tryz.underlying56 rfl (by kernel_rfl)) rfl ?_
      exact ⟨er_, hb1_ HB.out GE101.out⟩
     ·rw [if_neg c11] at H
      have c11b0 : decide ((wrap64 (a0 - a1)) < (wrap64 (2 * a2))) = false := decide_eq_false c11
      clear c11
      simp only [Option.some.injEq, Prod.mk.injEq] at H
      obtain ⟨rfl, rfl, rfl, rfl⟩ := H
      have hcz13_0 := bv_ BK101.out 0
      have hcz13_1 := bv_ BK101.out 1
      have hcz13_2 := bv_ BK101.out 2
      have hfz13_0 := blk_frozen BK101.out 0
      have hfz13_1 := blk_frozen BK101.out 1
      have hfz13_2 := blk_frozen BK101.out 2
      go_wp2
      refine bodyPost_ret (results_ct rfl _ _ gb101 56 #[.int .i64 0, .int .i64 0, .int .i64 0] (0, 0) _ rfl (by (with_reducible repeat (first | refine blk_drewN ?_ _ | refine blk_drew ?_ | refine blk_alloc ?_ _)); refine blk_put (cs := #[.int .i64 0, .int .i64 0, .int .i64 0]) ?_ 2 _ rfl; (with_reducible repeat (first | refine blk_drewN ?_ _ | refine blk_drew ?_ | refine blk_alloc ?_ _)); refine blk_put (cs := #[.int .i64 0, .int .i64 0, .int .i64 0]) ?_ 1 _ rfl; (with_reducible repeat (first | refine blk_drewN ?_ _ | refine blk_drew ?_ | refine blk_alloc ?_ _)); refine blk_put (cs := #[.int .i64 0, .int .i64 0, .int .i64 0]) ?_ 0 _ rfl; (with_reducible repeat (first | refine blk_drewN ?_ _ | refine blk_drew ?_ | refine blk_alloc ?_ _)); exact BK101.out) Tryz.underlying56 rfl (by kernel_rfl)) rfl ?_
      exact ⟨er_, hb1_ HB.out GE101.out⟩
    ·rw [if_neg c10] at H
     have c10b0 : decide (a2 ≤ (wrap64 (a0 - a1))) = false := decide_eq_false c10
     clear c10
     simp only [Option.some.injEq, Prod.mk.injEq] at H
     obtain ⟨rfl, rfl, rfl, rfl⟩ := H
     have hcz14_0 := bv_ BK101.out 0
     have hcz14_1 := bv_ BK101.out 1
     have hcz14_2 := bv_ BK101.out 2
     have hfz14_0 := blk_frozen BK101.out 0
     have hfz14_1 := blk_frozen BK101.out 1
     have hfz14_2 := blk_frozen BK101.out 2
     go_wp2
     refine bodyPost_ret (results_ct rfl _ _ gb101 56 #[.int .i64 0, .int .i64 0, .int .i64 0] (0, 0) _ rfl (by (with_reducible repeat (first | refine blk_drewN ?_ _ | refine blk_drew ?_ | refine blk_alloc ?_ _)); refine blk_put (cs := #[.int .i64 0, .int .i64 0, .int .i64 0]) ?_ 2 _ rfl; (with_reducible repeat (first | refine blk_drewN ?_ _ | refine blk_drew ?_ | refine blk_alloc ?_ _)); refine blk_put (cs := #[.int .i64 0, .int .i64 0, .int .i64 0]) ?_ 1 _ rfl; (with_reducible repeat (first | refine blk_drewN ?_ _ | refine blk_drew ?_ | refine blk_alloc ?_ _)); refine blk_put (cs := #[.int .i64 0, .int .i64 0, .int .i64 0]) ?_ 0 _ rfl; (with_reducible repeat (first | refine blk_drewN ?_ _ | refine blk_drew ?_ | refine blk_alloc ?_ _)); exact BK101.out) Tryz.underlying56 rfl (by kernel_rfl)) rfl ?_
     exact ⟨er_, hb1_ HB.out GE101.out⟩
def numeric_find.j0 : Nat → Int → Bool → Option (Int × Int × Int)
 | 0, _, _ => none
 | k + 1, x0, x51 => if x51 = true then (some (8, wrap64 (x0 - 167), 0)) else (if x0 ≥ 64512 then (if x0 < 64520 then (some (9, wrap64 (x0 - 64512), 0)) else (some (0, 0, 0))) else (some (0, 0, 0)))
def numeric_find.f (k : Nat) (a0 : Int) : Option (Int × Int × Int) := (numeric_first.f k a0 69 11 2).bind fun bt103 => (if bt103.2.2.2 = true then (if bt103.2.1 = 0 then (some (1, bt103.2.1, bt103.2.2.1)) else (some (bt103.1, bt103.2.1, bt103.2.2.1))) else ((numeric_first.f k a0 91 6 3).bind fun bt108 => (if bt108.2.2.2 = true then (some (bt108.1, bt108.2.1, bt108.2.2.1)) else ((numeric_first.f k a0 103 18 5).bind fun bt113 => (if bt113.2.2.2 = true then (if bt113.2.1 < 3 then (some (4, bt113.2.1, bt113.2.2.1)) else (some (bt113.1, bt113.2.1, bt113.2.2.1))) else ((numeric_first.f k a0 139 14 7).bind fun bt118 => (if bt118.2.2.2 = true then (if bt118.2.1 < 7 then (some (6, bt118.2.1, bt118.2.2.1)) else (some (bt118.1, bt118.2.1, bt118.2.2.1))) else (if a0 ≥ 167 then (numeric_find.j0 k a0 (decide (a0 ≤ 191))) else (numeric_find.j0 k a0 false)))))))))
theorem numeric_find.mono_l : ∀ k, (∀ y0 y1, LeO (numeric_find.j0 k y0 y1) (numeric_find.j0 (k + 1) y0 y1))
 | 0 => fun _ _ r h => by simp [numeric_find.j0] at h
 | k + 1 => by
  have ih0 := numeric_find.mono_l k
  ·intro y0 y1
   unfold numeric_find.j0
   repeat' first
   | (with_reducible exact ih0 _ _)
   | (with_reducible exact numeric_first.mono _ _ _ _ _)
   | (with_reducible exact LeO.refl _)
   | (with_reducible exact LeO.none _)
   | (with_reducible refine LeO.ite ?_ ?_)
   | (with_reducible refine LeO.bind ?_ (fun _ => ?_))
   | exact ih0 _ _
   | exact numeric_first.mono _ _ _ _ _
   | exact LeO.none _
   | refine LeO.ite ?_ ?_
   | refine LeO.bind ?_ (fun _ => ?_)
theorem numeric_find.mono : ∀ a0 k, LeO (numeric_find.f k a0) (numeric_find.f (k + 1) a0) := by
 intro a0 k
 have ih0 := numeric_find.mono_l k
 unfold numeric_find.f
 repeat' first
   | (with_reducible exact ih0 _ _)
   | (with_reducible exact numeric_first.mono _ _ _ _ _)
   | (with_reducible exact LeO.refl _)
   | (with_reducible exact LeO.none _)
   | (with_reducible refine LeO.ite ?_ ?_)
   | (with_reducible refine LeO.bind ?_ (fun _ => ?_))
   | exact ih0 _ _
   | exact numeric_first.mono _ _ _ _ _
   | exact LeO.none _
   | refine LeO.ite ?_ ?_
   | refine LeO.bind ?_ (fun _ => ?_)
theorem numeric_find.calls (k : Nat) (a0 : Int) (r1 : Int) (r2 : Int) (r3 : Int) (w : World) (h : numeric_find.f k a0 = some (r1, r2, r3)) :
  Calls Tryz.prog 25 #[.int .i64 a0] w fun e w' => e = .returned (.agg #[.int .i64 r1, .int .i64 r2, .int .i64 r3]) ∧ Below w.heap.size w w' := by
 have hu56 := Tryz.underlying56
 have HB := A_ (Below.refl w.heap.size w)
 have H : ((numeric_first.f k a0 69 11 2).bind fun bt103 => (if bt103.2.2.2 = true then (if bt103.2.1 = 0 then (some (1, bt103.2.1, bt103.2.2.1)) else (some (bt103.1, bt103.2.1, bt103.2.2.1))) else ((numeric_first.f k a0 91 6 3).bind fun bt108 => (if bt108.2.2.2 = true then (some (bt108.1, bt108.2.1, bt108.2.2.1)) else ((numeric_first.f k a0 103 18 5).bind fun bt113 => (if bt113.2.2.2 = true then (if bt113.2.1 < 3 then (some (4, bt113.2.1, bt113.2.2.1)) else (some (bt113.1, bt113.2.1, bt113.2.2.1))) else ((numeric_first.f k a0 139 14 7).bind fun bt118 => (if bt118.2.2.2 = true then (if bt118.2.1 < 7 then (some (6, bt118.2.1, bt118.2.2.1)) else (some (bt118.1, bt118.2.1, bt118.2.2.1))) else (if a0 ≥ 167 then (numeric_find.j0 k a0 (decide (a0 ≤ 191))) else (numeric_find.j0 k a0 false)))))))))) = some (r1, r2, r3) := h
 clear h
 replace H := ob_ H
 obtain ⟨⟨t103, t104, t105, t106⟩, A20, H⟩ := H
 replace H : (if t106 = true then (if t104 = 0 then (some (1, t104, t105)) else (some (t103, t104, t105))) else ((numeric_first.f k a0 91 6 3).bind fun bt108 => (if bt108.2.2.2 = true then (some (bt108.1, bt108.2.1, bt108.2.2.1)) else ((numeric_first.f k a0 103 18 5).bind fun bt113 => (if bt113.2.2.2 = true then (if bt113.2.1 < 3 then (some (4, bt113.2.1, bt113.2.2.1)) else (some (bt113.1, bt113.2.1, bt113.2.2.1))) else ((numeric_first.f k a0 139 14 7).bind fun bt118 => (if bt118.2.2.2 = true then (if bt118.2.1 < 7 then (some (6, bt118.2.1, bt118.2.2.1)) else (some (bt118.1, bt118.2.1, bt118.2.2.1))) else (if a0 ≥ 167 then (numeric_find.j0 k a0 (decide (a0 ≤ 191))) else (numeric_find.j0 k a0 false))))))))) = some (r1, r2, r3) := H
 have A2 := A_ A20;clear A20
 by_cases c3 : t106 = true
 ·subst c3
  have H1 : (if t104 = 0 then (some (1, t104, t105)) else (some (t103, t104, t105))) = some (r1, r2, r3) := by rw [if_pos rfl] at H; exact H
  clear H;have H := H1;clear H1
  by_cases c4 : t104 = 0
  ·rw [if_pos c4] at H
   have c4b0 : (t104 == 0) = true := beq_iff_eq.mpr c4
   have c4b1 : (t104 != 0) = false := bne_eq_false_iff_eq.mpr c4
   clear c4
   simp only [Option.some.injEq, Prod.mk.injEq] at H
   obtain ⟨rfl, rfl, rfl⟩ := H
   go_enter Tryz.func25, Tryz.ntmps25
   go_wp2_with (first | ((with_reducible refine gate_dst (N := 2) rfl ?_); refine be_ 2 #[.int .i64 0, .int .i64 0, .int .i64 0] 56 ?_; intro gb102 hg w5 hbox hb; have BK102 := A_ (hbox); have GW102 := A_ (sz_ hg (hb_ HB.out)); have GE102 := A_ (sz_ hg (hb_ HB.out)); replace HB := A_ (below_step (hb_ HB.out) hb); clear hb hbox hg) | ((with_reducible refine gate_callee (f := 59) rfl ?_); refine goesL_ (some 13) rfl rfl Tryz.func59 (by kernel_rfl) rfl #[.int .i64 a0, .int .i64 69, .int .i64 11, .int .i64 2] rfl mp_ ?_; (with_reducible refine (numeric_first.calls k a0 69 11 2 t103 t104 t105 true _ A2.out).mono ?_); rintro e w6 ⟨rfl, hb⟩; refine ⟨_, rfl, ?_⟩; replace BK102 := A_ (bb_ BK102.out hb); replace HB := A_ (below_step (hb1_ HB.out GE102.out) hb); (try clear hb); (try clear hb2); (try clear hk); (try clear hi)) | ((with_reducible refine gate_dst (N := 3) rfl ?_); refine be_ 3 #[.int .i64 0, .int .i64 0, .int .i64 0] 56 ?_; intro gb107 hg w7 hbox hb; have BK107 := A_ (hbox); have GW107 := A_ (sz_ hg (hb1_ HB.out GE102.out)); have GE107 := A_ (sz_ hg (hb1_ HB.out GE102.out)); have NB102_107 := A_ (nl_ hg BK102.out); have NB107_102 := A_ (ng_ hg BK102.out); replace BK102 := A_ (bb_ BK102.out hb); replace HB := A_ (below_step (hb1_ HB.out GE102.out) hb); clear hb hbox hg; have hnb8 := NB107_102.out; have hnc8 := NB102_107.out; have hcz9_0 := bv_ BK107.out 0; have hcz9_1 := bv_ BK107.out 1; have hcz9_2 := bv_ BK107.out 2; have hfz9_0 := blk_frozen BK107.out 0; have hfz9_1 := blk_frozen BK107.out 1; have hfz9_2 := blk_frozen BK107.out 2; have hcz10_0 := bv_ BK102.out 0; have hcz10_1 := bv_ BK102.out 1; have hcz10_2 := bv_ BK102.out 2; have hfz10_0 := blk_frozen BK102.out 0; have hfz10_1 := blk_frozen BK102.out 1; have hfz10_2 := blk_frozen BK102.out 2))
   refine bodyPost_ret (results_cell_row rfl _ _ gb102 56 #[.int .i64 1, .int .i64 t104, .int .i64 t105] (0, 0) _ rfl (by (with_reducible repeat (first | refine blk_drewN ?_ _ | refine blk_drew ?_ | refine blk_alloc ?_ _)); refine blk_put (cs := #[.int .i64 1, .int .i64 t104, .int .i64 0]) ?_ 2 _ rfl; (with_reducible repeat (first | refine blk_drewN ?_ _ | refine blk_drew ?_ | refine blk_alloc ?_ _)); refine blk_put (cs := #[.int .i64 1, .int .i64 0, .int .i64 0]) ?_ 1 _ rfl; (with_reducible repeat (first | refine blk_drewN ?_ _ | refine blk_drew ?_ | refine blk_alloc ?_ _)); refine blk_put (cs := #[.int .i64 0, .int .i64 0, .int .i64 0]) ?_ 0 _ rfl; (with_reducible repeat (first | refine blk_drewN ?_ _ | refine blk_drew ?_ | refine blk_alloc ?_ _)); refine blk_far ?_ NB102_107.out _; (with_reducible repeat (first | refine blk_drewN ?_ _ | refine blk_drew ?_ | refine blk_alloc ?_ _)); refine blk_far ?_ NB102_107.out _; (with_reducible repeat (first | refine blk_drewN ?_ _ | refine blk_drew ?_ | refine blk_alloc ?_ _)); refine blk_far ?_ NB102_107.out _; (with_reducible repeat (first | refine blk_drewN ?_ _ | refine blk_drew ?_ | refine blk_alloc ?_ _)); refine blk_far ?_ NB102_107.out _; (with_reducible repeat (first | refine blk_drewN ?_ _ | refine blk_drew ?_ | refine blk_alloc ?_ _)); exact BK102.out) Tryz.underlying56 rfl (by kernel_rfl)) rfl ?_
   exact ⟨er_, hb2_ HB.out GE102.out GE107.out⟩
  ·rw [if_neg c4] at H
   have c4b0 : (t104 == 0) = false := beq_eq_false_iff_ne.mpr c4
   have c4b1 : (t104 != 0) = true := bne_iff_ne.mpr c4
   simp only [Option.some.injEq, Prod.mk.injEq] at H
   obtain ⟨rfl, rfl, rfl⟩ := H
   go_enter Tryz.func25, Tryz.ntmps25
   go_wp2_with (first | ((with_reducible refine gate_dst (N := 2) rfl ?_); refine be_ 2 #[.int .i64 0, .int .i64 0, .int .i64 0] 56 ?_; intro gb102 hg w11 hbox hb; have BK102 := A_ (hbox); have GW102 := A_ (sz_ hg (hb_ HB.out)); have GE102 := A_ (sz_ hg (hb_ HB.out)); replace HB := A_ (below_step (hb_ HB.out) hb); clear hb hbox hg) | ((with_reducible refine gate_callee (f := 59) rfl ?_); refine goesL_ (some 13) rfl rfl Tryz.func59 (by kernel_rfl) rfl #[.int .i64 a0, .int .i64 69, .int .i64 11, .int .i64 2] rfl mp_ ?_; (with_reducible refine (numeric_first.calls k a0 69 11 2 t103 t104 t105 true _ A2.out).mono ?_); rintro e w12 ⟨rfl, hb⟩; refine ⟨_, rfl, ?_⟩; replace BK102 := A_ (bb_ BK102.out hb); replace HB := A_ (below_step (hb1_ HB.out GE102.out) hb); (try clear hb); (try clear hb2); (try clear hk); (try clear hi)) | ((with_reducible refine gate_dst (N := 3) rfl ?_); refine be_ 3 #[.int .i64 0, .int .i64 0, .int .i64 0] 56 ?_; intro gb107 hg w13 hbox hb; have BK107 := A_ (hbox); have GW107 := A_ (sz_ hg (hb1_ HB.out GE102.out)); have GE107 := A_ (sz_ hg (hb1_ HB.out GE102.out)); have NB102_107 := A_ (nl_ hg BK102.out); have NB107_102 := A_ (ng_ hg BK102.out); replace BK102 := A_ (bb_ BK102.out hb); replace HB := A_ (below_step (hb1_ HB.out GE102.out) hb); clear hb hbox hg; have hnb14 := NB107_102.out; have hnc14 := NB102_107.out; have hcz15_0 := bv_ BK107.out 0; have hcz15_1 := bv_ BK107.out 1; have hcz15_2 := bv_ BK107.out 2; have hfz15_0 := blk_frozen BK107.out 0; have hfz15_1 := blk_frozen BK107.out 1; have hfz15_2 := blk_frozen BK107.out 2; have hcz16_0 := bv_ BK102.out 0; have hcz16_1 := bv_ BK102.out 1; have hcz16_2 := bv_ BK102.out 2; have hfz16_0 := blk_frozen BK102.out 0; have hfz16_1 := blk_frozen BK102.out 1; have hfz16_2 := blk_frozen BK102.out 2))
   refine bodyPost_ret (results_cell_row rfl _ _ gb102 56 #[.int .i64 t103, .int .i64 t104, .int .i64 t105] (0, 0) _ rfl (by (with_reducible repeat (first | refine blk_drewN ?_ _ | refine blk_drew ?_ | refine blk_alloc ?_ _)); refine blk_put (cs := #[.int .i64 t103, .int .i64 t104, .int .i64 0]) ?_ 2 _ rfl; (with_reducible repeat (first | refine blk_drewN ?_ _ | refine blk_drew ?_ | refine blk_alloc ?_ _)); refine blk_put (cs := #[.int .i64 t103, .int .i64 0, .int .i64 0]) ?_ 1 _ rfl; (with_reducible repeat (first | refine blk_drewN ?_ _ | refine blk_drew ?_ | refine blk_alloc ?_ _)); refine blk_put (cs := #[.int .i64 0, .int .i64 0, .int .i64 0]) ?_ 0 _ rfl; (with_reducible repeat (first | refine blk_drewN ?_ _ | refine blk_drew ?_ | refine blk_alloc ?_ _)); refine blk_far ?_ NB102_107.out _; (with_reducible repeat (first | refine blk_drewN ?_ _ | refine blk_drew ?_ | refine blk_alloc ?_ _)); refine blk_far ?_ NB102_107.out _; (with_reducible repeat (first | refine blk_drewN ?_ _ | refine blk_drew ?_ | refine blk_alloc ?_ _)); refine blk_far ?_ NB102_107.out _; (with_reducible repeat (first | refine blk_drewN ?_ _ | refine blk_drew ?_ | refine blk_alloc ?_ _)); exact BK102.out) Tryz.underlying56 rfl (by kernel_rfl)) rfl ?_
   exact ⟨er_, hb2_ HB.out GE102.out GE107.out⟩
 ·replace c3 := Bool.eq_false_iff.mpr c3
  subst c3
  have H1 : ((numeric_first.f k a0 91 6 3).bind fun bt108 => (if bt108.2.2.2 = true then (some (bt108.1, bt108.2.1, bt108.2.2.1)) else ((numeric_first.f k a0 103 18 5).bind fun bt113 => (if bt113.2.2.2 = true then (if bt113.2.1 < 3 then (some (4, bt113.2.1, bt113.2.2.1)) else (some (bt113.1, bt113.2.1, bt113.2.2.1))) else ((numeric_first.f k a0 139 14 7).bind fun bt118 => (if bt118.2.2.2 = true then (if bt118.2.1 < 7 then (some (6, bt118.2.1, bt118.2.2.1)) else (some (bt118.1, bt118.2.1, bt118.2.2.1))) else (if a0 ≥ 167 then (numeric_find.j0 k a0 (decide (a0 ≤ 191))) else (numeric_find.j0 k a0 false)))))))) = some (r1, r2, r3) := by rw [if_neg (show ¬ (false = true) by decide)] at H; exact H
  clear H;have H := H1;clear H1
  replace H := ob_ H
  obtain ⟨⟨t108, t109, t110, t111⟩, A170, H⟩ := H
  replace H : (if t111 = true then (some (t108, t109, t110)) else ((numeric_first.f k a0 103 18 5).bind fun bt113 => (if bt113.2.2.2 = true then (if bt113.2.1 < 3 then (some (4, bt113.2.1, bt113.2.2.1)) else (some (bt113.1, bt113.2.1, bt113.2.2.1))) else ((numeric_first.f k a0 139 14 7).bind fun bt118 => (if bt118.2.2.2 = true then (if bt118.2.1 < 7 then (some (6, bt118.2.1, bt118.2.2.1)) else (some (bt118.1, bt118.2.1, bt118.2.2.1))) else (if a0 ≥ 167 then (numeric_find.j0 k a0 (decide (a0 ≤ 191))) else (numeric_find.j0 k a0 false))))))) = some (r1, r2, r3) := H
  have A17 := A_ A170;clear A170
  by_cases c18 : t111 = true
  ·subst c18
   have H1 : (some (t108, t109, t110)) = some (r1, r2, r3) := by rw [if_pos rfl] at H; exact H
   clear H;have H := H1;clear H1
   simp only [Option.some.injEq, Prod.mk.injEq] at H
   obtain ⟨rfl, rfl, rfl⟩ := H
   go_enter Tryz.func25, Tryz.ntmps25
   go_wp2_with (first | ((with_reducible refine gate_dst (N := 2) rfl ?_); refine be_ 2 #[.int .i64 0, .int .i64 0, .int .i64 0] 56 ?_; intro gb102 hg w19 hbox hb; have BK102 := A_ (hbox); have GW102 := A_ (sz_ hg (hb_ HB.out)); have GE102 := A_ (sz_ hg (hb_ HB.out)); replace HB := A_ (below_step (hb_ HB.out) hb); clear hb hbox hg) | ((with_reducible refine gate_callee (f := 59) rfl ?_); refine goesL_ (some 13) rfl rfl Tryz.func59 (by kernel_rfl) rfl #[.int .i64 a0, .int .i64 69, .int .i64 11, .int .i64 2] rfl mp_ ?_; (with_reducible refine (numeric_first.calls k a0 69 11 2 t103 t104 t105 false _ A2.out).mono ?_); rintro e w20 ⟨rfl, hb⟩; refine ⟨_, rfl, ?_⟩; replace BK102 := A_ (bb_ BK102.out hb); replace HB := A_ (below_step (hb1_ HB.out GE102.out) hb); (try clear hb); (try clear hb2); (try clear hk); (try clear hi)) | ((with_reducible refine gate_dst (N := 3) rfl ?_); refine be_ 3 #[.int .i64 0, .int .i64 0, .int .i64 0] 56 ?_; intro gb107 hg w21 hbox hb; have BK107 := A_ (hbox); have GW107 := A_ (sz_ hg (hb1_ HB.out GE102.out)); have GE107 := A_ (sz_ hg (hb1_ HB.out GE102.out)); have NB102_107 := A_ (nl_ hg BK102.out); have NB107_102 := A_ (ng_ hg BK102.out); replace BK102 := A_ (bb_ BK102.out hb); replace HB := A_ (below_step (hb1_ HB.out GE102.out) hb); clear hb hbox hg; have hnb22 := NB107_102.out; have hnc22 := NB102_107.out; have hcz23_0 := bv_ BK107.out 0; have hcz23_1 := bv_ BK107.out 1; have hcz23_2 := bv_ BK107.out 2; have hfz23_0 := blk_frozen BK107.out 0; have hfz23_1 := blk_frozen BK107.out 1; have hfz23_2 := blk_frozen BK107.out 2) | ((with_reducible refine gate_callee (f := 59) rfl ?_); refine goesL_ (some 24) rfl rfl Tryz.func59 (by kernel_rfl) rfl #[.int .i64 a0, .int .i64 91, .int .i64 6, .int .i64 3] rfl mp_ ?_; (with_reducible refine (numeric_first.calls k a0 91 6 3 t108 t109 t110 true _ A17.out).mono ?_); rintro e w24 ⟨rfl, hb⟩; refine ⟨_, rfl, ?_⟩; replace BK102 := A_ (blk_below (g := gb102) (o := .cells #[.int .i64 0, .int .i64 0, .int .i64 0] 56 (0, 0)) (bf3_ BK102.out NB102_107.out NB102_107.out NB102_107.out) hb); replace BK107 := A_ (blk_below (g := gb107) (o := .cells #[.int .i64 t103, .int .i64 t104, .int .i64 t105] 56 (0, 0)) (by (with_reducible repeat (first | refine blk_drewN ?_ _ | refine blk_drew ?_ | refine blk_alloc ?_ _)); refine blk_put (cs := #[.int .i64 t103, .int .i64 t104, .int .i64 0]) ?_ 2 _ rfl; (with_reducible repeat (first | refine blk_drewN ?_ _ | refine blk_drew ?_ | refine blk_alloc ?_ _)); refine blk_put (cs := #[.int .i64 t103, .int .i64 0, .int .i64 0]) ?_ 1 _ rfl; (with_reducible repeat (first | refine blk_drewN ?_ _ | refine blk_drew ?_ | refine blk_alloc ?_ _)); refine blk_put (cs := #[.int .i64 0, .int .i64 0, .int .i64 0]) ?_ 0 _ rfl; (with_reducible repeat (first | refine blk_drewN ?_ _ | refine blk_drew ?_ | refine blk_alloc ?_ _)); exact BK107.out) hb); replace HB := A_ (below_step (hb2_ HB.out GE102.out GE107.out) hb); (try clear hb); (try clear hb2); (try clear hk); (try clear hi)) | ((with_reducible refine gate_dst (N := 5) rfl ?_); refine be_ 5 #[.int .i64 0, .int .i64 0, .int .i64 0] 56 ?_; intro gb112 hg w25 hbox hb; have BK112 := A_ (hbox); have GW112 := A_ (sz_ hg (hb2_ HB.out GE102.out GE107.out)); have GE112 := A_ (sz_ hg (hb2_ HB.out GE102.out GE107.out)); have NB102_112 := A_ (nl_ hg BK102.out); have NB112_102 := A_ (ng_ hg BK102.out); have NB107_112 := A_ (nl_ hg BK107.out); have NB112_107 := A_ (ng_ hg BK107.out); replace BK102 := A_ (bb_ BK102.out hb); replace BK107 := A_ (bb_ BK107.out hb); replace HB := A_ (below_step (hb2_ HB.out GE102.out GE107.out) hb); clear hb hbox hg; have hnb26 := NB112_102.out; have hnc26 := NB102_112.out; have hnb27 := NB112_107.out; have hnc27 := NB107_112.out; have hcz28_0 := bv_ BK112.out 0; have hcz28_1 := bv_ BK112.out 1; have hcz28_2 := bv_ BK112.out 2; have hfz28_0 := blk_frozen BK112.out 0; have hfz28_1 := blk_frozen BK112.out 1; have hfz28_2 := blk_frozen BK112.out 2; have hcz29_0 := bv_ BK102.out 0; have hcz29_1 := bv_ BK102.out 1; have hcz29_2 := bv_ BK102.out 2; have hfz29_0 := blk_frozen BK102.out 0; have hfz29_1 := blk_frozen BK102.out 1; have hfz29_2 := blk_frozen BK102.out 2))
   refine bodyPost_ret (results_cell_row rfl _ _ gb102 56 #[.int .i64 t108, .int .i64 t109, .int .i64 t110] (0, 0) _ rfl (by (with_reducible repeat (first | refine blk_drewN ?_ _ | refine blk_drew ?_ | refine blk_alloc ?_ _)); refine blk_put (cs := #[.int .i64 t108, .int .i64 t109, .int .i64 0]) ?_ 2 _ rfl; (with_reducible repeat (first | refine blk_drewN ?_ _ | refine blk_drew ?_ | refine blk_alloc ?_ _)); refine blk_put (cs := #[.int .i64 t108, .int .i64 0, .int .i64 0]) ?_ 1 _ rfl; (with_reducible repeat (first | refine blk_drewN ?_ _ | refine blk_drew ?_ | refine blk_alloc ?_ _)); refine blk_put (cs := #[.int .i64 0, .int .i64 0, .int .i64 0]) ?_ 0 _ rfl; (with_reducible repeat (first | refine blk_drewN ?_ _ | refine blk_drew ?_ | refine blk_alloc ?_ _)); refine blk_far ?_ NB102_112.out _; (with_reducible repeat (first | refine blk_drewN ?_ _ | refine blk_drew ?_ | refine blk_alloc ?_ _)); refine blk_far ?_ NB102_112.out _; (with_reducible repeat (first | refine blk_drewN ?_ _ | refine blk_drew ?_ | refine blk_alloc ?_ _)); refine blk_far ?_ NB102_112.out _; (with_reducible repeat (first | refine blk_drewN ?_ _ | refine blk_drew ?_ | refine blk_alloc ?_ _)); exact BK102.out) Tryz.underlying56 rfl (by kernel_rfl)) rfl ?_
   exact ⟨er_, hb3_ HB.out GE102.out GE107.out GE112.out⟩
  ·replace c18 := Bool.eq_false_iff.mpr c18
   subst c18
   have H1 : ((numeric_first.f k a0 103 18 5).bind fun bt113 => (if bt113.2.2.2 = true then (if bt113.2.1 < 3 then (some (4, bt113.2.1, bt113.2.2.1)) else (some (bt113.1, bt113.2.1, bt113.2.2.1))) else ((numeric_first.f k a0 139 14 7).bind fun bt118 => (if bt118.2.2.2 = true then (if bt118.2.1 < 7 then (some (6, bt118.2.1, bt118.2.2.1)) else (some (bt118.1, bt118.2.1, bt118.2.2.1))) else (if a0 ≥ 167 then (numeric_find.j0 k a0 (decide (a0 ≤ 191))) else (numeric_find.j0 k a0 false)))))) = some (r1, r2, r3) := by rw [if_neg (show ¬ (false = true) by decide)] at H; exact H
   clear H;have H := H1;clear H1
   replace H := ob_ H
   obtain ⟨⟨t113, t114, t115, t116⟩, A300, H⟩ := H
   replace H : (if t116 = true then (if t114 < 3 then (some (4, t114, t115)) else (some (t113, t114, t115))) else ((numeric_first.f k a0 139 14 7).bind fun bt118 => (if bt118.2.2.2 = true then (if bt118.2.1 < 7 then (some (6, bt118.2.1, bt118.2.2.1)) else (some (bt118.1, bt118.2.1, bt118.2.2.1))) else (if a0 ≥ 167 then (numeric_find.j0 k a0 (decide (a0 ≤ 191))) else (numeric_find.j0 k a0 false))))) = some (r1, r2, r3) := H
   have A30 := A_ A300;clear A300
   by_cases c31 : t116 = true
   ·subst c31
    have H1 : (if t114 < 3 then (some (4, t114, t115)) else (some (t113, t114, t115))) = some (r1, r2, r3) := by rw [if_pos rfl] at H; exact H
    clear H;have H := H1;clear H1
    by_cases c32 : t114 < 3
    ·rw [if_pos c32] at H
     have c32b0 : decide (t114 < 3) = true := decide_eq_true c32
     clear c32
     simp only [Option.some.injEq, Prod.mk.injEq] at H
     obtain ⟨rfl, rfl, rfl⟩ := H
     go_enter Tryz.func25, Tryz.ntmps25
     go_wp2_with (first | ((with_reducible refine gate_dst (N := 2) rfl ?_); refine be_ 2 #[.int .i64 0, .int .i64 0, .int .i64 0] 56 ?_; intro gb102 hg w33 hbox hb; have BK102 := A_ (hbox); have GW102 := A_ (sz_ hg (hb_ HB.out)); have GE102 := A_ (sz_ hg (hb_ HB.out)); replace HB := A_ (below_step (hb_ HB.out) hb); clear hb hbox hg) | ((with_reducible refine gate_callee (f := 59) rfl ?_); refine goesL_ (some 13) rfl rfl Tryz.func59 (by kernel_rfl) rfl #[.int .i64 a0, .int .i64 69, .int .i64 11, .int .i64 2] rfl mp_ ?_; (with_reducible refine (numeric_first.calls k a0 69 11 2 t103 t104 t105 false _ A2.out).mono ?_); rintro e w34 ⟨rfl, hb⟩; refine ⟨_, rfl, ?_⟩; replace BK102 := A_ (bb_ BK102.out hb); replace HB := A_ (below_step (hb1_ HB.out GE102.out) hb); (try clear hb); (try clear hb2); (try clear hk); (try clear hi)) | ((with_reducible refine gate_dst (N := 3) rfl ?_); refine be_ 3 #[.int .i64 0, .int .i64 0, .int .i64 0] 56 ?_; intro gb107 hg w35 hbox hb; have BK107 := A_ (hbox); have GW107 := A_ (sz_ hg (hb1_ HB.out GE102.out)); have GE107 := A_ (sz_ hg (hb1_ HB.out GE102.out)); have NB102_107 := A_ (nl_ hg BK102.out); have NB107_102 := A_ (ng_ hg BK102.out); replace BK102 := A_ (bb_ BK102.out hb); replace HB := A_ (below_step (hb1_ HB.out GE102.out) hb); clear hb hbox hg; have hnb36 := NB107_102.out; have hnc36 := NB102_107.out; have hcz37_0 := bv_ BK107.out 0; have hcz37_1 := bv_ BK107.out 1; have hcz37_2 := bv_ BK107.out 2; have hfz37_0 := blk_frozen BK107.out 0; have hfz37_1 := blk_frozen BK107.out 1; have hfz37_2 := blk_frozen BK107.out 2) | ((with_reducible refine gate_callee (f := 59) rfl ?_); refine goesL_ (some 24) rfl rfl Tryz.func59 (by kernel_rfl) rfl #[.int .i64 a0, .int .i64 91, .int .i64 6, .int .i64 3] rfl mp_ ?_; (with_reducible refine (numeric_first.calls k a0 91 6 3 t108 t109 t110 false _ A17.out).mono ?_); rintro e w38 ⟨rfl, hb⟩; refine ⟨_, rfl, ?_⟩; replace BK102 := A_ (blk_below (g := gb102) (o := .cells #[.int .i64 0, .int .i64 0, .int .i64 0] 56 (0, 0)) (bf3_ BK102.out NB102_107.out NB102_107.out NB102_107.out) hb); replace BK107 := A_ (blk_below (g := gb107) (o := .cells #[.int .i64 t103, .int .i64 t104, .int .i64 t105] 56 (0, 0)) (by (with_reducible repeat (first | refine blk_drewN ?_ _ | refine blk_drew ?_ | refine blk_alloc ?_ _)); refine blk_put (cs := #[.int .i64 t103, .int .i64 t104, .int .i64 0]) ?_ 2 _ rfl; (with_reducible repeat (first | refine blk_drewN ?_ _ | refine blk_drew ?_ | refine blk_alloc ?_ _)); refine blk_put (cs := #[.int .i64 t103, .int .i64 0, .int .i64 0]) ?_ 1 _ rfl; (with_reducible repeat (first | refine blk_drewN ?_ _ | refine blk_drew ?_ | refine blk_alloc ?_ _)); refine blk_put (cs := #[.int .i64 0, .int .i64 0, .int .i64 0]) ?_ 0 _ rfl; (with_reducible repeat (first | refine blk_drewN ?_ _ | refine blk_drew ?_ | refine blk_alloc ?_ _)); exact BK107.out) hb); replace HB := A_ (below_step (hb2_ HB.out GE102.out GE107.out) hb); (try clear hb); (try clear hb2); (try clear hk); (try clear hi)) | ((with_reducible refine gate_dst (N := 5) rfl ?_); refine be_ 5 #[.int .i64 0, .int .i64 0, .int .i64 0] 56 ?_; intro gb112 hg w39 hbox hb; have BK112 := A_ (hbox); have GW112 := A_ (sz_ hg (hb2_ HB.out GE102.out GE107.out)); have GE112 := A_ (sz_ hg (hb2_ HB.out GE102.out GE107.out)); have NB102_112 := A_ (nl_ hg BK102.out); have NB112_102 := A_ (ng_ hg BK102.out); have NB107_112 := A_ (nl_ hg BK107.out); have NB112_107 := A_ (ng_ hg BK107.out); replace BK102 := A_ (bb_ BK102.out hb); replace BK107 := A_ (bb_ BK107.out hb); replace HB := A_ (below_step (hb2_ HB.out GE102.out GE107.out) hb); clear hb hbox hg; have hnb40 := NB112_102.out; have hnc40 := NB102_112.out; have hnb41 := NB112_107.out; have hnc41 := NB107_112.out; have hcz42_0 := bv_ BK112.out 0; have hcz42_1 := bv_ BK112.out 1; have hcz42_2 := bv_ BK112.out 2; have hfz42_0 := blk_frozen BK112.out 0; have hfz42_1 := blk_frozen BK112.out 1; have hfz42_2 := blk_frozen BK112.out 2) | ((with_reducible refine gate_callee (f := 59) rfl ?_); refine goesL_ (some 31) rfl rfl Tryz.func59 (by kernel_rfl) rfl #[.int .i64 a0, .int .i64 103, .int .i64 18, .int .i64 5] rfl mp_ ?_; (with_reducible refine (numeric_first.calls k a0 103 18 5 t113 t114 t115 true _ A30.out).mono ?_); rintro e w43 ⟨rfl, hb⟩; refine ⟨_, rfl, ?_⟩; replace BK102 := A_ (blk_below (g := gb102) (o := .cells #[.int .i64 0, .int .i64 0, .int .i64 0] 56 (0, 0)) (bf3_ BK102.out NB102_112.out NB102_112.out NB102_112.out) hb); replace BK107 := A_ (blk_below (g := gb107) (o := .cells #[.int .i64 t103, .int .i64 t104, .int .i64 t105] 56 (0, 0)) (bf3_ BK107.out NB107_112.out NB107_112.out NB107_112.out) hb); replace BK112 := A_ (blk_below (g := gb112) (o := .cells #[.int .i64 t108, .int .i64 t109, .int .i64 t110] 56 (0, 0)) (by (with_reducible repeat (first | refine blk_drewN ?_ _ | refine blk_drew ?_ | refine blk_alloc ?_ _)); refine blk_put (cs := #[.int .i64 t108, .int .i64 t109, .int .i64 0]) ?_ 2 _ rfl; (with_reducible repeat (first | refine blk_drewN ?_ _ | refine blk_drew ?_ | refine blk_alloc ?_ _)); refine blk_put (cs := #[.int .i64 t108, .int .i64 0, .int .i64 0]) ?_ 1 _ rfl; (with_reducible repeat (first | refine blk_drewN ?_ _ | refine blk_drew ?_ | refine blk_alloc ?_ _)); refine blk_put (cs := #[.int .i64 0, .int .i64 0, .int .i64 0]) ?_ 0 _ rfl; (with_reducible repeat (first | refine blk_drewN ?_ _ | refine blk_drew ?_ | refine blk_alloc ?_ _)); exact BK112.out) hb); replace HB := A_ (below_step (hb3_ HB.out GE102.out GE107.out GE112.out) hb); (try clear hb); (try clear hb2); (try clear hk); (try clear hi)) | ((with_reducible refine gate_dst (N := 7) rfl ?_); refine be_ 7 #[.int .i64 0, .int .i64 0, .int .i64 0] 56 ?_; intro gb117 hg w44 hbox hb; have BK117 := A_ (hbox); have GW117 := A_ (sz_ hg (hb3_ HB.out GE102.out GE107.out GE112.out)); have GE117 := A_ (sz_ hg (hb3_ HB.out GE102.out GE107.out GE112.out)); have NB102_117 := A_ (nl_ hg BK102.out); have NB117_102 := A_ (ng_ hg BK102.out); have NB107_117 := A_ (nl_ hg BK107.out); have NB117_107 := A_ (ng_ hg BK107.out); have NB112_117 := A_ (nl_ hg BK112.out); have NB117_112 := A_ (ng_ hg BK112.out); replace BK102 := A_ (bb_ BK102.out hb); replace BK107 := A_ (bb_ BK107.out hb); replace BK112 := A_ (bb_ BK112.out hb); replace HB := A_ (below_step (hb3_ HB.out GE102.out GE107.out GE112.out) hb); clear hb hbox hg; have hnb45 := NB117_102.out; have hnc45 := NB102_117.out; have hnb46 := NB117_107.out; have hnc46 := NB107_117.out; have hnb47 := NB117_112.out; have hnc47 := NB112_117.out; have hcz48_0 := bv_ BK117.out 0; have hcz48_1 := bv_ BK117.out 1; have hcz48_2 := bv_ BK117.out 2; have hfz48_0 := blk_frozen BK117.out 0; have hfz48_1 := blk_frozen BK117.out 1; have hfz48_2 := blk_frozen BK117.out 2; have hcz49_0 := bv_ BK102.out 0; have hcz49_1 := bv_ BK102.out 1; have hcz49_2 := bv_ BK102.out 2; have hfz49_0 := blk_frozen BK102.out 0; have hfz49_1 := blk_frozen BK102.out 1; have hfz49_2 := blk_frozen BK102.out 2))
     refine bodyPost_ret (results_cell_row rfl _ _ gb102 56 #[.int .i64 4, .int .i64 t114, .int .i64 t115] (0, 0) _ rfl (by (with_reducible repeat (first | refine blk_drewN ?_ _ | refine blk_drew ?_ | refine blk_alloc ?_ _)); refine blk_put (cs := #[.int .i64 4, .int .i64 t114, .int .i64 0]) ?_ 2 _ rfl; (with_reducible repeat (first | refine blk_drewN ?_ _ | refine blk_drew ?_ | refine blk_alloc ?_ _)); refine blk_put (cs := #[.int .i64 4, .int .i64 0, .int .i64 0]) ?_ 1 _ rfl; (with_reducible repeat (first | refine blk_drewN ?_ _ | refine blk_drew ?_ | refine blk_alloc ?_ _)); refine blk_put (cs := #[.int .i64 0, .int .i64 0, .int .i64 0]) ?_ 0 _ rfl; (with_reducible repeat (first | refine blk_drewN ?_ _ | refine blk_drew ?_ | refine blk_alloc ?_ _)); refine blk_far ?_ NB102_117.out _; (with_reducible repeat (first | refine blk_drewN ?_ _ | refine blk_drew ?_ | refine blk_alloc ?_ _)); refine blk_far ?_ NB102_117.out _; (with_reducible repeat (first | refine blk_drewN ?_ _ | refine blk_drew ?_ | refine blk_alloc ?_ _)); refine blk_far ?_ NB102_117.out _; (with_reducible repeat (first | refine blk_drewN ?_ _ | refine blk_drew ?_ | refine blk_alloc ?_ _)); refine blk_far ?_ NB102_117.out _; (with_reducible repeat (first | refine blk_drewN ?_ _ | refine blk_drew ?_ | refine blk_alloc ?_ _)); exact BK102.out) Tryz.underlying56 rfl (by kernel_rfl)) rfl ?_
     exact ⟨er_, hb4_ HB.out GE102.out GE107.out GE112.out GE117.out⟩
    ·rw [if_neg c32] at H
     have c32b0 : decide (t114 < 3) = false := decide_eq_false c32
     clear c32
     simp only [Option.some.injEq, Prod.mk.injEq] at H
     obtain ⟨rfl, rfl, rfl⟩ := H
     go_enter Tryz.func25, Tryz.ntmps25
     go_wp2_with (first | ((with_reducible refine gate_dst (N := 2) rfl ?_); refine be_ 2 #[.int .i64 0, .int .i64 0, .int .i64 0] 56 ?_; intro gb102 hg w50 hbox hb; have BK102 := A_ (hbox); have GW102 := A_ (sz_ hg (hb_ HB.out)); have GE102 := A_ (sz_ hg (hb_ HB.out)); replace HB := A_ (below_step (hb_ HB.out) hb); clear hb hbox hg) | ((with_reducible refine gate_callee (f := 59) rfl ?_); refine goesL_ (some 13) rfl rfl Tryz.func59 (by kernel_rfl) rfl #[.int .i64 a0, .int .i64 69, .int .i64 11, .int .i64 2] rfl mp_ ?_; (with_reducible refine (numeric_first.calls k a0 69 11 2 t103 t104 t105 false _ A2.out).mono ?_); rintro e w51 ⟨rfl, hb⟩; refine ⟨_, rfl, ?_⟩; replace BK102 := A_ (bb_ BK102.out hb); replace HB := A_ (below_step (hb1_ HB.out GE102.out) hb); (try clear hb); (try clear hb2); (try clear hk); (try clear hi)) | ((with_reducible refine gate_dst (N := 3) rfl ?_); refine be_ 3 #[.int .i64 0, .int .i64 0, .int .i64 0] 56 ?_; intro gb107 hg w52 hbox hb; have BK107 := A_ (hbox); have GW107 := A_ (sz_ hg (hb1_ HB.out GE102.out)); have GE107 := A_ (sz_ hg (hb1_ HB.out GE102.out)); have NB102_107 := A_ (nl_ hg BK102.out); have NB107_102 := A_ (ng_ hg BK102.out); replace BK102 := A_ (bb_ BK102.out hb); replace HB := A_ (below_step (hb1_ HB.out GE102.out) hb); clear hb hbox hg; have hnb53 := NB107_102.out; have hnc53 := NB102_107.out; have hcz54_0 := bv_ BK107.out 0; have hcz54_1 := bv_ BK107.out 1; have hcz54_2 := bv_ BK107.out 2; have hfz54_0 := blk_frozen BK107.out 0; have hfz54_1 := blk_frozen BK107.out 1; have hfz54_2 := blk_frozen BK107.out 2) | ((with_reducible refine gate_callee (f := 59) rfl ?_); refine goesL_ (some 24) rfl rfl Tryz.func59 (by kernel_rfl) rfl #[.int .i64 a0, .int .i64 91, .int .i64 6, .int .i64 3] rfl mp_ ?_; (with_reducible refine (numeric_first.calls k a0 91 6 3 t108 t109 t110 false _ A17.out).mono ?_); rintro e w55 ⟨rfl, hb⟩; refine ⟨_, rfl, ?_⟩; replace BK102 := A_ (blk_below (g := gb102) (o := .cells #[.int .i64 0, .int .i64 0, .int .i64 0] 56 (0, 0)) (bf3_ BK102.out NB102_107.out NB102_107.out NB102_107.out) hb); replace BK107 := A_ (blk_below (g := gb107) (o := .cells #[.int .i64 t103, .int .i64 t104, .int .i64 t105] 56 (0, 0)) (by (with_reducible repeat (first | refine blk_drewN ?_ _ | refine blk_drew ?_ | refine blk_alloc ?_ _)); refine blk_put (cs := #[.int .i64 t103, .int .i64 t104, .int .i64 0]) ?_ 2 _ rfl; (with_reducible repeat (first | refine blk_drewN ?_ _ | refine blk_drew ?_ | refine blk_alloc ?_ _)); refine blk_put (cs := #[.int .i64 t103, .int .i64 0, .int .i64 0]) ?_ 1 _ rfl; (with_reducible repeat (first | refine blk_drewN ?_ _ | refine blk_drew ?_ | refine blk_alloc ?_ _)); refine blk_put (cs := #[.int .i64 0, .int .i64 0, .int .i64 0]) ?_ 0 _ rfl; (with_reducible repeat (first | refine blk_drewN ?_ _ | refine blk_drew ?_ | refine blk_alloc ?_ _)); exact BK107.out) hb); replace HB := A_ (below_step (hb2_ HB.out GE102.out GE107.out) hb); (try clear hb); (try clear hb2); (try clear hk); (try clear hi)) | ((with_reducible refine gate_dst (N := 5) rfl ?_); refine be_ 5 #[.int .i64 0, .int .i64 0, .int .i64 0] 56 ?_; intro gb112 hg w56 hbox hb; have BK112 := A_ (hbox); have GW112 := A_ (sz_ hg (hb2_ HB.out GE102.out GE107.out)); have GE112 := A_ (sz_ hg (hb2_ HB.out GE102.out GE107.out)); have NB102_112 := A_ (nl_ hg BK102.out); have NB112_102 := A_ (ng_ hg BK102.out); have NB107_112 := A_ (nl_ hg BK107.out); have NB112_107 := A_ (ng_ hg BK107.out); replace BK102 := A_ (bb_ BK102.out hb); replace BK107 := A_ (bb_ BK107.out hb); replace HB := A_ (below_step (hb2_ HB.out GE102.out GE107.out) hb); clear hb hbox hg; have hnb57 := NB112_102.out; have hnc57 := NB102_112.out; have hnb58 := NB112_107.out; have hnc58 := NB107_112.out; have hcz59_0 := bv_ BK112.out 0; have hcz59_1 := bv_ BK112.out 1; have hcz59_2 := bv_ BK112.out 2; have hfz59_0 := blk_frozen BK112.out 0; have hfz59_1 := blk_frozen BK112.out 1; have hfz59_2 := blk_frozen BK112.out 2) | ((with_reducible refine gate_callee (f := 59) rfl ?_); refine goesL_ (some 31) rfl rfl Tryz.func59 (by kernel_rfl) rfl #[.int .i64 a0, .int .i64 103, .int .i64 18, .int .i64 5] rfl mp_ ?_; (with_reducible refine (numeric_first.calls k a0 103 18 5 t113 t114 t115 true _ A30.out).mono ?_); rintro e w60 ⟨rfl, hb⟩; refine ⟨_, rfl, ?_⟩; replace BK102 := A_ (blk_below (g := gb102) (o := .cells #[.int .i64 0, .int .i64 0, .int .i64 0] 56 (0, 0)) (bf3_ BK102.out NB102_112.out NB102_112.out NB102_112.out) hb); replace BK107 := A_ (blk_below (g := gb107) (o := .cells #[.int .i64 t103, .int .i64 t104, .int .i64 t105] 56 (0, 0)) (bf3_ BK107.out NB107_112.out NB107_112.out NB107_112.out) hb); replace BK112 := A_ (blk_below (g := gb112) (o := .cells #[.int .i64 t108, .int .i64 t109, .int .i64 t110] 56 (0, 0)) (by (with_reducible repeat (first | refine blk_drewN ?_ _ | refine blk_drew ?_ | refine blk_alloc ?_ _)); refine blk_put (cs := #[.int .i64 t108, .int .i64 t109, .int .i64 0]) ?_ 2 _ rfl; (with_reducible repeat (first | refine blk_drewN ?_ _ | refine blk_drew ?_ | refine blk_alloc ?_ _)); refine blk_put (cs := #[.int .i64 t108, .int .i64 0, .int .i64 0]) ?_ 1 _ rfl; (with_reducible repeat (first | refine blk_drewN ?_ _ | refine blk_drew ?_ | refine blk_alloc ?_ _)); refine blk_put (cs := #[.int .i64 0, .int .i64 0, .int .i64 0]) ?_ 0 _ rfl; (with_reducible repeat (first | refine blk_drewN ?_ _ | refine blk_drew ?_ | refine blk_alloc ?_ _)); exact BK112.out) hb); replace HB := A_ (below_step (hb3_ HB.out GE102.out GE107.out GE112.out) hb); (try clear hb); (try clear hb2); (try clear hk); (try clear hi)) | ((with_reducible refine gate_dst (N := 7) rfl ?_); refine be_ 7 #[.int .i64 0, .int .i64 0, .int .i64 0] 56 ?_; intro gb117 hg w61 hbox hb; have BK117 := A_ (hbox); have GW117 := A_ (sz_ hg (hb3_ HB.out GE102.out GE107.out GE112.out)); have GE117 := A_ (sz_ hg (hb3_ HB.out GE102.out GE107.out GE112.out)); have NB102_117 := A_ (nl_ hg BK102.out); have NB117_102 := A_ (ng_ hg BK102.out); have NB107_117 := A_ (nl_ hg BK107.out); have NB117_107 := A_ (ng_ hg BK107.out); have NB112_117 := A_ (nl_ hg BK112.out); have NB117_112 := A_ (ng_ hg BK112.out); replace BK102 := A_ (bb_ BK102.out hb); replace BK107 := A_ (bb_ BK107.out hb); replace BK112 := A_ (bb_ BK112.out hb); replace HB := A_ (below_step (hb3_ HB.out GE102.out GE107.out GE112.out) hb); clear hb hbox hg; have hnb62 := NB117_102.out; have hnc62 := NB102_117.out; have hnb63 := NB117_107.out; have hnc63 := NB107_117.out; have hnb64 := NB117_112.out; have hnc64 := NB112_117.out; have hcz65_0 := bv_ BK117.out 0; have hcz65_1 := bv_ BK117.out 1; have hcz65_2 := bv_ BK117.out 2; have hfz65_0 := blk_frozen BK117.out 0; have hfz65_1 := blk_frozen BK117.out 1; have hfz65_2 := blk_frozen BK117.out 2; have hcz66_0 := bv_ BK102.out 0; have hcz66_1 := bv_ BK102.out 1; have hcz66_2 := bv_ BK102.out 2; have hfz66_0 := blk_frozen BK102.out 0; have hfz66_1 := blk_frozen BK102.out 1; have hfz66_2 := blk_frozen BK102.out 2))
     refine bodyPost_ret (results_cell_row rfl _ _ gb102 56 #[.int .i64 t113, .int .i64 t114, .int .i64 t115] (0, 0) _ rfl (by (with_reducible repeat (first | refine blk_drewN ?_ _ | refine blk_drew ?_ | refine blk_alloc ?_ _)); refine blk_put (cs := #[.int .i64 t113, .int .i64 t114, .int .i64 0]) ?_ 2 _ rfl; (with_reducible repeat (first | refine blk_drewN ?_ _ | refine blk_drew ?_ | refine blk_alloc ?_ _)); refine blk_put (cs := #[.int .i64 t113, .int .i64 0, .int .i64 0]) ?_ 1 _ rfl; (with_reducible repeat (first | refine blk_drewN ?_ _ | refine blk_drew ?_ | refine blk_alloc ?_ _)); refine blk_put (cs := #[.int .i64 0, .int .i64 0, .int .i64 0]) ?_ 0 _ rfl; (with_reducible repeat (first | refine blk_drewN ?_ _ | refine blk_drew ?_ | refine blk_alloc ?_ _)); refine blk_far ?_ NB102_117.out _; (with_reducible repeat (first | refine blk_drewN ?_ _ | refine blk_drew ?_ | refine blk_alloc ?_ _)); refine blk_far ?_ NB102_117.out _; (with_reducible repeat (first | refine blk_drewN ?_ _ | refine blk_drew ?_ | refine blk_alloc ?_ _)); refine blk_far ?_ NB102_117.out _; (with_reducible repeat (first | refine blk_drewN ?_ _ | refine blk_drew ?_ | refine blk_alloc ?_ _)); exact BK102.out) Tryz.underlying56 rfl (by kernel_rfl)) rfl ?_
     exact ⟨er_, hb4_ HB.out GE102.out GE107.out GE112.out GE117.out⟩
   ·replace c31 := Bool.eq_false_iff.mpr c31
    subst c31
    have H1 : ((numeric_first.f k a0 139 14 7).bind fun bt118 => (if bt118.2.2.2 = true then (if bt118.2.1 < 7 then (some (6, bt118.2.1, bt118.2.2.1)) else (some (bt118.1, bt118.2.1, bt118.2.2.1))) else (if a0 ≥ 167 then (numeric_find.j0 k a0 (decide (a0 ≤ 191))) else (numeric_find.j0 k a0 false)))) = some (r1, r2, r3) := by rw [if_neg (show ¬ (false = true) by decide)] at H; exact H
    clear H;have H := H1;clear H1
    replace H := ob_ H
    obtain ⟨⟨t118, t119, t120, t121⟩, A670, H⟩ := H
    replace H : (if t121 = true then (if t119 < 7 then (some (6, t119, t120)) else (some (t118, t119, t120))) else (if a0 ≥ 167 then (numeric_find.j0 k a0 (decide (a0 ≤ 191))) else (numeric_find.j0 k a0 false))) = some (r1, r2, r3) := H
    have A67 := A_ A670;clear A670
    by_cases c68 : t121 = true
    ·subst c68
     have H1 : (if t119 < 7 then (some (6, t119, t120)) else (some (t118, t119, t120))) = some (r1, r2, r3) := by rw [if_pos rfl] at H; exact H
     clear H;have H := H1;clear H1
     by_cases c69 : t119 < 7
     ·rw [if_pos c69] at H
      have c69b0 : decide (t119 < 7) = true := decide_eq_true c69
      clear c69
      simp only [Option.some.injEq, Prod.mk.injEq] at H
      obtain ⟨rfl, rfl, rfl⟩ := H
      go_enter Tryz.func25, Tryz.ntmps25
      go_wp2_with (first | ((with_reducible refine gate_dst (N := 2) rfl ?_); refine be_ 2 #[.int .i64 0, .int .i64 0, .int .i64 0] 56 ?_; intro gb102 hg w70 hbox hb; have BK102 := A_ (hbox); have GW102 := A_ (sz_ hg (hb_ HB.out)); have GE102 := A_ (sz_ hg (hb_ HB.out)); replace HB := A_ (below_step (hb_ HB.out) hb); clear hb hbox hg) | ((with_reducible refine gate_callee (f := 59) rfl ?_); refine goesL_ (some 13) rfl rfl Tryz.func59 (by kernel_rfl) rfl #[.int .i64 a0, .int .i64 69, .int .i64 11, .int .i64 2] rfl mp_ ?_; (with_reducible refine (numeric_first.calls k a0 69 11 2 t103 t104 t105 false _ A2.out).mono ?_); rintro e w71 ⟨rfl, hb⟩; refine ⟨_, rfl, ?_⟩; replace BK102 := A_ (bb_ BK102.out hb); replace HB := A_ (below_step (hb1_ HB.out GE102.out) hb); (try clear hb); (try clear hb2); (try clear hk); (try clear hi)) | ((with_reducible refine gate_dst (N := 3) rfl ?_); refine be_ 3 #[.int .i64 0, .int .i64 0, .int .i64 0] 56 ?_; intro gb107 hg w72 hbox hb; have BK107 := A_ (hbox); have GW107 := A_ (sz_ hg (hb1_ HB.out GE102.out)); have GE107 := A_ (sz_ hg (hb1_ HB.out GE102.out)); have NB102_107 := A_ (nl_ hg BK102.out); have NB107_102 := A_ (ng_ hg BK102.out); replace BK102 := A_ (bb_ BK102.out hb); replace HB := A_ (below_step (hb1_ HB.out GE102.out) hb); clear hb hbox hg; have hnb73 := NB107_102.out; have hnc73 := NB102_107.out; have hcz74_0 := bv_ BK107.out 0; have hcz74_1 := bv_ BK107.out 1; have hcz74_2 := bv_ BK107.out 2; have hfz74_0 := blk_frozen BK107.out 0; have hfz74_1 := blk_frozen BK107.out 1; have hfz74_2 := blk_frozen BK107.out 2) | ((with_reducible refine gate_callee (f := 59) rfl ?_); refine goesL_ (some 24) rfl rfl Tryz.func59 (by kernel_rfl) rfl #[.int .i64 a0, .int .i64 91, .int .i64 6, .int .i64 3] rfl mp_ ?_; (with_reducible refine (numeric_first.calls k a0 91 6 3 t108 t109 t110 false _ A17.out).mono ?_); rintro e w75 ⟨rfl, hb⟩; refine ⟨_, rfl, ?_⟩; replace BK102 := A_ (blk_below (g := gb102) (o := .cells #[.int .i64 0, .int .i64 0, .int .i64 0] 56 (0, 0)) (bf3_ BK102.out NB102_107.out NB102_107.out NB102_107.out) hb); replace BK107 := A_ (blk_below (g := gb107) (o := .cells #[.int .i64 t103, .int .i64 t104, .int .i64 t105] 56 (0, 0)) (by (with_reducible repeat (first | refine blk_drewN ?_ _ | refine blk_drew ?_ | refine blk_alloc ?_ _)); refine blk_put (cs := #[.int .i64 t103, .int .i64 t104, .int .i64 0]) ?_ 2 _ rfl; (with_reducible repeat (first | refine blk_drewN ?_ _ | refine blk_drew ?_ | refine blk_alloc ?_ _)); refine blk_put (cs := #[.int .i64 t103, .int .i64 0, .int .i64 0]) ?_ 1 _ rfl; (with_reducible repeat (first | refine blk_drewN ?_ _ | refine blk_drew ?_ | refine blk_alloc ?_ _)); refine blk_put (cs := #[.int .i64 0, .int .i64 0, .int .i64 0]) ?_ 0 _ rfl; (with_reducible repeat (first | refine blk_drewN ?_ _ | refine blk_drew ?_ | refine blk_alloc ?_ _)); exact BK107.out) hb); replace HB := A_ (below_step (hb2_ HB.out GE102.out GE107.out) hb); (try clear hb); (try clear hb2); (try clear hk); (try clear hi)) | ((with_reducible refine gate_dst (N := 5) rfl ?_); refine be_ 5 #[.int .i64 0, .int .i64 0, .int .i64 0] 56 ?_; intro gb112 hg w76 hbox hb; have BK112 := A_ (hbox); have GW112 := A_ (sz_ hg (hb2_ HB.out GE102.out GE107.out)); have GE112 := A_ (sz_ hg (hb2_ HB.out GE102.out GE107.out)); have NB102_112 := A_ (nl_ hg BK102.out); have NB112_102 := A_ (ng_ hg BK102.out); have NB107_112 := A_ (nl_ hg BK107.out); have NB112_107 := A_ (ng_ hg BK107.out); replace BK102 := A_ (bb_ BK102.out hb); replace BK107 := A_ (bb_ BK107.out hb); replace HB := A_ (below_step (hb2_ HB.out GE102.out GE107.out) hb); clear hb hbox hg; have hnb77 := NB112_102.out; have hnc77 := NB102_112.out; have hnb78 := NB112_107.out; have hnc78 := NB107_112.out; have hcz79_0 := bv_ BK112.out 0; have hcz79_1 := bv_ BK112.out 1; have hcz79_2 := bv_ BK112.out 2; have hfz79_0 := blk_frozen BK112.out 0; have hfz79_1 := blk_frozen BK112.out 1; have hfz79_2 := blk_frozen BK112.out 2) | ((with_reducible refine gate_callee (f := 59) rfl ?_); refine goesL_ (some 31) rfl rfl Tryz.func59 (by kernel_rfl) rfl #[.int .i64 a0, .int .i64 103, .int .i64 18, .int .i64 5] rfl mp_ ?_; (with_reducible refine (numeric_first.calls k a0 103 18 5 t113 t114 t115 false _ A30.out).mono ?_); rintro e w80 ⟨rfl, hb⟩; refine ⟨_, rfl, ?_⟩; replace BK102 := A_ (blk_below (g := gb102) (o := .cells #[.int .i64 0, .int .i64 0, .int .i64 0] 56 (0, 0)) (bf3_ BK102.out NB102_112.out NB102_112.out NB102_112.out) hb); replace BK107 := A_ (blk_below (g := gb107) (o := .cells #[.int .i64 t103, .int .i64 t104, .int .i64 t105] 56 (0, 0)) (bf3_ BK107.out NB107_112.out NB107_112.out NB107_112.out) hb); replace BK112 := A_ (blk_below (g := gb112) (o := .cells #[.int .i64 t108, .int .i64 t109, .int .i64 t110] 56 (0, 0)) (by (with_reducible repeat (first | refine blk_drewN ?_ _ | refine blk_drew ?_ | refine blk_alloc ?_ _)); refine blk_put (cs := #[.int .i64 t108, .int .i64 t109, .int .i64 0]) ?_ 2 _ rfl; (with_reducible repeat (first | refine blk_drewN ?_ _ | refine blk_drew ?_ | refine blk_alloc ?_ _)); refine blk_put (cs := #[.int .i64 t108, .int .i64 0, .int .i64 0]) ?_ 1 _ rfl; (with_reducible repeat (first | refine blk_drewN ?_ _ | refine blk_drew ?_ | refine blk_alloc ?_ _)); refine blk_put (cs := #[.int .i64 0, .int .i64 0, .int .i64 0]) ?_ 0 _ rfl; (with_reducible repeat (first | refine blk_drewN ?_ _ | refine blk_drew ?_ | refine blk_alloc ?_ _)); exact BK112.out) hb); replace HB := A_ (below_step (hb3_ HB.out GE102.out GE107.out GE112.out) hb); (try clear hb); (try clear hb2); (try clear hk); (try clear hi)) | ((with_reducible refine gate_dst (N := 7) rfl ?_); refine be_ 7 #[.int .i64 0, .int .i64 0, .int .i64 0] 56 ?_; intro gb117 hg w81 hbox hb; have BK117 := A_ (hbox); have GW117 := A_ (sz_ hg (hb3_ HB.out GE102.out GE107.out GE112.out)); have GE117 := A_ (sz_ hg (hb3_ HB.out GE102.out GE107.out GE112.out)); have NB102_117 := A_ (nl_ hg BK102.out); have NB117_102 := A_ (ng_ hg BK102.out); have NB107_117 := A_ (nl_ hg BK107.out); have NB117_107 := A_ (ng_ hg BK107.out); have NB112_117 := A_ (nl_ hg BK112.out); have NB117_112 := A_ (ng_ hg BK112.out); replace BK102 := A_ (bb_ BK102.out hb); replace BK107 := A_ (bb_ BK107.out hb); replace BK112 := A_ (bb_ BK112.out hb); replace HB := A_ (below_step (hb3_ HB.out GE102.out GE107.out GE112.out) hb); clear hb hbox hg; have hnb82 := NB117_102.out; have hnc82 := NB102_117.out; have hnb83 := NB117_107.out; have hnc83 := NB107_117.out; have hnb84 := NB117_112.out; have hnc84 := NB112_117.out; have hcz85_0 := bv_ BK117.out 0; have hcz85_1 := bv_ BK117.out 1; have hcz85_2 := bv_ BK117.out 2; have hfz85_0 := blk_frozen BK117.out 0; have hfz85_1 := blk_frozen BK117.out 1; have hfz85_2 := blk_frozen BK117.out 2) | ((with_reducible refine gate_callee (f := 59) rfl ?_); refine goesL_ (some 42) rfl rfl Tryz.func59 (by kernel_rfl) rfl #[.int .i64 a0, .int .i64 139, .int .i64 14, .int .i64 7] rfl mp_ ?_; (with_reducible refine (numeric_first.calls k a0 139 14 7 t118 t119 t120 true _ A67.out).mono ?_); rintro e w86 ⟨rfl, hb⟩; refine ⟨_, rfl, ?_⟩; replace BK102 := A_ (blk_below (g := gb102) (o := .cells #[.int .i64 0, .int .i64 0, .int .i64 0] 56 (0, 0)) (bf3_ BK102.out NB102_117.out NB102_117.out NB102_117.out) hb); replace BK107 := A_ (blk_below (g := gb107) (o := .cells #[.int .i64 t103, .int .i64 t104, .int .i64 t105] 56 (0, 0)) (bf3_ BK107.out NB107_117.out NB107_117.out NB107_117.out) hb); replace BK112 := A_ (blk_below (g := gb112) (o := .cells #[.int .i64 t108, .int .i64 t109, .int .i64 t110] 56 (0, 0)) (bf3_ BK112.out NB112_117.out NB112_117.out NB112_117.out) hb); replace BK117 := A_ (blk_below (g := gb117) (o := .cells #[.int .i64 t113, .int .i64 t114, .int .i64 t115] 56 (0, 0)) (by (with_reducible repeat (first | refine blk_drewN ?_ _ | refine blk_drew ?_ | refine blk_alloc ?_ _)); refine blk_put (cs := #[.int .i64 t113, .int .i64 t114, .int .i64 0]) ?_ 2 _ rfl; (with_reducible repeat (first | refine blk_drewN ?_ _ | refine blk_drew ?_ | refine blk_alloc ?_ _)); refine blk_put (cs := #[.int .i64 t113, .int .i64 0, .int .i64 0]) ?_ 1 _ rfl; (with_reducible repeat (first | refine blk_drewN ?_ _ | refine blk_drew ?_ | refine blk_alloc ?_ _)); refine blk_put (cs := #[.int .i64 0, .int .i64 0, .int .i64 0]) ?_ 0 _ rfl; (with_reducible repeat (first | refine blk_drewN ?_ _ | refine blk_drew ?_ | refine blk_alloc ?_ _)); exact BK117.out) hb); replace HB := A_ (below_step (hb4_ HB.out GE102.out GE107.out GE112.out GE117.out) hb); (try clear hb); (try clear hb2); (try clear hk); (try clear hi)) | ((with_reducible refine gate_dst (N := 9) rfl ?_); refine be_ 9 #[.int .i64 0, .int .i64 0, .int .i64 0] 56 ?_; intro gb122 hg w87 hbox hb; have BK122 := A_ (hbox); have GW122 := A_ (sz_ hg (hb4_ HB.out GE102.out GE107.out GE112.out GE117.out)); have GE122 := A_ (sz_ hg (hb4_ HB.out GE102.out GE107.out GE112.out GE117.out)); have NB102_122 := A_ (nl_ hg BK102.out); have NB122_102 := A_ (ng_ hg BK102.out); have NB107_122 := A_ (nl_ hg BK107.out); have NB122_107 := A_ (ng_ hg BK107.out); have NB112_122 := A_ (nl_ hg BK112.out); have NB122_112 := A_ (ng_ hg BK112.out); have NB117_122 := A_ (nl_ hg BK117.out); have NB122_117 := A_ (ng_ hg BK117.out); replace BK102 := A_ (bb_ BK102.out hb); replace BK107 := A_ (bb_ BK107.out hb); replace BK112 := A_ (bb_ BK112.out hb); replace BK117 := A_ (bb_ BK117.out hb); replace HB := A_ (below_step (hb4_ HB.out GE102.out GE107.out GE112.out GE117.out) hb); clear hb hbox hg; have hnb88 := NB122_102.out; have hnc88 := NB102_122.out; have hnb89 := NB122_107.out; have hnc89 := NB107_122.out; have hnb90 := NB122_112.out; have hnc90 := NB112_122.out; have hnb91 := NB122_117.out; have hnc91 := NB117_122.out; have hcz92_0 := bv_ BK122.out 0; have hcz92_1 := bv_ BK122.out 1; have hcz92_2 := bv_ BK122.out 2; have hfz92_0 := blk_frozen BK122.out 0; have hfz92_1 := blk_frozen BK122.out 1; have hfz92_2 := blk_frozen BK122.out 2; have hcz93_0 := bv_ BK102.out 0; have hcz93_1 := bv_ BK102.out 1; have hcz93_2 := bv_ BK102.out 2; have hfz93_0 := blk_frozen BK102.out 0; have hfz93_1 := blk_frozen BK102.out 1; have hfz93_2 := blk_frozen BK102.out 2))
      refine bodyPost_ret (results_cell_row rfl _ _ gb102 56 #[.int .i64 6, .int .i64 t119, .int .i64 t120] (0, 0) _ rfl (by (with_reducible repeat (first | refine blk_drewN ?_ _ | refine blk_drew ?_ | refine blk_alloc ?_ _)); refine blk_put (cs := #[.int .i64 6, .int .i64 t119, .int .i64 0]) ?_ 2 _ rfl; (with_reducible repeat (first | refine blk_drewN ?_ _ | refine blk_drew ?_ | refine blk_alloc ?_ _)); refine blk_put (cs := #[.int .i64 6, .int .i64 0, .int .i64 0]) ?_ 1 _ rfl; (with_reducible repeat (first | refine blk_drewN ?_ _ | refine blk_drew ?_ | refine blk_alloc ?_ _)); refine blk_put (cs := #[.int .i64 0, .int .i64 0, .int .i64 0]) ?_ 0 _ rfl; (with_reducible repeat (first | refine blk_drewN ?_ _ | refine blk_drew ?_ | refine blk_alloc ?_ _)); refine blk_far ?_ NB102_122.out _; (with_reducible repeat (first | refine blk_drewN ?_ _ | refine blk_drew ?_ | refine blk_alloc ?_ _)); refine blk_far ?_ NB102_122.out _; (with_reducible repeat (first | refine blk_drewN ?_ _ | refine blk_drew ?_ | refine blk_alloc ?_ _)); refine blk_far ?_ NB102_122.out _; (with_reducible repeat (first | refine blk_drewN ?_ _ | refine blk_drew ?_ | refine blk_alloc ?_ _)); refine blk_far ?_ NB102_122.out _; (with_reducible repeat (first | refine blk_drewN ?_ _ | refine blk_drew ?_ | refine blk_alloc ?_ _)); exact BK102.out) Tryz.underlying56 rfl (by kernel_rfl)) rfl ?_
      exact ⟨er_, by repeat (first | (with_reducible first | exact HB.out | apply below_alloc | apply pw_below_drewN | apply below_drew1 | refine below_set ?_ GE102.out | refine below_set ?_ GE107.out | refine below_set ?_ GE112.out | refine below_set ?_ GE117.out | refine below_set ?_ GE122.out) | exact HB.out)⟩
     ·rw [if_neg c69] at H
      have c69b0 : decide (t119 < 7) = false := decide_eq_false c69
      clear c69
      simp only [Option.some.injEq, Prod.mk.injEq] at H
      obtain ⟨rfl, rfl, rfl⟩ := H
      go_enter Tryz.func25, Tryz.ntmps25
      go_wp2_with (first | ((with_reducible refine gate_dst (N := 2) rfl ?_); refine be_ 2 #[.int .i64 0, .int .i64 0, .int .i64 0] 56 ?_; intro gb102 hg w94 hbox hb; have BK102 := A_ (hbox); have GW102 := A_ (sz_ hg (hb_ HB.out)); have GE102 := A_ (sz_ hg (hb_ HB.out)); replace HB := A_ (below_step (hb_ HB.out) hb); clear hb hbox hg) | ((with_reducible refine gate_callee (f := 59) rfl ?_); refine goesL_ (some 13) rfl rfl Tryz.func59 (by kernel_rfl) rfl #[.int .i64 a0, .int .i64 69, .int .i64 11, .int .i64 2] rfl mp_ ?_; (with_reducible refine (numeric_first.calls k a0 69 11 2 t103 t104 t105 false _ A2.out).mono ?_); rintro e w95 ⟨rfl, hb⟩; refine ⟨_, rfl, ?_⟩; replace BK102 := A_ (bb_ BK102.out hb); replace HB := A_ (below_step (hb1_ HB.out GE102.out) hb); (try clear hb); (try clear hb2); (try clear hk); (try clear hi)) | ((with_reducible refine gate_dst (N := 3) rfl ?_); refine be_ 3 #[.int .i64 0, .int .i64 0, .int .i64 0] 56 ?_; intro gb107 hg w96 hbox hb; have BK107 := A_ (hbox); have GW107 := A_ (sz_ hg (hb1_ HB.out GE102.out)); have GE107 := A_ (sz_ hg (hb1_ HB.out GE102.out)); have NB102_107 := A_ (nl_ hg BK102.out); have NB107_102 := A_ (ng_ hg BK102.out); replace BK102 := A_ (bb_ BK102.out hb); replace HB := A_ (below_step (hb1_ HB.out GE102.out) hb); clear hb hbox hg; have hnb97 := NB107_102.out; have hnc97 := NB102_107.out; have hcz98_0 := bv_ BK107.out 0; have hcz98_1 := bv_ BK107.out 1; have hcz98_2 := bv_ BK107.out 2; have hfz98_0 := blk_frozen BK107.out 0; have hfz98_1 := blk_frozen BK107.out 1; have hfz98_2 := blk_frozen BK107.out 2) | ((with_reducible refine gate_callee (f := 59) rfl ?_); refine goesL_ (some 24) rfl rfl Tryz.func59 (by kernel_rfl) rfl #[.int .i64 a0, .int .i64 91, .int .i64 6, .int .i64 3] rfl mp_ ?_; (with_reducible refine (numeric_first.calls k a0 91 6 3 t108 t109 t110 false _ A17.out).mono ?_); rintro e w99 ⟨rfl, hb⟩; refine ⟨_, rfl, ?_⟩; replace BK102 := A_ (blk_below (g := gb102) (o := .cells #[.int .i64 0, .int .i64 0, .int .i64 0] 56 (0, 0)) (bf3_ BK102.out NB102_107.out NB102_107.out NB102_107.out) hb); replace BK107 := A_ (blk_below (g := gb107) (o := .cells #[.int .i64 t103, .int .i64 t104, .int .i64 t105] 56 (0, 0)) (by (with_reducible repeat (first | refine blk_drewN ?_ _ | refine blk_drew ?_ | refine blk_alloc ?_ _)); refine blk_put (cs := #[.int .i64 t103, .int .i64 t104, .int .i64 0]) ?_ 2 _ rfl; (with_reducible repeat (first | refine blk_drewN ?_ _ | refine blk_drew ?_ | refine blk_alloc ?_ _)); refine blk_put (cs := #[.int .i64 t103, .int .i64 0, .int .i64 0]) ?_ 1 _ rfl; (with_reducible repeat (first | refine blk_drewN ?_ _ | refine blk_drew ?_ | refine blk_alloc ?_ _)); refine blk_put (cs := #[.int .i64 0, .int .i64 0, .int .i64 0]) ?_ 0 _ rfl; (with_reducible repeat (first | refine blk_drewN ?_ _ | refine blk_drew ?_ | refine blk_alloc ?_ _)); exact BK107.out) hb); replace HB := A_ (below_step (hb2_ HB.out GE102.out GE107.out) hb); (try clear hb); (try clear hb2); (try clear hk); (try clear hi)) | ((with_reducible refine gate_dst (N := 5) rfl ?_); refine be_ 5 #[.int .i64 0, .int .i64 0, .int .i64 0] 56 ?_; intro gb112 hg w100 hbox hb; have BK112 := A_ (hbox); have GW112 := A_ (sz_ hg (hb2_ HB.out GE102.out GE107.out)); have GE112 := A_ (sz_ hg (hb2_ HB.out GE102.out GE107.out)); have NB102_112 := A_ (nl_ hg BK102.out); have NB112_102 := A_ (ng_ hg BK102.out); have NB107_112 := A_ (nl_ hg BK107.out); have NB112_107 := A_ (ng_ hg BK107.out); replace BK102 := A_ (bb_ BK102.out hb); replace BK107 := A_ (bb_ BK107.out hb); replace HB := A_ (below_step (hb2_ HB.out GE102.out GE107.out) hb); clear hb hbox hg; have hnb101 := NB112_102.out; have hnc101 := NB102_112.out; have hnb102 := NB112_107.out; have hnc102 := NB107_112.out; have hcz103_0 := bv_ BK112.out 0; have hcz103_1 := bv_ BK112.out 1; have hcz103_2 := bv_ BK112.out 2; have hfz103_0 := blk_frozen BK112.out 0; have hfz103_1 := blk_frozen BK112.out 1; have hfz103_2 := blk_frozen BK112.out 2) | ((with_reducible refine gate_callee (f := 59) rfl ?_); refine goesL_ (some 31) rfl rfl Tryz.func59 (by kernel_rfl) rfl #[.int .i64 a0, .int .i64 103, .int .i64 18, .int .i64 5] rfl mp_ ?_; (with_reducible refine (numeric_first.calls k a0 103 18 5 t113 t114 t115 false _ A30.out).mono ?_); rintro e w104 ⟨rfl, hb⟩; refine ⟨_, rfl, ?_⟩; replace BK102 := A_ (blk_below (g := gb102) (o := .cells #[.int .i64 0, .int .i64 0, .int .i64 0] 56 (0, 0)) (bf3_ BK102.out NB102_112.out NB102_112.out NB102_112.out) hb); replace BK107 := A_ (blk_below (g := gb107) (o := .cells #[.int .i64 t103, .int .i64 t104, .int .i64 t105] 56 (0, 0)) (bf3_ BK107.out NB107_112.out NB107_112.out NB107_112.out) hb); replace BK112 := A_ (blk_below (g := gb112) (o := .cells #[.int .i64 t108, .int .i64 t109, .int .i64 t110] 56 (0, 0)) (by (with_reducible repeat (first | refine blk_drewN ?_ _ | refine blk_drew ?_ | refine blk_alloc ?_ _)); refine blk_put (cs := #[.int .i64 t108, .int .i64 t109, .int .i64 0]) ?_ 2 _ rfl; (with_reducible repeat (first | refine blk_drewN ?_ _ | refine blk_drew ?_ | refine blk_alloc ?_ _)); refine blk_put (cs := #[.int .i64 t108, .int .i64 0, .int .i64 0]) ?_ 1 _ rfl; (with_reducible repeat (first | refine blk_drewN ?_ _ | refine blk_drew ?_ | refine blk_alloc ?_ _)); refine blk_put (cs := #[.int .i64 0, .int .i64 0, .int .i64 0]) ?_ 0 _ rfl; (with_reducible repeat (first | refine blk_drewN ?_ _ | refine blk_drew ?_ | refine blk_alloc ?_ _)); exact BK112.out) hb); replace HB := A_ (below_step (hb3_ HB.out GE102.out GE107.out GE112.out) hb); (try clear hb); (try clear hb2); (try clear hk); (try clear hi)) | ((with_reducible refine gate_dst (N := 7) rfl ?_); refine be_ 7 #[.int .i64 0, .int .i64 0, .int .i64 0] 56 ?_; intro gb117 hg w105 hbox hb; have BK117 := A_ (hbox); have GW117 := A_ (sz_ hg (hb3_ HB.out GE102.out GE107.out GE112.out)); have GE117 := A_ (sz_ hg (hb3_ HB.out GE102.out GE107.out GE112.out)); have NB102_117 := A_ (nl_ hg BK102.out); have NB117_102 := A_ (ng_ hg BK102.out); have NB107_117 := A_ (nl_ hg BK107.out); have NB117_107 := A_ (ng_ hg BK107.out); have NB112_117 := A_ (nl_ hg BK112.out); have NB117_112 := A_ (ng_ hg BK112.out); replace BK102 := A_ (bb_ BK102.out hb); replace BK107 := A_ (bb_ BK107.out hb); replace BK112 := A_ (bb_ BK112.out hb); replace HB := A_ (below_step (hb3_ HB.out GE102.out GE107.out GE112.out) hb); clear hb hbox hg; have hnb106 := NB117_102.out; have hnc106 := NB102_117.out; have hnb107 := NB117_107.out; have hnc107 := NB107_117.out; have hnb108 := NB117_112.out; have hnc108 := NB112_117.out; have hcz109_0 := bv_ BK117.out 0; have hcz109_1 := bv_ BK117.out 1; have hcz109_2 := bv_ BK117.out 2; have hfz109_0 := blk_frozen BK117.out 0; have hfz109_1 := blk_frozen BK117.out 1; have hfz109_2 := blk_frozen BK117.out 2) | ((with_reducible refine gate_callee (f := 59) rfl ?_); refine goesL_ (some 42) rfl rfl Tryz.func59 (by kernel_rfl) rfl #[.int .i64 a0, .int .i64 139, .int .i64 14, .int .i64 7] rfl mp_ ?_; (with_reducible refine (numeric_first.calls k a0 139 14 7 t118 t119 t120 true _ A67.out).mono ?_); rintro e w110 ⟨rfl, hb⟩; refine ⟨_, rfl, ?_⟩; replace BK102 := A_ (blk_below (g := gb102) (o := .cells #[.int .i64 0, .int .i64 0, .int .i64 0] 56 (0, 0)) (bf3_ BK102.out NB102_117.out NB102_117.out NB102_117.out) hb); replace BK107 := A_ (blk_below (g := gb107) (o := .cells #[.int .i64 t103, .int .i64 t104, .int .i64 t105] 56 (0, 0)) (bf3_ BK107.out NB107_117.out NB107_117.out NB107_117.out) hb); replace BK112 := A_ (blk_below (g := gb112) (o := .cells #[.int .i64 t108, .int .i64 t109, .int .i64 t110] 56 (0, 0)) (bf3_ BK112.out NB112_117.out NB112_117.out NB112_117.out) hb); replace BK117 := A_ (blk_below (g := gb117) (o := .cells #[.int .i64 t113, .int .i64 t114, .int .i64 t115] 56 (0, 0)) (by (with_reducible repeat (first | refine blk_drewN ?_ _ | refine blk_drew ?_ | refine blk_alloc ?_ _)); refine blk_put (cs := #[.int .i64 t113, .int .i64 t114, .int .i64 0]) ?_ 2 _ rfl; (with_reducible repeat (first | refine blk_drewN ?_ _ | refine blk_drew ?_ | refine blk_alloc ?_ _)); refine blk_put (cs := #[.int .i64 t113, .int .i64 0, .int .i64 0]) ?_ 1 _ rfl; (with_reducible repeat (first | refine blk_drewN ?_ _ | refine blk_drew ?_ | refine blk_alloc ?_ _)); refine blk_put (cs := #[.int .i64 0, .int .i64 0, .int .i64 0]) ?_ 0 _ rfl; (with_reducible repeat (first | refine blk_drewN ?_ _ | refine blk_drew ?_ | refine blk_alloc ?_ _)); exact BK117.out) hb); replace HB := A_ (below_step (hb4_ HB.out GE102.out GE107.out GE112.out GE117.out) hb); (try clear hb); (try clear hb2); (try clear hk); (try clear hi)) | ((with_reducible refine gate_dst (N := 9) rfl ?_); refine be_ 9 #[.int .i64 0, .int .i64 0, .int .i64 0] 56 ?_; intro gb122 hg w111 hbox hb; have BK122 := A_ (hbox); have GW122 := A_ (sz_ hg (hb4_ HB.out GE102.out GE107.out GE112.out GE117.out)); have GE122 := A_ (sz_ hg (hb4_ HB.out GE102.out GE107.out GE112.out GE117.out)); have NB102_122 := A_ (nl_ hg BK102.out); have NB122_102 := A_ (ng_ hg BK102.out); have NB107_122 := A_ (nl_ hg BK107.out); have NB122_107 := A_ (ng_ hg BK107.out); have NB112_122 := A_ (nl_ hg BK112.out); have NB122_112 := A_ (ng_ hg BK112.out); have NB117_122 := A_ (nl_ hg BK117.out); have NB122_117 := A_ (ng_ hg BK117.out); replace BK102 := A_ (bb_ BK102.out hb); replace BK107 := A_ (bb_ BK107.out hb); replace BK112 := A_ (bb_ BK112.out hb); replace BK117 := A_ (bb_ BK117.out hb); replace HB := A_ (below_step (hb4_ HB.out GE102.out GE107.out GE112.out GE117.out) hb); clear hb hbox hg; have hnb112 := NB122_102.out; have hnc112 := NB102_122.out; have hnb113 := NB122_107.out; have hnc113 := NB107_122.out; have hnb114 := NB122_112.out; have hnc114 := NB112_122.out; have hnb115 := NB122_117.out; have hnc115 := NB117_122.out; have hcz116_0 := bv_ BK122.out 0; have hcz116_1 := bv_ BK122.out 1; have hcz116_2 := bv_ BK122.out 2; have hfz116_0 := blk_frozen BK122.out 0; have hfz116_1 := blk_frozen BK122.out 1; have hfz116_2 := blk_frozen BK122.out 2; have hcz117_0 := bv_ BK102.out 0; have hcz117_1 := bv_ BK102.out 1; have hcz117_2 := bv_ BK102.out 2; have hfz117_0 := blk_frozen BK102.out 0; have hfz117_1 := blk_frozen BK102.out 1; have hfz117_2 := blk_frozen BK102.out 2))
      refine bodyPost_ret (results_cell_row rfl _ _ gb102 56 #[.int .i64 t118, .int .i64 t119, .int .i64 t120] (0, 0) _ rfl (by (with_reducible repeat (first | refine blk_drewN ?_ _ | refine blk_drew ?_ | refine blk_alloc ?_ _)); refine blk_put (cs := #[.int .i64 t118, .int .i64 t119, .int .i64 0]) ?_ 2 _ rfl; (with_reducible repeat (first | refine blk_drewN ?_ _ | refine blk_drew ?_ | refine blk_alloc ?_ _)); refine blk_put (cs := #[.int .i64 t118, .int .i64 0, .int .i64 0]) ?_ 1 _ rfl; (with_reducible repeat (first | refine blk_drewN ?_ _ | refine blk_drew ?_ | refine blk_alloc ?_ _)); refine blk_put (cs := #[.int .i64 0, .int .i64 0, .int .i64 0]) ?_ 0 _ rfl; (with_reducible repeat (first | refine blk_drewN ?_ _ | refine blk_drew ?_ | refine blk_alloc ?_ _)); refine blk_far ?_ NB102_122.out _; (with_reducible repeat (first | refine blk_drewN ?_ _ | refine blk_drew ?_ | refine blk_alloc ?_ _)); refine blk_far ?_ NB102_122.out _; (with_reducible repeat (first | refine blk_drewN ?_ _ | refine blk_drew ?_ | refine blk_alloc ?_ _)); refine blk_far ?_ NB102_122.out _; (with_reducible repeat (first | refine blk_drewN ?_ _ | refine blk_drew ?_ | refine blk_alloc ?_ _)); exact BK102.out) Tryz.underlying56 rfl (by kernel_rfl)) rfl ?_
      exact ⟨er_, by repeat (first | (with_reducible first | exact HB.out | apply below_alloc | apply pw_below_drewN | apply below_drew1 | refine below_set ?_ GE102.out | refine below_set ?_ GE107.out | refine below_set ?_ GE112.out | refine below_set ?_ GE117.out | refine below_set ?_ GE122.out) | exact HB.out)⟩
    ·replace c68 := Bool.eq_false_iff.mpr c68
     subst c68
     have H1 : (if a0 ≥ 167 then (numeric_find.j0 k a0 (decide (a0 ≤ 191))) else (numeric_find.j0 k a0 false)) = some (r1, r2, r3) := by rw [if_neg (show ¬ (false = true) by decide)] at H; exact H
     clear H;have H := H1;clear H1;have HC118 := A_ H;clear H
     go_enter Tryz.func25, Tryz.ntmps25
     go_upto_region 19 with (first | ((with_reducible refine gate_dst (N := 2) rfl ?_); refine be_ 2 #[.int .i64 0, .int .i64 0, .int .i64 0] 56 ?_; intro gb102 hg w119 hbox hb; have BK102 := A_ (hbox); have GW102 := A_ (sz_ hg (hb_ HB.out)); have GE102 := A_ (sz_ hg (hb_ HB.out)); replace HB := A_ (below_step (hb_ HB.out) hb); clear hb hbox hg) | ((with_reducible refine gate_callee (f := 59) rfl ?_); refine goesL_ (some 13) rfl rfl Tryz.func59 (by kernel_rfl) rfl #[.int .i64 a0, .int .i64 69, .int .i64 11, .int .i64 2] rfl mp_ ?_; (with_reducible refine (numeric_first.calls k a0 69 11 2 t103 t104 t105 false _ A2.out).mono ?_); rintro e w120 ⟨rfl, hb⟩; refine ⟨_, rfl, ?_⟩; replace BK102 := A_ (bb_ BK102.out hb); replace HB := A_ (below_step (hb1_ HB.out GE102.out) hb); (try clear hb); (try clear hb2); (try clear hk); (try clear hi)) | ((with_reducible refine gate_dst (N := 3) rfl ?_); refine be_ 3 #[.int .i64 0, .int .i64 0, .int .i64 0] 56 ?_; intro gb107 hg w121 hbox hb; have BK107 := A_ (hbox); have GW107 := A_ (sz_ hg (hb1_ HB.out GE102.out)); have GE107 := A_ (sz_ hg (hb1_ HB.out GE102.out)); have NB102_107 := A_ (nl_ hg BK102.out); have NB107_102 := A_ (ng_ hg BK102.out); replace BK102 := A_ (bb_ BK102.out hb); replace HB := A_ (below_step (hb1_ HB.out GE102.out) hb); clear hb hbox hg; have hnb122 := NB107_102.out; have hnc122 := NB102_107.out; have hcz123_0 := bv_ BK107.out 0; have hcz123_1 := bv_ BK107.out 1; have hcz123_2 := bv_ BK107.out 2; have hfz123_0 := blk_frozen BK107.out 0; have hfz123_1 := blk_frozen BK107.out 1; have hfz123_2 := blk_frozen BK107.out 2) | ((with_reducible refine gate_callee (f := 59) rfl ?_); refine goesL_ (some 24) rfl rfl Tryz.func59 (by kernel_rfl) rfl #[.int .i64 a0, .int .i64 91, .int .i64 6, .int .i64 3] rfl mp_ ?_; (with_reducible refine (numeric_first.calls k a0 91 6 3 t108 t109 t110 false _ A17.out).mono ?_); rintro e w124 ⟨rfl, hb⟩; refine ⟨_, rfl, ?_⟩; replace BK102 := A_ (blk_below (g := gb102) (o := .cells #[.int .i64 0, .int .i64 0, .int .i64 0] 56 (0, 0)) (bf3_ BK102.out NB102_107.out NB102_107.out NB102_107.out) hb); replace BK107 := A_ (blk_below (g := gb107) (o := .cells #[.int .i64 t103, .int .i64 t104, .int .i64 t105] 56 (0, 0)) (by (with_reducible repeat (first | refine blk_drewN ?_ _ | refine blk_drew ?_ | refine blk_alloc ?_ _)); refine blk_put (cs := #[.int .i64 t103, .int .i64 t104, .int .i64 0]) ?_ 2 _ rfl; (with_reducible repeat (first | refine blk_drewN ?_ _ | refine blk_drew ?_ | refine blk_alloc ?_ _)); refine blk_put (cs := #[.int .i64 t103, .int .i64 0, .int .i64 0]) ?_ 1 _ rfl; (with_reducible repeat (first | refine blk_drewN ?_ _ | refine blk_drew ?_ | refine blk_alloc ?_ _)); refine blk_put (cs := #[.int .i64 0, .int .i64 0, .int .i64 0]) ?_ 0 _ rfl; (with_reducible repeat (first | refine blk_drewN ?_ _ | refine blk_drew ?_ | refine blk_alloc ?_ _)); exact BK107.out) hb); replace HB := A_ (below_step (hb2_ HB.out GE102.out GE107.out) hb); (try clear hb); (try clear hb2); (try clear hk); (try clear hi)) | ((with_reducible refine gate_dst (N := 5) rfl ?_); refine be_ 5 #[.int .i64 0, .int .i64 0, .int .i64 0] 56 ?_; intro gb112 hg w125 hbox hb; have BK112 := A_ (hbox); have GW112 := A_ (sz_ hg (hb2_ HB.out GE102.out GE107.out)); have GE112 := A_ (sz_ hg (hb2_ HB.out GE102.out GE107.out)); have NB102_112 := A_ (nl_ hg BK102.out); have NB112_102 := A_ (ng_ hg BK102.out); have NB107_112 := A_ (nl_ hg BK107.out); have NB112_107 := A_ (ng_ hg BK107.out); replace BK102 := A_ (bb_ BK102.out hb); replace BK107 := A_ (bb_ BK107.out hb); replace HB := A_ (below_step (hb2_ HB.out GE102.out GE107.out) hb); clear hb hbox hg; have hnb126 := NB112_102.out; have hnc126 := NB102_112.out; have hnb127 := NB112_107.out; have hnc127 := NB107_112.out; have hcz128_0 := bv_ BK112.out 0; have hcz128_1 := bv_ BK112.out 1; have hcz128_2 := bv_ BK112.out 2; have hfz128_0 := blk_frozen BK112.out 0; have hfz128_1 := blk_frozen BK112.out 1; have hfz128_2 := blk_frozen BK112.out 2) | ((with_reducible refine gate_callee (f := 59) rfl ?_); refine goesL_ (some 31) rfl rfl Tryz.func59 (by kernel_rfl) rfl #[.int .i64 a0, .int .i64 103, .int .i64 18, .int .i64 5] rfl mp_ ?_; (with_reducible refine (numeric_first.calls k a0 103 18 5 t113 t114 t115 false _ A30.out).mono ?_); rintro e w129 ⟨rfl, hb⟩; refine ⟨_, rfl, ?_⟩; replace BK102 := A_ (blk_below (g := gb102) (o := .cells #[.int .i64 0, .int .i64 0, .int .i64 0] 56 (0, 0)) (bf3_ BK102.out NB102_112.out NB102_112.out NB102_112.out) hb); replace BK107 := A_ (blk_below (g := gb107) (o := .cells #[.int .i64 t103, .int .i64 t104, .int .i64 t105] 56 (0, 0)) (bf3_ BK107.out NB107_112.out NB107_112.out NB107_112.out) hb); replace BK112 := A_ (blk_below (g := gb112) (o := .cells #[.int .i64 t108, .int .i64 t109, .int .i64 t110] 56 (0, 0)) (by (with_reducible repeat (first | refine blk_drewN ?_ _ | refine blk_drew ?_ | refine blk_alloc ?_ _)); refine blk_put (cs := #[.int .i64 t108, .int .i64 t109, .int .i64 0]) ?_ 2 _ rfl; (with_reducible repeat (first | refine blk_drewN ?_ _ | refine blk_drew ?_ | refine blk_alloc ?_ _)); refine blk_put (cs := #[.int .i64 t108, .int .i64 0, .int .i64 0]) ?_ 1 _ rfl; (with_reducible repeat (first | refine blk_drewN ?_ _ | refine blk_drew ?_ | refine blk_alloc ?_ _)); refine blk_put (cs := #[.int .i64 0, .int .i64 0, .int .i64 0]) ?_ 0 _ rfl; (with_reducible repeat (first | refine blk_drewN ?_ _ | refine blk_drew ?_ | refine blk_alloc ?_ _)); exact BK112.out) hb); replace HB := A_ (below_step (hb3_ HB.out GE102.out GE107.out GE112.out) hb); (try clear hb); (try clear hb2); (try clear hk); (try clear hi)) | ((with_reducible refine gate_dst (N := 7) rfl ?_); refine be_ 7 #[.int .i64 0, .int .i64 0, .int .i64 0] 56 ?_; intro gb117 hg w130 hbox hb; have BK117 := A_ (hbox); have GW117 := A_ (sz_ hg (hb3_ HB.out GE102.out GE107.out GE112.out)); have GE117 := A_ (sz_ hg (hb3_ HB.out GE102.out GE107.out GE112.out)); have NB102_117 := A_ (nl_ hg BK102.out); have NB117_102 := A_ (ng_ hg BK102.out); have NB107_117 := A_ (nl_ hg BK107.out); have NB117_107 := A_ (ng_ hg BK107.out); have NB112_117 := A_ (nl_ hg BK112.out); have NB117_112 := A_ (ng_ hg BK112.out); replace BK102 := A_ (bb_ BK102.out hb); replace BK107 := A_ (bb_ BK107.out hb); replace BK112 := A_ (bb_ BK112.out hb); replace HB := A_ (below_step (hb3_ HB.out GE102.out GE107.out GE112.out) hb); clear hb hbox hg; have hnb131 := NB117_102.out; have hnc131 := NB102_117.out; have hnb132 := NB117_107.out; have hnc132 := NB107_117.out; have hnb133 := NB117_112.out; have hnc133 := NB112_117.out; have hcz134_0 := bv_ BK117.out 0; have hcz134_1 := bv_ BK117.out 1; have hcz134_2 := bv_ BK117.out 2; have hfz134_0 := blk_frozen BK117.out 0; have hfz134_1 := blk_frozen BK117.out 1; have hfz134_2 := blk_frozen BK117.out 2) | ((with_reducible refine gate_callee (f := 59) rfl ?_); refine goesL_ (some 42) rfl rfl Tryz.func59 (by kernel_rfl) rfl #[.int .i64 a0, .int .i64 139, .int .i64 14, .int .i64 7] rfl mp_ ?_; (with_reducible refine (numeric_first.calls k a0 139 14 7 t118 t119 t120 false _ A67.out).mono ?_); rintro e w135 ⟨rfl, hb⟩; refine ⟨_, rfl, ?_⟩; replace BK102 := A_ (blk_below (g := gb102) (o := .cells #[.int .i64 0, .int .i64 0, .int .i64 0] 56 (0, 0)) (bf3_ BK102.out NB102_117.out NB102_117.out NB102_117.out) hb); replace BK107 := A_ (blk_below (g := gb107) (o := .cells #[.int .i64 t103, .int .i64 t104, .int .i64 t105] 56 (0, 0)) (bf3_ BK107.out NB107_117.out NB107_117.out NB107_117.out) hb); replace BK112 := A_ (blk_below (g := gb112) (o := .cells #[.int .i64 t108, .int .i64 t109, .int .i64 t110] 56 (0, 0)) (bf3_ BK112.out NB112_117.out NB112_117.out NB112_117.out) hb); replace BK117 := A_ (blk_below (g := gb117) (o := .cells #[.int .i64 t113, .int .i64 t114, .int .i64 t115] 56 (0, 0)) (by (with_reducible repeat (first | refine blk_drewN ?_ _ | refine blk_drew ?_ | refine blk_alloc ?_ _)); refine blk_put (cs := #[.int .i64 t113, .int .i64 t114, .int .i64 0]) ?_ 2 _ rfl; (with_reducible repeat (first | refine blk_drewN ?_ _ | refine blk_drew ?_ | refine blk_alloc ?_ _)); refine blk_put (cs := #[.int .i64 t113, .int .i64 0, .int .i64 0]) ?_ 1 _ rfl; (with_reducible repeat (first | refine blk_drewN ?_ _ | refine blk_drew ?_ | refine blk_alloc ?_ _)); refine blk_put (cs := #[.int .i64 0, .int .i64 0, .int .i64 0]) ?_ 0 _ rfl; (with_reducible repeat (first | refine blk_drewN ?_ _ | refine blk_drew ?_ | refine blk_alloc ?_ _)); exact BK117.out) hb); replace HB := A_ (below_step (hb4_ HB.out GE102.out GE107.out GE112.out GE117.out) hb); (try clear hb); (try clear hb2); (try clear hk); (try clear hi)) | ((with_reducible refine gate_dst (N := 9) rfl ?_); refine be_ 9 #[.int .i64 0, .int .i64 0, .int .i64 0] 56 ?_; intro gb122 hg w136 hbox hb; have BK122 := A_ (hbox); have GW122 := A_ (sz_ hg (hb4_ HB.out GE102.out GE107.out GE112.out GE117.out)); have GE122 := A_ (sz_ hg (hb4_ HB.out GE102.out GE107.out GE112.out GE117.out)); have NB102_122 := A_ (nl_ hg BK102.out); have NB122_102 := A_ (ng_ hg BK102.out); have NB107_122 := A_ (nl_ hg BK107.out); have NB122_107 := A_ (ng_ hg BK107.out); have NB112_122 := A_ (nl_ hg BK112.out); have NB122_112 := A_ (ng_ hg BK112.out); have NB117_122 := A_ (nl_ hg BK117.out); have NB122_117 := A_ (ng_ hg BK117.out); replace BK102 := A_ (bb_ BK102.out hb); replace BK107 := A_ (bb_ BK107.out hb); replace BK112 := A_ (bb_ BK112.out hb); replace BK117 := A_ (bb_ BK117.out hb); replace HB := A_ (below_step (hb4_ HB.out GE102.out GE107.out GE112.out GE117.out) hb); clear hb hbox hg; have hnb137 := NB122_102.out; have hnc137 := NB102_122.out; have hnb138 := NB122_107.out; have hnc138 := NB107_122.out; have hnb139 := NB122_112.out; have hnc139 := NB112_122.out; have hnb140 := NB122_117.out; have hnc140 := NB117_122.out; have hcz141_0 := bv_ BK122.out 0; have hcz141_1 := bv_ BK122.out 1; have hcz141_2 := bv_ BK122.out 2; have hfz141_0 := blk_frozen BK122.out 0; have hfz141_1 := blk_frozen BK122.out 1; have hfz141_2 := blk_frozen BK122.out 2))
     (try simp only [Act.put, lI_, l0_, lS_])
     go_cut [51] (fun v51 wc => ∃ (kq : Nat) (x51_117 : Bool), v51 = .bool x51_117 ∧ Aside0 (numeric_find.j0 kq a0 x51_117 = some (r1, r2, r3)) ∧ Aside0 (kq ≤ k) ∧ Aside0 (wc.heap[gb102]? = some (.cells #[.int .i64 0, .int .i64 0, .int .i64 0] 56 (0, 0))) ∧ Aside0 (wc.heap[gb107]? = some (.cells #[.int .i64 t103, .int .i64 t104, .int .i64 t105] 56 (0, 0))) ∧ Aside0 (wc.heap[gb112]? = some (.cells #[.int .i64 t108, .int .i64 t109, .int .i64 t110] 56 (0, 0))) ∧ Aside0 (wc.heap[gb117]? = some (.cells #[.int .i64 t113, .int .i64 t114, .int .i64 t115] 56 (0, 0))) ∧ Aside0 (wc.heap[gb122]? = some (.cells #[.int .i64 t118, .int .i64 t119, .int .i64 t120] 56 (0, 0))) ∧ Aside0 (Below w.heap.size w wc))
     case first =>
      have H := HC118.out
      clear HC118
      by_cases c142 : a0 ≥ 167
      ·rw [if_pos c142] at H
       have c142b0 : decide (167 ≤ a0) = true := decide_eq_true c142
       clear c142
       (first | rw [c142b0] | (simp only [i64_w, i32_w]; rw [c142b0]) | skip)
       have H' := A_ H
       clear H
       go_wp2
       go_meet
       case rel => exact ⟨_, (decide (a0 ≤ 191)), sm_, H', ⟨by first | omega | exact Nat.le_refl _⟩, ⟨bf3_ BK102.out NB102_122.out NB102_122.out NB102_122.out⟩, ⟨bf3_ BK107.out NB107_122.out NB107_122.out NB107_122.out⟩, ⟨bf3_ BK112.out NB112_122.out NB112_122.out NB112_122.out⟩, ⟨bf3_ BK117.out NB117_122.out NB117_122.out NB117_122.out⟩, ⟨by (with_reducible repeat (first | refine blk_drewN ?_ _ | refine blk_drew ?_ | refine blk_alloc ?_ _)); refine blk_put (cs := #[.int .i64 t118, .int .i64 t119, .int .i64 0]) ?_ 2 _ rfl; (with_reducible repeat (first | refine blk_drewN ?_ _ | refine blk_drew ?_ | refine blk_alloc ?_ _)); refine blk_put (cs := #[.int .i64 t118, .int .i64 0, .int .i64 0]) ?_ 1 _ rfl; (with_reducible repeat (first | refine blk_drewN ?_ _ | refine blk_drew ?_ | refine blk_alloc ?_ _)); refine blk_put (cs := #[.int .i64 0, .int .i64 0, .int .i64 0]) ?_ 0 _ rfl; (with_reducible repeat (first | refine blk_drewN ?_ _ | refine blk_drew ?_ | refine blk_alloc ?_ _)); exact BK122.out⟩, ⟨by repeat (first | (with_reducible first | exact HB.out | apply below_alloc | apply pw_below_drewN | apply below_drew1 | refine below_set ?_ GE102.out | refine below_set ?_ GE107.out | refine below_set ?_ GE112.out | refine below_set ?_ GE117.out | refine below_set ?_ GE122.out) | exact HB.out)⟩⟩
      ·rw [if_neg c142] at H
       have c142b0 : decide (167 ≤ a0) = false := decide_eq_false c142
       clear c142
       (first | rw [c142b0] | (simp only [i64_w, i32_w]; rw [c142b0]) | skip)
       have H' := A_ H
       clear H
       go_wp2
       go_meet
       case rel => exact ⟨_, (false), sm_, H', ⟨by first | omega | exact Nat.le_refl _⟩, ⟨bf3_ BK102.out NB102_122.out NB102_122.out NB102_122.out⟩, ⟨bf3_ BK107.out NB107_122.out NB107_122.out NB107_122.out⟩, ⟨bf3_ BK112.out NB112_122.out NB112_122.out NB112_122.out⟩, ⟨bf3_ BK117.out NB117_122.out NB117_122.out NB117_122.out⟩, ⟨by (with_reducible repeat (first | refine blk_drewN ?_ _ | refine blk_drew ?_ | refine blk_alloc ?_ _)); refine blk_put (cs := #[.int .i64 t118, .int .i64 t119, .int .i64 0]) ?_ 2 _ rfl; (with_reducible repeat (first | refine blk_drewN ?_ _ | refine blk_drew ?_ | refine blk_alloc ?_ _)); refine blk_put (cs := #[.int .i64 t118, .int .i64 0, .int .i64 0]) ?_ 1 _ rfl; (with_reducible repeat (first | refine blk_drewN ?_ _ | refine blk_drew ?_ | refine blk_alloc ?_ _)); refine blk_put (cs := #[.int .i64 0, .int .i64 0, .int .i64 0]) ?_ 0 _ rfl; (with_reducible repeat (first | refine blk_drewN ?_ _ | refine blk_drew ?_ | refine blk_alloc ?_ _)); exact BK122.out⟩, ⟨by repeat (first | (with_reducible first | exact HB.out | apply below_alloc | apply pw_below_drewN | apply below_drew1 | refine below_set ?_ GE102.out | refine below_set ?_ GE107.out | refine below_set ?_ GE112.out | refine below_set ?_ GE117.out | refine below_set ?_ GE122.out) | exact HB.out)⟩⟩
     case rest =>
      clear HC118
      try clear c1
      try clear c2
      try clear p2
      try clear c3
      try clear c4
      try clear c4b0
      try clear c4b1
      try clear c5
      try clear c6
      try clear c7
      try clear c8
      try clear c9
      try clear c10
      try clear c11
      try clear c12
      try clear c13
      try clear c14
      try clear c18
      try clear c22
      try clear c25
      try clear c26
      try clear c27
      try clear c31
      try clear c32
      try clear c32b0
      try clear c36
      try clear c40
      try clear c41
      try clear c45
      try clear c46
      try clear c47
      try clear c53
      try clear c57
      try clear c58
      try clear c59
      try clear c62
      try clear c63
      try clear c64
      try clear c68
      try clear c69
      try clear c69b0
      try clear c73
      try clear c77
      try clear c78
      try clear c82
      try clear c83
      try clear c84
      try clear c88
      try clear c89
      try clear c90
      try clear c91
      try clear c97
      try clear c101
      try clear c102
      try clear c106
      try clear c107
      try clear c108
      try clear c112
      try clear c113
      try clear c114
      try clear c115
      try clear c122
      try clear c126
      try clear c127
      try clear c131
      try clear c132
      try clear c133
      try clear c137
      try clear c138
      try clear c139
      try clear c140
      try clear c142
      try clear c142b0
      try clear hcz103_0
      try clear hcz103_1
      try clear hcz103_2
      try clear hcz109_0
      try clear hcz109_1
      try clear hcz109_2
      try clear hcz10_0
      try clear hcz10_1
      try clear hcz10_2
      try clear hcz116_0
      try clear hcz116_1
      try clear hcz116_2
      try clear hcz117_0
      try clear hcz117_1
      try clear hcz117_2
      try clear hcz123_0
      try clear hcz123_1
      try clear hcz123_2
      try clear hcz128_0
      try clear hcz128_1
      try clear hcz128_2
      try clear hcz134_0
      try clear hcz134_1
      try clear hcz134_2
      try clear hcz141_0
      try clear hcz141_1
      try clear hcz141_2
      try clear hcz15_0
      try clear hcz15_1
      try clear hcz15_2
      try clear hcz16_0
      try clear hcz16_1
      try clear hcz16_2
      try clear hcz23_0
      try clear hcz23_1
      try clear hcz23_2
      try clear hcz28_0
      try clear hcz28_1
      try clear hcz28_2
      try clear hcz29_0
      try clear hcz29_1
      try clear hcz29_2
      try clear hcz37_0
      try clear hcz37_1
      try clear hcz37_2
      try clear hcz42_0
      try clear hcz42_1
      try clear hcz42_2
      try clear hcz48_0
      try clear hcz48_1
      try clear hcz48_2
      try clear hcz49_0
      try clear hcz49_1
      try clear hcz49_2
      try clear hcz54_0
      try clear hcz54_1
      try clear hcz54_2
      try clear hcz59_0
      try clear hcz59_1
      try clear hcz59_2
      try clear hcz65_0
      try clear hcz65_1
      try clear hcz65_2
      try clear hcz66_0
      try clear hcz66_1
      try clear hcz66_2
      try clear hcz74_0
      try clear hcz74_1
      try clear hcz74_2
      try clear hcz79_0
      try clear hcz79_1
      try clear hcz79_2
      try clear hcz85_0
      try clear hcz85_1
      try clear hcz85_2
      try clear hcz92_0
      try clear hcz92_1
      try clear hcz92_2
      try clear hcz93_0
      try clear hcz93_1
      try clear hcz93_2
      try clear hcz98_0
      try clear hcz98_1
      try clear hcz98_2
      try clear hcz9_0
      try clear hcz9_1
      try clear hcz9_2
      try clear hfz103_0
      try clear hfz103_1
      try clear hfz103_2
      try clear hfz109_0
      try clear hfz109_1
      try clear hfz109_2
      try clear hfz10_0
      try clear hfz10_1
      try clear hfz10_2
      try clear hfz116_0
      try clear hfz116_1
      try clear hfz116_2
      try clear hfz117_0
      try clear hfz117_1
      try clear hfz117_2
      try clear hfz123_0
      try clear hfz123_1
      try clear hfz123_2
      try clear hfz128_0
      try clear hfz128_1
      try clear hfz128_2
      try clear hfz134_0
      try clear hfz134_1
      try clear hfz134_2
      try clear hfz141_0
      try clear hfz141_1
      try clear hfz141_2
      try clear hfz15_0
      try clear hfz15_1
      try clear hfz15_2
      try clear hfz16_0
      try clear hfz16_1
      try clear hfz16_2
      try clear hfz23_0
      try clear hfz23_1
      try clear hfz23_2
      try clear hfz28_0
      try clear hfz28_1
      try clear hfz28_2
      try clear hfz29_0
      try clear hfz29_1
      try clear hfz29_2
      try clear hfz37_0
      try clear hfz37_1
      try clear hfz37_2
      try clear hfz42_0
      try clear hfz42_1
      try clear hfz42_2
      try clear hfz48_0
      try clear hfz48_1
      try clear hfz48_2
      try clear hfz49_0
      try clear hfz49_1
      try clear hfz49_2
      try clear hfz54_0
      try clear hfz54_1
      try clear hfz54_2
      try clear hfz59_0
      try clear hfz59_1
      try clear hfz59_2
      try clear hfz65_0
      try clear hfz65_1
      try clear hfz65_2
      try clear hfz66_0
      try clear hfz66_1
      try clear hfz66_2
      try clear hfz74_0
      try clear hfz74_1
      try clear hfz74_2
      try clear hfz79_0
      try clear hfz79_1
      try clear hfz79_2
      try clear hfz85_0
      try clear hfz85_1
      try clear hfz85_2
      try clear hfz92_0
      try clear hfz92_1
      try clear hfz92_2
      try clear hfz93_0
      try clear hfz93_1
      try clear hfz93_2
      try clear hfz98_0
      try clear hfz98_1
      try clear hfz98_2
      try clear hfz9_0
      try clear hfz9_1
      try clear hfz9_2
      obtain ⟨kq, x51_117, rfl, HA, HJ117, BK102, BK107, BK112, BK117, BK122, HB⟩ := hcut
      cases kq with
      | zero => exact absurd HA.out (by simp [numeric_find.j0])
      | succ kj117 =>
       have H := HA.out
       clear HA
       simp only [numeric_find.j0] at H
       by_cases c143 : x51_117 = true
       ·subst c143
        have H1 : (some (8, wrap64 (a0 - 167), 0)) = some (r1, r2, r3) := by rw [if_pos rfl] at H; exact H
        clear H;have H := H1;clear H1
        simp only [Option.some.injEq, Prod.mk.injEq] at H
        obtain ⟨rfl, rfl, rfl⟩ := H
        have hnb144 := NB102_107.out
        have hnc144 := NB107_102.out
        have hnb145 := NB102_112.out
        have hnc145 := NB112_102.out
        have hnb146 := NB102_117.out
        have hnc146 := NB117_102.out
        have hnb147 := NB102_122.out
        have hnc147 := NB122_102.out
        have hcz148_0 := bv_ BK102.out 0
        have hcz148_1 := bv_ BK102.out 1
        have hcz148_2 := bv_ BK102.out 2
        have hfz148_0 := blk_frozen BK102.out 0
        have hfz148_1 := blk_frozen BK102.out 1
        have hfz148_2 := blk_frozen BK102.out 2
        go_wp2
        refine bodyPost_ret (results_cell_row rfl _ _ gb102 56 #[.int .i64 8, .int .i64 (wrap64 (a0 - 167)), .int .i64 0] (0, 0) _ rfl (by (with_reducible repeat (first | refine blk_drewN ?_ _ | refine blk_drew ?_ | refine blk_alloc ?_ _)); refine blk_put (cs := #[.int .i64 8, .int .i64 (wrap64 (a0 - 167)), .int .i64 0]) ?_ 2 _ rfl; (with_reducible repeat (first | refine blk_drewN ?_ _ | refine blk_drew ?_ | refine blk_alloc ?_ _)); refine blk_put (cs := #[.int .i64 8, .int .i64 0, .int .i64 0]) ?_ 1 _ rfl; (with_reducible repeat (first | refine blk_drewN ?_ _ | refine blk_drew ?_ | refine blk_alloc ?_ _)); refine blk_put (cs := #[.int .i64 0, .int .i64 0, .int .i64 0]) ?_ 0 _ rfl; (with_reducible repeat (first | refine blk_drewN ?_ _ | refine blk_drew ?_ | refine blk_alloc ?_ _)); exact BK102.out) Tryz.underlying56 rfl (by kernel_rfl)) rfl ?_
        exact ⟨er_, by repeat (first | (with_reducible first | exact HB.out | apply below_alloc | apply pw_below_drewN | apply below_drew1 | refine below_set ?_ GE102.out | refine below_set ?_ GE107.out | refine below_set ?_ GE112.out | refine below_set ?_ GE117.out | refine below_set ?_ GE122.out) | exact HB.out)⟩
       ·replace c143 := Bool.eq_false_iff.mpr c143
        subst c143
        have H1 : (if a0 ≥ 64512 then (if a0 < 64520 then (some (9, wrap64 (a0 - 64512), 0)) else (some (0, 0, 0))) else (some (0, 0, 0))) = some (r1, r2, r3) := by rw [if_neg (show ¬ (false = true) by decide)] at H; exact H
        clear H;have H := H1;clear H1
        by_cases c149 : a0 ≥ 64512
        ·rw [if_pos c149] at H
         have c149b0 : decide (64512 ≤ a0) = true := decide_eq_true c149
         clear c149
         by_cases c150 : a0 < 64520
         ·rw [if_pos c150] at H
          have c150b0 : decide (a0 < 64520) = true := decide_eq_true c150
          clear c150
          simp only [Option.some.injEq, Prod.mk.injEq] at H
          obtain ⟨rfl, rfl, rfl⟩ := H
          have hnb151 := NB102_107.out
          have hnc151 := NB107_102.out
          have hnb152 := NB102_112.out
          have hnc152 := NB112_102.out
          have hnb153 := NB102_117.out
          have hnc153 := NB117_102.out
          have hnb154 := NB102_122.out
          have hnc154 := NB122_102.out
          have hcz155_0 := bv_ BK102.out 0
          have hcz155_1 := bv_ BK102.out 1
          have hcz155_2 := bv_ BK102.out 2
          have hfz155_0 := blk_frozen BK102.out 0
          have hfz155_1 := blk_frozen BK102.out 1
          have hfz155_2 := blk_frozen BK102.out 2
          go_wp2
          refine bodyPost_ret (results_cell_row rfl _ _ gb102 56 #[.int .i64 9, .int .i64 (wrap64 (a0 - 64512)), .int .i64 0] (0, 0) _ rfl (by (with_reducible repeat (first | refine blk_drewN ?_ _ | refine blk_drew ?_ | refine blk_alloc ?_ _)); refine blk_put (cs := #[.int .i64 9, .int .i64 (wrap64 (a0 - 64512)), .int .i64 0]) ?_ 2 _ rfl; (with_reducible repeat (first | refine blk_drewN ?_ _ | refine blk_drew ?_ | refine blk_alloc ?_ _)); refine blk_put (cs := #[.int .i64 9, .int .i64 0, .int .i64 0]) ?_ 1 _ rfl; (with_reducible repeat (first | refine blk_drewN ?_ _ | refine blk_drew ?_ | refine blk_alloc ?_ _)); refine blk_put (cs := #[.int .i64 0, .int .i64 0, .int .i64 0]) ?_ 0 _ rfl; (with_reducible repeat (first | refine blk_drewN ?_ _ | refine blk_drew ?_ | refine blk_alloc ?_ _)); exact BK102.out) Tryz.underlying56 rfl (by kernel_rfl)) rfl ?_
          exact ⟨er_, by repeat (first | (with_reducible first | exact HB.out | apply below_alloc | apply pw_below_drewN | apply below_drew1 | refine below_set ?_ GE102.out | refine below_set ?_ GE107.out | refine below_set ?_ GE112.out | refine below_set ?_ GE117.out | refine below_set ?_ GE122.out) | exact HB.out)⟩
         ·rw [if_neg c150] at H
          have c150b0 : decide (a0 < 64520) = false := decide_eq_false c150
          clear c150
          simp only [Option.some.injEq, Prod.mk.injEq] at H
          obtain ⟨rfl, rfl, rfl⟩ := H
          have hnb156 := NB102_107.out
          have hnc156 := NB107_102.out
          have hnb157 := NB102_112.out
          have hnc157 := NB112_102.out
          have hnb158 := NB102_117.out
          have hnc158 := NB117_102.out
          have hnb159 := NB102_122.out
          have hnc159 := NB122_102.out
          have hcz160_0 := bv_ BK102.out 0
          have hcz160_1 := bv_ BK102.out 1
          have hcz160_2 := bv_ BK102.out 2
          have hfz160_0 := blk_frozen BK102.out 0
          have hfz160_1 := blk_frozen BK102.out 1
          have hfz160_2 := blk_frozen BK102.out 2
          go_wp2
          refine bodyPost_ret (results_cell_row rfl _ _ gb102 56 #[.int .i64 0, .int .i64 0, .int .i64 0] (0, 0) _ rfl (by (with_reducible repeat (first | refine blk_drewN ?_ _ | refine blk_drew ?_ | refine blk_alloc ?_ _)); refine blk_put (cs := #[.int .i64 0, .int .i64 0, .int .i64 0]) ?_ 2 _ rfl; (with_reducible repeat (first | refine blk_drewN ?_ _ | refine blk_drew ?_ | refine blk_alloc ?_ _)); refine blk_put (cs := #[.int .i64 0, .int .i64 0, .int .i64 0]) ?_ 1 _ rfl; (with_reducible repeat (first | refine blk_drewN ?_ _ | refine blk_drew ?_ | refine blk_alloc ?_ _)); refine blk_put (cs := #[.int .i64 0, .int .i64 0, .int .i64 0]) ?_ 0 _ rfl; (with_reducible repeat (first | refine blk_drewN ?_ _ | refine blk_drew ?_ | refine blk_alloc ?_ _)); exact BK102.out) Tryz.underlying56 rfl (by kernel_rfl)) rfl ?_
          exact ⟨er_, by repeat (first | (with_reducible first | exact HB.out | apply below_alloc | apply pw_below_drewN | apply below_drew1 | refine below_set ?_ GE102.out | refine below_set ?_ GE107.out | refine below_set ?_ GE112.out | refine below_set ?_ GE117.out | refine below_set ?_ GE122.out) | exact HB.out)⟩
        ·rw [if_neg c149] at H
         have c149b0 : decide (64512 ≤ a0) = false := decide_eq_false c149
         clear c149
         simp only [Option.some.injEq, Prod.mk.injEq] at H
         obtain ⟨rfl, rfl, rfl⟩ := H
         have hnb161 := NB102_107.out
         have hnc161 := NB107_102.out
         have hnb162 := NB102_112.out
         have hnc162 := NB112_102.out
         have hnb163 := NB102_117.out
         have hnc163 := NB117_102.out
         have hnb164 := NB102_122.out
         have hnc164 := NB122_102.out
         have hcz165_0 := bv_ BK102.out 0
         have hcz165_1 := bv_ BK102.out 1
         have hcz165_2 := bv_ BK102.out 2
         have hfz165_0 := blk_frozen BK102.out 0
         have hfz165_1 := blk_frozen BK102.out 1
         have hfz165_2 := blk_frozen BK102.out 2
         go_wp2
         refine bodyPost_ret (results_cell_row rfl _ _ gb102 56 #[.int .i64 0, .int .i64 0, .int .i64 0] (0, 0) _ rfl (by (with_reducible repeat (first | refine blk_drewN ?_ _ | refine blk_drew ?_ | refine blk_alloc ?_ _)); refine blk_put (cs := #[.int .i64 0, .int .i64 0, .int .i64 0]) ?_ 2 _ rfl; (with_reducible repeat (first | refine blk_drewN ?_ _ | refine blk_drew ?_ | refine blk_alloc ?_ _)); refine blk_put (cs := #[.int .i64 0, .int .i64 0, .int .i64 0]) ?_ 1 _ rfl; (with_reducible repeat (first | refine blk_drewN ?_ _ | refine blk_drew ?_ | refine blk_alloc ?_ _)); refine blk_put (cs := #[.int .i64 0, .int .i64 0, .int .i64 0]) ?_ 0 _ rfl; (with_reducible repeat (first | refine blk_drewN ?_ _ | refine blk_drew ?_ | refine blk_alloc ?_ _)); exact BK102.out) Tryz.underlying56 rfl (by kernel_rfl)) rfl ?_
         exact ⟨er_, by repeat (first | (with_reducible first | exact HB.out | apply below_alloc | apply pw_below_drewN | apply below_drew1 | refine below_set ?_ GE102.out | refine below_set ?_ GE107.out | refine below_set ?_ GE112.out | refine below_set ?_ GE117.out | refine below_set ?_ GE122.out) | exact HB.out)⟩
end Go.Proofs.YtnmlmgmljoncoaaGreatDoor.PA
