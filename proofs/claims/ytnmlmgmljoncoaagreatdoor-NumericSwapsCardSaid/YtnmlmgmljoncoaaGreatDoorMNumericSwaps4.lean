/- What the Go functions that the statement NumericSwaps reaches compute, and the mathematics on it, in the order in which one leans on the other; for every input. -/
import Derived.Test.YtnmlmgmljoncoaaGreatDoorVNumericSwaps0
import Derived.Test.YtnmlmgmljoncoaaGreatDoorMNumericSwaps0
import Derived.Deep.RegionHeld3
import Derived.Deep.DeepCutAuto
import Derived.BigRegion
import Derived.Test.YtnmlmgmljoncoaaGreatDoorMNumericSwaps3
import Derived.Shelf.Small.Bits
import Derived.Shelf.Strconv.Itoa0
import Derived.Shelf.Bits.Mul64
import Derived.Test.YtnmlmgmljoncoaaGreatDoorProg
import Derived.Test.YtnmlmgmljoncoaaGreatDoorMNumericSwaps1
namespace Go.Proofs.YtnmlmgmljoncoaaGreatDoor.PA
open Go.RowKit Go.Proofs.YtnmlmgmljoncoaaGreatDoorW.PrintWords Go.Proofs.YtnmlmgmljoncoaaGreatDoorW.PrintLast Go.Proofs.YtnmlmgmljoncoaaGreatDoorW.PrintMore
attribute [local go_sem] max2_int min2_int max_two min_two max_three min_three max_four min_four   -- for this text's walks alone
set_option linter.unusedVariables false
set_option linter.unusedSimpArgs false
set_option maxHeartbeats 8000000
set_option maxRecDepth 100000
def wide_Of.f (a0 : Int) : Option (Int × Int) := some (0, a0)
theorem wide_Of.calls (a0 : Int) (r1 : Int) (r2 : Int) (w : World) (h : wide_Of.f a0 = some (r1, r2)) :
  Calls Tryz.prog 215 #[.int .u64 a0] w fun e w' => e = .returned (.agg #[.int .u64 r1, .int .u64 r2]) ∧ Below w.heap.size w w' := by
 have hu166 := Tryz.underlying166
 have HB := A_ (Below.refl w.heap.size w)
 have H : (some (0, a0)) = some (r1, r2) := h
 clear h
 simp only [Option.some.injEq, Prod.mk.injEq] at H
 obtain ⟨rfl, rfl⟩ := H
 go_enter Tryz.func215, Tryz.ntmps215
 go_wp2_with (first | ((with_reducible refine gate_dst (N := 2) rfl ?_); refine be_ 2 #[.int .u64 0, .int .u64 0] 166 ?_; intro gb270 hg w2 hbox hb; have BK270 := A_ (hbox); have GW270 := A_ (sz_ hg (hb_ HB.out)); have GE270 := A_ (sz_ hg (hb_ HB.out)); replace HB := A_ (below_step (hb_ HB.out) hb); clear hb hbox hg; have hcz3_0 := bv_ BK270.out 0; have hcz3_1 := bv_ BK270.out 1; have hfz3_0 := blk_frozen BK270.out 0; have hfz3_1 := blk_frozen BK270.out 1))
 refine bodyPost_ret (results_cell_row rfl _ _ gb270 166 #[.int .u64 0, .int .u64 a0] (0, 0) _ rfl (by (with_reducible repeat (first | refine blk_drewN ?_ _ | refine blk_drew ?_ | refine blk_alloc ?_ _)); refine blk_put (cs := #[.int .u64 0, .int .u64 0]) ?_ 1 _ rfl; (with_reducible repeat (first | refine blk_drewN ?_ _ | refine blk_drew ?_ | refine blk_alloc ?_ _)); refine blk_put (cs := #[.int .u64 0, .int .u64 0]) ?_ 0 _ rfl; (with_reducible repeat (first | refine blk_drewN ?_ _ | refine blk_drew ?_ | refine blk_alloc ?_ _)); exact BK270.out) Tryz.underlying166 rfl (by kernel_rfl)) rfl ?_
 exact ⟨er_, hb1_ HB.out GE270.out⟩
end Go.Proofs.YtnmlmgmljoncoaaGreatDoor.PA
/- What the Go methods by which a number is rounded do to their receiver, for every receiver and every input in their bounds. -/
namespace Go.Proofs.YtnmlmgmljoncoaaGreatDoor.PA
open Go.RowKit Go.Proofs.YtnmlmgmljoncoaaGreatDoorW.PrintWords Go.Proofs.YtnmlmgmljoncoaaGreatDoorW.PrintLast Go.Proofs.YtnmlmgmljoncoaaGreatDoorW.PrintMore
attribute [local go_sem] max2_int min2_int max_two min_two max_three min_three max_four min_four   -- for this text's walks alone
set_option linter.unusedVariables false
set_option linter.unusedSimpArgs false
structure rp_PK (b : Nat) (h l e : Int) (m : Bool) (w w' : World) : Prop where
  c0 : w'.cell? ⟨b, 0, none⟩ = some (.int .u64 h)
  c1 : w'.cell? ⟨b, 1, none⟩ = some (.int .u64 l)
  c2 : w'.cell? ⟨b, 2, none⟩ = some (.int .i64 e)
  c3 : w'.cell? ⟨b, 3, none⟩ = some (.bool m)
  cs : ∀ i, 4 ≤ i → w'.cell? ⟨b, i, none⟩ = w.cell? ⟨b, i, none⟩
  fs : ∀ i, w'.frozen? ⟨b, i, none⟩ = w.frozen? ⟨b, i, none⟩
  bl : Below b w w'
theorem rp_PK.set4 {b : Nat} {h l e : Int} {m : Bool} {w w2 : World} {v0 v1 v2 v3 : Value} (c0 : w2.cell? ⟨b, 0, none⟩ = some v0) (c1 : w2.cell? ⟨b, 1, none⟩ = some v1) (c2 : w2.cell? ⟨b, 2, none⟩ = some v2) (c3 : w2.cell? ⟨b, 3, none⟩ = some v3)
    (AS : ∀ i, w2.cell? ⟨b, i, none⟩ = w.cell? ⟨b, i, none⟩) (AF : ∀ i, w2.frozen? ⟨b, i, none⟩ = w.frozen? ⟨b, i, none⟩) (AB : Below b w w2) :
    rp_PK b h l e m w ((((w2.setCell ⟨b, 0, none⟩ (.int .u64 h)).setCell ⟨b, 1, none⟩ (.int .u64 l)).setCell ⟨b, 2, none⟩ (.int .i64 e)).setCell ⟨b, 3, none⟩ (.bool m)) := by
  have ne : ∀ i j : Nat, i ≠ j → (⟨b, j, none⟩ : Addr) ≠ ⟨b, i, none⟩ := fun i j hij k => hij (by injection k with _ k2 _; exact k2.symm)
  have o := fun (W : World) (i j : Nat) (u : Value) (hij : i ≠ j) => World.cell?_setCell_other W ⟨b, j, none⟩ ⟨b, i, none⟩ u (ne i j hij)
  refine ⟨?_, ?_, ?_, ?_, fun i hi => ?_, fun i => ?_, ?_⟩
  · rw [o _ 0 3 _ (by decide), o _ 0 2 _ (by decide), o _ 0 1 _ (by decide)]; exact World.cell?_setCell_same _ _ _ c0
  · rw [o _ 1 3 _ (by decide), o _ 1 2 _ (by decide)]; exact World.cell?_setCell_same _ _ _ ((o _ 1 0 _ (by decide)).trans c1)
  · rw [o _ 2 3 _ (by decide)]; exact World.cell?_setCell_same _ _ _ ((o _ 2 1 _ (by decide)).trans ((o _ 2 0 _ (by decide)).trans c2))
  · exact World.cell?_setCell_same _ _ _ ((o _ 3 2 _ (by decide)).trans ((o _ 3 1 _ (by decide)).trans ((o _ 3 0 _ (by decide)).trans c3)))
  · rw [o _ i 3 _ (by omega), o _ i 2 _ (by omega), o _ i 1 _ (by omega), o _ i 0 _ (by omega)]; exact AS i
  · rw [World.frozen?_setCell, World.frozen?_setCell, World.frozen?_setCell, World.frozen?_setCell]; exact AF i
  · exact (((AB.setCell (Nat.le_refl _) _).setCell (Nat.le_refl _) _).setCell (Nat.le_refl _) _).setCell (Nat.le_refl _) _
theorem rp_ne {b i j : Nat} (hij : i ≠ j) : (⟨b, j, none⟩ : Addr) ≠ ⟨b, i, none⟩ := fun k => hij (by injection k with _ k2 _; exact k2.symm)
theorem rp_o (b : Nat) (W : World) (i j : Nat) (u : Value) (hij : i ≠ j) : (W.setCell ⟨b, j, none⟩ u).cell? ⟨b, i, none⟩ = W.cell? ⟨b, i, none⟩ := World.cell?_setCell_other W ⟨b, j, none⟩ ⟨b, i, none⟩ u (rp_ne hij)
theorem rp_PK.put3 {b : Nat} {h l e : Int} {m : Bool} {w w1 : World} (P : rp_PK b h l e m w w1) (m' : Bool) : rp_PK b h l e m' w (w1.setCell ⟨b, 3, none⟩ (.bool m')) :=
  ⟨(rp_o b _ 0 3 _ (by decide)).trans P.c0, (rp_o b _ 1 3 _ (by decide)).trans P.c1, (rp_o b _ 2 3 _ (by decide)).trans P.c2, World.cell?_setCell_same _ _ _ P.c3, fun i hi => (rp_o b _ i 3 _ (by omega)).trans (P.cs i hi), fun i => (World.frozen?_setCell _ _ _ _).trans (P.fs i), P.bl.setCell (Nat.le_refl _) _⟩
theorem rp_PK.put2 {b : Nat} {h l e : Int} {m : Bool} {w w1 : World} (P : rp_PK b h l e m w w1) (e' : Int) : rp_PK b h l e' m w (w1.setCell ⟨b, 2, none⟩ (.int .i64 e')) :=
  ⟨(rp_o b _ 0 2 _ (by decide)).trans P.c0, (rp_o b _ 1 2 _ (by decide)).trans P.c1, World.cell?_setCell_same _ _ _ P.c2, (rp_o b _ 3 2 _ (by decide)).trans P.c3, fun i hi => (rp_o b _ i 2 _ (by omega)).trans (P.cs i hi), fun i => (World.frozen?_setCell _ _ _ _).trans (P.fs i), P.bl.setCell (Nat.le_refl _) _⟩
theorem rp_PK.put1 {b : Nat} {h l e : Int} {m : Bool} {w w1 : World} (P : rp_PK b h l e m w w1) (l' : Int) : rp_PK b h l' e m w (w1.setCell ⟨b, 1, none⟩ (.int .u64 l')) :=
  ⟨(rp_o b _ 0 1 _ (by decide)).trans P.c0, World.cell?_setCell_same _ _ _ P.c1, (rp_o b _ 2 1 _ (by decide)).trans P.c2, (rp_o b _ 3 1 _ (by decide)).trans P.c3, fun i hi => (rp_o b _ i 1 _ (by omega)).trans (P.cs i hi), fun i => (World.frozen?_setCell _ _ _ _).trans (P.fs i), P.bl.setCell (Nat.le_refl _) _⟩
theorem rp_PK.put0 {b : Nat} {h l e : Int} {m : Bool} {w w1 : World} (P : rp_PK b h l e m w w1) (h' : Int) : rp_PK b h' l e m w (w1.setCell ⟨b, 0, none⟩ (.int .u64 h')) :=
  ⟨World.cell?_setCell_same _ _ _ P.c0, (rp_o b _ 1 0 _ (by decide)).trans P.c1, (rp_o b _ 2 0 _ (by decide)).trans P.c2, (rp_o b _ 3 0 _ (by decide)).trans P.c3, fun i hi => (rp_o b _ i 0 _ (by omega)).trans (P.cs i hi), fun i => (World.frozen?_setCell _ _ _ _).trans (P.fs i), P.bl.setCell (Nat.le_refl _) _⟩
theorem rp_PK.lt {b : Nat} {h l e : Int} {m : Bool} {w w1 : World} (P : rp_PK b h l e m w w1) : b < w1.heap.size := World.block_lt_of_cell? w1 _ P.c0
theorem rp_PK.below {b : Nat} {h l e : Int} {m : Bool} {w w1 w2 : World} (P : rp_PK b h l e m w w1) (hb : Below w1.heap.size w1 w2) : rp_PK b h l e m w w2 :=
  ⟨((Nr.bcell hb).1 b 0 P.lt).trans P.c0, ((Nr.bcell hb).1 b 1 P.lt).trans P.c1, ((Nr.bcell hb).1 b 2 P.lt).trans P.c2, ((Nr.bcell hb).1 b 3 P.lt).trans P.c3, fun i hi => ((Nr.bcell hb).1 b i P.lt).trans (P.cs i hi), fun i => ((Nr.bcell hb).2 b i P.lt).trans (P.fs i), P.bl.trans (hb.mono (Nat.le_of_lt P.lt))⟩
theorem rp_PK.alloc {b : Nat} {h l e : Int} {m : Bool} {w w1 : World} (P : rp_PK b h l e m w w1) (x : Obj) : rp_PK b h l e m w (w1.alloc x) := P.below (below_alloc (Below.refl _ _) x)
theorem rp_PK.drew {b : Nat} {h l e : Int} {m : Bool} {w w1 : World} (P : rp_PK b h l e m w w1) : rp_PK b h l e m w w1.drew := P.below (below_drew1 (Below.refl _ _))
theorem rp_PK.start {b : Nat} {h l e : Int} {m : Bool} {w : World} (c0 : w.cell? ⟨b, 0, none⟩ = some (.int .u64 h)) (c1 : w.cell? ⟨b, 1, none⟩ = some (.int .u64 l)) (c2 : w.cell? ⟨b, 2, none⟩ = some (.int .i64 e)) (c3 : w.cell? ⟨b, 3, none⟩ = some (.bool m)) : rp_PK b h l e m w w :=
  ⟨c0, c1, c2, c3, fun _ _ => rfl, fun _ => rfl, Below.refl _ _⟩
theorem rp_PK.trans {b : Nat} {h l e h' l' e' : Int} {m m' : Bool} {w w1 w2 : World} (P : rp_PK b h l e m w w1) (Q : rp_PK b h' l' e' m' w1 w2) : rp_PK b h' l' e' m' w w2 :=
  ⟨Q.c0, Q.c1, Q.c2, Q.c3, fun i hi => (Q.cs i hi).trans (P.cs i hi), fun i => (Q.fs i).trans (P.fs i), P.bl.trans Q.bl⟩
set_option maxHeartbeats 8000000 in
set_option maxRecDepth 100000 in
theorem rp_down (b : Nat) (h l e n k0 k1 q0 q1 : Int) (m lost x : Bool) (w : World)
    (c0 : w.cell? ⟨b, 0, none⟩ = some (.int .u64 h)) (c1 : w.cell? ⟨b, 1, none⟩ = some (.int .u64 l)) (c2 : w.cell? ⟨b, 2, none⟩ = some (.int .i64 e)) (c3 : w.cell? ⟨b, 3, none⟩ = some (.bool m))
    (f0 : w.frozen? ⟨b, 0, none⟩ = false) (f1 : w.frozen? ⟨b, 1, none⟩ = false) (f2 : w.frozen? ⟨b, 2, none⟩ = false) (f3 : w.frozen? ⟨b, 3, none⟩ = false)
    (h0 : 0 < n) (h1 : n < 1099511627776) (e0 : -1099511627776 < e) (e1 : e < 1099511627776)
    (R1 : wide_Right.f h l (n - 1) = some (k0, k1, lost)) (R2 : wide_Right.f k0 k1 1 = some (q0, q1, x)) :
    Calls Tryz.prog 258 #[.pointer (some ⟨b, 0, none⟩), .int .i64 n] w fun en w' => en = .returned (.tuple #[.bool (Go.bits .and .u64 k1 1 == 1), .bool (lost || m)]) ∧ rp_PK b q0 q1 (e + n) false w w' := by
  have hu41 := Tryz.underlying166
  have B1 := Aside0.mk R1
  have B2 := Aside0.mk R2
  have hn : decide (n ≤ 0) = false := decide_eq_false (by omega)
  clear R1 R2
  cases lost
  all_goals
   go_enter Tryz.func258, Tryz.ntmps258
   have lt := World.block_lt_of_cell? w _ c0
   go_wp2_with (first
    | (go_at_call 238; (with_reducible refine (wide_Right.calls h l (n - 1) k0 k1 _ _ B1.out).mono ?_); rintro e w1 ⟨rfl, hb⟩; obtain ⟨hc, hf⟩ := Nr.bcell hb; have lt1 := Nat.lt_of_lt_of_le lt hb.size; have AS := Aside0.mk (fun i => hc b i lt); have AF := Aside0.mk (fun i => hf b i lt); have AB := Aside0.mk (below_step (Below.refl _ w) hb); clear hc hf hb)
    | (go_at_call 238; (with_reducible refine (wide_Right.calls k0 k1 1 q0 q1 x _ B2.out).mono ?_); rintro e w2 ⟨rfl, hb⟩; obtain ⟨hc, hf⟩ := Nr.bcell hb; have hz := hb.size; have lt2 := Nr.lt_al (x := .cells #[.int .u64 k0, .int .u64 k1] 166 (0, 0)) lt1; have AS2 := Aside0.mk (fun i => (hc b i lt2).trans ((Nr.al lt1 i _).trans (AS.out i))); have AF2 := Aside0.mk (fun i => (hf b i lt2).trans ((Nr.alf lt1 i _).trans (AF.out i))); have AB2 := Aside0.mk (below_step (below_alloc AB.out _) hb); replace c0 := (AS2.out 0).trans c0; replace c1 := (AS2.out 1).trans c1; replace c2 := (AS2.out 2).trans c2; replace c3 := (AS2.out 3).trans c3; replace f0 := (AF2.out 0).trans f0; replace f1 := (AF2.out 1).trans f1; replace f2 := (AF2.out 2).trans f2; replace f3 := (AF2.out 3).trans f3; clear hc hf hb))
   go_ret2
   exact ⟨rfl, rp_PK.set4 c0 c1 c2 c3 AS2.out AF2.out (AB2.out.mono (Nat.le_of_lt lt))⟩
set_option maxHeartbeats 8000000 in
set_option maxRecDepth 100000 in
theorem rp_near0 (b : Nat) (h l e n : Int) (w : World)
    (c0 : w.cell? ⟨b, 0, none⟩ = some (.int .u64 h)) (c1 : w.cell? ⟨b, 1, none⟩ = some (.int .u64 l)) (c2 : w.cell? ⟨b, 2, none⟩ = some (.int .i64 e)) (c3 : w.cell? ⟨b, 3, none⟩ = some (.bool false))
    (f3 : w.frozen? ⟨b, 3, none⟩ = false) (h0 : n ≤ 0) :
    Calls Tryz.prog 243 #[.pointer (some ⟨b, 0, none⟩), .int .i64 n] w fun en w' => en = .returned (.tuple #[]) ∧ w' = w.setCell ⟨b, 3, none⟩ (.bool false) := by
  have hn : decide (n ≤ 0) = true := decide_eq_true h0
  clear h0
  go_enter Tryz.func243, Tryz.ntmps243
  go_wp2
  go_end0
  exact ⟨rfl, rfl⟩
set_option maxHeartbeats 8000000 in
set_option maxRecDepth 100000 in
theorem rp_near1 (b : Nat) (h l e n k0 k1 q0 q1 s0 s1 : Int) (m lost x up : Bool) (w : World)
    (c0 : w.cell? ⟨b, 0, none⟩ = some (.int .u64 h)) (c1 : w.cell? ⟨b, 1, none⟩ = some (.int .u64 l)) (c2 : w.cell? ⟨b, 2, none⟩ = some (.int .i64 e)) (c3 : w.cell? ⟨b, 3, none⟩ = some (.bool m))
    (f0 : w.frozen? ⟨b, 0, none⟩ = false) (f1 : w.frozen? ⟨b, 1, none⟩ = false) (f2 : w.frozen? ⟨b, 2, none⟩ = false) (f3 : w.frozen? ⟨b, 3, none⟩ = false)
    (h0 : 0 < n) (h1 : n < 1099511627776) (e0 : -1099511627776 < e) (e1 : e < 1099511627776)
    (R1 : wide_Right.f h l (n - 1) = some (k0, k1, lost)) (R2 : wide_Right.f k0 k1 1 = some (q0, q1, x))
    (U : ((Go.bits .and .u64 k1 1 == 1) && ((lost || m) || (Go.bits .and .u64 q1 1 == 1))) = up)
    (A1 : up = true → wide_Add.f q0 q1 0 1 = some (s0, s1)) (A0 : up = false → s0 = q0 ∧ s1 = q1) :
    Calls Tryz.prog 243 #[.pointer (some ⟨b, 0, none⟩), .int .i64 n] w fun en w' => en = .returned (.tuple #[]) ∧ rp_PK b s0 s1 (e + n) false w w' := by
  have hu41 := Tryz.underlying166
  have D := Aside0.mk (rp_down b h l e n k0 k1 q0 q1 m lost x w c0 c1 c2 c3 f0 f1 f2 f3 h0 h1 e0 e1 R1 R2)
  obtain ⟨half, hh⟩ : ∃ y, (Go.bits .and .u64 k1 1 == 1) = y := ⟨_, rfl⟩
  obtain ⟨rs, hr⟩ : ∃ y, (lost || m) = y := ⟨_, rfl⟩
  obtain ⟨od, ho⟩ : ∃ y, (Go.bits .and .u64 q1 1 == 1) = y := ⟨_, rfl⟩
  rw [hh, hr] at D
  rw [hh, hr, ho] at U
  subst U
  have lt := World.block_lt_of_cell? w _ c0
  have F := Aside0.mk (show w.frozen? ⟨b, 0, none⟩ = false ∧ w.frozen? ⟨b, 1, none⟩ = false ∧ w.frozen? ⟨b, 2, none⟩ = false ∧ w.frozen? ⟨b, 3, none⟩ = false from ⟨f0, f1, f2, f3⟩)
  have A1' := Aside0.mk A1
  have A0' := Aside0.mk A0
  clear hh hr R1 R2 c0 c1 c2 c3 f0 f1 f2 f3 h0 h1 e0 e1 A1 A0
  cases half <;> cases rs <;> cases od
  all_goals
    go_enter Tryz.func243, Tryz.ntmps243
    go_wp2_with (first | (go_at_call 258; refine D.out.mono ?_; rintro en w1 ⟨rfl, P⟩; have PP := Aside0.mk P; have c0 := P.c0; have c1 := P.c1; have c2 := P.c2; have c3 := P.c3; have f0 := (P.fs 0).trans F.out.1; have f1 := (P.fs 1).trans F.out.2.1; have f2 := (P.fs 2).trans F.out.2.2.1; have f3 := (P.fs 3).trans F.out.2.2.2; clear P))
  all_goals first
    | (go_end0; obtain ⟨rfl, rfl⟩ := A0'.out rfl; exact ⟨rfl, PP.out.put3 false⟩)
    | (have B := Aside0.mk (A1'.out rfl); have P2 := Aside0.mk (PP.out.put3 false); clear PP A1' A0'; generalize w1.setCell ⟨b, 3, none⟩ (.bool false) = w2 at *; replace c0 := P2.out.c0; replace c1 := P2.out.c1; replace c2 := P2.out.c2; replace c3 := P2.out.c3; replace f0 := (P2.out.fs 0).trans F.out.1; replace f1 := (P2.out.fs 1).trans F.out.2.1; go_region_with (first | (go_at_call 215; (with_reducible refine (wide_Of.calls 1 0 1 _ rfl).mono ?_); rintro e w3 ⟨rfl, hb⟩; have P2 := Aside0.mk (rp_PK.below (by repeat (first | exact P2.out | apply rp_PK.drew | apply rp_PK.alloc)) hb); clear hb c0 c1 c2 c3 f0 f1; have c0 := P2.out.c0; have c1 := P2.out.c1; have c2 := P2.out.c2; have c3 := P2.out.c3; have f0 := (P2.out.fs 0).trans F.out.1; have f1 := (P2.out.fs 1).trans F.out.2.1) | (go_at_call 241; (with_reducible refine (wide_Add.calls q0 q1 0 1 s0 s1 _ B.out).mono ?_); rintro e w3 ⟨rfl, hb⟩; have P2 := Aside0.mk (rp_PK.below (by repeat (first | exact P2.out | apply rp_PK.drew | apply rp_PK.alloc)) hb); clear hb c0 c1 c2 c3 f0 f1; have c0 := P2.out.c0; have c1 := P2.out.c1; have c2 := P2.out.c2; have c3 := P2.out.c3; have f0 := (P2.out.fs 0).trans F.out.1; have f1 := (P2.out.fs 1).trans F.out.2.1)))
  all_goals (go_wp2; go_end0; exact ⟨rfl, (P2.out.put0 s0).put1 s1⟩)
end Go.Proofs.YtnmlmgmljoncoaaGreatDoor.PA
namespace Go.Proofs
open Go.Shelf
def Tryz.lays134_ren : Go.Shelf.Ren := ⟨fun | 134 => 262 | 129 => 128 | n => n, fun | 53 => 22 | 3 => 3 | 4 => 4 | 46 => 50 | 5 => 5 | 9 => 9 | n => n, fun | n => n⟩
theorem Tryz.lays134 : Go.Proofs.Lays.n134 Tryz.prog Tryz.lays134_ren := {
  mixed := by kernel_rfl
  f129 := Tryz.func128.trans (congrArg some (by kernel_rfl))
  f134 := Tryz.func262.trans (congrArg some (by kernel_rfl))
  t3 := Tryz.underlying3
  a3 := Tryz.isAgg3
  z3 := Tryz.sizeOf3
  v3 := Tryz.zeroValue3
  t4 := Tryz.underlying4
  a4 := Tryz.isAgg4
  z4 := Tryz.sizeOf4
  v4 := Tryz.zeroValue4
  t5 := Tryz.underlying5
  a5 := Tryz.isAgg5
  z5 := Tryz.sizeOf5
  v5 := Tryz.zeroValue5
  t9 := Tryz.underlying9
  a9 := Tryz.isAgg9
  z9 := Tryz.sizeOf9
  v9 := Tryz.zeroValue9
  t46 := Tryz.underlying50
  a46 := Tryz.isAgg50
  z46 := Tryz.sizeOf50
  v46 := Tryz.zeroValue50
  t53 := Tryz.underlying22
  a53 := Tryz.isAgg22
  z53 := Tryz.sizeOf22
  v53 := Tryz.zeroValue22 }
theorem Tryz.bits_LeadingZeros64 (x : Int) (w : World) (h0 : 0 ≤ x) (h1 : x ≤ 18446744073709551615) :
    Calls Tryz.prog 262 #[.int .u64 x] w fun e w' => e = .returned (.int .i64 (64 - (Lib.bitLen x.toNat : Int))) ∧ w' = w := Any.bits_LeadingZeros64 Tryz.lays134 x w h0 h1
def Tryz.lays129_ren : Go.Shelf.Ren := ⟨fun | 129 => 128 | n => n, fun | 53 => 22 | 3 => 3 | 4 => 4 | 46 => 50 | 5 => 5 | 9 => 9 | n => n, fun | n => n⟩
theorem Tryz.lays129 : Go.Proofs.Lays.n129 Tryz.prog Tryz.lays129_ren := {
  mixed := by kernel_rfl
  f129 := Tryz.func128.trans (congrArg some (by kernel_rfl))
  t3 := Tryz.underlying3
  a3 := Tryz.isAgg3
  z3 := Tryz.sizeOf3
  v3 := Tryz.zeroValue3
  t4 := Tryz.underlying4
  a4 := Tryz.isAgg4
  z4 := Tryz.sizeOf4
  v4 := Tryz.zeroValue4
  t5 := Tryz.underlying5
  a5 := Tryz.isAgg5
  z5 := Tryz.sizeOf5
  v5 := Tryz.zeroValue5
  t9 := Tryz.underlying9
  a9 := Tryz.isAgg9
  z9 := Tryz.sizeOf9
  v9 := Tryz.zeroValue9
  t46 := Tryz.underlying50
  a46 := Tryz.isAgg50
  z46 := Tryz.sizeOf50
  v46 := Tryz.zeroValue50
  t53 := Tryz.underlying22
  a53 := Tryz.isAgg22
  z53 := Tryz.sizeOf22
  v53 := Tryz.zeroValue22 }
theorem Tryz.bits_Len64 (x : Int) (w : World) (h0 : 0 ≤ x) (h1 : x ≤ 18446744073709551615) :
    Calls Tryz.prog 128 #[.int .u64 x] w fun e w' => e = .returned (.int .i64 (Lib.bitLen x.toNat)) ∧ w' = w := Any.bits_Len64 Tryz.lays129 x w h0 h1
def Tryz.lays264_ren : Go.Shelf.Ren := ⟨fun | 264 => 249 | n => n, fun | 53 => 22 | 46 => 50 | n => n, fun | n => n⟩
theorem Tryz.lays264 : Go.Proofs.Lays.n264 Tryz.prog Tryz.lays264_ren := {
  mixed := by kernel_rfl
  f264 := Tryz.func249.trans (congrArg some (by kernel_rfl))
  t46 := Tryz.underlying50
  a46 := Tryz.isAgg50
  z46 := Tryz.sizeOf50
  v46 := Tryz.zeroValue50
  t53 := Tryz.underlying22
  a53 := Tryz.isAgg22
  z53 := Tryz.sizeOf22
  v53 := Tryz.zeroValue22 }
open Go.RowKit Go.Lib in
theorem Tryz.bits_Mul64 (x y : Nat) (hx : x < 18446744073709551616) (hy : y < 18446744073709551616) (w : World) :
    Calls Tryz.prog 249 #[.int .u64 x, .int .u64 y] w fun e w' => e = .returned (.tuple #[.int .u64 ((x * y / 18446744073709551616 : Nat) : Int), .int .u64 ((x * y % 18446744073709551616 : Nat) : Int)]) ∧ w' = w := Any.bits_Mul64 Tryz.lays264 x y hx hy w
end Go.Proofs
namespace Go.Proofs.YtnmlmgmljoncoaaGreatDoor.PA
open Go.RowKit Go.Proofs.YtnmlmgmljoncoaaGreatDoorW.PrintWords Go.Proofs.YtnmlmgmljoncoaaGreatDoorW.PrintLast Go.Proofs.YtnmlmgmljoncoaaGreatDoorW.PrintMore
attribute [local go_sem] max2_int min2_int max_two min_two max_three min_three max_four min_four   -- for this text's walks alone
set_option linter.unusedVariables false
set_option linter.unusedSimpArgs false
set_option maxHeartbeats 8000000
set_option maxRecDepth 100000
-- IMPORT Derived.Test.YtnmlmgmljoncoaaGreatDoorShelf
def bits_Len64.f (a0 : Int) : Option (Int) := if 0 ≤ a0 ∧ a0 ≤ 18446744073709551615 then some ((Lib.bitLen a0.toNat : Nat) : Int) else none
theorem bits_Len64.calls (a0 : Int) (r : Int) (w : World) (h : bits_Len64.f a0 = some r) :
  Calls Tryz.prog 128 #[.int .u64 a0] w fun e w' => e = .returned (.int .i64 r) ∧ Drawn0 w w' := by
 unfold bits_Len64.f at h
 split at h
 ·rename_i hr
  obtain rfl := Option.some.inj h
  refine (Tryz.bits_Len64 a0 w hr.1 hr.2).mono ?_
  rintro e w' ⟨rfl, rfl⟩
  exact ⟨rfl, Drawn0.refl _⟩
 ·cases h
def wide_Len.f (a0_0 : Int) (a0_1 : Int) : Option (Int) := if a0_0 > 0 then ((bits_Len64.f a0_0).bind fun t301 => (some (wrap64 (64 + t301)))) else ((bits_Len64.f a0_1).bind fun t302 => (some t302))
theorem wide_Len.calls (a0_0 : Int) (a0_1 : Int) (r : Int) (w : World) (h : wide_Len.f a0_0 a0_1 = some r) :
  Calls Tryz.prog 240 #[.agg #[.int .u64 a0_0, .int .u64 a0_1]] w fun e w' => e = .returned (.int .i64 r) ∧ Below w.heap.size w w' := by
 have hu166 := Tryz.underlying166
 have HB := A_ (Below.refl w.heap.size w)
 have H : (if a0_0 > 0 then ((bits_Len64.f a0_0).bind fun t301 => (some (wrap64 (64 + t301)))) else ((bits_Len64.f a0_1).bind fun t302 => (some t302))) = some r := h
 clear h
 by_cases c2 : a0_0 > 0
 ·rw [if_pos c2] at H
  have c2b0 : decide (0 < a0_0) = true := decide_eq_true c2
  clear c2
  replace H := ob_ H
  obtain ⟨t301, A30, H⟩ := H
  replace H : (some (wrap64 (64 + t301))) = some r := H
  have A3 := A_ A30;clear A30
  obtain rfl := Option.some.inj H
  go_enter Tryz.func240, Tryz.ntmps240
  go_wp2_with (first | ((with_reducible refine gate_dst (N := 1) rfl ?_); refine be_ 1 #[.int .u64 a0_0, .int .u64 a0_1] 166 ?_; intro gb300 hg w4 hbox hb; have BK300 := A_ (hbox); have GW300 := A_ (sz_ hg (hb_ HB.out)); have GE300 := A_ (sz_ hg (hb_ HB.out)); replace HB := A_ (below_step (hb_ HB.out) hb); clear hb hbox hg; have hcz5_0 := bv_ BK300.out 0; have hcz5_1 := bv_ BK300.out 1; have hfz5_0 := blk_frozen BK300.out 0; have hfz5_1 := blk_frozen BK300.out 1) | ((with_reducible refine gate_callee (f := 128) rfl ?_); refine goesL_ (some 8) rfl rfl Tryz.func128 (by kernel_rfl) rfl #[.int .u64 a0_0] rfl mp_ ?_; (with_reducible refine (bits_Len64.calls a0_0 t301 _ A3.out).mono ?_); rintro e w' ⟨rfl, ⟨nd, rfl⟩⟩; refine ⟨_, rfl, ?_⟩))
  go_ret
  exact ⟨er_, hb1_ HB.out GE300.out⟩
 ·rw [if_neg c2] at H
  have c2b0 : decide (0 < a0_0) = false := decide_eq_false c2
  clear c2
  replace H := ob_ H
  obtain ⟨t302, A60, H⟩ := H
  replace H : (some t302) = some r := H
  have A6 := A_ A60;clear A60
  obtain rfl := Option.some.inj H
  go_enter Tryz.func240, Tryz.ntmps240
  go_wp2_with (first | ((with_reducible refine gate_dst (N := 1) rfl ?_); refine be_ 1 #[.int .u64 a0_0, .int .u64 a0_1] 166 ?_; intro gb300 hg w7 hbox hb; have BK300 := A_ (hbox); have GW300 := A_ (sz_ hg (hb_ HB.out)); have GE300 := A_ (sz_ hg (hb_ HB.out)); replace HB := A_ (below_step (hb_ HB.out) hb); clear hb hbox hg; have hcz8_0 := bv_ BK300.out 0; have hcz8_1 := bv_ BK300.out 1; have hfz8_0 := blk_frozen BK300.out 0; have hfz8_1 := blk_frozen BK300.out 1) | ((with_reducible refine gate_callee (f := 128) rfl ?_); refine goesL_ (some 12) rfl rfl Tryz.func128 (by kernel_rfl) rfl #[.int .u64 a0_1] rfl mp_ ?_; (with_reducible refine (bits_Len64.calls a0_1 t302 _ A6.out).mono ?_); rintro e w' ⟨rfl, ⟨nd, rfl⟩⟩; refine ⟨_, rfl, ?_⟩))
  go_ret
  exact ⟨er_, hb1_ HB.out GE300.out⟩
end Go.Proofs.YtnmlmgmljoncoaaGreatDoor.PA
/- What the Go methods by which a number is rounded do to their receiver, for every receiver and every input in their bounds. -/
namespace Go.Proofs.YtnmlmgmljoncoaaGreatDoor.PA
open Go.RowKit Go.Proofs.YtnmlmgmljoncoaaGreatDoorW.PrintWords Go.Proofs.YtnmlmgmljoncoaaGreatDoorW.PrintLast Go.Proofs.YtnmlmgmljoncoaaGreatDoorW.PrintMore
attribute [local go_sem] max2_int min2_int max_two min_two max_three min_three max_four min_four   -- for this text's walks alone
set_option linter.unusedVariables false
set_option linter.unusedSimpArgs false
set_option maxHeartbeats 8000000 in
set_option maxRecDepth 100000 in
theorem rp_raise (b : Nat) (h l e e2 u f lo hi s0 s1 : Int) (m : Bool) (w : World)
    (c0 : w.cell? ⟨b, 0, none⟩ = some (.int .u64 h)) (c1 : w.cell? ⟨b, 1, none⟩ = some (.int .u64 l)) (c2 : w.cell? ⟨b, 2, none⟩ = some (.int .i64 e)) (c3 : w.cell? ⟨b, 3, none⟩ = some (.bool m))
    (c5 : w.cell? ⟨b, 5, none⟩ = some (.int .i64 f)) (c6 : w.cell? ⟨b, 6, none⟩ = some (.int .i64 lo)) (c7 : w.cell? ⟨b, 7, none⟩ = some (.int .i64 hi))
    (f0 : w.frozen? ⟨b, 0, none⟩ = false) (f1 : w.frozen? ⟨b, 1, none⟩ = false) (f2 : w.frozen? ⟨b, 2, none⟩ = false)
    (e0 : -1099511627776 < e) (e1 : e < 1099511627776) (g0 : 0 ≤ f) (g1 : f < 1000) (g2 : -10000 < lo) (g3 : lo < 10000) (n : Int) (n0 : 0 ≤ n) (n1 : n ≤ 128) (L : wide_Len.f h l = some n)
    (U : mn (f + 1 - n) (e - lo) = u) (X : (0 < u ∧ wide_Left.f h l u = some (s0, s1) ∧ e - u = e2) ∨ (u ≤ 0 ∧ s0 = h ∧ s1 = l ∧ e = e2)) :
    Calls Tryz.prog 244 #[.pointer (some ⟨b, 0, none⟩)] w fun en w' => en = .returned (.bool (decide (e2 ≤ hi))) ∧ rp_PK b s0 s1 e2 m w w' := by
  have hu41 := Tryz.underlying166
  have P2 := Aside0.mk (rp_PK.start c0 c1 c2 c3)
  have LL := Aside0.mk L
  have F := Aside0.mk (show w.frozen? ⟨b, 0, none⟩ = false ∧ w.frozen? ⟨b, 1, none⟩ = false ∧ w.frozen? ⟨b, 2, none⟩ = false from ⟨f0, f1, f2⟩)
  have C := Aside0.mk (show w.cell? ⟨b, 5, none⟩ = some (.int .i64 f) ∧ w.cell? ⟨b, 6, none⟩ = some (.int .i64 lo) ∧ w.cell? ⟨b, 7, none⟩ = some (.int .i64 hi) from ⟨c5, c6, c7⟩)
  have UU := Aside0.mk U
  have W1 := Aside0.mk (show IntKind.i64.wrap (f + 1) = f + 1 by rw [i64_w]; unfold wrap64; omega)
  have W2 := Aside0.mk (show IntKind.i64.wrap (f + 1 - n) = f + 1 - n by rw [i64_w]; unfold wrap64; omega)
  have W3 := Aside0.mk (show IntKind.i64.wrap (e - lo) = e - lo by rw [i64_w]; unfold wrap64; omega)
  have W4 := Aside0.mk (show IntKind.i64.wrap (e - u) = e - u by rw [i64_w]; unfold mn at U; unfold wrap64; split at U <;> omega)
  have X' := Aside0.mk X
  have hd : decide (0 < u) = true ∨ decide (0 < u) = false := by rcases X with ⟨h, _⟩ | ⟨h, _⟩; exact .inl (decide_eq_true h); exact .inr (decide_eq_false (by omega))
  clear L U X e0 e1 g0 g1 g2 g3 n0 n1
  go_enter Tryz.func244, Tryz.ntmps244
  go_wp2_with fail
  have lt := P2.out.lt
  have PP := P2.out
  go_region_held3 (fun w' => w'.cell? ⟨b, 0, none⟩ = some (.int .u64 h) ∧ w'.cell? ⟨b, 1, none⟩ = some (.int .u64 l) ∧ w'.cell? ⟨b, 2, none⟩ = some (.int .i64 e) ∧ w'.cell? ⟨b, 5, none⟩ = some (.int .i64 f) ∧ w'.cell? ⟨b, 6, none⟩ = some (.int .i64 lo) ∧ b < w'.heap.size ∧ rp_PK b h l e m w w')
    (((try go_split_ands); (try dsimp only); (repeat' apply And.intro) <;> first | assumption | (rw [hc _ _ (by assumption)]; assumption) | (exact Nat.lt_of_lt_of_le (by assumption) hb.size) | (exact rp_PK.below (by assumption) hb) | (apply rp_PK.drew; assumption)))
    ((go_at_call 240; (with_reducible refine (wide_Len.calls h l n _ LL.out).mono ?_); rintro e' w1 ⟨rfl, hb⟩; obtain ⟨hc, hf⟩ := Nr.bcell hb))
  rename_i hH
  obtain ⟨_, _, _, _, _, _, P3⟩ := hH
  rw [W1.out, W2.out, W3.out, show (if e - lo < f + 1 - n then e - lo else f + 1 - n) = u from UU.out]
  clear hb hc hf W1 W2 W3 UU P2 LL lt PP f0 f1 f2 c0 c1 c2 c3 c5 c6 c7
  rename_i q1 q2 q3 q4 q5 q6
  clear q1 q2 q3 q4 q5 q6
  have P2 := Aside0.mk P3
  have c0 := P3.c0; have c1 := P3.c1; have c2 := P3.c2; have c7 := (P3.cs 7 (by decide)).trans C.out.2.2
  have f0 := (P3.fs 0).trans F.out.1; have f1 := (P3.fs 1).trans F.out.2.1; have f2 := (P3.fs 2).trans F.out.2.2
  clear P3
  rcases hd with hd | hd
  · obtain ⟨B, rfl⟩ : Aside0 (wide_Left.f h l u = some (s0, s1)) ∧ e - u = e2 := by
      rcases X'.out with ⟨_, h1, h2⟩ | ⟨h1, _⟩
      · exact ⟨⟨h1⟩, h2⟩
      · have := of_decide_eq_true hd; omega
    have W5 := W4.out
    clear X' W4
    go_wp2_with fail
    go_region_with (first | (go_at_call 242; (with_reducible refine (wide_Left.calls h l u s0 s1 _ B.out).mono ?_); rintro e' w3 ⟨rfl, hb⟩; have P2 := Aside0.mk (rp_PK.below (by repeat (first | exact P2.out | apply rp_PK.drew | apply rp_PK.alloc)) hb); clear hb c0 c1 c2 c7 f0 f1 f2; have c0 := P2.out.c0; have c1 := P2.out.c1; have c2 := P2.out.c2; have c7 := (P2.out.cs 7 (by decide)).trans C.out.2.2; have f0 := (P2.out.fs 0).trans F.out.1; have f1 := (P2.out.fs 1).trans F.out.2.1; have f2 := (P2.out.fs 2).trans F.out.2.2))
    all_goals (have P3 := Aside0.mk (((P2.out.put0 s0).put1 s1).put2 (e - u)); generalize ((w3.setCell ⟨b, 0, none⟩ (.int .u64 s0)).setCell ⟨b, 1, none⟩ (.int .u64 s1)).setCell ⟨b, 2, none⟩ (.int .i64 (e - u)) = w5 at P3 ⊢; replace c2 := P3.out.c2; replace c7 := (P3.out.cs 7 (by decide)).trans C.out.2.2; clear P2 c0 c1 f0 f1 f2 B W5 hd)
    all_goals (go_wp2; go_region; go_wp2; go_ret; exact ⟨rfl, P3.out.drew⟩)
  · obtain ⟨rfl, rfl, rfl⟩ : s0 = h ∧ s1 = l ∧ e = e2 := by
      rcases X'.out with ⟨h1, _⟩ | ⟨_, h1⟩
      · have := of_decide_eq_false hd; omega
      · exact h1
    clear X' W4
    go_wp2_with fail
    go_region
    go_wp2
    go_ret
    exact ⟨rfl, P2.out.drew⟩
end Go.Proofs.YtnmlmgmljoncoaaGreatDoor.PA
namespace Go.Proofs.YtnmlmgmljoncoaaGreatDoor.PA
open Go.RowKit Go.Proofs.YtnmlmgmljoncoaaGreatDoorW.PrintWords Go.Proofs.YtnmlmgmljoncoaaGreatDoorW.PrintLast Go.Proofs.YtnmlmgmljoncoaaGreatDoorW.PrintMore
attribute [local go_sem] max2_int min2_int max_two min_two max_three min_three max_four min_four   -- for this text's walks alone
set_option linter.unusedVariables false
set_option linter.unusedSimpArgs false
set_option maxHeartbeats 8000000
set_option maxRecDepth 100000
def shape_Inf.f (a0 : Int) (a1 : Bool) : Option (Int) := (shape_of.f a0).bind fun bt286 => (if bt286.2.2 = true then ((shape_format_ones.f bt286.1 bt286.2.1).bind fun t290 => ((shape_format_join.f bt286.1 bt286.2.1 a1 t290 0).bind fun t291 => (some t291))) else (some 0))
theorem shape_Inf.calls (a0 : Int) (a1 : Bool) (r : Int) (w : World) (h : shape_Inf.f a0 a1 = some r) :
  Calls Tryz.prog 147 #[.int .i64 a0, .bool a1] w fun e w' => e = .returned (.int .u64 r) ∧ Below w.heap.size w w' := by
 have hu65 := Tryz.underlying65
 have HB := A_ (Below.refl w.heap.size w)
 have H : ((shape_of.f a0).bind fun bt286 => (if bt286.2.2 = true then ((shape_format_ones.f bt286.1 bt286.2.1).bind fun t290 => ((shape_format_join.f bt286.1 bt286.2.1 a1 t290 0).bind fun t291 => (some t291))) else (some 0))) = some r := h
 clear h
 replace H := ob_ H
 obtain ⟨⟨t286, t287, t288⟩, A30, H⟩ := H
 replace H : (if t288 = true then ((shape_format_ones.f t286 t287).bind fun t290 => ((shape_format_join.f t286 t287 a1 t290 0).bind fun t291 => (some t291))) else (some 0)) = some r := H
 have A3 := A_ A30;clear A30
 by_cases c4 : t288 = true
 ·subst c4
  have H1 : ((shape_format_ones.f t286 t287).bind fun t290 => ((shape_format_join.f t286 t287 a1 t290 0).bind fun t291 => (some t291))) = some r := by rw [if_pos rfl] at H; exact H
  clear H;have H := H1;clear H1
  replace H := ob_ H
  obtain ⟨t290, A50, H⟩ := H
  replace H : ((shape_format_join.f t286 t287 a1 t290 0).bind fun t291 => (some t291)) = some r := H
  have A5 := A_ A50;clear A50
  replace H := ob_ H
  obtain ⟨t291, A60, H⟩ := H
  replace H : (some t291) = some r := H
  have A6 := A_ A60;clear A60
  obtain rfl := Option.some.inj H
  go_enter Tryz.func147, Tryz.ntmps147
  try go_wp2_with (first | ((with_reducible refine gate_callee (f := 35) rfl ?_); refine goesL_ (some 9) rfl rfl Tryz.func35 (by kernel_rfl) rfl #[.int .i64 a0] rfl mp_ ?_; (with_reducible refine (shape_of.calls a0 t286 t287 true _ A3.out).mono ?_); rintro e w7 ⟨rfl, hb⟩; refine ⟨_, rfl, ?_⟩; replace HB := A_ (below_step (hb_ HB.out) hb); (try clear hb); (try clear hb2); (try clear hk); (try clear hi)) | ((with_reducible refine gate_dst (N := 5) rfl ?_); refine be_ 5 #[.int .i64 0, .int .i64 0] 65 ?_; intro gb289 hg w8 hbox hb; have BK289 := A_ (hbox); have GW289 := A_ (sz_ hg (hb_ HB.out)); have GE289 := A_ (sz_ hg (hb_ HB.out)); replace HB := A_ (below_step (hb_ HB.out) hb); clear hb hbox hg; have hcz9_0 := bv_ BK289.out 0; have hcz9_1 := bv_ BK289.out 1; have hfz9_0 := blk_frozen BK289.out 0; have hfz9_1 := blk_frozen BK289.out 1))
  have n0_ : Aside0 (((w8.setCell ⟨gb289, 0, none⟩ (.int .i64 t286)).setCell ⟨gb289, 1, none⟩ (.int .i64 t287)).heap[gb289]? = some (.cells #[.int .i64 t286, .int .i64 t287] 65 (0, 0))) := ⟨by (with_reducible repeat (first | refine blk_drewN ?_ _ | refine blk_drew ?_ | refine blk_alloc ?_ _)); refine blk_put (cs := #[.int .i64 t286, .int .i64 0]) ?_ 1 _ rfl; (with_reducible repeat (first | refine blk_drewN ?_ _ | refine blk_drew ?_ | refine blk_alloc ?_ _)); refine blk_put (cs := #[.int .i64 0, .int .i64 0]) ?_ 0 _ rfl; (with_reducible repeat (first | refine blk_drewN ?_ _ | refine blk_drew ?_ | refine blk_alloc ?_ _)); exact BK289.out⟩
  have n1_ : Aside0 (Below w.heap.size w ((w8.setCell ⟨gb289, 0, none⟩ (.int .i64 t286)).setCell ⟨gb289, 1, none⟩ (.int .i64 t287))) := ⟨hb1_ HB.out GE289.out⟩
  (try clear BK289);(try clear HB)
  generalize ((w8.setCell ⟨gb289, 0, none⟩ (.int .i64 t286)).setCell ⟨gb289, 1, none⟩ (.int .i64 t287)) = w10 at n0_ n1_ ⊢
  have BK289 := n0_;have HB := n1_;clear n0_ n1_
  replace BK289 := A_ (blk_drew BK289.out)
  replace HB := A_ (below_drew1 HB.out)
  refine start_ (n := 6) (S := fun w' => w'.cell? ⟨gb289, 0, none⟩ = some (.int .i64 t286) ∧ w'.cell? ⟨gb289, 1, none⟩ = some (.int .i64 t287)) (ds := []) #[false, false, false, false, false, false] (by kernel_rfl) rfl rfl ⟨bc_ BK289.out 0, bc_ BK289.out 1⟩ (fun hHeld => ?_)
  generalize w10.drew = w11 at BK289 HB hHeld ⊢
  refine pu_ 1 (some 15) #[false, true, false, false, false, false] rfl rfl (by kernel_rfl) ?_
  refine tk2_ 0 (some 14) #[true, true, false, false, false, false] rfl rfl (by kernel_rfl) hHeld ?_
  refine tk2_ 2 (some 16) #[true, true, true, false, false, false] rfl rfl (by kernel_rfl) hHeld ?_
  refine one_ (i := 3) (N := some 17) #[true, true, true, true, false, false] rfl rfl (by kernel_rfl) (by decide) (fun K hK => ?_)
  refine goes_ Tryz.func37 (by kernel_rfl) rfl #[.agg #[.int .i64 t286, .int .i64 t287]] (by rfl) rfl rfl mp_ ?_
  with_reducible refine (shape_format_ones.calls t286 t287 t290 _ A5.out).mono ?_
  rintro e w12 ⟨rfl, hb⟩
  refine ⟨_, rfl, ?_⟩
  replace BK289 := A_ (bb_ BK289.out hb)
  replace HB := A_ (below_step (hb1_ HB.out GE289.out) hb);(try clear hb);(try clear hb2);(try clear hk);(try clear hi)
  refine hK.out _ _ ⟨bc_ BK289.out 0, bc_ BK289.out 1⟩ (fun hHeld => ?_)
  clear hK K
  refine norm_ (a' := ?_) ?_ ?_
  rotate_left
  ·show Act.put _ (some 17) _ = _
   simp only [Act.put, lI_, l0_, lS_, i64_w, i32_w]
   rfl
  refine one_ (i := 4) (N := some 18) #[true, true, true, true, true, false] rfl rfl (by kernel_rfl) (by decide) (fun K hK => ?_)
  refine goes_ Tryz.func99 (by kernel_rfl) rfl #[.agg #[.int .i64 t286, .int .i64 t287], .bool a1, .int .u64 t290, .int .u64 0] (by rfl) rfl rfl mp_ ?_
  with_reducible refine (shape_format_join.calls t286 t287 a1 t290 0 t291 _ A6.out).mono ?_
  rintro e w13 ⟨rfl, hb⟩
  refine ⟨_, rfl, ?_⟩
  replace BK289 := A_ (bb_ BK289.out hb)
  replace HB := A_ (below_step (hb1_ HB.out GE289.out) hb);(try clear hb);(try clear hb2);(try clear hk);(try clear hi)
  refine hK.out _ _ ⟨bc_ BK289.out 0, bc_ BK289.out 1⟩ (fun hHeld => ?_)
  clear hK K
  refine norm_ (a' := ?_) ?_ ?_
  rotate_left
  ·show Act.put _ (some 18) _ = _
   simp only [Act.put, lI_, l0_, lS_, i64_w, i32_w]
   rfl
  refine pu_ 5 (some 4) #[true, true, true, true, true, true] rfl rfl (by kernel_rfl) ?_
  refine done_ (by kernel_rfl) ?_
  try go_wp2
  go_ret
  exact ⟨er_, hb1_ HB.out GE289.out⟩
 ·replace c4 := Bool.eq_false_iff.mpr c4
  subst c4
  have H1 : (some 0) = some r := by rw [if_neg (show ¬ (false = true) by decide)] at H; exact H
  clear H;have H := H1;clear H1
  obtain rfl := Option.some.inj H
  go_enter Tryz.func147, Tryz.ntmps147
  go_wp2_with (first | ((with_reducible refine gate_callee (f := 35) rfl ?_); refine goesL_ (some 9) rfl rfl Tryz.func35 (by kernel_rfl) rfl #[.int .i64 a0] rfl mp_ ?_; (with_reducible refine (shape_of.calls a0 t286 t287 false _ A3.out).mono ?_); rintro e w14 ⟨rfl, hb⟩; refine ⟨_, rfl, ?_⟩; replace HB := A_ (below_step (hb_ HB.out) hb); (try clear hb); (try clear hb2); (try clear hk); (try clear hi)) | ((with_reducible refine gate_dst (N := 5) rfl ?_); refine be_ 5 #[.int .i64 0, .int .i64 0] 65 ?_; intro gb289 hg w15 hbox hb; have BK289 := A_ (hbox); have GW289 := A_ (sz_ hg (hb_ HB.out)); have GE289 := A_ (sz_ hg (hb_ HB.out)); replace HB := A_ (below_step (hb_ HB.out) hb); clear hb hbox hg; have hcz16_0 := bv_ BK289.out 0; have hcz16_1 := bv_ BK289.out 1; have hfz16_0 := blk_frozen BK289.out 0; have hfz16_1 := blk_frozen BK289.out 1))
  go_ret
  exact ⟨er_, hb1_ HB.out GE289.out⟩
def shape_format_finite.j0 : Nat → Int → Bool → Int → Int → Bool → Int → Int → Int → Option (Int × Bool)
 | 0, _, _, _, _, _, _, _, _ => none
 | k + 1, x6, x9, x328000, x328001, x329000, x329001, x329002, x329003 => if x9 = true then (some (0, false)) else (if 0 ≤ x328001 then (if x329003 < (shl .u64 1 x328001) then ((shape_format_join.f x328000 x328001 x329000 0 x329003).bind fun t330 => (some (t330, (x329002 == x6)))) else ((shape_format_ones.f x328000 x328001).bind fun t331 => (if (wrap64 (x329002 - x6)) > (wrap64 ((wrap64 (t331)) - 2)) then (some (0, false)) else ((shape_format_join.f x328000 x328001 x329000 (IntKind.u64.wrap ((IntKind.u64.wrap (wrap64 (x329002 - x6))) + 1)) (Go.bits .and .u64 x329003 (IntKind.u64.wrap ((shl .u64 1 x328001) - 1)))).bind fun t332 => (some (t332, true)))))) else (none))
def shape_format_finite.f (k : Nat) (a0_0 : Int) (a0_1 : Int) (a1_0 : Bool) (a1_1 : Int) (a1_2 : Int) (a1_3 : Int) : Option (Int × Bool) := (shape_format_low.f a0_0 a0_1).bind fun t329 => (if a1_3 = 0 then (shape_format_finite.j0 k t329 true a0_0 a0_1 a1_0 a1_1 a1_2 a1_3) else (if 0 ≤ a0_1 then (if a1_3 ≥ (shl .u64 2 a0_1) then (shape_format_finite.j0 k t329 true a0_0 a0_1 a1_0 a1_1 a1_2 a1_3) else (shape_format_finite.j0 k t329 (decide (a1_2 < t329)) a0_0 a0_1 a1_0 a1_1 a1_2 a1_3)) else (none)))
theorem shape_format_finite.mono_l : ∀ k, (∀ y0 y1 y2 y3 y4 y5 y6 y7, LeO (shape_format_finite.j0 k y0 y1 y2 y3 y4 y5 y6 y7) (shape_format_finite.j0 (k + 1) y0 y1 y2 y3 y4 y5 y6 y7))
 | 0 => fun _ _ _ _ _ _ _ _ r h => by simp [shape_format_finite.j0] at h
 | k + 1 => by
  have ih0 := shape_format_finite.mono_l k
  ·intro y0 y1 y2 y3 y4 y5 y6 y7
   unfold shape_format_finite.j0
   repeat' first
   | (with_reducible exact ih0 _ _ _ _ _ _ _ _)
   | (with_reducible exact LeO.refl _)
   | (with_reducible exact LeO.none _)
   | (with_reducible refine LeO.ite ?_ ?_)
   | (with_reducible refine LeO.bind ?_ (fun _ => ?_))
   | exact ih0 _ _ _ _ _ _ _ _
   | exact LeO.none _
   | refine LeO.ite ?_ ?_
   | refine LeO.bind ?_ (fun _ => ?_)
theorem shape_format_finite.mono : ∀ a0 a1 a2 a3 a4 a5 k, LeO (shape_format_finite.f k a0 a1 a2 a3 a4 a5) (shape_format_finite.f (k + 1) a0 a1 a2 a3 a4 a5) := by
 intro a0 a1 a2 a3 a4 a5 k
 have ih0 := shape_format_finite.mono_l k
 unfold shape_format_finite.f
 repeat' first
   | (with_reducible exact ih0 _ _ _ _ _ _ _ _)
   | (with_reducible exact LeO.refl _)
   | (with_reducible exact LeO.none _)
   | (with_reducible refine LeO.ite ?_ ?_)
   | (with_reducible refine LeO.bind ?_ (fun _ => ?_))
   | exact ih0 _ _ _ _ _ _ _ _
   | exact LeO.none _
   | refine LeO.ite ?_ ?_
   | refine LeO.bind ?_ (fun _ => ?_)
def shape_format_finite.T2 : Bool × List (List Nat × List Nat) := (true, [([], []), ([0], [0]), ([1], [1]), ([2], [2]), ([3], [3]), ([4, 3], [3, 4]), ([3], [3]), ([6, 3], [3, 6]), ([7, 3], [3, 7]), ([5, 8, 3], [3, 5, 8]), ([3, 9], [3, 9]), ([10, 3], [10]), ([11], [11]), ([12, 11], [11, 12]), ([11], [11]), ([13, 14, 11], [11, 13, 14]), ([11, 15], [11, 15]), ([16, 11], [16])])
def shape_format_finite.B2 : List Nat := [0, 1, 3, 7, 15, 31, 15, 79, 207, 511, 1023, 2047, 4095, 8191, 4095, 32767, 65535, 131071]
theorem shape_format_finite.tab2 : rtab .any (opsOf Tryz.f266 2) = shape_format_finite.T2 := by kernel_rfl
theorem shape_format_finite.bits2 : waitsOk shape_format_finite.T2.2 shape_format_finite.B2 = true := by kernel_rfl
def shape_format_finite.T5 : Bool × List (List Nat × List Nat) := (true, [([], []), ([], []), ([1], [1]), ([], []), ([3], [3]), ([0, 2, 4], [0, 2, 4]), ([], []), ([6], [6]), ([], []), ([7, 8], [7, 8]), ([5, 5, 0, 1, 2, 3, 4, 5], [5]), ([9, 10, 0, 1, 2, 3, 4, 5, 6, 7, 8, 9, 10], [9])])
def shape_format_finite.B5 : List Nat := [0, 0, 2, 0, 8, 31, 0, 64, 0, 448, 63, 2047]
theorem shape_format_finite.tab5 : rtab .any (opsOf Tryz.f266 5) = shape_format_finite.T5 := by kernel_rfl
theorem shape_format_finite.bits5 : waitsOk shape_format_finite.T5.2 shape_format_finite.B5 = true := by kernel_rfl
def shape_format_finite.T6 : Bool × List (List Nat × List Nat) := (true, [([], []), ([0], [0]), ([], []), ([1, 2], [1, 2]), ([], []), ([4], [4]), ([5], [5]), ([6], [6]), ([3, 7], [3, 7]), ([8, 5], [8])])
def shape_format_finite.B6 : List Nat := [0, 1, 0, 7, 0, 16, 48, 112, 255, 511]
theorem shape_format_finite.tab6 : rtab .any (opsOf Tryz.f266 6) = shape_format_finite.T6 := by kernel_rfl
theorem shape_format_finite.bits6 : waitsOk shape_format_finite.T6.2 shape_format_finite.B6 = true := by kernel_rfl
def shape_format_finite.T8 : Bool × List (List Nat × List Nat) := (true, [([], []), ([], []), ([1], [1]), ([], []), ([3], [3]), ([], []), ([4, 5], [4, 5]), ([6], [6]), ([7], [7]), ([], []), ([9], [9]), ([], []), ([11], [11]), ([12], [12]), ([13], [13]), ([10, 14], [10, 14]), ([0, 2, 8, 15], [0, 2, 8, 15]), ([16, 16, 0, 1, 2, 3, 4, 5, 6, 7, 8, 9, 10, 11, 12, 13, 14, 15, 16], [16]), ([17, 0, 1, 2, 3, 4, 5, 6, 7, 8, 9, 10, 11, 12, 13, 14, 15, 16, 17], [])])
def shape_format_finite.B8 : List Nat := [0, 0, 2, 0, 8, 0, 56, 120, 248, 0, 512, 0, 2048, 6144, 14336, 32256, 65535, 131071, 262143]
theorem shape_format_finite.tab8 : rtab .any (opsOf Tryz.f266 8) = shape_format_finite.T8 := by kernel_rfl
theorem shape_format_finite.bits8 : waitsOk shape_format_finite.T8.2 shape_format_finite.B8 = true := by kernel_rfl
theorem shape_format_finite.calls (k : Nat) (a0_0 : Int) (a0_1 : Int) (a1_0 : Bool) (a1_1 : Int) (a1_2 : Int) (a1_3 : Int) (r1 : Int) (r2 : Bool) (w : World) (h : shape_format_finite.f k a0_0 a0_1 a1_0 a1_1 a1_2 a1_3 = some (r1, r2)) :
  Calls Tryz.prog 266 #[.agg #[.int .i64 a0_0, .int .i64 a0_1], .agg #[.bool a1_0, .int .i64 a1_1, .int .i64 a1_2, .int .u64 a1_3]] w fun e w' => e = .returned (.tuple #[.int .u64 r1, .bool r2]) ∧ Below w.heap.size w w' := by
 have hu65 := Tryz.underlying65
 have hu27 := Tryz.underlying27
 have HB := A_ (Below.refl w.heap.size w)
 have H : ((shape_format_low.f a0_0 a0_1).bind fun t329 => (if a1_3 = 0 then (shape_format_finite.j0 k t329 true a0_0 a0_1 a1_0 a1_1 a1_2 a1_3) else (if 0 ≤ a0_1 then (if a1_3 ≥ (shl .u64 2 a0_1) then (shape_format_finite.j0 k t329 true a0_0 a0_1 a1_0 a1_1 a1_2 a1_3) else (shape_format_finite.j0 k t329 (decide (a1_2 < t329)) a0_0 a0_1 a1_0 a1_1 a1_2 a1_3)) else (none)))) = some (r1, r2) := h
 clear h
 replace H := ob_ H
 obtain ⟨t329, A30, H⟩ := H
 replace H : (if a1_3 = 0 then (shape_format_finite.j0 k t329 true a0_0 a0_1 a1_0 a1_1 a1_2 a1_3) else (if 0 ≤ a0_1 then (if a1_3 ≥ (shl .u64 2 a0_1) then (shape_format_finite.j0 k t329 true a0_0 a0_1 a1_0 a1_1 a1_2 a1_3) else (shape_format_finite.j0 k t329 (decide (a1_2 < t329)) a0_0 a0_1 a1_0 a1_1 a1_2 a1_3)) else (none))) = some (r1, r2) := H
 have A3 := A_ A30;clear A30;have HC4 := A_ H;clear H
 go_enter Tryz.func266, Tryz.ntmps266
 go_upto_region 2 with (first | ((with_reducible refine gate_dst (N := 2) rfl ?_); refine be_ 2 #[.int .i64 a0_0, .int .i64 a0_1] 65 ?_; intro gb327 hg w5 hbox hb; have BK327 := A_ (hbox); have GW327 := A_ (sz_ hg (hb_ HB.out)); have GE327 := A_ (sz_ hg (hb_ HB.out)); replace HB := A_ (below_step (hb_ HB.out) hb); clear hb hbox hg) | ((with_reducible refine gate_dst (N := 3) rfl ?_); refine be_ 3 #[.bool a1_0, .int .i64 a1_1, .int .i64 a1_2, .int .u64 a1_3] 27 ?_; intro gb328 hg w6 hbox hb; have BK328 := A_ (hbox); have GW328 := A_ (sz_ hg (hb1_ HB.out GE327.out)); have GE328 := A_ (sz_ hg (hb1_ HB.out GE327.out)); have NB327_328 := A_ (nl_ hg BK327.out); have NB328_327 := A_ (ng_ hg BK327.out); replace BK327 := A_ (bb_ BK327.out hb); replace HB := A_ (below_step (hb1_ HB.out GE327.out) hb); clear hb hbox hg; have hnb7 := NB327_328.out; have hnc7 := NB328_327.out; have hcz8_0 := bv_ BK327.out 0; have hcz8_1 := bv_ BK327.out 1; have hfz8_0 := blk_frozen BK327.out 0; have hfz8_1 := blk_frozen BK327.out 1) | ((with_reducible refine gate_callee (f := 38) rfl ?_); refine goesL_ (some 8) rfl rfl Tryz.func38 (by kernel_rfl) rfl #[.agg #[.int .i64 a0_0, .int .i64 a0_1]] rfl mp_ ?_; (with_reducible refine (shape_format_low.calls a0_0 a0_1 t329 _ A3.out).mono ?_); rintro e w9 ⟨rfl, hb⟩; refine ⟨_, rfl, ?_⟩; replace BK327 := A_ (bb_ BK327.out hb); replace BK328 := A_ (bb_ BK328.out hb); replace HB := A_ (below_step (hb2_ HB.out GE327.out GE328.out) hb); (try clear hb); (try clear hb2); (try clear hk); (try clear hi)))
 (try simp only [Act.put, lI_, l0_, lS_])
 go_cut [9] (fun v9 wc => ∃ (kq : Nat) (x9_3 : Bool), v9 = .bool x9_3 ∧ Aside0 (shape_format_finite.j0 kq t329 x9_3 a0_0 a0_1 a1_0 a1_1 a1_2 a1_3 = some (r1, r2)) ∧ Aside0 (kq ≤ k) ∧ Aside0 (wc.heap[gb327]? = some (.cells #[.int .i64 a0_0, .int .i64 a0_1] 65 (0, 0))) ∧ Aside0 (wc.heap[gb328]? = some (.cells #[.bool a1_0, .int .i64 a1_1, .int .i64 a1_2, .int .u64 a1_3] 27 (0, 0))) ∧ Aside0 (Below w.heap.size w wc))
 case first =>
  have H := HC4.out
  clear HC4
  by_cases c10 : a1_3 = 0
  ·rw [if_pos c10] at H
   have c10b0 : (a1_3 == 0) = true := beq_iff_eq.mpr c10
   have c10b1 : (a1_3 != 0) = false := bne_eq_false_iff_eq.mpr c10
   clear c10
   (first | rw [c10b0] | (simp only [i64_w, i32_w]; rw [c10b0]) | skip)
   have H' := A_ H
   clear H
   try go_wp2
   replace BK327 := A_ (blk_drew BK327.out)
   replace BK328 := A_ (blk_drew BK328.out)
   replace HB := A_ (below_drew1 HB.out)
   refine start_ (n := 18) (S := fun w' => w'.cell? ⟨gb328, 0, none⟩ = some (.bool a1_0) ∧ w'.cell? ⟨gb328, 1, none⟩ = some (.int .i64 a1_1) ∧ w'.cell? ⟨gb328, 2, none⟩ = some (.int .i64 a1_2) ∧ w'.cell? ⟨gb328, 3, none⟩ = some (.int .u64 a1_3)) (ds := []) #[false, false, false, false, false, false, false, false, false, false, false, false, false, false, false, false, false, false] (by kernel_rfl) rfl rfl ⟨bc_ BK328.out 0, bc_ BK328.out 1, bc_ BK328.out 2, bc_ BK328.out 3⟩ (fun hHeld => ?_); refine with_tabW shape_format_finite.tab2 shape_format_finite.bits2 (fun HT_ HW_ => ?_)
   generalize w9.drew = w11 at BK327 BK328 HB hHeld ⊢
   refine pu_ 0 (some 10) #[true, false, false, false, false, false, false, false, false, false, false, false, false, false, false, false, false, false] rfl rfl (any_of HT_.out (by kernel_rfl)) ?_
   refine tk4_ 1 (some 11) #[true, true, false, false, false, false, false, false, false, false, false, false, false, false, false, false, false, false] rfl rfl (take_ofW HT_.out HW_.out (by kernel_rfl)) hHeld ?_
   refine pu_ 2 (some 12) #[true, true, true, false, false, false, false, false, false, false, false, false, false, false, false, false, false, false] rfl rfl (any_of HT_.out (by kernel_rfl)) ?_
   refine pu_ 3 (some 13) #[true, true, true, true, false, false, false, false, false, false, false, false, false, false, false, false, false, false] rfl rfl (any_of HT_.out (by kernel_rfl)) ?_
   refine pure_ (i := 4) (N := some 14) (v := undef) (a' := ?_) #[true, true, true, true, true, false, false, false, false, false, false, false, false, false, false, false, false, false] rfl rfl (any_of HT_.out (by kernel_rfl)) (fun _ _ _ h => h) (Or.inr ⟨by rfl, rfl⟩) ?_ ?_
   rotate_left
   ·simp only [Act.put, lI_, l0_, lS_, i64_w, i32_w]
    rfl
   refine pure_ (i := 5) (N := some 15) (v := undef) (a' := ?_) #[true, true, true, true, true, true, false, false, false, false, false, false, false, false, false, false, false, false] rfl rfl (any_of HT_.out (by kernel_rfl)) (fun _ _ _ h => h) (Or.inr ⟨by rfl, rfl⟩) ?_ ?_
   rotate_left
   ·simp only [Act.put, lI_, l0_, lS_, i64_w, i32_w]
    rfl
   refine pure_ (i := 6) (N := some 16) (v := undef) (a' := ?_) #[true, true, true, true, true, true, true, false, false, false, false, false, false, false, false, false, false, false] rfl rfl (any_of HT_.out (by kernel_rfl)) (fun _ _ _ h => h) (Or.inr ⟨by rfl, rfl⟩) ?_ ?_
   rotate_left
   ·simp only [Act.put, lI_, l0_, lS_, i64_w, i32_w]
    rfl
   refine pure_ (i := 7) (N := some 17) (v := undef) (a' := ?_) #[true, true, true, true, true, true, true, true, false, false, false, false, false, false, false, false, false, false] rfl rfl (any_of HT_.out (by kernel_rfl)) (fun _ _ _ h => h) (Or.inr ⟨by rfl, rfl⟩) ?_ ?_
   rotate_left
   ·simp only [Act.put, lI_, l0_, lS_, i64_w, i32_w]
    rfl
   refine pure_ (i := 8) (N := some 18) (v := undef) (a' := ?_) #[true, true, true, true, true, true, true, true, true, false, false, false, false, false, false, false, false, false] rfl rfl (any_of HT_.out (by kernel_rfl)) (fun _ _ _ h => h) (Or.inr ⟨by rfl, rfl⟩) ?_ ?_
   rotate_left
   ·simp only [Act.put, lI_, l0_, lS_, i64_w, i32_w]
    rfl
   refine pure_ (i := 9) (N := some 19) (v := undef) (a' := ?_) #[true, true, true, true, true, true, true, true, true, true, false, false, false, false, false, false, false, false] rfl rfl (any_of HT_.out (by kernel_rfl)) (fun _ _ _ h => h) (Or.inr ⟨by rfl, rfl⟩) ?_ ?_
   rotate_left
   ·simp only [Act.put, lI_, l0_, lS_, i64_w, i32_w]
    rfl
   refine pu_ 10 (some 20) #[true, true, true, true, true, true, true, true, true, true, true, false, false, false, false, false, false, false] rfl rfl (any_of HT_.out (by kernel_rfl)) ?_
   refine pu_ 11 (some 21) #[true, true, true, true, true, true, true, true, true, true, true, true, false, false, false, false, false, false] rfl rfl (any_of HT_.out (by kernel_rfl)) ?_
   refine pure_ (i := 12) (N := some 22) (v := undef) (a' := ?_) #[true, true, true, true, true, true, true, true, true, true, true, true, true, false, false, false, false, false] rfl rfl (any_of HT_.out (by kernel_rfl)) (fun _ _ _ h => h) (Or.inr ⟨by rfl, rfl⟩) ?_ ?_
   rotate_left
   ·simp only [Act.put, lI_, l0_, lS_, i64_w, i32_w]
    rfl
   refine pure_ (i := 13) (N := some 23) (v := undef) (a' := ?_) #[true, true, true, true, true, true, true, true, true, true, true, true, true, true, false, false, false, false] rfl rfl (any_of HT_.out (by kernel_rfl)) (fun _ _ _ h => h) (Or.inr ⟨by rfl, rfl⟩) ?_ ?_
   rotate_left
   ·simp only [Act.put, lI_, l0_, lS_, i64_w, i32_w]
    rfl
   refine pure_ (i := 14) (N := some 24) (v := undef) (a' := ?_) #[true, true, true, true, true, true, true, true, true, true, true, true, true, true, true, false, false, false] rfl rfl (any_of HT_.out (by kernel_rfl)) (fun _ _ _ h => h) (Or.inr ⟨by rfl, rfl⟩) ?_ ?_
   rotate_left
   ·simp only [Act.put, lI_, l0_, lS_, i64_w, i32_w]
    rfl
   refine pure_ (i := 15) (N := some 25) (v := undef) (a' := ?_) #[true, true, true, true, true, true, true, true, true, true, true, true, true, true, true, true, false, false] rfl rfl (any_of HT_.out (by kernel_rfl)) (fun _ _ _ h => h) (Or.inr ⟨by rfl, rfl⟩) ?_ ?_
   rotate_left
   ·simp only [Act.put, lI_, l0_, lS_, i64_w, i32_w]
    rfl
   refine pu_ 16 (some 26) #[true, true, true, true, true, true, true, true, true, true, true, true, true, true, true, true, true, false] rfl rfl (any_of HT_.out (by kernel_rfl)) ?_
   refine pu_ 17 (some 9) #[true, true, true, true, true, true, true, true, true, true, true, true, true, true, true, true, true, true] rfl rfl (any_of HT_.out (by kernel_rfl)) ?_
   refine done_ (done_of HT_.out (by kernel_rfl)) ?_
   try go_wp2
   go_meet
   case rel => exact ⟨_, (true), sm_, H', ⟨by first | omega | exact Nat.le_refl _⟩, ⟨bk_ BK327.out⟩, ⟨bk_ BK328.out⟩, ⟨hb2_ HB.out GE327.out GE328.out⟩⟩
  ·rw [if_neg c10] at H
   have c10b0 : (a1_3 == 0) = false := beq_eq_false_iff_ne.mpr c10
   have c10b1 : (a1_3 != 0) = true := bne_iff_ne.mpr c10
   (first | rw [c10b0] | (simp only [i64_w, i32_w]; rw [c10b0]) | skip)
   by_cases c12 : 0 ≤ a0_1
   ·rw [if_pos c12] at H
    have c12b0 := eq_true c12
    have c12b1 : decide (0 ≤ a0_1) = true := decide_eq_true c12
    clear c12
    obtain ⟨ji13, hji13⟩ : ∃ j_ : Int, (shl .u64 2 a0_1) = j_ := ⟨_, rfl⟩
    replace H : (if a1_3 ≥ (ji13) then (shape_format_finite.j0 k t329 true a0_0 a0_1 a1_0 a1_1 a1_2 a1_3) else (shape_format_finite.j0 k t329 (decide (a1_2 < t329)) a0_0 a0_1 a1_0 a1_1 a1_2 a1_3)) = some (r1, r2) := by first | (rw [hji13] at H; exact H) | (simp only [hji13] at H ⊢; exact H)
    have hji13_ : (IntKind.u64.wrap (2 * 2 ^ min a0_1.toNat 64)) = ji13 := hji13
    have hji13z : a0_1 ≤ 64 → (IntKind.u64.wrap (2 * 2 ^ a0_1.toNat)) = ji13 := shl_small hji13
    by_cases c14 : a1_3 ≥ (ji13)
    ·rw [if_pos c14] at H
     have c14b0 : decide ((ji13) ≤ a1_3) = true := decide_eq_true c14
     clear c14
     have H' := A_ H
     clear H
     try go_wp2
     replace BK327 := A_ (blk_drew BK327.out)
     replace BK328 := A_ (blk_drew BK328.out)
     replace HB := A_ (below_drew1 HB.out)
     refine start_ (n := 18) (S := fun w' => w'.cell? ⟨gb328, 0, none⟩ = some (.bool a1_0) ∧ w'.cell? ⟨gb328, 1, none⟩ = some (.int .i64 a1_1) ∧ w'.cell? ⟨gb328, 2, none⟩ = some (.int .i64 a1_2) ∧ w'.cell? ⟨gb328, 3, none⟩ = some (.int .u64 a1_3) ∧ w'.cell? ⟨gb327, 0, none⟩ = some (.int .i64 a0_0) ∧ w'.cell? ⟨gb327, 1, none⟩ = some (.int .i64 a0_1)) (ds := []) #[false, false, false, false, false, false, false, false, false, false, false, false, false, false, false, false, false, false] (by kernel_rfl) rfl rfl ⟨bc_ BK328.out 0, bc_ BK328.out 1, bc_ BK328.out 2, bc_ BK328.out 3, bc_ BK327.out 0, bc_ BK327.out 1⟩ (fun hHeld => ?_); refine with_tabW shape_format_finite.tab2 shape_format_finite.bits2 (fun HT_ HW_ => ?_)
     generalize w9.drew = w15 at BK327 BK328 HB hHeld ⊢
     refine pu_ 0 (some 10) #[true, false, false, false, false, false, false, false, false, false, false, false, false, false, false, false, false, false] rfl rfl (any_of HT_.out (by kernel_rfl)) ?_
     refine tk6_ 1 (some 11) #[true, true, false, false, false, false, false, false, false, false, false, false, false, false, false, false, false, false] rfl rfl (take_ofW HT_.out HW_.out (by kernel_rfl)) hHeld ?_
     refine pu_ 2 (some 12) #[true, true, true, false, false, false, false, false, false, false, false, false, false, false, false, false, false, false] rfl rfl (any_of HT_.out (by kernel_rfl)) ?_
     refine pu_ 3 (some 13) #[true, true, true, true, false, false, false, false, false, false, false, false, false, false, false, false, false, false] rfl rfl (any_of HT_.out (by kernel_rfl)) ?_
     refine pu_ 4 (some 14) #[true, true, true, true, true, false, false, false, false, false, false, false, false, false, false, false, false, false] rfl rfl (any_of HT_.out (by kernel_rfl)) ?_
     refine pu_ 6 (some 16) #[true, true, true, true, true, false, true, false, false, false, false, false, false, false, false, false, false, false] rfl rfl (any_of HT_.out (by kernel_rfl)) ?_
     refine tk6_ 5 (some 15) #[true, true, true, true, true, true, true, false, false, false, false, false, false, false, false, false, false, false] rfl rfl (take_ofW HT_.out HW_.out (by kernel_rfl)) hHeld ?_
     refine tk6_ 7 (some 17) #[true, true, true, true, true, true, true, true, false, false, false, false, false, false, false, false, false, false] rfl rfl (take_ofW HT_.out HW_.out (by kernel_rfl)) hHeld ?_
     refine pu_ 8 (some 18) #[true, true, true, true, true, true, true, true, true, false, false, false, false, false, false, false, false, false] rfl rfl (any_of HT_.out (by kernel_rfl)) ?_
     refine pu_ 9 (some 19) #[true, true, true, true, true, true, true, true, true, true, false, false, false, false, false, false, false, false] rfl rfl (any_of HT_.out (by kernel_rfl)) ?_
     refine pu_ 10 (some 20) #[true, true, true, true, true, true, true, true, true, true, true, false, false, false, false, false, false, false] rfl rfl (any_of HT_.out (by kernel_rfl)) ?_
     refine pu_ 11 (some 21) #[true, true, true, true, true, true, true, true, true, true, true, true, false, false, false, false, false, false] rfl rfl (any_of HT_.out (by kernel_rfl)) ?_
     refine pure_ (i := 12) (N := some 22) (v := undef) (a' := ?_) #[true, true, true, true, true, true, true, true, true, true, true, true, true, false, false, false, false, false] rfl rfl (any_of HT_.out (by kernel_rfl)) (fun _ _ _ h => h) (Or.inr ⟨by rfl, rfl⟩) ?_ ?_
     rotate_left
     ·simp only [Act.put, lI_, l0_, lS_, i64_w, i32_w]
      rfl
     refine pure_ (i := 13) (N := some 23) (v := undef) (a' := ?_) #[true, true, true, true, true, true, true, true, true, true, true, true, true, true, false, false, false, false] rfl rfl (any_of HT_.out (by kernel_rfl)) (fun _ _ _ h => h) (Or.inr ⟨by rfl, rfl⟩) ?_ ?_
     rotate_left
     ·simp only [Act.put, lI_, l0_, lS_, i64_w, i32_w]
      rfl
     refine pure_ (i := 14) (N := some 24) (v := undef) (a' := ?_) #[true, true, true, true, true, true, true, true, true, true, true, true, true, true, true, false, false, false] rfl rfl (any_of HT_.out (by kernel_rfl)) (fun _ _ _ h => h) (Or.inr ⟨by rfl, rfl⟩) ?_ ?_
     rotate_left
     ·simp only [Act.put, lI_, l0_, lS_, i64_w, i32_w]
      rfl
     refine pure_ (i := 15) (N := some 25) (v := undef) (a' := ?_) #[true, true, true, true, true, true, true, true, true, true, true, true, true, true, true, true, false, false] rfl rfl (any_of HT_.out (by kernel_rfl)) (fun _ _ _ h => h) (Or.inr ⟨by rfl, rfl⟩) ?_ ?_
     rotate_left
     ·simp only [Act.put, lI_, l0_, lS_, i64_w, i32_w]
      rfl
     refine pu_ 16 (some 26) #[true, true, true, true, true, true, true, true, true, true, true, true, true, true, true, true, true, false] rfl rfl (any_of HT_.out (by kernel_rfl)) ?_
     refine pu_ 17 (some 9) #[true, true, true, true, true, true, true, true, true, true, true, true, true, true, true, true, true, true] rfl rfl (any_of HT_.out (by kernel_rfl)) ?_
     refine done_ (done_of HT_.out (by kernel_rfl)) ?_
     try go_wp2
     go_meet
     case rel => exact ⟨_, (true), sm_, H', ⟨by first | omega | exact Nat.le_refl _⟩, ⟨bk_ BK327.out⟩, ⟨bk_ BK328.out⟩, ⟨hb2_ HB.out GE327.out GE328.out⟩⟩
    ·rw [if_neg c14] at H
     have c14b0 : decide ((ji13) ≤ a1_3) = false := decide_eq_false c14
     clear c14
     have H' := A_ H
     clear H
     try go_wp2
     replace BK327 := A_ (blk_drew BK327.out)
     replace BK328 := A_ (blk_drew BK328.out)
     replace HB := A_ (below_drew1 HB.out)
     refine start_ (n := 18) (S := fun w' => w'.cell? ⟨gb328, 0, none⟩ = some (.bool a1_0) ∧ w'.cell? ⟨gb328, 1, none⟩ = some (.int .i64 a1_1) ∧ w'.cell? ⟨gb328, 2, none⟩ = some (.int .i64 a1_2) ∧ w'.cell? ⟨gb328, 3, none⟩ = some (.int .u64 a1_3) ∧ w'.cell? ⟨gb327, 0, none⟩ = some (.int .i64 a0_0) ∧ w'.cell? ⟨gb327, 1, none⟩ = some (.int .i64 a0_1)) (ds := []) #[false, false, false, false, false, false, false, false, false, false, false, false, false, false, false, false, false, false] (by kernel_rfl) rfl rfl ⟨bc_ BK328.out 0, bc_ BK328.out 1, bc_ BK328.out 2, bc_ BK328.out 3, bc_ BK327.out 0, bc_ BK327.out 1⟩ (fun hHeld => ?_); refine with_tabW shape_format_finite.tab2 shape_format_finite.bits2 (fun HT_ HW_ => ?_)
     generalize w9.drew = w16 at BK327 BK328 HB hHeld ⊢
     refine pu_ 0 (some 10) #[true, false, false, false, false, false, false, false, false, false, false, false, false, false, false, false, false, false] rfl rfl (any_of HT_.out (by kernel_rfl)) ?_
     refine tk6_ 1 (some 11) #[true, true, false, false, false, false, false, false, false, false, false, false, false, false, false, false, false, false] rfl rfl (take_ofW HT_.out HW_.out (by kernel_rfl)) hHeld ?_
     refine pu_ 2 (some 12) #[true, true, true, false, false, false, false, false, false, false, false, false, false, false, false, false, false, false] rfl rfl (any_of HT_.out (by kernel_rfl)) ?_
     refine pu_ 3 (some 13) #[true, true, true, true, false, false, false, false, false, false, false, false, false, false, false, false, false, false] rfl rfl (any_of HT_.out (by kernel_rfl)) ?_
     refine pu_ 4 (some 14) #[true, true, true, true, true, false, false, false, false, false, false, false, false, false, false, false, false, false] rfl rfl (any_of HT_.out (by kernel_rfl)) ?_
     refine pu_ 6 (some 16) #[true, true, true, true, true, false, true, false, false, false, false, false, false, false, false, false, false, false] rfl rfl (any_of HT_.out (by kernel_rfl)) ?_
     refine tk6_ 5 (some 15) #[true, true, true, true, true, true, true, false, false, false, false, false, false, false, false, false, false, false] rfl rfl (take_ofW HT_.out HW_.out (by kernel_rfl)) hHeld ?_
     refine tk6_ 7 (some 17) #[true, true, true, true, true, true, true, true, false, false, false, false, false, false, false, false, false, false] rfl rfl (take_ofW HT_.out HW_.out (by kernel_rfl)) hHeld ?_
     refine pu_ 8 (some 18) #[true, true, true, true, true, true, true, true, true, false, false, false, false, false, false, false, false, false] rfl rfl (any_of HT_.out (by kernel_rfl)) ?_
     refine pu_ 9 (some 19) #[true, true, true, true, true, true, true, true, true, true, false, false, false, false, false, false, false, false] rfl rfl (any_of HT_.out (by kernel_rfl)) ?_
     refine pu_ 10 (some 20) #[true, true, true, true, true, true, true, true, true, true, true, false, false, false, false, false, false, false] rfl rfl (any_of HT_.out (by kernel_rfl)) ?_
     refine pu_ 11 (some 21) #[true, true, true, true, true, true, true, true, true, true, true, true, false, false, false, false, false, false] rfl rfl (any_of HT_.out (by kernel_rfl)) ?_
     refine pu_ 12 (some 22) #[true, true, true, true, true, true, true, true, true, true, true, true, true, false, false, false, false, false] rfl rfl (any_of HT_.out (by kernel_rfl)) ?_
     refine pu_ 14 (some 24) #[true, true, true, true, true, true, true, true, true, true, true, true, true, false, true, false, false, false] rfl rfl (any_of HT_.out (by kernel_rfl)) ?_
     refine tk6_ 13 (some 23) #[true, true, true, true, true, true, true, true, true, true, true, true, true, true, true, false, false, false] rfl rfl (take_ofW HT_.out HW_.out (by kernel_rfl)) hHeld ?_
     refine pu_ 15 (some 25) #[true, true, true, true, true, true, true, true, true, true, true, true, true, true, true, true, false, false] rfl rfl (any_of HT_.out (by kernel_rfl)) ?_
     refine pu_ 16 (some 26) #[true, true, true, true, true, true, true, true, true, true, true, true, true, true, true, true, true, false] rfl rfl (any_of HT_.out (by kernel_rfl)) ?_
     refine pu_ 17 (some 9) #[true, true, true, true, true, true, true, true, true, true, true, true, true, true, true, true, true, true] rfl rfl (any_of HT_.out (by kernel_rfl)) ?_
     refine done_ (done_of HT_.out (by kernel_rfl)) ?_
     try go_wp2
     go_meet
     case rel => exact ⟨_, (decide (a1_2 < t329)), sm_, H', ⟨by first | omega | exact Nat.le_refl _⟩, ⟨bk_ BK327.out⟩, ⟨bk_ BK328.out⟩, ⟨hb2_ HB.out GE327.out GE328.out⟩⟩
   ·rw [if_neg c12] at H
    exact absurd H (by simp)
 case rest =>
  clear HC4
  try clear c1
  try clear c2
  try clear p2
  try clear c3
  try clear c7
  try clear c10
  try clear c10b0
  try clear c10b1
  try clear c12
  try clear c12b0
  try clear c12b1
  try clear c14
  try clear c14b0
  try clear hcz8_0
  try clear hcz8_1
  try clear hfz8_0
  try clear hfz8_1
  obtain ⟨kq, x9_3, rfl, HA, HJ3, BK327, BK328, HB⟩ := hcut
  cases kq with
  | zero => exact absurd HA.out (by simp [shape_format_finite.j0])
  | succ kj3 =>
   have H := HA.out
   clear HA
   simp only [shape_format_finite.j0] at H
   by_cases c17 : x9_3 = true
   ·subst c17
    have H1 : (some (0, false)) = some (r1, r2) := by rw [if_pos rfl] at H; exact H
    clear H;have H := H1;clear H1
    simp only [Option.some.injEq, Prod.mk.injEq] at H
    obtain ⟨rfl, rfl⟩ := H
    go_wp2
    go_ret2
    exact ⟨er_, hb2_ HB.out GE327.out GE328.out⟩
   ·replace c17 := Bool.eq_false_iff.mpr c17
    subst c17
    have H1 : (if 0 ≤ a0_1 then (if a1_3 < (shl .u64 1 a0_1) then ((shape_format_join.f a0_0 a0_1 a1_0 0 a1_3).bind fun t330 => (some (t330, (a1_2 == t329)))) else ((shape_format_ones.f a0_0 a0_1).bind fun t331 => (if (wrap64 (a1_2 - t329)) > (wrap64 ((wrap64 (t331)) - 2)) then (some (0, false)) else ((shape_format_join.f a0_0 a0_1 a1_0 (IntKind.u64.wrap ((IntKind.u64.wrap (wrap64 (a1_2 - t329))) + 1)) (Go.bits .and .u64 a1_3 (IntKind.u64.wrap ((shl .u64 1 a0_1) - 1)))).bind fun t332 => (some (t332, true)))))) else (none)) = some (r1, r2) := by rw [if_neg (show ¬ (false = true) by decide)] at H; exact H
    clear H;have H := H1;clear H1
    by_cases c18 : 0 ≤ a0_1
    ·rw [if_pos c18] at H
     have c18b0 := eq_true c18
     have c18b1 : decide (0 ≤ a0_1) = true := decide_eq_true c18
     clear c18
     obtain ⟨ji19, hji19⟩ : ∃ j_ : Int, (shl .u64 1 a0_1) = j_ := ⟨_, rfl⟩
     replace H : (if a1_3 < (ji19) then ((shape_format_join.f a0_0 a0_1 a1_0 0 a1_3).bind fun t330 => (some (t330, (a1_2 == t329)))) else ((shape_format_ones.f a0_0 a0_1).bind fun t331 => (if (wrap64 (a1_2 - t329)) > (wrap64 ((wrap64 (t331)) - 2)) then (some (0, false)) else ((shape_format_join.f a0_0 a0_1 a1_0 (IntKind.u64.wrap ((IntKind.u64.wrap (wrap64 (a1_2 - t329))) + 1)) (Go.bits .and .u64 a1_3 (IntKind.u64.wrap ((ji19) - 1)))).bind fun t332 => (some (t332, true)))))) = some (r1, r2) := by first | (rw [hji19] at H; exact H) | (simp only [hji19] at H ⊢; exact H)
     have hji19_ : (IntKind.u64.wrap (1 * 2 ^ min a0_1.toNat 64)) = ji19 := hji19
     have hji19z : a0_1 ≤ 64 → (IntKind.u64.wrap (1 * 2 ^ a0_1.toNat)) = ji19 := shl_small hji19
     have hji19u : (IntKind.u64.wrap (2 ^ min a0_1.toNat 64)) = ji19 := by have h_ := hji19_; rw [Int.one_mul] at h_; exact h_
     have hji19v : a0_1 ≤ 64 → (IntKind.u64.wrap (2 ^ a0_1.toNat)) = ji19 := fun hle_ => by have h_ := hji19z hle_; rw [Int.one_mul] at h_; exact h_
     by_cases c20 : a1_3 < (ji19)
     ·rw [if_pos c20] at H
      have c20b0 : decide (a1_3 < (ji19)) = true := decide_eq_true c20
      clear c20
      replace H := ob_ H
      obtain ⟨t330, A210, H⟩ := H
      replace H : (some (t330, (a1_2 == t329))) = some (r1, r2) := H
      have A21 := A_ A210;clear A210
      simp only [Option.some.injEq, Prod.mk.injEq] at H
      obtain ⟨rfl, rfl⟩ := H
      try go_wp2
      replace BK327 := A_ (blk_drew BK327.out)
      replace BK328 := A_ (blk_drew BK328.out)
      replace HB := A_ (below_drew1 HB.out)
      refine start_ (n := 7) (S := fun w' => w'.cell? ⟨gb328, 0, none⟩ = some (.bool a1_0) ∧ w'.cell? ⟨gb328, 1, none⟩ = some (.int .i64 a1_1) ∧ w'.cell? ⟨gb328, 2, none⟩ = some (.int .i64 a1_2) ∧ w'.cell? ⟨gb328, 3, none⟩ = some (.int .u64 a1_3) ∧ w'.cell? ⟨gb327, 0, none⟩ = some (.int .i64 a0_0) ∧ w'.cell? ⟨gb327, 1, none⟩ = some (.int .i64 a0_1)) (ds := []) #[false, false, false, false, false, false, false] (by kernel_rfl) rfl rfl ⟨bc_ BK328.out 0, bc_ BK328.out 1, bc_ BK328.out 2, bc_ BK328.out 3, bc_ BK327.out 0, bc_ BK327.out 1⟩ (fun hHeld => ?_)
      generalize wc.drew = w22 at BK327 BK328 HB hHeld ⊢
      refine pu_ 0 (some 28) #[true, false, false, false, false, false, false] rfl rfl (by kernel_rfl) ?_
      refine pu_ 2 (some 30) #[true, false, true, false, false, false, false] rfl rfl (by kernel_rfl) ?_
      refine tk6_ 1 (some 29) #[true, true, true, false, false, false, false] rfl rfl (by kernel_rfl) hHeld ?_
      refine tk6_ 3 (some 31) #[true, true, true, true, false, false, false] rfl rfl (by kernel_rfl) hHeld ?_
      refine pu_ 4 (some 32) #[true, true, true, true, true, false, false] rfl rfl (by kernel_rfl) ?_
      refine pu_ 5 (some 33) #[true, true, true, true, true, true, false] rfl rfl (by kernel_rfl) ?_
      refine pu_ 6 (some 27) #[true, true, true, true, true, true, true] rfl rfl (by kernel_rfl) ?_
      refine done_ (by kernel_rfl) ?_
      try go_wp2
      replace BK327 := A_ (blk_drew BK327.out)
      replace BK328 := A_ (blk_drew BK328.out)
      replace HB := A_ (below_drew1 HB.out)
      refine start_ (n := 12) (S := fun w' => w'.cell? ⟨gb327, 0, none⟩ = some (.int .i64 a0_0) ∧ w'.cell? ⟨gb327, 1, none⟩ = some (.int .i64 a0_1) ∧ w'.cell? ⟨gb328, 0, none⟩ = some (.bool a1_0) ∧ w'.cell? ⟨gb328, 1, none⟩ = some (.int .i64 a1_1) ∧ w'.cell? ⟨gb328, 2, none⟩ = some (.int .i64 a1_2) ∧ w'.cell? ⟨gb328, 3, none⟩ = some (.int .u64 a1_3)) (ds := []) #[false, false, false, false, false, false, false, false, false, false, false, false] (by kernel_rfl) rfl rfl ⟨bc_ BK327.out 0, bc_ BK327.out 1, bc_ BK328.out 0, bc_ BK328.out 1, bc_ BK328.out 2, bc_ BK328.out 3⟩ (fun hHeld => ?_); refine with_tabW shape_format_finite.tab5 shape_format_finite.bits5 (fun HT_ HW_ => ?_)
      generalize w22.drew = w23 at BK327 BK328 HB hHeld ⊢
      refine pu_ 1 (some 35) #[false, true, false, false, false, false, false, false, false, false, false, false] rfl rfl (any_of HT_.out (by kernel_rfl)) ?_
      refine pu_ 3 (some 37) #[false, true, false, true, false, false, false, false, false, false, false, false] rfl rfl (any_of HT_.out (by kernel_rfl)) ?_
      refine pu_ 6 (some 40) #[false, true, false, true, false, false, true, false, false, false, false, false] rfl rfl (any_of HT_.out (by kernel_rfl)) ?_
      refine pu_ 8 (some 42) #[false, true, false, true, false, false, true, false, true, false, false, false] rfl rfl (any_of HT_.out (by kernel_rfl)) ?_
      refine tk6_ 0 (some 34) #[true, true, false, true, false, false, true, false, true, false, false, false] rfl rfl (take_ofW HT_.out HW_.out (by kernel_rfl)) hHeld ?_
      refine tk6_ 2 (some 36) #[true, true, true, true, false, false, true, false, true, false, false, false] rfl rfl (take_ofW HT_.out HW_.out (by kernel_rfl)) hHeld ?_
      refine tk6_ 4 (some 38) #[true, true, true, true, true, false, true, false, true, false, false, false] rfl rfl (take_ofW HT_.out HW_.out (by kernel_rfl)) hHeld ?_
      refine tk6_ 7 (some 41) #[true, true, true, true, true, false, true, true, true, false, false, false] rfl rfl (take_ofW HT_.out HW_.out (by kernel_rfl)) hHeld ?_
      refine pu_ 9 (some 43) #[true, true, true, true, true, false, true, true, true, true, false, false] rfl rfl (any_of HT_.out (by kernel_rfl)) ?_
      refine one_ (i := 5) (N := some 39) #[true, true, true, true, true, true, true, true, true, true, false, false] rfl rfl (one_of HT_.out (by kernel_rfl)) (by decide) (fun K hK => ?_)
      refine goes_ Tryz.func99 (by kernel_rfl) rfl #[.agg #[.int .i64 a0_0, .int .i64 a0_1], .bool a1_0, .int .u64 0, .int .u64 a1_3] (by rfl) rfl rfl mp_ ?_
      with_reducible refine (shape_format_join.calls a0_0 a0_1 a1_0 0 a1_3 t330 _ A21.out).mono ?_
      rintro e w24 ⟨rfl, hb⟩
      refine ⟨_, rfl, ?_⟩
      replace BK327 := A_ (bb_ BK327.out hb)
      replace BK328 := A_ (bb_ BK328.out hb)
      replace HB := A_ (below_step (hb2_ HB.out GE327.out GE328.out) hb);(try clear hb);(try clear hb2);(try clear hk);(try clear hi)
      refine hK.out _ _ ⟨bc_ BK327.out 0, bc_ BK327.out 1, bc_ BK328.out 0, bc_ BK328.out 1, bc_ BK328.out 2, bc_ BK328.out 3⟩ (fun hHeld => ?_)
      clear hK K
      refine norm_ (a' := ?_) ?_ ?_
      rotate_left
      ·show Act.put _ (some 39) _ = _
       simp only [Act.put, lI_, l0_, lS_, i64_w, i32_w]
       rfl
      refine pu_ 10 (some 4) #[true, true, true, true, true, true, true, true, true, true, true, false] rfl rfl (any_of HT_.out (by kernel_rfl)) ?_
      refine pu_ 11 (some 5) #[true, true, true, true, true, true, true, true, true, true, true, true] rfl rfl (any_of HT_.out (by kernel_rfl)) ?_
      refine done_ (done_of HT_.out (by kernel_rfl)) ?_
      try go_wp2
      go_ret2
      exact ⟨by first | rfl | (simp [errW_none, errW_some] <;> rfl) | (simp only [← hji19]; first | rfl | (simp [errW_none, errW_some] <;> rfl)) | (simp [*, errW_none, errW_some] <;> rfl), hb2_ HB.out GE327.out GE328.out⟩
     ·rw [if_neg c20] at H
      have c20b0 : decide (a1_3 < (ji19)) = false := decide_eq_false c20
      clear c20
      replace H := ob_ H
      obtain ⟨t331, A250, H⟩ := H
      replace H : (if (wrap64 (a1_2 - t329)) > (wrap64 ((wrap64 (t331)) - 2)) then (some (0, false)) else ((shape_format_join.f a0_0 a0_1 a1_0 (IntKind.u64.wrap ((IntKind.u64.wrap (wrap64 (a1_2 - t329))) + 1)) (Go.bits .and .u64 a1_3 (IntKind.u64.wrap ((ji19) - 1)))).bind fun t332 => (some (t332, true)))) = some (r1, r2) := H
      have A25 := A_ A250;clear A250
      by_cases c26 : (wrap64 (a1_2 - t329)) > (wrap64 ((wrap64 (t331)) - 2))
      ·rw [if_pos c26] at H
       have c26b0 : decide ((wrap64 ((wrap64 (t331)) - 2)) < (wrap64 (a1_2 - t329))) = true := decide_eq_true c26
       clear c26
       simp only [Option.some.injEq, Prod.mk.injEq] at H
       obtain ⟨rfl, rfl⟩ := H
       try go_wp2
       replace BK327 := A_ (blk_drew BK327.out)
       replace BK328 := A_ (blk_drew BK328.out)
       replace HB := A_ (below_drew1 HB.out)
       refine start_ (n := 7) (S := fun w' => w'.cell? ⟨gb328, 0, none⟩ = some (.bool a1_0) ∧ w'.cell? ⟨gb328, 1, none⟩ = some (.int .i64 a1_1) ∧ w'.cell? ⟨gb328, 2, none⟩ = some (.int .i64 a1_2) ∧ w'.cell? ⟨gb328, 3, none⟩ = some (.int .u64 a1_3) ∧ w'.cell? ⟨gb327, 0, none⟩ = some (.int .i64 a0_0) ∧ w'.cell? ⟨gb327, 1, none⟩ = some (.int .i64 a0_1)) (ds := []) #[false, false, false, false, false, false, false] (by kernel_rfl) rfl rfl ⟨bc_ BK328.out 0, bc_ BK328.out 1, bc_ BK328.out 2, bc_ BK328.out 3, bc_ BK327.out 0, bc_ BK327.out 1⟩ (fun hHeld => ?_)
       generalize wc.drew = w27 at BK327 BK328 HB hHeld ⊢
       refine pu_ 0 (some 28) #[true, false, false, false, false, false, false] rfl rfl (by kernel_rfl) ?_
       refine pu_ 2 (some 30) #[true, false, true, false, false, false, false] rfl rfl (by kernel_rfl) ?_
       refine tk6_ 1 (some 29) #[true, true, true, false, false, false, false] rfl rfl (by kernel_rfl) hHeld ?_
       refine tk6_ 3 (some 31) #[true, true, true, true, false, false, false] rfl rfl (by kernel_rfl) hHeld ?_
       refine pu_ 4 (some 32) #[true, true, true, true, true, false, false] rfl rfl (by kernel_rfl) ?_
       refine pu_ 5 (some 33) #[true, true, true, true, true, true, false] rfl rfl (by kernel_rfl) ?_
       refine pu_ 6 (some 27) #[true, true, true, true, true, true, true] rfl rfl (by kernel_rfl) ?_
       refine done_ (by kernel_rfl) ?_
       try go_wp2
       replace BK327 := A_ (blk_drew BK327.out)
       replace BK328 := A_ (blk_drew BK328.out)
       replace HB := A_ (below_drew1 HB.out)
       refine start_ (n := 10) (S := fun w' => w'.cell? ⟨gb328, 0, none⟩ = some (.bool a1_0) ∧ w'.cell? ⟨gb328, 1, none⟩ = some (.int .i64 a1_1) ∧ w'.cell? ⟨gb328, 2, none⟩ = some (.int .i64 a1_2) ∧ w'.cell? ⟨gb328, 3, none⟩ = some (.int .u64 a1_3) ∧ w'.cell? ⟨gb327, 0, none⟩ = some (.int .i64 a0_0) ∧ w'.cell? ⟨gb327, 1, none⟩ = some (.int .i64 a0_1)) (ds := []) #[false, false, false, false, false, false, false, false, false, false] (by kernel_rfl) rfl rfl ⟨bc_ BK328.out 0, bc_ BK328.out 1, bc_ BK328.out 2, bc_ BK328.out 3, bc_ BK327.out 0, bc_ BK327.out 1⟩ (fun hHeld => ?_); refine with_tabW shape_format_finite.tab6 shape_format_finite.bits6 (fun HT_ HW_ => ?_)
       generalize w27.drew = w28 at BK327 BK328 HB hHeld ⊢
       refine pu_ 0 (some 45) #[true, false, false, false, false, false, false, false, false, false] rfl rfl (any_of HT_.out (by kernel_rfl)) ?_
       refine pu_ 2 (some 47) #[true, false, true, false, false, false, false, false, false, false] rfl rfl (any_of HT_.out (by kernel_rfl)) ?_
       refine tk6_ 1 (some 46) #[true, true, true, false, false, false, false, false, false, false] rfl rfl (take_ofW HT_.out HW_.out (by kernel_rfl)) hHeld ?_
       refine pu_ 3 (some 48) #[true, true, true, true, false, false, false, false, false, false] rfl rfl (any_of HT_.out (by kernel_rfl)) ?_
       refine tk6_ 4 (some 49) #[true, true, true, true, true, false, false, false, false, false] rfl rfl (take_ofW HT_.out HW_.out (by kernel_rfl)) hHeld ?_
       refine one_ (i := 5) (N := some 50) #[true, true, true, true, true, true, false, false, false, false] rfl rfl (one_of HT_.out (by kernel_rfl)) (by decide) (fun K hK => ?_)
       refine goes_ Tryz.func37 (by kernel_rfl) rfl #[.agg #[.int .i64 a0_0, .int .i64 a0_1]] (by rfl) rfl rfl mp_ ?_
       with_reducible refine (shape_format_ones.calls a0_0 a0_1 t331 _ A25.out).mono ?_
       rintro e w29 ⟨rfl, hb⟩
       refine ⟨_, rfl, ?_⟩
       replace BK327 := A_ (bb_ BK327.out hb)
       replace BK328 := A_ (bb_ BK328.out hb)
       replace HB := A_ (below_step (hb2_ HB.out GE327.out GE328.out) hb);(try clear hb);(try clear hb2);(try clear hk);(try clear hi)
       refine hK.out _ _ ⟨bc_ BK328.out 0, bc_ BK328.out 1, bc_ BK328.out 2, bc_ BK328.out 3, bc_ BK327.out 0, bc_ BK327.out 1⟩ (fun hHeld => ?_)
       clear hK K
       refine norm_ (a' := ?_) ?_ ?_
       rotate_left
       ·show Act.put _ (some 50) _ = _
        simp only [Act.put, lI_, l0_, lS_, i64_w, i32_w]
        rfl
       refine pu_ 6 (some 51) #[true, true, true, true, true, true, true, false, false, false] rfl rfl (any_of HT_.out (by kernel_rfl)) ?_
       refine pu_ 7 (some 52) #[true, true, true, true, true, true, true, true, false, false] rfl rfl (any_of HT_.out (by kernel_rfl)) ?_
       refine pu_ 8 (some 53) #[true, true, true, true, true, true, true, true, true, false] rfl rfl (any_of HT_.out (by kernel_rfl)) ?_
       refine pu_ 9 (some 44) #[true, true, true, true, true, true, true, true, true, true] rfl rfl (any_of HT_.out (by kernel_rfl)) ?_
       refine done_ (done_of HT_.out (by kernel_rfl)) ?_
       try go_wp2
       go_ret2
       exact ⟨by first | rfl | (simp [errW_none, errW_some] <;> rfl) | (simp only [← hji19]; first | rfl | (simp [errW_none, errW_some] <;> rfl)) | (simp [*, errW_none, errW_some] <;> rfl), hb2_ HB.out GE327.out GE328.out⟩
      ·rw [if_neg c26] at H
       have c26b0 : decide ((wrap64 ((wrap64 (t331)) - 2)) < (wrap64 (a1_2 - t329))) = false := decide_eq_false c26
       clear c26
       have c30b0 := eq_true (of_decide_eq_true (by first | (with_reducible assumption) | assumption) : 0 ≤ a0_1)
       replace H := ob_ H
       obtain ⟨t332, A310, H⟩ := H
       replace H : (some (t332, true)) = some (r1, r2) := H
       have A31 := A_ A310;clear A310
       simp only [Option.some.injEq, Prod.mk.injEq] at H
       obtain ⟨rfl, rfl⟩ := H
       try go_wp2
       replace BK327 := A_ (blk_drew BK327.out)
       replace BK328 := A_ (blk_drew BK328.out)
       replace HB := A_ (below_drew1 HB.out)
       refine start_ (n := 7) (S := fun w' => w'.cell? ⟨gb328, 0, none⟩ = some (.bool a1_0) ∧ w'.cell? ⟨gb328, 1, none⟩ = some (.int .i64 a1_1) ∧ w'.cell? ⟨gb328, 2, none⟩ = some (.int .i64 a1_2) ∧ w'.cell? ⟨gb328, 3, none⟩ = some (.int .u64 a1_3) ∧ w'.cell? ⟨gb327, 0, none⟩ = some (.int .i64 a0_0) ∧ w'.cell? ⟨gb327, 1, none⟩ = some (.int .i64 a0_1)) (ds := []) #[false, false, false, false, false, false, false] (by kernel_rfl) rfl rfl ⟨bc_ BK328.out 0, bc_ BK328.out 1, bc_ BK328.out 2, bc_ BK328.out 3, bc_ BK327.out 0, bc_ BK327.out 1⟩ (fun hHeld => ?_)
       generalize wc.drew = w32 at BK327 BK328 HB hHeld ⊢
       refine pu_ 0 (some 28) #[true, false, false, false, false, false, false] rfl rfl (by kernel_rfl) ?_
       refine pu_ 2 (some 30) #[true, false, true, false, false, false, false] rfl rfl (by kernel_rfl) ?_
       refine tk6_ 1 (some 29) #[true, true, true, false, false, false, false] rfl rfl (by kernel_rfl) hHeld ?_
       refine tk6_ 3 (some 31) #[true, true, true, true, false, false, false] rfl rfl (by kernel_rfl) hHeld ?_
       refine pu_ 4 (some 32) #[true, true, true, true, true, false, false] rfl rfl (by kernel_rfl) ?_
       refine pu_ 5 (some 33) #[true, true, true, true, true, true, false] rfl rfl (by kernel_rfl) ?_
       refine pu_ 6 (some 27) #[true, true, true, true, true, true, true] rfl rfl (by kernel_rfl) ?_
       refine done_ (by kernel_rfl) ?_
       try go_wp2
       replace BK327 := A_ (blk_drew BK327.out)
       replace BK328 := A_ (blk_drew BK328.out)
       replace HB := A_ (below_drew1 HB.out)
       refine start_ (n := 10) (S := fun w' => w'.cell? ⟨gb328, 0, none⟩ = some (.bool a1_0) ∧ w'.cell? ⟨gb328, 1, none⟩ = some (.int .i64 a1_1) ∧ w'.cell? ⟨gb328, 2, none⟩ = some (.int .i64 a1_2) ∧ w'.cell? ⟨gb328, 3, none⟩ = some (.int .u64 a1_3) ∧ w'.cell? ⟨gb327, 0, none⟩ = some (.int .i64 a0_0) ∧ w'.cell? ⟨gb327, 1, none⟩ = some (.int .i64 a0_1)) (ds := []) #[false, false, false, false, false, false, false, false, false, false] (by kernel_rfl) rfl rfl ⟨bc_ BK328.out 0, bc_ BK328.out 1, bc_ BK328.out 2, bc_ BK328.out 3, bc_ BK327.out 0, bc_ BK327.out 1⟩ (fun hHeld => ?_); refine with_tabW shape_format_finite.tab6 shape_format_finite.bits6 (fun HT_ HW_ => ?_)
       generalize w32.drew = w33 at BK327 BK328 HB hHeld ⊢
       refine pu_ 0 (some 45) #[true, false, false, false, false, false, false, false, false, false] rfl rfl (any_of HT_.out (by kernel_rfl)) ?_
       refine pu_ 2 (some 47) #[true, false, true, false, false, false, false, false, false, false] rfl rfl (any_of HT_.out (by kernel_rfl)) ?_
       refine tk6_ 1 (some 46) #[true, true, true, false, false, false, false, false, false, false] rfl rfl (take_ofW HT_.out HW_.out (by kernel_rfl)) hHeld ?_
       refine pu_ 3 (some 48) #[true, true, true, true, false, false, false, false, false, false] rfl rfl (any_of HT_.out (by kernel_rfl)) ?_
       refine tk6_ 4 (some 49) #[true, true, true, true, true, false, false, false, false, false] rfl rfl (take_ofW HT_.out HW_.out (by kernel_rfl)) hHeld ?_
       refine one_ (i := 5) (N := some 50) #[true, true, true, true, true, true, false, false, false, false] rfl rfl (one_of HT_.out (by kernel_rfl)) (by decide) (fun K hK => ?_)
       refine goes_ Tryz.func37 (by kernel_rfl) rfl #[.agg #[.int .i64 a0_0, .int .i64 a0_1]] (by rfl) rfl rfl mp_ ?_
       with_reducible refine (shape_format_ones.calls a0_0 a0_1 t331 _ A25.out).mono ?_
       rintro e w34 ⟨rfl, hb⟩
       refine ⟨_, rfl, ?_⟩
       replace BK327 := A_ (bb_ BK327.out hb)
       replace BK328 := A_ (bb_ BK328.out hb)
       replace HB := A_ (below_step (hb2_ HB.out GE327.out GE328.out) hb);(try clear hb);(try clear hb2);(try clear hk);(try clear hi)
       refine hK.out _ _ ⟨bc_ BK328.out 0, bc_ BK328.out 1, bc_ BK328.out 2, bc_ BK328.out 3, bc_ BK327.out 0, bc_ BK327.out 1⟩ (fun hHeld => ?_)
       clear hK K
       refine norm_ (a' := ?_) ?_ ?_
       rotate_left
       ·show Act.put _ (some 50) _ = _
        simp only [Act.put, lI_, l0_, lS_, i64_w, i32_w]
        rfl
       refine pu_ 6 (some 51) #[true, true, true, true, true, true, true, false, false, false] rfl rfl (any_of HT_.out (by kernel_rfl)) ?_
       refine pu_ 7 (some 52) #[true, true, true, true, true, true, true, true, false, false] rfl rfl (any_of HT_.out (by kernel_rfl)) ?_
       refine pu_ 8 (some 53) #[true, true, true, true, true, true, true, true, true, false] rfl rfl (any_of HT_.out (by kernel_rfl)) ?_
       refine pu_ 9 (some 44) #[true, true, true, true, true, true, true, true, true, true] rfl rfl (any_of HT_.out (by kernel_rfl)) ?_
       refine done_ (done_of HT_.out (by kernel_rfl)) ?_
       try go_wp2
       replace BK327 := A_ (blk_drew BK327.out)
       replace BK328 := A_ (blk_drew BK328.out)
       replace HB := A_ (below_drew1 HB.out)
       refine start_ (n := 19) (S := fun w' => w'.cell? ⟨gb327, 0, none⟩ = some (.int .i64 a0_0) ∧ w'.cell? ⟨gb327, 1, none⟩ = some (.int .i64 a0_1) ∧ w'.cell? ⟨gb328, 0, none⟩ = some (.bool a1_0) ∧ w'.cell? ⟨gb328, 1, none⟩ = some (.int .i64 a1_1) ∧ w'.cell? ⟨gb328, 2, none⟩ = some (.int .i64 a1_2) ∧ w'.cell? ⟨gb328, 3, none⟩ = some (.int .u64 a1_3)) (ds := []) #[false, false, false, false, false, false, false, false, false, false, false, false, false, false, false, false, false, false, false] (by kernel_rfl) rfl rfl ⟨bc_ BK327.out 0, bc_ BK327.out 1, bc_ BK328.out 0, bc_ BK328.out 1, bc_ BK328.out 2, bc_ BK328.out 3⟩ (fun hHeld => ?_); refine with_tabW shape_format_finite.tab8 shape_format_finite.bits8 (fun HT_ HW_ => ?_)
       generalize w34.drew = w35 at BK327 BK328 HB hHeld ⊢
       refine pu_ 1 (some 55) #[false, true, false, false, false, false, false, false, false, false, false, false, false, false, false, false, false, false, false] rfl rfl (any_of HT_.out (by kernel_rfl)) ?_
       refine pu_ 3 (some 57) #[false, true, false, true, false, false, false, false, false, false, false, false, false, false, false, false, false, false, false] rfl rfl (any_of HT_.out (by kernel_rfl)) ?_
       refine pu_ 5 (some 59) #[false, true, false, true, false, true, false, false, false, false, false, false, false, false, false, false, false, false, false] rfl rfl (any_of HT_.out (by kernel_rfl)) ?_
       refine pu_ 9 (some 63) #[false, true, false, true, false, true, false, false, false, true, false, false, false, false, false, false, false, false, false] rfl rfl (any_of HT_.out (by kernel_rfl)) ?_
       refine pu_ 11 (some 65) #[false, true, false, true, false, true, false, false, false, true, false, true, false, false, false, false, false, false, false] rfl rfl (any_of HT_.out (by kernel_rfl)) ?_
       refine tk6_ 0 (some 54) #[true, true, false, true, false, true, false, false, false, true, false, true, false, false, false, false, false, false, false] rfl rfl (take_ofW HT_.out HW_.out (by kernel_rfl)) hHeld ?_
       refine tk6_ 2 (some 56) #[true, true, true, true, false, true, false, false, false, true, false, true, false, false, false, false, false, false, false] rfl rfl (take_ofW HT_.out HW_.out (by kernel_rfl)) hHeld ?_
       refine tk6_ 4 (some 58) #[true, true, true, true, true, true, false, false, false, true, false, true, false, false, false, false, false, false, false] rfl rfl (take_ofW HT_.out HW_.out (by kernel_rfl)) hHeld ?_
       refine pu_ 6 (some 60) #[true, true, true, true, true, true, true, false, false, true, false, true, false, false, false, false, false, false, false] rfl rfl (any_of HT_.out (by kernel_rfl)) ?_
       refine pu_ 7 (some 61) #[true, true, true, true, true, true, true, true, false, true, false, true, false, false, false, false, false, false, false] rfl rfl (any_of HT_.out (by kernel_rfl)) ?_
       refine pu_ 8 (some 62) #[true, true, true, true, true, true, true, true, true, true, false, true, false, false, false, false, false, false, false] rfl rfl (any_of HT_.out (by kernel_rfl)) ?_
       refine tk6_ 10 (some 64) #[true, true, true, true, true, true, true, true, true, true, true, true, false, false, false, false, false, false, false] rfl rfl (take_ofW HT_.out HW_.out (by kernel_rfl)) hHeld ?_
       refine tk6_ 12 (some 66) #[true, true, true, true, true, true, true, true, true, true, true, true, true, false, false, false, false, false, false] rfl rfl (take_ofW HT_.out HW_.out (by kernel_rfl)) hHeld ?_
       refine pu_ 13 (some 67) #[true, true, true, true, true, true, true, true, true, true, true, true, true, true, false, false, false, false, false] rfl rfl (any_of HT_.out (by kernel_rfl)) ?_
       refine pu_ 14 (some 68) #[true, true, true, true, true, true, true, true, true, true, true, true, true, true, true, false, false, false, false] rfl rfl (any_of HT_.out (by kernel_rfl)) ?_
       refine pu_ 15 (some 69) #[true, true, true, true, true, true, true, true, true, true, true, true, true, true, true, true, false, false, false] rfl rfl (any_of HT_.out (by kernel_rfl)) ?_
       refine one_ (i := 16) (N := some 70) #[true, true, true, true, true, true, true, true, true, true, true, true, true, true, true, true, true, false, false] rfl rfl (one_of HT_.out (by kernel_rfl)) (by decide) (fun K hK => ?_)
       refine goes_ Tryz.func99 (by kernel_rfl) rfl #[.agg #[.int .i64 a0_0, .int .i64 a0_1], .bool a1_0, .int .u64 (IntKind.u64.wrap ((IntKind.u64.wrap (wrap64 (a1_2 - t329))) + 1)), .int .u64 (Go.bits .and .u64 a1_3 (IntKind.u64.wrap ((ji19) - 1)))] (by rfl) rfl rfl (by (try simp only [List.map_toArray, List.map_cons, List.map_nil]); first | done | (simp only [hji19]; rfl) | rfl | (simp only [List.length_drop, List.length_take]; rfl)) ?_
       with_reducible refine (shape_format_join.calls a0_0 a0_1 a1_0 (IntKind.u64.wrap ((IntKind.u64.wrap (wrap64 (a1_2 - t329))) + 1)) (Go.bits .and .u64 a1_3 (IntKind.u64.wrap ((ji19) - 1))) t332 _ A31.out).mono ?_
       rintro e w36 ⟨rfl, hb⟩
       refine ⟨_, rfl, ?_⟩
       replace BK327 := A_ (bb_ BK327.out hb)
       replace BK328 := A_ (bb_ BK328.out hb)
       replace HB := A_ (below_step (hb2_ HB.out GE327.out GE328.out) hb);(try clear hb);(try clear hb2);(try clear hk);(try clear hi)
       refine hK.out _ _ ⟨bc_ BK327.out 0, bc_ BK327.out 1, bc_ BK328.out 0, bc_ BK328.out 1, bc_ BK328.out 2, bc_ BK328.out 3⟩ (fun hHeld => ?_)
       clear hK K
       refine norm_ (a' := ?_) ?_ ?_
       rotate_left
       ·show Act.put _ (some 70) _ = _
        simp only [Act.put, lI_, l0_, lS_, i64_w, i32_w]
        rfl
       refine pu_ 17 (some 4) #[true, true, true, true, true, true, true, true, true, true, true, true, true, true, true, true, true, true, false] rfl rfl (any_of HT_.out (by kernel_rfl)) ?_
       refine pu_ 18 (some 5) #[true, true, true, true, true, true, true, true, true, true, true, true, true, true, true, true, true, true, true] rfl rfl (any_of HT_.out (by kernel_rfl)) ?_
       refine done_ (done_of HT_.out (by kernel_rfl)) ?_
       try go_wp2
       go_ret2
       exact ⟨by first | rfl | (simp [errW_none, errW_some] <;> rfl) | (simp only [← hji19]; first | rfl | (simp [errW_none, errW_some] <;> rfl)) | (simp [*, errW_none, errW_some] <;> rfl), hb2_ HB.out GE327.out GE328.out⟩
    ·rw [if_neg c18] at H
     exact absurd H (by simp)
end Go.Proofs.YtnmlmgmljoncoaaGreatDoor.PA
