/- What the Go functions that the statement ChopBack reaches compute, and the mathematics on it, in the order in which one leans on the other; for every input. -/
import Derived.Test.YthdeeoallfbjmaaDoorVChopBack1
import Derived.Test.YthdeeoallfbjmaaDoorMChopBack0
import Derived.Deep.RegionHeld3
import Derived.Deep.DeepCutAuto
import Derived.BigRegion
/- What the Go methods by which a number is rounded do to their receiver, for every receiver and every input in their bounds. -/
namespace Go.Proofs.YthdeeoallfbjmaaDoor.PA
open Go.RowKit Go.Proofs.YthdeeoallfbjmaaDoorW.PrintWords Go.Proofs.YthdeeoallfbjmaaDoorW.PrintLast Go.Proofs.YthdeeoallfbjmaaDoorW.PrintMore
attribute [local go_sem] max2_int min2_int max_two min_two max_three min_three max_four min_four   -- for this text's walks alone
set_option linter.unusedVariables false
set_option linter.unusedSimpArgs false
structure rp_PK (b : Nat) (h l e : Int) (m : Bool) (w w' : World) : Prop where
  c0 : w'.cell? ⟨b, 0, none⟩ = some (.int .u64 h)
  c1 : w'.cell? ⟨b, 1, none⟩ = some (.int .u64 l)
  c2 : w'.cell? ⟨b, 2, none⟩ = some (.int .i64 e)
  c3 : w'.cell? ⟨b, 3, none⟩ = some (.bool m)
  cs : ∀ i, 4 ≤ i → w'.cell? ⟨b, i, none⟩ = w.cell? ⟨b, i, none⟩
  fs : ∀ i, w'.frozen? ⟨b, i, none⟩ = w.frozen? ⟨b, i, none⟩
  bl : Below b w w'
theorem rp_PK.set4 {b : Nat} {h l e : Int} {m : Bool} {w w2 : World} {v0 v1 v2 v3 : Value} (c0 : w2.cell? ⟨b, 0, none⟩ = some v0) (c1 : w2.cell? ⟨b, 1, none⟩ = some v1) (c2 : w2.cell? ⟨b, 2, none⟩ = some v2) (c3 : w2.cell? ⟨b, 3, none⟩ = some v3)
    (AS : ∀ i, w2.cell? ⟨b, i, none⟩ = w.cell? ⟨b, i, none⟩) (AF : ∀ i, w2.frozen? ⟨b, i, none⟩ = w.frozen? ⟨b, i, none⟩) (AB : Below b w w2) :
    rp_PK b h l e m w ((((w2.setCell ⟨b, 0, none⟩ (.int .u64 h)).setCell ⟨b, 1, none⟩ (.int .u64 l)).setCell ⟨b, 2, none⟩ (.int .i64 e)).setCell ⟨b, 3, none⟩ (.bool m)) := by
  have ne : ∀ i j : Nat, i ≠ j → (⟨b, j, none⟩ : Addr) ≠ ⟨b, i, none⟩ := fun i j hij k => hij (by injection k with _ k2 _; exact k2.symm)
  have o := fun (W : World) (i j : Nat) (u : Value) (hij : i ≠ j) => World.cell?_setCell_other W ⟨b, j, none⟩ ⟨b, i, none⟩ u (ne i j hij)
  refine ⟨?_, ?_, ?_, ?_, fun i hi => ?_, fun i => ?_, ?_⟩
  · rw [o _ 0 3 _ (by decide), o _ 0 2 _ (by decide), o _ 0 1 _ (by decide)]; exact World.cell?_setCell_same _ _ _ c0
  · rw [o _ 1 3 _ (by decide), o _ 1 2 _ (by decide)]; exact World.cell?_setCell_same _ _ _ ((o _ 1 0 _ (by decide)).trans c1)
  · rw [o _ 2 3 _ (by decide)]; exact World.cell?_setCell_same _ _ _ ((o _ 2 1 _ (by decide)).trans ((o _ 2 0 _ (by decide)).trans c2))
  · exact World.cell?_setCell_same _ _ _ ((o _ 3 2 _ (by decide)).trans ((o _ 3 1 _ (by decide)).trans ((o _ 3 0 _ (by decide)).trans c3)))
  · rw [o _ i 3 _ (by omega), o _ i 2 _ (by omega), o _ i 1 _ (by omega), o _ i 0 _ (by omega)]; exact AS i
  · rw [World.frozen?_setCell, World.frozen?_setCell, World.frozen?_setCell, World.frozen?_setCell]; exact AF i
  · exact (((AB.setCell (Nat.le_refl _) _).setCell (Nat.le_refl _) _).setCell (Nat.le_refl _) _).setCell (Nat.le_refl _) _
theorem rp_ne {b i j : Nat} (hij : i ≠ j) : (⟨b, j, none⟩ : Addr) ≠ ⟨b, i, none⟩ := fun k => hij (by injection k with _ k2 _; exact k2.symm)
theorem rp_o (b : Nat) (W : World) (i j : Nat) (u : Value) (hij : i ≠ j) : (W.setCell ⟨b, j, none⟩ u).cell? ⟨b, i, none⟩ = W.cell? ⟨b, i, none⟩ := World.cell?_setCell_other W ⟨b, j, none⟩ ⟨b, i, none⟩ u (rp_ne hij)
theorem rp_PK.put3 {b : Nat} {h l e : Int} {m : Bool} {w w1 : World} (P : rp_PK b h l e m w w1) (m' : Bool) : rp_PK b h l e m' w (w1.setCell ⟨b, 3, none⟩ (.bool m')) :=
  ⟨(rp_o b _ 0 3 _ (by decide)).trans P.c0, (rp_o b _ 1 3 _ (by decide)).trans P.c1, (rp_o b _ 2 3 _ (by decide)).trans P.c2, World.cell?_setCell_same _ _ _ P.c3, fun i hi => (rp_o b _ i 3 _ (by omega)).trans (P.cs i hi), fun i => (World.frozen?_setCell _ _ _ _).trans (P.fs i), P.bl.setCell (Nat.le_refl _) _⟩
theorem rp_PK.put2 {b : Nat} {h l e : Int} {m : Bool} {w w1 : World} (P : rp_PK b h l e m w w1) (e' : Int) : rp_PK b h l e' m w (w1.setCell ⟨b, 2, none⟩ (.int .i64 e')) :=
  ⟨(rp_o b _ 0 2 _ (by decide)).trans P.c0, (rp_o b _ 1 2 _ (by decide)).trans P.c1, World.cell?_setCell_same _ _ _ P.c2, (rp_o b _ 3 2 _ (by decide)).trans P.c3, fun i hi => (rp_o b _ i 2 _ (by omega)).trans (P.cs i hi), fun i => (World.frozen?_setCell _ _ _ _).trans (P.fs i), P.bl.setCell (Nat.le_refl _) _⟩
theorem rp_PK.put1 {b : Nat} {h l e : Int} {m : Bool} {w w1 : World} (P : rp_PK b h l e m w w1) (l' : Int) : rp_PK b h l' e m w (w1.setCell ⟨b, 1, none⟩ (.int .u64 l')) :=
  ⟨(rp_o b _ 0 1 _ (by decide)).trans P.c0, World.cell?_setCell_same _ _ _ P.c1, (rp_o b _ 2 1 _ (by decide)).trans P.c2, (rp_o b _ 3 1 _ (by decide)).trans P.c3, fun i hi => (rp_o b _ i 1 _ (by omega)).trans (P.cs i hi), fun i => (World.frozen?_setCell _ _ _ _).trans (P.fs i), P.bl.setCell (Nat.le_refl _) _⟩
theorem rp_PK.put0 {b : Nat} {h l e : Int} {m : Bool} {w w1 : World} (P : rp_PK b h l e m w w1) (h' : Int) : rp_PK b h' l e m w (w1.setCell ⟨b, 0, none⟩ (.int .u64 h')) :=
  ⟨World.cell?_setCell_same _ _ _ P.c0, (rp_o b _ 1 0 _ (by decide)).trans P.c1, (rp_o b _ 2 0 _ (by decide)).trans P.c2, (rp_o b _ 3 0 _ (by decide)).trans P.c3, fun i hi => (rp_o b _ i 0 _ (by omega)).trans (P.cs i hi), fun i => (World.frozen?_setCell _ _ _ _).trans (P.fs i), P.bl.setCell (Nat.le_refl _) _⟩
theorem rp_PK.lt {b : Nat} {h l e : Int} {m : Bool} {w w1 : World} (P : rp_PK b h l e m w w1) : b < w1.heap.size := World.block_lt_of_cell? w1 _ P.c0
theorem rp_PK.below {b : Nat} {h l e : Int} {m : Bool} {w w1 w2 : World} (P : rp_PK b h l e m w w1) (hb : Below w1.heap.size w1 w2) : rp_PK b h l e m w w2 :=
  ⟨((Nr.bcell hb).1 b 0 P.lt).trans P.c0, ((Nr.bcell hb).1 b 1 P.lt).trans P.c1, ((Nr.bcell hb).1 b 2 P.lt).trans P.c2, ((Nr.bcell hb).1 b 3 P.lt).trans P.c3, fun i hi => ((Nr.bcell hb).1 b i P.lt).trans (P.cs i hi), fun i => ((Nr.bcell hb).2 b i P.lt).trans (P.fs i), P.bl.trans (hb.mono (Nat.le_of_lt P.lt))⟩
theorem rp_PK.alloc {b : Nat} {h l e : Int} {m : Bool} {w w1 : World} (P : rp_PK b h l e m w w1) (x : Obj) : rp_PK b h l e m w (w1.alloc x) := P.below (below_alloc (Below.refl _ _) x)
theorem rp_PK.drew {b : Nat} {h l e : Int} {m : Bool} {w w1 : World} (P : rp_PK b h l e m w w1) : rp_PK b h l e m w w1.drew := P.below (below_drew1 (Below.refl _ _))
theorem rp_PK.start {b : Nat} {h l e : Int} {m : Bool} {w : World} (c0 : w.cell? ⟨b, 0, none⟩ = some (.int .u64 h)) (c1 : w.cell? ⟨b, 1, none⟩ = some (.int .u64 l)) (c2 : w.cell? ⟨b, 2, none⟩ = some (.int .i64 e)) (c3 : w.cell? ⟨b, 3, none⟩ = some (.bool m)) : rp_PK b h l e m w w :=
  ⟨c0, c1, c2, c3, fun _ _ => rfl, fun _ => rfl, Below.refl _ _⟩
theorem rp_PK.trans {b : Nat} {h l e h' l' e' : Int} {m m' : Bool} {w w1 w2 : World} (P : rp_PK b h l e m w w1) (Q : rp_PK b h' l' e' m' w1 w2) : rp_PK b h' l' e' m' w w2 :=
  ⟨Q.c0, Q.c1, Q.c2, Q.c3, fun i hi => (Q.cs i hi).trans (P.cs i hi), fun i => (Q.fs i).trans (P.fs i), P.bl.trans Q.bl⟩
set_option maxHeartbeats 8000000 in
set_option maxRecDepth 100000 in
theorem rp_down (b : Nat) (h l e n k0 k1 q0 q1 : Int) (m lost x : Bool) (w : World)
    (c0 : w.cell? ⟨b, 0, none⟩ = some (.int .u64 h)) (c1 : w.cell? ⟨b, 1, none⟩ = some (.int .u64 l)) (c2 : w.cell? ⟨b, 2, none⟩ = some (.int .i64 e)) (c3 : w.cell? ⟨b, 3, none⟩ = some (.bool m))
    (f0 : w.frozen? ⟨b, 0, none⟩ = false) (f1 : w.frozen? ⟨b, 1, none⟩ = false) (f2 : w.frozen? ⟨b, 2, none⟩ = false) (f3 : w.frozen? ⟨b, 3, none⟩ = false)
    (h0 : 0 < n) (h1 : n < 1099511627776) (e0 : -1099511627776 < e) (e1 : e < 1099511627776)
    (R1 : wide_Right.f h l (n - 1) = some (k0, k1, lost)) (R2 : wide_Right.f k0 k1 1 = some (q0, q1, x)) :
    Calls Tryd.prog 114 #[.pointer (some ⟨b, 0, none⟩), .int .i64 n] w fun en w' => en = .returned (.tuple #[.bool (Go.bits .and .u64 k1 1 == 1), .bool (lost || m)]) ∧ rp_PK b q0 q1 (e + n) false w w' := by
  have hu41 := Tryd.underlying99
  have B1 := Aside0.mk R1
  have B2 := Aside0.mk R2
  have hn : decide (n ≤ 0) = false := decide_eq_false (by omega)
  clear R1 R2
  cases lost
  all_goals
   go_enter Tryd.func114, Tryd.ntmps114
   have lt := World.block_lt_of_cell? w _ c0
   go_wp2_with (first
    | (go_at_call 108; (with_reducible refine (wide_Right.calls h l (n - 1) k0 k1 _ _ B1.out).mono ?_); rintro e w1 ⟨rfl, hb⟩; obtain ⟨hc, hf⟩ := Nr.bcell hb; have lt1 := Nat.lt_of_lt_of_le lt hb.size; have AS := Aside0.mk (fun i => hc b i lt); have AF := Aside0.mk (fun i => hf b i lt); have AB := Aside0.mk (below_step (Below.refl _ w) hb); clear hc hf hb)
    | (go_at_call 108; (with_reducible refine (wide_Right.calls k0 k1 1 q0 q1 x _ B2.out).mono ?_); rintro e w2 ⟨rfl, hb⟩; obtain ⟨hc, hf⟩ := Nr.bcell hb; have hz := hb.size; have lt2 := Nr.lt_al (x := .cells #[.int .u64 k0, .int .u64 k1] 99 (0, 0)) lt1; have AS2 := Aside0.mk (fun i => (hc b i lt2).trans ((Nr.al lt1 i _).trans (AS.out i))); have AF2 := Aside0.mk (fun i => (hf b i lt2).trans ((Nr.alf lt1 i _).trans (AF.out i))); have AB2 := Aside0.mk (below_step (below_alloc AB.out _) hb); replace c0 := (AS2.out 0).trans c0; replace c1 := (AS2.out 1).trans c1; replace c2 := (AS2.out 2).trans c2; replace c3 := (AS2.out 3).trans c3; replace f0 := (AF2.out 0).trans f0; replace f1 := (AF2.out 1).trans f1; replace f2 := (AF2.out 2).trans f2; replace f3 := (AF2.out 3).trans f3; clear hc hf hb))
   go_ret2
   exact ⟨rfl, rp_PK.set4 c0 c1 c2 c3 AS2.out AF2.out (AB2.out.mono (Nat.le_of_lt lt))⟩
set_option maxHeartbeats 8000000 in
set_option maxRecDepth 100000 in
theorem rp_near0 (b : Nat) (h l e n : Int) (w : World)
    (c0 : w.cell? ⟨b, 0, none⟩ = some (.int .u64 h)) (c1 : w.cell? ⟨b, 1, none⟩ = some (.int .u64 l)) (c2 : w.cell? ⟨b, 2, none⟩ = some (.int .i64 e)) (c3 : w.cell? ⟨b, 3, none⟩ = some (.bool false))
    (f3 : w.frozen? ⟨b, 3, none⟩ = false) (h0 : n ≤ 0) :
    Calls Tryd.prog 105 #[.pointer (some ⟨b, 0, none⟩), .int .i64 n] w fun en w' => en = .returned (.tuple #[]) ∧ w' = w.setCell ⟨b, 3, none⟩ (.bool false) := by
  have hn : decide (n ≤ 0) = true := decide_eq_true h0
  clear h0
  go_enter Tryd.func105, Tryd.ntmps105
  go_wp2
  go_end0
  exact ⟨rfl, rfl⟩
set_option maxHeartbeats 8000000 in
set_option maxRecDepth 100000 in
theorem rp_near1 (b : Nat) (h l e n k0 k1 q0 q1 s0 s1 : Int) (m lost x up : Bool) (w : World)
    (c0 : w.cell? ⟨b, 0, none⟩ = some (.int .u64 h)) (c1 : w.cell? ⟨b, 1, none⟩ = some (.int .u64 l)) (c2 : w.cell? ⟨b, 2, none⟩ = some (.int .i64 e)) (c3 : w.cell? ⟨b, 3, none⟩ = some (.bool m))
    (f0 : w.frozen? ⟨b, 0, none⟩ = false) (f1 : w.frozen? ⟨b, 1, none⟩ = false) (f2 : w.frozen? ⟨b, 2, none⟩ = false) (f3 : w.frozen? ⟨b, 3, none⟩ = false)
    (h0 : 0 < n) (h1 : n < 1099511627776) (e0 : -1099511627776 < e) (e1 : e < 1099511627776)
    (R1 : wide_Right.f h l (n - 1) = some (k0, k1, lost)) (R2 : wide_Right.f k0 k1 1 = some (q0, q1, x))
    (U : ((Go.bits .and .u64 k1 1 == 1) && ((lost || m) || (Go.bits .and .u64 q1 1 == 1))) = up)
    (A1 : up = true → wide_Add.f q0 q1 0 1 = some (s0, s1)) (A0 : up = false → s0 = q0 ∧ s1 = q1) :
    Calls Tryd.prog 105 #[.pointer (some ⟨b, 0, none⟩), .int .i64 n] w fun en w' => en = .returned (.tuple #[]) ∧ rp_PK b s0 s1 (e + n) false w w' := by
  have hu41 := Tryd.underlying99
  have D := Aside0.mk (rp_down b h l e n k0 k1 q0 q1 m lost x w c0 c1 c2 c3 f0 f1 f2 f3 h0 h1 e0 e1 R1 R2)
  obtain ⟨half, hh⟩ : ∃ y, (Go.bits .and .u64 k1 1 == 1) = y := ⟨_, rfl⟩
  obtain ⟨rs, hr⟩ : ∃ y, (lost || m) = y := ⟨_, rfl⟩
  obtain ⟨od, ho⟩ : ∃ y, (Go.bits .and .u64 q1 1 == 1) = y := ⟨_, rfl⟩
  rw [hh, hr] at D
  rw [hh, hr, ho] at U
  subst U
  have lt := World.block_lt_of_cell? w _ c0
  have F := Aside0.mk (show w.frozen? ⟨b, 0, none⟩ = false ∧ w.frozen? ⟨b, 1, none⟩ = false ∧ w.frozen? ⟨b, 2, none⟩ = false ∧ w.frozen? ⟨b, 3, none⟩ = false from ⟨f0, f1, f2, f3⟩)
  have A1' := Aside0.mk A1
  have A0' := Aside0.mk A0
  clear hh hr R1 R2 c0 c1 c2 c3 f0 f1 f2 f3 h0 h1 e0 e1 A1 A0
  cases half <;> cases rs <;> cases od
  all_goals
    go_enter Tryd.func105, Tryd.ntmps105
    go_wp2_with (first | (go_at_call 114; refine D.out.mono ?_; rintro en w1 ⟨rfl, P⟩; have PP := Aside0.mk P; have c0 := P.c0; have c1 := P.c1; have c2 := P.c2; have c3 := P.c3; have f0 := (P.fs 0).trans F.out.1; have f1 := (P.fs 1).trans F.out.2.1; have f2 := (P.fs 2).trans F.out.2.2.1; have f3 := (P.fs 3).trans F.out.2.2.2; clear P))
  all_goals first
    | (go_end0; obtain ⟨rfl, rfl⟩ := A0'.out rfl; exact ⟨rfl, PP.out.put3 false⟩)
    | (have B := Aside0.mk (A1'.out rfl); have P2 := Aside0.mk (PP.out.put3 false); clear PP A1' A0'; generalize w1.setCell ⟨b, 3, none⟩ (.bool false) = w2 at *; replace c0 := P2.out.c0; replace c1 := P2.out.c1; replace c2 := P2.out.c2; replace c3 := P2.out.c3; replace f0 := (P2.out.fs 0).trans F.out.1; replace f1 := (P2.out.fs 1).trans F.out.2.1; go_region_with (first | (go_at_call 85; (with_reducible refine (wide_Of.calls 1 0 1 _ rfl).mono ?_); rintro e w3 ⟨rfl, hb⟩; have P2 := Aside0.mk (rp_PK.below (by repeat (first | exact P2.out | apply rp_PK.drew | apply rp_PK.alloc)) hb); clear hb c0 c1 c2 c3 f0 f1; have c0 := P2.out.c0; have c1 := P2.out.c1; have c2 := P2.out.c2; have c3 := P2.out.c3; have f0 := (P2.out.fs 0).trans F.out.1; have f1 := (P2.out.fs 1).trans F.out.2.1) | (go_at_call 103; (with_reducible refine (wide_Add.calls q0 q1 0 1 s0 s1 _ B.out).mono ?_); rintro e w3 ⟨rfl, hb⟩; have P2 := Aside0.mk (rp_PK.below (by repeat (first | exact P2.out | apply rp_PK.drew | apply rp_PK.alloc)) hb); clear hb c0 c1 c2 c3 f0 f1; have c0 := P2.out.c0; have c1 := P2.out.c1; have c2 := P2.out.c2; have c3 := P2.out.c3; have f0 := (P2.out.fs 0).trans F.out.1; have f1 := (P2.out.fs 1).trans F.out.2.1)))
  all_goals (go_wp2; go_end0; exact ⟨rfl, (P2.out.put0 s0).put1 s1⟩)
end Go.Proofs.YthdeeoallfbjmaaDoor.PA
namespace Go.Proofs.YthdeeoallfbjmaaDoor.PA
open Go.RowKit Go.Proofs.YthdeeoallfbjmaaDoorW.PrintWords Go.Proofs.YthdeeoallfbjmaaDoorW.PrintLast Go.Proofs.YthdeeoallfbjmaaDoorW.PrintMore
attribute [local go_sem] max2_int min2_int max_two min_two max_three min_three max_four min_four   -- for this text's walks alone
set_option linter.unusedVariables false
set_option linter.unusedSimpArgs false
set_option maxHeartbeats 8000000
set_option maxRecDepth 100000
def wide_Len.f (a0_0 : Int) (a0_1 : Int) : Option (Int) := if a0_0 > 0 then ((bits_Len64.f a0_0).bind fun t231 => (some (wrap64 (64 + t231)))) else ((bits_Len64.f a0_1).bind fun t232 => (some t232))
theorem wide_Len.calls (a0_0 : Int) (a0_1 : Int) (r : Int) (w : World) (h : wide_Len.f a0_0 a0_1 = some r) :
  Calls Tryd.prog 102 #[.agg #[.int .u64 a0_0, .int .u64 a0_1]] w fun e w' => e = .returned (.int .i64 r) ∧ Below w.heap.size w w' := by
 have hu99 := Tryd.underlying99
 have HB := A_ (Below.refl w.heap.size w)
 have H : (if a0_0 > 0 then ((bits_Len64.f a0_0).bind fun t231 => (some (wrap64 (64 + t231)))) else ((bits_Len64.f a0_1).bind fun t232 => (some t232))) = some r := h
 clear h
 by_cases c2 : a0_0 > 0
 ·rw [if_pos c2] at H
  have c2b0 : decide (0 < a0_0) = true := decide_eq_true c2
  clear c2
  replace H := ob_ H
  obtain ⟨t231, A30, H⟩ := H
  replace H : (some (wrap64 (64 + t231))) = some r := H
  have A3 := A_ A30;clear A30
  obtain rfl := Option.some.inj H
  go_enter Tryd.func102, Tryd.ntmps102
  go_wp2_with (first | ((with_reducible refine gate_dst (N := 1) rfl ?_); refine be_ 1 #[.int .u64 a0_0, .int .u64 a0_1] 99 ?_; intro gb230 hg w4 hbox hb; have BK230 := A_ (hbox); have GW230 := A_ (sz_ hg (hb_ HB.out)); have GE230 := A_ (sz_ hg (hb_ HB.out)); replace HB := A_ (below_step (hb_ HB.out) hb); clear hb hbox hg; have hcz5_0 := bv_ BK230.out 0; have hcz5_1 := bv_ BK230.out 1; have hfz5_0 := blk_frozen BK230.out 0; have hfz5_1 := blk_frozen BK230.out 1) | ((with_reducible refine gate_callee (f := 41) rfl ?_); refine goesL_ (some 8) rfl rfl Tryd.func41 (by kernel_rfl) rfl #[.int .u64 a0_0] rfl mp_ ?_; (with_reducible refine (bits_Len64.calls a0_0 t231 _ A3.out).mono ?_); rintro e w' ⟨rfl, ⟨nd, rfl⟩⟩; refine ⟨_, rfl, ?_⟩))
  go_ret
  exact ⟨er_, hb1_ HB.out GE230.out⟩
 ·rw [if_neg c2] at H
  have c2b0 : decide (0 < a0_0) = false := decide_eq_false c2
  clear c2
  replace H := ob_ H
  obtain ⟨t232, A60, H⟩ := H
  replace H : (some t232) = some r := H
  have A6 := A_ A60;clear A60
  obtain rfl := Option.some.inj H
  go_enter Tryd.func102, Tryd.ntmps102
  go_wp2_with (first | ((with_reducible refine gate_dst (N := 1) rfl ?_); refine be_ 1 #[.int .u64 a0_0, .int .u64 a0_1] 99 ?_; intro gb230 hg w7 hbox hb; have BK230 := A_ (hbox); have GW230 := A_ (sz_ hg (hb_ HB.out)); have GE230 := A_ (sz_ hg (hb_ HB.out)); replace HB := A_ (below_step (hb_ HB.out) hb); clear hb hbox hg; have hcz8_0 := bv_ BK230.out 0; have hcz8_1 := bv_ BK230.out 1; have hfz8_0 := blk_frozen BK230.out 0; have hfz8_1 := blk_frozen BK230.out 1) | ((with_reducible refine gate_callee (f := 41) rfl ?_); refine goesL_ (some 12) rfl rfl Tryd.func41 (by kernel_rfl) rfl #[.int .u64 a0_1] rfl mp_ ?_; (with_reducible refine (bits_Len64.calls a0_1 t232 _ A6.out).mono ?_); rintro e w' ⟨rfl, ⟨nd, rfl⟩⟩; refine ⟨_, rfl, ?_⟩))
  go_ret
  exact ⟨er_, hb1_ HB.out GE230.out⟩
end Go.Proofs.YthdeeoallfbjmaaDoor.PA
/- What the Go methods by which a number is rounded do to their receiver, for every receiver and every input in their bounds. -/
namespace Go.Proofs.YthdeeoallfbjmaaDoor.PA
open Go.RowKit Go.Proofs.YthdeeoallfbjmaaDoorW.PrintWords Go.Proofs.YthdeeoallfbjmaaDoorW.PrintLast Go.Proofs.YthdeeoallfbjmaaDoorW.PrintMore
attribute [local go_sem] max2_int min2_int max_two min_two max_three min_three max_four min_four   -- for this text's walks alone
set_option linter.unusedVariables false
set_option linter.unusedSimpArgs false
set_option maxHeartbeats 8000000 in
set_option maxRecDepth 100000 in
theorem rp_raise (b : Nat) (h l e e2 u f lo hi s0 s1 : Int) (m : Bool) (w : World)
    (c0 : w.cell? ⟨b, 0, none⟩ = some (.int .u64 h)) (c1 : w.cell? ⟨b, 1, none⟩ = some (.int .u64 l)) (c2 : w.cell? ⟨b, 2, none⟩ = some (.int .i64 e)) (c3 : w.cell? ⟨b, 3, none⟩ = some (.bool m))
    (c5 : w.cell? ⟨b, 5, none⟩ = some (.int .i64 f)) (c6 : w.cell? ⟨b, 6, none⟩ = some (.int .i64 lo)) (c7 : w.cell? ⟨b, 7, none⟩ = some (.int .i64 hi))
    (f0 : w.frozen? ⟨b, 0, none⟩ = false) (f1 : w.frozen? ⟨b, 1, none⟩ = false) (f2 : w.frozen? ⟨b, 2, none⟩ = false)
    (e0 : -1099511627776 < e) (e1 : e < 1099511627776) (g0 : 0 ≤ f) (g1 : f < 1000) (g2 : -10000 < lo) (g3 : lo < 10000) (n : Int) (n0 : 0 ≤ n) (n1 : n ≤ 128) (L : wide_Len.f h l = some n)
    (U : mn (f + 1 - n) (e - lo) = u) (X : (0 < u ∧ wide_Left.f h l u = some (s0, s1) ∧ e - u = e2) ∨ (u ≤ 0 ∧ s0 = h ∧ s1 = l ∧ e = e2)) :
    Calls Tryd.prog 106 #[.pointer (some ⟨b, 0, none⟩)] w fun en w' => en = .returned (.bool (decide (e2 ≤ hi))) ∧ rp_PK b s0 s1 e2 m w w' := by
  have hu41 := Tryd.underlying99
  have P2 := Aside0.mk (rp_PK.start c0 c1 c2 c3)
  have LL := Aside0.mk L
  have F := Aside0.mk (show w.frozen? ⟨b, 0, none⟩ = false ∧ w.frozen? ⟨b, 1, none⟩ = false ∧ w.frozen? ⟨b, 2, none⟩ = false from ⟨f0, f1, f2⟩)
  have C := Aside0.mk (show w.cell? ⟨b, 5, none⟩ = some (.int .i64 f) ∧ w.cell? ⟨b, 6, none⟩ = some (.int .i64 lo) ∧ w.cell? ⟨b, 7, none⟩ = some (.int .i64 hi) from ⟨c5, c6, c7⟩)
  have UU := Aside0.mk U
  have W1 := Aside0.mk (show IntKind.i64.wrap (f + 1) = f + 1 by rw [i64_w]; unfold wrap64; omega)
  have W2 := Aside0.mk (show IntKind.i64.wrap (f + 1 - n) = f + 1 - n by rw [i64_w]; unfold wrap64; omega)
  have W3 := Aside0.mk (show IntKind.i64.wrap (e - lo) = e - lo by rw [i64_w]; unfold wrap64; omega)
  have W4 := Aside0.mk (show IntKind.i64.wrap (e - u) = e - u by rw [i64_w]; unfold mn at U; unfold wrap64; split at U <;> omega)
  have X' := Aside0.mk X
  have hd : decide (0 < u) = true ∨ decide (0 < u) = false := by rcases X with ⟨h, _⟩ | ⟨h, _⟩; exact .inl (decide_eq_true h); exact .inr (decide_eq_false (by omega))
  clear L U X e0 e1 g0 g1 g2 g3 n0 n1
  go_enter Tryd.func106, Tryd.ntmps106
  go_wp2_with fail
  have lt := P2.out.lt
  have PP := P2.out
  go_region_held3 (fun w' => w'.cell? ⟨b, 0, none⟩ = some (.int .u64 h) ∧ w'.cell? ⟨b, 1, none⟩ = some (.int .u64 l) ∧ w'.cell? ⟨b, 2, none⟩ = some (.int .i64 e) ∧ w'.cell? ⟨b, 5, none⟩ = some (.int .i64 f) ∧ w'.cell? ⟨b, 6, none⟩ = some (.int .i64 lo) ∧ b < w'.heap.size ∧ rp_PK b h l e m w w')
    (((try go_split_ands); (try dsimp only); (repeat' apply And.intro) <;> first | assumption | (rw [hc _ _ (by assumption)]; assumption) | (exact Nat.lt_of_lt_of_le (by assumption) hb.size) | (exact rp_PK.below (by assumption) hb) | (apply rp_PK.drew; assumption)))
    ((go_at_call 102; (with_reducible refine (wide_Len.calls h l n _ LL.out).mono ?_); rintro e' w1 ⟨rfl, hb⟩; obtain ⟨hc, hf⟩ := Nr.bcell hb))
  rename_i hH
  obtain ⟨_, _, _, _, _, _, P3⟩ := hH
  rw [W1.out, W2.out, W3.out, show (if e - lo < f + 1 - n then e - lo else f + 1 - n) = u from UU.out]
  clear hb hc hf W1 W2 W3 UU P2 LL lt PP f0 f1 f2 c0 c1 c2 c3 c5 c6 c7
  rename_i q1 q2 q3 q4 q5 q6
  clear q1 q2 q3 q4 q5 q6
  have P2 := Aside0.mk P3
  have c0 := P3.c0; have c1 := P3.c1; have c2 := P3.c2; have c7 := (P3.cs 7 (by decide)).trans C.out.2.2
  have f0 := (P3.fs 0).trans F.out.1; have f1 := (P3.fs 1).trans F.out.2.1; have f2 := (P3.fs 2).trans F.out.2.2
  clear P3
  rcases hd with hd | hd
  · obtain ⟨B, rfl⟩ : Aside0 (wide_Left.f h l u = some (s0, s1)) ∧ e - u = e2 := by
      rcases X'.out with ⟨_, h1, h2⟩ | ⟨h1, _⟩
      · exact ⟨⟨h1⟩, h2⟩
      · have := of_decide_eq_true hd; omega
    have W5 := W4.out
    clear X' W4
    go_wp2_with fail
    go_region_with (first | (go_at_call 104; (with_reducible refine (wide_Left.calls h l u s0 s1 _ B.out).mono ?_); rintro e' w3 ⟨rfl, hb⟩; have P2 := Aside0.mk (rp_PK.below (by repeat (first | exact P2.out | apply rp_PK.drew | apply rp_PK.alloc)) hb); clear hb c0 c1 c2 c7 f0 f1 f2; have c0 := P2.out.c0; have c1 := P2.out.c1; have c2 := P2.out.c2; have c7 := (P2.out.cs 7 (by decide)).trans C.out.2.2; have f0 := (P2.out.fs 0).trans F.out.1; have f1 := (P2.out.fs 1).trans F.out.2.1; have f2 := (P2.out.fs 2).trans F.out.2.2))
    all_goals (have P3 := Aside0.mk (((P2.out.put0 s0).put1 s1).put2 (e - u)); generalize ((w3.setCell ⟨b, 0, none⟩ (.int .u64 s0)).setCell ⟨b, 1, none⟩ (.int .u64 s1)).setCell ⟨b, 2, none⟩ (.int .i64 (e - u)) = w5 at P3 ⊢; replace c2 := P3.out.c2; replace c7 := (P3.out.cs 7 (by decide)).trans C.out.2.2; clear P2 c0 c1 f0 f1 f2 B W5 hd)
    all_goals (go_wp2; go_region; go_wp2; go_ret; exact ⟨rfl, P3.out.drew⟩)
  · obtain ⟨rfl, rfl, rfl⟩ : s0 = h ∧ s1 = l ∧ e = e2 := by
      rcases X'.out with ⟨h1, _⟩ | ⟨_, h1⟩
      · have := of_decide_eq_false hd; omega
      · exact h1
    clear X' W4
    go_wp2_with fail
    go_region
    go_wp2
    go_ret
    exact ⟨rfl, P2.out.drew⟩
end Go.Proofs.YthdeeoallfbjmaaDoor.PA
namespace Go.Proofs.YthdeeoallfbjmaaDoor.PA
open Go.RowKit Go.Proofs.YthdeeoallfbjmaaDoorW.PrintWords Go.Proofs.YthdeeoallfbjmaaDoorW.PrintLast Go.Proofs.YthdeeoallfbjmaaDoorW.PrintMore
attribute [local go_sem] max2_int min2_int max_two min_two max_three min_three max_four min_four   -- for this text's walks alone
set_option linter.unusedVariables false
set_option linter.unusedSimpArgs false
set_option maxHeartbeats 8000000
set_option maxRecDepth 100000
def shape_format_sign.f (a0_0 : Int) (a0_1 : Int) (a1 : Bool) : Option (Int) := if a1 = true then (if 0 ≤ (wrap64 (a0_0 + a0_1)) then (some (shl .u64 1 (wrap64 (a0_0 + a0_1)))) else (none)) else (some 0)
theorem shape_format_sign.calls (a0_0 : Int) (a0_1 : Int) (a1 : Bool) (r : Int) (w : World) (h : shape_format_sign.f a0_0 a0_1 a1 = some r) :
  Calls Tryd.prog 89 #[.agg #[.int .i64 a0_0, .int .i64 a0_1], .bool a1] w fun e w' => e = .returned (.int .u64 r) ∧ Below w.heap.size w w' := by
 have hu78 := Tryd.underlying78
 have HB := A_ (Below.refl w.heap.size w)
 have H : (if a1 = true then (if 0 ≤ (wrap64 (a0_0 + a0_1)) then (some (shl .u64 1 (wrap64 (a0_0 + a0_1)))) else (none)) else (some 0)) = some r := h
 clear h
 by_cases c3 : a1 = true
 ·subst c3
  have H1 : (if 0 ≤ (wrap64 (a0_0 + a0_1)) then (some (shl .u64 1 (wrap64 (a0_0 + a0_1)))) else (none)) = some r := by rw [if_pos rfl] at H; exact H
  clear H;have H := H1;clear H1
  obtain ⟨ji4, hji4⟩ : ∃ j_ : Int, (wrap64 (a0_0 + a0_1)) = j_ := ⟨_, rfl⟩
  replace H : (if 0 ≤ (ji4) then (some (shl .u64 1 (ji4))) else (none)) = some r := by first | (rw [hji4] at H; exact H) | (simp only [hji4] at H ⊢; exact H)
  have hji4w : (IntKind.i64.wrap (a0_0 + a0_1)) = ji4 := (i64_w _).trans hji4
  by_cases c5 : 0 ≤ (ji4)
  ·rw [if_pos c5] at H
   have c5b0 := eq_true c5
   have c5b1 : decide (0 ≤ (ji4)) = true := decide_eq_true c5
   clear c5
   obtain ⟨ji6, hji6⟩ : ∃ j_ : Int, (shl .u64 1 (ji4)) = j_ := ⟨_, rfl⟩
   replace H : (some ji6) = some r := by first | (rw [hji6] at H; exact H) | (simp only [hji6] at H ⊢; exact H)
   have hji6_ : (IntKind.u64.wrap (1 * 2 ^ min (ji4).toNat 64)) = ji6 := hji6
   have hji6z : (ji4) ≤ 64 → (IntKind.u64.wrap (1 * 2 ^ (ji4).toNat)) = ji6 := shl_small hji6
   have hji6u : (IntKind.u64.wrap (2 ^ min (ji4).toNat 64)) = ji6 := by have h_ := hji6_; rw [Int.one_mul] at h_; exact h_
   have hji6v : (ji4) ≤ 64 → (IntKind.u64.wrap (2 ^ (ji4).toNat)) = ji6 := fun hle_ => by have h_ := hji6z hle_; rw [Int.one_mul] at h_; exact h_
   obtain rfl := Option.some.inj H
   go_enter Tryd.func89, Tryd.ntmps89
   go_wp2_with (first | ((with_reducible refine gate_dst (N := 2) rfl ?_); refine be_ 2 #[.int .i64 a0_0, .int .i64 a0_1] 78 ?_; intro gb206 hg w7 hbox hb; have BK206 := A_ (hbox); have GW206 := A_ (sz_ hg (hb_ HB.out)); have GE206 := A_ (sz_ hg (hb_ HB.out)); replace HB := A_ (below_step (hb_ HB.out) hb); clear hb hbox hg; have hcz8_0 := bv_ BK206.out 0; have hcz8_1 := bv_ BK206.out 1; have hfz8_0 := blk_frozen BK206.out 0; have hfz8_1 := blk_frozen BK206.out 1))
   go_ret
   exact ⟨by first | rfl | (simp [errW_none, errW_some] <;> rfl) | (simp only [← hji4, ← hji6]; first | rfl | (simp [errW_none, errW_some] <;> rfl)) | (simp [*, errW_none, errW_some] <;> rfl), hb1_ HB.out GE206.out⟩
  ·rw [if_neg c5] at H
   exact absurd H (by simp)
 ·replace c3 := Bool.eq_false_iff.mpr c3
  subst c3
  have H1 : (some 0) = some r := by rw [if_neg (show ¬ (false = true) by decide)] at H; exact H
  clear H;have H := H1;clear H1
  obtain rfl := Option.some.inj H
  go_enter Tryd.func89, Tryd.ntmps89
  go_wp2_with (first | ((with_reducible refine gate_dst (N := 2) rfl ?_); refine be_ 2 #[.int .i64 a0_0, .int .i64 a0_1] 78 ?_; intro gb206 hg w9 hbox hb; have BK206 := A_ (hbox); have GW206 := A_ (sz_ hg (hb_ HB.out)); have GE206 := A_ (sz_ hg (hb_ HB.out)); replace HB := A_ (below_step (hb_ HB.out) hb); clear hb hbox hg))
  go_ret
  exact ⟨er_, hb1_ HB.out GE206.out⟩
def shape_Zero.f (a0 : Int) (a1 : Bool) : Option (Int) := (shape_of.f a0).bind fun bt207 => (if bt207.2.2 = true then ((shape_format_sign.f bt207.1 bt207.2.1 a1).bind fun t211 => (some t211)) else (some 0))
theorem shape_Zero.calls (a0 : Int) (a1 : Bool) (r : Int) (w : World) (h : shape_Zero.f a0 a1 = some r) :
  Calls Tryd.prog 83 #[.int .i64 a0, .bool a1] w fun e w' => e = .returned (.int .u64 r) ∧ Below w.heap.size w w' := by
 have hu78 := Tryd.underlying78
 have HB := A_ (Below.refl w.heap.size w)
 have H : ((shape_of.f a0).bind fun bt207 => (if bt207.2.2 = true then ((shape_format_sign.f bt207.1 bt207.2.1 a1).bind fun t211 => (some t211)) else (some 0))) = some r := h
 clear h
 replace H := ob_ H
 obtain ⟨⟨t207, t208, t209⟩, A30, H⟩ := H
 replace H : (if t209 = true then ((shape_format_sign.f t207 t208 a1).bind fun t211 => (some t211)) else (some 0)) = some r := H
 have A3 := A_ A30;clear A30
 by_cases c4 : t209 = true
 ·subst c4
  have H1 : ((shape_format_sign.f t207 t208 a1).bind fun t211 => (some t211)) = some r := by rw [if_pos rfl] at H; exact H
  clear H;have H := H1;clear H1
  replace H := ob_ H
  obtain ⟨t211, A50, H⟩ := H
  replace H : (some t211) = some r := H
  have A5 := A_ A50;clear A50
  obtain rfl := Option.some.inj H
  go_enter Tryd.func83, Tryd.ntmps83
  go_wp2_with (first | ((with_reducible refine gate_callee (f := 63) rfl ?_); refine goesL_ (some 9) rfl rfl Tryd.func63 (by kernel_rfl) rfl #[.int .i64 a0] rfl mp_ ?_; (with_reducible refine (shape_of.calls a0 t207 t208 true _ A3.out).mono ?_); rintro e w6 ⟨rfl, hb⟩; refine ⟨_, rfl, ?_⟩; replace HB := A_ (below_step (hb_ HB.out) hb); (try clear hb); (try clear hb2); (try clear hk); (try clear hi)) | ((with_reducible refine gate_dst (N := 5) rfl ?_); refine be_ 5 #[.int .i64 0, .int .i64 0] 78 ?_; intro gb210 hg w7 hbox hb; have BK210 := A_ (hbox); have GW210 := A_ (sz_ hg (hb_ HB.out)); have GE210 := A_ (sz_ hg (hb_ HB.out)); replace HB := A_ (below_step (hb_ HB.out) hb); clear hb hbox hg; have hcz8_0 := bv_ BK210.out 0; have hcz8_1 := bv_ BK210.out 1; have hfz8_0 := blk_frozen BK210.out 0; have hfz8_1 := blk_frozen BK210.out 1) | ((with_reducible refine gate_callee (f := 89) rfl ?_); refine goesL_ (some 16) rfl rfl Tryd.func89 (by kernel_rfl) rfl #[.agg #[.int .i64 t207, .int .i64 t208], .bool a1] rfl mp_ ?_; (with_reducible refine (shape_format_sign.calls t207 t208 a1 t211 _ A5.out).mono ?_); rintro e w9 ⟨rfl, hb⟩; refine ⟨_, rfl, ?_⟩; replace BK210 := A_ (blk_below (g := gb210) (o := .cells #[.int .i64 t207, .int .i64 t208] 78 (0, 0)) (by (with_reducible repeat (first | refine blk_drewN ?_ _ | refine blk_drew ?_ | refine blk_alloc ?_ _)); refine blk_put (cs := #[.int .i64 t207, .int .i64 0]) ?_ 1 _ rfl; (with_reducible repeat (first | refine blk_drewN ?_ _ | refine blk_drew ?_ | refine blk_alloc ?_ _)); refine blk_put (cs := #[.int .i64 0, .int .i64 0]) ?_ 0 _ rfl; (with_reducible repeat (first | refine blk_drewN ?_ _ | refine blk_drew ?_ | refine blk_alloc ?_ _)); exact BK210.out) hb); replace HB := A_ (below_step (hb1_ HB.out GE210.out) hb); (try clear hb); (try clear hb2); (try clear hk); (try clear hi)))
  go_ret
  exact ⟨er_, hb1_ HB.out GE210.out⟩
 ·replace c4 := Bool.eq_false_iff.mpr c4
  subst c4
  have H1 : (some 0) = some r := by rw [if_neg (show ¬ (false = true) by decide)] at H; exact H
  clear H;have H := H1;clear H1
  obtain rfl := Option.some.inj H
  go_enter Tryd.func83, Tryd.ntmps83
  go_wp2_with (first | ((with_reducible refine gate_callee (f := 63) rfl ?_); refine goesL_ (some 9) rfl rfl Tryd.func63 (by kernel_rfl) rfl #[.int .i64 a0] rfl mp_ ?_; (with_reducible refine (shape_of.calls a0 t207 t208 false _ A3.out).mono ?_); rintro e w10 ⟨rfl, hb⟩; refine ⟨_, rfl, ?_⟩; replace HB := A_ (below_step (hb_ HB.out) hb); (try clear hb); (try clear hb2); (try clear hk); (try clear hi)) | ((with_reducible refine gate_dst (N := 5) rfl ?_); refine be_ 5 #[.int .i64 0, .int .i64 0] 78 ?_; intro gb210 hg w11 hbox hb; have BK210 := A_ (hbox); have GW210 := A_ (sz_ hg (hb_ HB.out)); have GE210 := A_ (sz_ hg (hb_ HB.out)); replace HB := A_ (below_step (hb_ HB.out) hb); clear hb hbox hg; have hcz12_0 := bv_ BK210.out 0; have hcz12_1 := bv_ BK210.out 1; have hfz12_0 := blk_frozen BK210.out 0; have hfz12_1 := blk_frozen BK210.out 1))
  go_ret
  exact ⟨er_, hb1_ HB.out GE210.out⟩
def shape_format_join.f (a0_0 : Int) (a0_1 : Int) (a1 : Bool) (a2 : Int) (a3 : Int) : Option (Int) := (shape_format_sign.f a0_0 a0_1 a1).bind fun t214 => (if 0 ≤ a0_1 then (some (Go.bits .or .u64 (Go.bits .or .u64 t214 (shl .u64 a2 a0_1)) a3)) else (none))
def shape_format_join.T1 : Bool × List (List Nat × List Nat) := (true, [([], []), ([], []), ([0, 1], [0, 1]), ([], []), ([], []), ([4], [4]), ([3, 5], [3, 5]), ([2, 6], [2, 6]), ([], []), ([7, 8], [7, 8]), ([9, 2, 0, 1, 2, 3, 4, 5, 6, 7, 8, 9], [9])])
def shape_format_join.B1 : List Nat := [0, 0, 3, 0, 0, 16, 56, 127, 0, 511, 1023]
theorem shape_format_join.tab1 : rtab .any (opsOf Tryd.f64 1) = shape_format_join.T1 := by kernel_rfl
theorem shape_format_join.bits1 : waitsOk shape_format_join.T1.2 shape_format_join.B1 = true := by kernel_rfl
theorem shape_format_join.calls (a0_0 : Int) (a0_1 : Int) (a1 : Bool) (a2 : Int) (a3 : Int) (r : Int) (w : World) (h : shape_format_join.f a0_0 a0_1 a1 a2 a3 = some r) :
  Calls Tryd.prog 64 #[.agg #[.int .i64 a0_0, .int .i64 a0_1], .bool a1, .int .u64 a2, .int .u64 a3] w fun e w' => e = .returned (.int .u64 r) ∧ Below w.heap.size w w' := by
 have hu78 := Tryd.underlying78
 have HB := A_ (Below.refl w.heap.size w)
 have H : ((shape_format_sign.f a0_0 a0_1 a1).bind fun t214 => (if 0 ≤ a0_1 then (some (Go.bits .or .u64 (Go.bits .or .u64 t214 (shl .u64 a2 a0_1)) a3)) else (none))) = some r := h
 clear h
 replace H := ob_ H
 obtain ⟨t214, A50, H⟩ := H
 replace H : (if 0 ≤ a0_1 then (some (Go.bits .or .u64 (Go.bits .or .u64 t214 (shl .u64 a2 a0_1)) a3)) else (none)) = some r := H
 have A5 := A_ A50;clear A50
 by_cases c6 : 0 ≤ a0_1
 ·rw [if_pos c6] at H
  have c6b0 := eq_true c6
  have c6b1 : decide (0 ≤ a0_1) = true := decide_eq_true c6
  clear c6
  obtain ⟨ji7, hji7⟩ : ∃ j_ : Int, (shl .u64 a2 a0_1) = j_ := ⟨_, rfl⟩
  replace H : (some (Go.bits .or .u64 (Go.bits .or .u64 t214 (ji7)) a3)) = some r := by first | (rw [hji7] at H; exact H) | (simp only [hji7] at H ⊢; exact H)
  (try rw [hji7] at A5)
  have hji7_ : (IntKind.u64.wrap (a2 * 2 ^ min a0_1.toNat 64)) = ji7 := hji7
  have hji7z : a0_1 ≤ 64 → (IntKind.u64.wrap (a2 * 2 ^ a0_1.toNat)) = ji7 := shl_small hji7
  obtain rfl := Option.some.inj H
  go_enter Tryd.func64, Tryd.ntmps64
  try go_wp2_with (first | ((with_reducible refine gate_dst (N := 4) rfl ?_); refine be_ 4 #[.int .i64 a0_0, .int .i64 a0_1] 78 ?_; intro gb213 hg w8 hbox hb; have BK213 := A_ (hbox); have GW213 := A_ (sz_ hg (hb_ HB.out)); have GE213 := A_ (sz_ hg (hb_ HB.out)); replace HB := A_ (below_step (hb_ HB.out) hb); clear hb hbox hg))
  replace BK213 := A_ (blk_drew BK213.out)
  replace HB := A_ (below_drew1 HB.out)
  refine start_ (n := 11) (S := fun w' => w'.cell? ⟨gb213, 0, none⟩ = some (.int .i64 a0_0) ∧ w'.cell? ⟨gb213, 1, none⟩ = some (.int .i64 a0_1)) (ds := []) #[false, false, false, false, false, false, false, false, false, false, false] (by kernel_rfl) rfl rfl ⟨bc_ BK213.out 0, bc_ BK213.out 1⟩ (fun hHeld => ?_); refine with_tabW shape_format_join.tab1 shape_format_join.bits1 (fun HT_ HW_ => ?_)
  generalize w8.drew = w9 at BK213 HB hHeld ⊢
  refine pu_ 1 (some 10) #[false, true, false, false, false, false, false, false, false, false, false] rfl rfl (any_of HT_.out (by kernel_rfl)) ?_
  refine pu_ 3 (some 12) #[false, true, false, true, false, false, false, false, false, false, false] rfl rfl (any_of HT_.out (by kernel_rfl)) ?_
  refine pu_ 4 (some 13) #[false, true, false, true, true, false, false, false, false, false, false] rfl rfl (any_of HT_.out (by kernel_rfl)) ?_
  refine pu_ 8 (some 17) #[false, true, false, true, true, false, false, false, true, false, false] rfl rfl (any_of HT_.out (by kernel_rfl)) ?_
  refine tk2_ 0 (some 9) #[true, true, false, true, true, false, false, false, true, false, false] rfl rfl (take_ofW HT_.out HW_.out (by kernel_rfl)) hHeld ?_
  refine tk2_ 5 (some 14) #[true, true, false, true, true, true, false, false, true, false, false] rfl rfl (take_ofW HT_.out HW_.out (by kernel_rfl)) hHeld ?_
  refine pu_ 6 (some 15) #[true, true, false, true, true, true, true, false, true, false, false] rfl rfl (any_of HT_.out (by kernel_rfl)) ?_
  refine one_ (i := 2) (N := some 11) #[true, true, true, true, true, true, true, false, true, false, false] rfl rfl (one_of HT_.out (by kernel_rfl)) (by decide) (fun K hK => ?_)
  refine goes_ Tryd.func89 (by kernel_rfl) rfl #[.agg #[.int .i64 a0_0, .int .i64 a0_1], .bool a1] (by rfl) rfl rfl mp_ ?_
  with_reducible refine (shape_format_sign.calls a0_0 a0_1 a1 t214 _ A5.out).mono ?_
  rintro e w10 ⟨rfl, hb⟩
  refine ⟨_, rfl, ?_⟩
  replace BK213 := A_ (bb_ BK213.out hb)
  replace HB := A_ (below_step (hb1_ HB.out GE213.out) hb);(try clear hb);(try clear hb2);(try clear hk);(try clear hi)
  refine hK.out _ _ ⟨bc_ BK213.out 0, bc_ BK213.out 1⟩ (fun hHeld => ?_)
  clear hK K
  refine norm_ (a' := ?_) ?_ ?_
  rotate_left
  ·show Act.put _ (some 11) _ = _
   simp only [Act.put, lI_, l0_, lS_, i64_w, i32_w]
   rfl
  refine pu_ 7 (some 16) #[true, true, true, true, true, true, true, true, true, false, false] rfl rfl (any_of HT_.out (by kernel_rfl)) ?_
  refine pu_ 9 (some 18) #[true, true, true, true, true, true, true, true, true, true, false] rfl rfl (any_of HT_.out (by kernel_rfl)) ?_
  refine pu_ 10 (some 8) #[true, true, true, true, true, true, true, true, true, true, true] rfl rfl (any_of HT_.out (by kernel_rfl)) ?_
  refine done_ (done_of HT_.out (by kernel_rfl)) ?_
  try go_wp2
  go_ret
  exact ⟨by first | rfl | (simp [errW_none, errW_some] <;> rfl) | (simp only [← hji7]; first | rfl | (simp [errW_none, errW_some] <;> rfl)) | (simp [*, errW_none, errW_some] <;> rfl), hb1_ HB.out GE213.out⟩
 ·rw [if_neg c6] at H
  exact absurd H (by simp)
def shape_format_ones.f (a0_0 : Int) (a0_1 : Int) : Option (Int) := if 0 ≤ a0_0 then (some (IntKind.u64.wrap ((shl .u64 1 a0_0) - 1))) else (none)
theorem shape_format_ones.calls (a0_0 : Int) (a0_1 : Int) (r : Int) (w : World) (h : shape_format_ones.f a0_0 a0_1 = some r) :
  Calls Tryd.prog 65 #[.agg #[.int .i64 a0_0, .int .i64 a0_1]] w fun e w' => e = .returned (.int .u64 r) ∧ Below w.heap.size w w' := by
 have hu78 := Tryd.underlying78
 have HB := A_ (Below.refl w.heap.size w)
 have H : (if 0 ≤ a0_0 then (some (IntKind.u64.wrap ((shl .u64 1 a0_0) - 1))) else (none)) = some r := h
 clear h
 by_cases c2 : 0 ≤ a0_0
 ·rw [if_pos c2] at H
  have c2b0 := eq_true c2
  have c2b1 : decide (0 ≤ a0_0) = true := decide_eq_true c2
  clear c2
  obtain ⟨ji3, hji3⟩ : ∃ j_ : Int, (shl .u64 1 a0_0) = j_ := ⟨_, rfl⟩
  replace H : (some (IntKind.u64.wrap ((ji3) - 1))) = some r := by first | (rw [hji3] at H; exact H) | (simp only [hji3] at H ⊢; exact H)
  have hji3_ : (IntKind.u64.wrap (1 * 2 ^ min a0_0.toNat 64)) = ji3 := hji3
  have hji3z : a0_0 ≤ 64 → (IntKind.u64.wrap (1 * 2 ^ a0_0.toNat)) = ji3 := shl_small hji3
  have hji3u : (IntKind.u64.wrap (2 ^ min a0_0.toNat 64)) = ji3 := by have h_ := hji3_; rw [Int.one_mul] at h_; exact h_
  have hji3v : a0_0 ≤ 64 → (IntKind.u64.wrap (2 ^ a0_0.toNat)) = ji3 := fun hle_ => by have h_ := hji3z hle_; rw [Int.one_mul] at h_; exact h_
  obtain rfl := Option.some.inj H
  go_enter Tryd.func65, Tryd.ntmps65
  go_wp2_with (first | ((with_reducible refine gate_dst (N := 1) rfl ?_); refine be_ 1 #[.int .i64 a0_0, .int .i64 a0_1] 78 ?_; intro gb215 hg w4 hbox hb; have BK215 := A_ (hbox); have GW215 := A_ (sz_ hg (hb_ HB.out)); have GE215 := A_ (sz_ hg (hb_ HB.out)); replace HB := A_ (below_step (hb_ HB.out) hb); clear hb hbox hg; have hcz5_0 := bv_ BK215.out 0; have hcz5_1 := bv_ BK215.out 1; have hfz5_0 := blk_frozen BK215.out 0; have hfz5_1 := blk_frozen BK215.out 1))
  go_ret
  exact ⟨by first | rfl | (simp [errW_none, errW_some] <;> rfl) | (simp only [← hji3]; first | rfl | (simp [errW_none, errW_some] <;> rfl)) | (simp [*, errW_none, errW_some] <;> rfl), hb1_ HB.out GE215.out⟩
 ·rw [if_neg c2] at H
  exact absurd H (by simp)
def shape_Inf.f (a0 : Int) (a1 : Bool) : Option (Int) := (shape_of.f a0).bind fun bt216 => (if bt216.2.2 = true then ((shape_format_ones.f bt216.1 bt216.2.1).bind fun t220 => ((shape_format_join.f bt216.1 bt216.2.1 a1 t220 0).bind fun t221 => (some t221))) else (some 0))
theorem shape_Inf.calls (a0 : Int) (a1 : Bool) (r : Int) (w : World) (h : shape_Inf.f a0 a1 = some r) :
  Calls Tryd.prog 86 #[.int .i64 a0, .bool a1] w fun e w' => e = .returned (.int .u64 r) ∧ Below w.heap.size w w' := by
 have hu78 := Tryd.underlying78
 have HB := A_ (Below.refl w.heap.size w)
 have H : ((shape_of.f a0).bind fun bt216 => (if bt216.2.2 = true then ((shape_format_ones.f bt216.1 bt216.2.1).bind fun t220 => ((shape_format_join.f bt216.1 bt216.2.1 a1 t220 0).bind fun t221 => (some t221))) else (some 0))) = some r := h
 clear h
 replace H := ob_ H
 obtain ⟨⟨t216, t217, t218⟩, A30, H⟩ := H
 replace H : (if t218 = true then ((shape_format_ones.f t216 t217).bind fun t220 => ((shape_format_join.f t216 t217 a1 t220 0).bind fun t221 => (some t221))) else (some 0)) = some r := H
 have A3 := A_ A30;clear A30
 by_cases c4 : t218 = true
 ·subst c4
  have H1 : ((shape_format_ones.f t216 t217).bind fun t220 => ((shape_format_join.f t216 t217 a1 t220 0).bind fun t221 => (some t221))) = some r := by rw [if_pos rfl] at H; exact H
  clear H;have H := H1;clear H1
  replace H := ob_ H
  obtain ⟨t220, A50, H⟩ := H
  replace H : ((shape_format_join.f t216 t217 a1 t220 0).bind fun t221 => (some t221)) = some r := H
  have A5 := A_ A50;clear A50
  replace H := ob_ H
  obtain ⟨t221, A60, H⟩ := H
  replace H : (some t221) = some r := H
  have A6 := A_ A60;clear A60
  obtain rfl := Option.some.inj H
  go_enter Tryd.func86, Tryd.ntmps86
  try go_wp2_with (first | ((with_reducible refine gate_callee (f := 63) rfl ?_); refine goesL_ (some 9) rfl rfl Tryd.func63 (by kernel_rfl) rfl #[.int .i64 a0] rfl mp_ ?_; (with_reducible refine (shape_of.calls a0 t216 t217 true _ A3.out).mono ?_); rintro e w7 ⟨rfl, hb⟩; refine ⟨_, rfl, ?_⟩; replace HB := A_ (below_step (hb_ HB.out) hb); (try clear hb); (try clear hb2); (try clear hk); (try clear hi)) | ((with_reducible refine gate_dst (N := 5) rfl ?_); refine be_ 5 #[.int .i64 0, .int .i64 0] 78 ?_; intro gb219 hg w8 hbox hb; have BK219 := A_ (hbox); have GW219 := A_ (sz_ hg (hb_ HB.out)); have GE219 := A_ (sz_ hg (hb_ HB.out)); replace HB := A_ (below_step (hb_ HB.out) hb); clear hb hbox hg; have hcz9_0 := bv_ BK219.out 0; have hcz9_1 := bv_ BK219.out 1; have hfz9_0 := blk_frozen BK219.out 0; have hfz9_1 := blk_frozen BK219.out 1))
  have n0_ : Aside0 (((w8.setCell ⟨gb219, 0, none⟩ (.int .i64 t216)).setCell ⟨gb219, 1, none⟩ (.int .i64 t217)).heap[gb219]? = some (.cells #[.int .i64 t216, .int .i64 t217] 78 (0, 0))) := ⟨by (with_reducible repeat (first | refine blk_drewN ?_ _ | refine blk_drew ?_ | refine blk_alloc ?_ _)); refine blk_put (cs := #[.int .i64 t216, .int .i64 0]) ?_ 1 _ rfl; (with_reducible repeat (first | refine blk_drewN ?_ _ | refine blk_drew ?_ | refine blk_alloc ?_ _)); refine blk_put (cs := #[.int .i64 0, .int .i64 0]) ?_ 0 _ rfl; (with_reducible repeat (first | refine blk_drewN ?_ _ | refine blk_drew ?_ | refine blk_alloc ?_ _)); exact BK219.out⟩
  have n1_ : Aside0 (Below w.heap.size w ((w8.setCell ⟨gb219, 0, none⟩ (.int .i64 t216)).setCell ⟨gb219, 1, none⟩ (.int .i64 t217))) := ⟨hb1_ HB.out GE219.out⟩
  (try clear BK219);(try clear HB)
  generalize ((w8.setCell ⟨gb219, 0, none⟩ (.int .i64 t216)).setCell ⟨gb219, 1, none⟩ (.int .i64 t217)) = w10 at n0_ n1_ ⊢
  have BK219 := n0_;have HB := n1_;clear n0_ n1_
  replace BK219 := A_ (blk_drew BK219.out)
  replace HB := A_ (below_drew1 HB.out)
  refine start_ (n := 6) (S := fun w' => w'.cell? ⟨gb219, 0, none⟩ = some (.int .i64 t216) ∧ w'.cell? ⟨gb219, 1, none⟩ = some (.int .i64 t217)) (ds := []) #[false, false, false, false, false, false] (by kernel_rfl) rfl rfl ⟨bc_ BK219.out 0, bc_ BK219.out 1⟩ (fun hHeld => ?_)
  generalize w10.drew = w11 at BK219 HB hHeld ⊢
  refine pu_ 1 (some 15) #[false, true, false, false, false, false] rfl rfl (by kernel_rfl) ?_
  refine tk2_ 0 (some 14) #[true, true, false, false, false, false] rfl rfl (by kernel_rfl) hHeld ?_
  refine tk2_ 2 (some 16) #[true, true, true, false, false, false] rfl rfl (by kernel_rfl) hHeld ?_
  refine one_ (i := 3) (N := some 17) #[true, true, true, true, false, false] rfl rfl (by kernel_rfl) (by decide) (fun K hK => ?_)
  refine goes_ Tryd.func65 (by kernel_rfl) rfl #[.agg #[.int .i64 t216, .int .i64 t217]] (by rfl) rfl rfl mp_ ?_
  with_reducible refine (shape_format_ones.calls t216 t217 t220 _ A5.out).mono ?_
  rintro e w12 ⟨rfl, hb⟩
  refine ⟨_, rfl, ?_⟩
  replace BK219 := A_ (bb_ BK219.out hb)
  replace HB := A_ (below_step (hb1_ HB.out GE219.out) hb);(try clear hb);(try clear hb2);(try clear hk);(try clear hi)
  refine hK.out _ _ ⟨bc_ BK219.out 0, bc_ BK219.out 1⟩ (fun hHeld => ?_)
  clear hK K
  refine norm_ (a' := ?_) ?_ ?_
  rotate_left
  ·show Act.put _ (some 17) _ = _
   simp only [Act.put, lI_, l0_, lS_, i64_w, i32_w]
   rfl
  refine one_ (i := 4) (N := some 18) #[true, true, true, true, true, false] rfl rfl (by kernel_rfl) (by decide) (fun K hK => ?_)
  refine goes_ Tryd.func64 (by kernel_rfl) rfl #[.agg #[.int .i64 t216, .int .i64 t217], .bool a1, .int .u64 t220, .int .u64 0] (by rfl) rfl rfl mp_ ?_
  with_reducible refine (shape_format_join.calls t216 t217 a1 t220 0 t221 _ A6.out).mono ?_
  rintro e w13 ⟨rfl, hb⟩
  refine ⟨_, rfl, ?_⟩
  replace BK219 := A_ (bb_ BK219.out hb)
  replace HB := A_ (below_step (hb1_ HB.out GE219.out) hb);(try clear hb);(try clear hb2);(try clear hk);(try clear hi)
  refine hK.out _ _ ⟨bc_ BK219.out 0, bc_ BK219.out 1⟩ (fun hHeld => ?_)
  clear hK K
  refine norm_ (a' := ?_) ?_ ?_
  rotate_left
  ·show Act.put _ (some 18) _ = _
   simp only [Act.put, lI_, l0_, lS_, i64_w, i32_w]
   rfl
  refine pu_ 5 (some 4) #[true, true, true, true, true, true] rfl rfl (by kernel_rfl) ?_
  refine done_ (by kernel_rfl) ?_
  try go_wp2
  go_ret
  exact ⟨er_, hb1_ HB.out GE219.out⟩
 ·replace c4 := Bool.eq_false_iff.mpr c4
  subst c4
  have H1 : (some 0) = some r := by rw [if_neg (show ¬ (false = true) by decide)] at H; exact H
  clear H;have H := H1;clear H1
  obtain rfl := Option.some.inj H
  go_enter Tryd.func86, Tryd.ntmps86
  go_wp2_with (first | ((with_reducible refine gate_callee (f := 63) rfl ?_); refine goesL_ (some 9) rfl rfl Tryd.func63 (by kernel_rfl) rfl #[.int .i64 a0] rfl mp_ ?_; (with_reducible refine (shape_of.calls a0 t216 t217 false _ A3.out).mono ?_); rintro e w14 ⟨rfl, hb⟩; refine ⟨_, rfl, ?_⟩; replace HB := A_ (below_step (hb_ HB.out) hb); (try clear hb); (try clear hb2); (try clear hk); (try clear hi)) | ((with_reducible refine gate_dst (N := 5) rfl ?_); refine be_ 5 #[.int .i64 0, .int .i64 0] 78 ?_; intro gb219 hg w15 hbox hb; have BK219 := A_ (hbox); have GW219 := A_ (sz_ hg (hb_ HB.out)); have GE219 := A_ (sz_ hg (hb_ HB.out)); replace HB := A_ (below_step (hb_ HB.out) hb); clear hb hbox hg; have hcz16_0 := bv_ BK219.out 0; have hcz16_1 := bv_ BK219.out 1; have hfz16_0 := blk_frozen BK219.out 0; have hfz16_1 := blk_frozen BK219.out 1))
  go_ret
  exact ⟨er_, hb1_ HB.out GE219.out⟩
def shape_Nan.f (a0 : Int) : Option (Int) := (shape_of.f a0).bind fun bt259 => (if bt259.2.2 = true then ((shape_format_ones.f bt259.1 bt259.2.1).bind fun t263 => (if 0 ≤ (wrap64 (bt259.2.1 - 1)) then ((shape_format_join.f bt259.1 bt259.2.1 false t263 (shl .u64 1 (wrap64 (bt259.2.1 - 1)))).bind fun t264 => (some t264)) else (none))) else (some 0))
def shape_Nan.T4 : Bool × List (List Nat × List Nat) := (true, [([], []), ([], []), ([1], [1]), ([], []), ([3], [3]), ([4], [4]), ([5], [5]), ([0, 2, 6, 2], [0, 2, 6]), ([7, 7, 0, 1, 2, 3, 4, 5, 6, 7], [7])])
def shape_Nan.B4 : List Nat := [0, 0, 2, 0, 8, 24, 56, 127, 255]
theorem shape_Nan.tab4 : rtab .any (opsOf Tryd.f33 4) = shape_Nan.T4 := by kernel_rfl
theorem shape_Nan.bits4 : waitsOk shape_Nan.T4.2 shape_Nan.B4 = true := by kernel_rfl
theorem shape_Nan.calls (a0 : Int) (r : Int) (w : World) (h : shape_Nan.f a0 = some r) :
  Calls Tryd.prog 33 #[.int .i64 a0] w fun e w' => e = .returned (.int .u64 r) ∧ Below w.heap.size w w' := by
 have hu78 := Tryd.underlying78
 have HB := A_ (Below.refl w.heap.size w)
 have H : ((shape_of.f a0).bind fun bt259 => (if bt259.2.2 = true then ((shape_format_ones.f bt259.1 bt259.2.1).bind fun t263 => (if 0 ≤ (wrap64 (bt259.2.1 - 1)) then ((shape_format_join.f bt259.1 bt259.2.1 false t263 (shl .u64 1 (wrap64 (bt259.2.1 - 1)))).bind fun t264 => (some t264)) else (none))) else (some 0))) = some r := h
 clear h
 replace H := ob_ H
 obtain ⟨⟨t259, t260, t261⟩, A20, H⟩ := H
 replace H : (if t261 = true then ((shape_format_ones.f t259 t260).bind fun t263 => (if 0 ≤ (wrap64 (t260 - 1)) then ((shape_format_join.f t259 t260 false t263 (shl .u64 1 (wrap64 (t260 - 1)))).bind fun t264 => (some t264)) else (none))) else (some 0)) = some r := H
 have A2 := A_ A20;clear A20
 by_cases c3 : t261 = true
 ·subst c3
  have H1 : ((shape_format_ones.f t259 t260).bind fun t263 => (if 0 ≤ (wrap64 (t260 - 1)) then ((shape_format_join.f t259 t260 false t263 (shl .u64 1 (wrap64 (t260 - 1)))).bind fun t264 => (some t264)) else (none))) = some r := by rw [if_pos rfl] at H; exact H
  clear H;have H := H1;clear H1
  replace H := ob_ H
  obtain ⟨t263, A40, H⟩ := H
  replace H : (if 0 ≤ (wrap64 (t260 - 1)) then ((shape_format_join.f t259 t260 false t263 (shl .u64 1 (wrap64 (t260 - 1)))).bind fun t264 => (some t264)) else (none)) = some r := H
  have A4 := A_ A40;clear A40
  obtain ⟨ji5, hji5⟩ : ∃ j_ : Int, (wrap64 (t260 - 1)) = j_ := ⟨_, rfl⟩
  replace H : (if 0 ≤ (ji5) then ((shape_format_join.f t259 t260 false t263 (shl .u64 1 (ji5))).bind fun t264 => (some t264)) else (none)) = some r := by first | (rw [hji5] at H; exact H) | (simp only [hji5] at H ⊢; exact H)
  (try rw [hji5] at A2)
  (try rw [hji5] at A4)
  have hji5w : (IntKind.i64.wrap (t260 - 1)) = ji5 := (i64_w _).trans hji5
  by_cases c6 : 0 ≤ (ji5)
  ·rw [if_pos c6] at H
   have c6b0 := eq_true c6
   have c6b1 : decide (0 ≤ (ji5)) = true := decide_eq_true c6
   clear c6
   obtain ⟨ji7, hji7⟩ : ∃ j_ : Int, (shl .u64 1 (ji5)) = j_ := ⟨_, rfl⟩
   replace H : ((shape_format_join.f t259 t260 false t263 (ji7)).bind fun t264 => (some t264)) = some r := by first | (rw [hji7] at H; exact H) | (simp only [hji7] at H ⊢; exact H)
   (try rw [hji7] at A2)
   (try rw [hji7] at A4)
   have hji7_ : (IntKind.u64.wrap (1 * 2 ^ min (ji5).toNat 64)) = ji7 := hji7
   have hji7z : (ji5) ≤ 64 → (IntKind.u64.wrap (1 * 2 ^ (ji5).toNat)) = ji7 := shl_small hji7
   have hji7u : (IntKind.u64.wrap (2 ^ min (ji5).toNat 64)) = ji7 := by have h_ := hji7_; rw [Int.one_mul] at h_; exact h_
   have hji7v : (ji5) ≤ 64 → (IntKind.u64.wrap (2 ^ (ji5).toNat)) = ji7 := fun hle_ => by have h_ := hji7z hle_; rw [Int.one_mul] at h_; exact h_
   replace H := ob_ H
   obtain ⟨t264, A80, H⟩ := H
   replace H : (some t264) = some r := H
   have A8 := A_ A80;clear A80
   obtain rfl := Option.some.inj H
   go_enter Tryd.func33, Tryd.ntmps33
   try go_wp2_with (first | ((with_reducible refine gate_callee (f := 63) rfl ?_); refine goesL_ (some 7) rfl rfl Tryd.func63 (by kernel_rfl) rfl #[.int .i64 a0] rfl mp_ ?_; (with_reducible refine (shape_of.calls a0 t259 t260 true _ A2.out).mono ?_); rintro e w9 ⟨rfl, hb⟩; refine ⟨_, rfl, ?_⟩; replace HB := A_ (below_step (hb_ HB.out) hb); (try clear hb); (try clear hb2); (try clear hk); (try clear hi)) | ((with_reducible refine gate_dst (N := 3) rfl ?_); refine be_ 3 #[.int .i64 0, .int .i64 0] 78 ?_; intro gb262 hg w10 hbox hb; have BK262 := A_ (hbox); have GW262 := A_ (sz_ hg (hb_ HB.out)); have GE262 := A_ (sz_ hg (hb_ HB.out)); replace HB := A_ (below_step (hb_ HB.out) hb); clear hb hbox hg; have hcz11_0 := bv_ BK262.out 0; have hcz11_1 := bv_ BK262.out 1; have hfz11_0 := blk_frozen BK262.out 0; have hfz11_1 := blk_frozen BK262.out 1))
   have n0_ : Aside0 (((w10.setCell ⟨gb262, 0, none⟩ (.int .i64 t259)).setCell ⟨gb262, 1, none⟩ (.int .i64 t260)).heap[gb262]? = some (.cells #[.int .i64 t259, .int .i64 t260] 78 (0, 0))) := ⟨by (with_reducible repeat (first | refine blk_drewN ?_ _ | refine blk_drew ?_ | refine blk_alloc ?_ _)); refine blk_put (cs := #[.int .i64 t259, .int .i64 0]) ?_ 1 _ rfl; (with_reducible repeat (first | refine blk_drewN ?_ _ | refine blk_drew ?_ | refine blk_alloc ?_ _)); refine blk_put (cs := #[.int .i64 0, .int .i64 0]) ?_ 0 _ rfl; (with_reducible repeat (first | refine blk_drewN ?_ _ | refine blk_drew ?_ | refine blk_alloc ?_ _)); exact BK262.out⟩
   have n1_ : Aside0 (Below w.heap.size w ((w10.setCell ⟨gb262, 0, none⟩ (.int .i64 t259)).setCell ⟨gb262, 1, none⟩ (.int .i64 t260))) := ⟨hb1_ HB.out GE262.out⟩
   (try clear BK262);(try clear HB)
   generalize ((w10.setCell ⟨gb262, 0, none⟩ (.int .i64 t259)).setCell ⟨gb262, 1, none⟩ (.int .i64 t260)) = w12 at n0_ n1_ ⊢
   have BK262 := n0_;have HB := n1_;clear n0_ n1_
   replace BK262 := A_ (blk_drew BK262.out)
   replace HB := A_ (below_drew1 HB.out)
   refine start_ (n := 9) (S := fun w' => w'.cell? ⟨gb262, 0, none⟩ = some (.int .i64 t259) ∧ w'.cell? ⟨gb262, 1, none⟩ = some (.int .i64 t260)) (ds := []) #[false, false, false, false, false, false, false, false, false] (by kernel_rfl) rfl rfl ⟨bc_ BK262.out 0, bc_ BK262.out 1⟩ (fun hHeld => ?_); refine with_tabW shape_Nan.tab4 shape_Nan.bits4 (fun HT_ HW_ => ?_)
   generalize w12.drew = w13 at BK262 HB hHeld ⊢
   refine pu_ 3 (some 15) #[false, false, false, true, false, false, false, false, false] rfl rfl (any_of HT_.out (by kernel_rfl)) ?_
   refine tk2_ 0 (some 12) #[true, false, false, true, false, false, false, false, false] rfl rfl (take_ofW HT_.out HW_.out (by kernel_rfl)) hHeld ?_
   refine tk2_ 1 (some 13) #[true, true, false, true, false, false, false, false, false] rfl rfl (take_ofW HT_.out HW_.out (by kernel_rfl)) hHeld ?_
   refine tk2_ 4 (some 16) #[true, true, false, true, true, false, false, false, false] rfl rfl (take_ofW HT_.out HW_.out (by kernel_rfl)) hHeld ?_
   refine pu_ 5 (some 17) #[true, true, false, true, true, true, false, false, false] rfl rfl (any_of HT_.out (by kernel_rfl)) ?_
   refine pu_ 6 (some 18) #[true, true, false, true, true, true, true, false, false] rfl rfl (any_of HT_.out (by kernel_rfl)) ?_
   refine one_ (i := 2) (N := some 14) #[true, true, true, true, true, true, true, false, false] rfl rfl (one_of HT_.out (by kernel_rfl)) (by decide) (fun K hK => ?_)
   refine goes_ Tryd.func65 (by kernel_rfl) rfl #[.agg #[.int .i64 t259, .int .i64 t260]] (by rfl) rfl rfl mp_ ?_
   with_reducible refine (shape_format_ones.calls t259 t260 t263 _ A4.out).mono ?_
   rintro e w14 ⟨rfl, hb⟩
   refine ⟨_, rfl, ?_⟩
   replace BK262 := A_ (bb_ BK262.out hb)
   replace HB := A_ (below_step (hb1_ HB.out GE262.out) hb);(try clear hb);(try clear hb2);(try clear hk);(try clear hi)
   refine hK.out _ _ ⟨bc_ BK262.out 0, bc_ BK262.out 1⟩ (fun hHeld => ?_)
   clear hK K
   refine norm_ (a' := ?_) ?_ ?_
   rotate_left
   ·show Act.put _ (some 14) _ = _
    simp only [Act.put, lI_, l0_, lS_, i64_w, i32_w]
    rfl
   refine one_ (i := 7) (N := some 19) #[true, true, true, true, true, true, true, true, false] rfl rfl (one_of HT_.out (by kernel_rfl)) (by decide) (fun K hK => ?_)
   refine goes_ Tryd.func64 (by kernel_rfl) rfl #[.agg #[.int .i64 t259, .int .i64 t260], .bool false, .int .u64 t263, .int .u64 ji7] (by rfl) rfl rfl (by (try simp only [List.map_toArray, List.map_cons, List.map_nil]); first | done | (simp only [hji7]; rfl) | rfl | (simp only [List.length_drop, List.length_take]; rfl)) ?_
   with_reducible refine (shape_format_join.calls t259 t260 false t263 ji7 t264 _ A8.out).mono ?_
   rintro e w15 ⟨rfl, hb⟩
   refine ⟨_, rfl, ?_⟩
   replace BK262 := A_ (bb_ BK262.out hb)
   replace HB := A_ (below_step (hb1_ HB.out GE262.out) hb);(try clear hb);(try clear hb2);(try clear hk);(try clear hi)
   refine hK.out _ _ ⟨bc_ BK262.out 0, bc_ BK262.out 1⟩ (fun hHeld => ?_)
   clear hK K
   refine norm_ (a' := ?_) ?_ ?_
   rotate_left
   ·show Act.put _ (some 19) _ = _
    simp only [Act.put, lI_, l0_, lS_, i64_w, i32_w]
    rfl
   refine pu_ 8 (some 2) #[true, true, true, true, true, true, true, true, true] rfl rfl (any_of HT_.out (by kernel_rfl)) ?_
   refine done_ (done_of HT_.out (by kernel_rfl)) ?_
   try go_wp2
   go_ret
   exact ⟨by first | rfl | (simp [errW_none, errW_some] <;> rfl) | (simp only [← hji5, ← hji7]; first | rfl | (simp [errW_none, errW_some] <;> rfl)) | (simp [*, errW_none, errW_some] <;> rfl), hb1_ HB.out GE262.out⟩
  ·rw [if_neg c6] at H
   exact absurd H (by simp)
 ·replace c3 := Bool.eq_false_iff.mpr c3
  subst c3
  have H1 : (some 0) = some r := by rw [if_neg (show ¬ (false = true) by decide)] at H; exact H
  clear H;have H := H1;clear H1
  obtain rfl := Option.some.inj H
  go_enter Tryd.func33, Tryd.ntmps33
  go_wp2_with (first | ((with_reducible refine gate_callee (f := 63) rfl ?_); refine goesL_ (some 7) rfl rfl Tryd.func63 (by kernel_rfl) rfl #[.int .i64 a0] rfl mp_ ?_; (with_reducible refine (shape_of.calls a0 t259 t260 false _ A2.out).mono ?_); rintro e w16 ⟨rfl, hb⟩; refine ⟨_, rfl, ?_⟩; replace HB := A_ (below_step (hb_ HB.out) hb); (try clear hb); (try clear hb2); (try clear hk); (try clear hi)) | ((with_reducible refine gate_dst (N := 3) rfl ?_); refine be_ 3 #[.int .i64 0, .int .i64 0] 78 ?_; intro gb262 hg w17 hbox hb; have BK262 := A_ (hbox); have GW262 := A_ (sz_ hg (hb_ HB.out)); have GE262 := A_ (sz_ hg (hb_ HB.out)); replace HB := A_ (below_step (hb_ HB.out) hb); clear hb hbox hg; have hcz18_0 := bv_ BK262.out 0; have hcz18_1 := bv_ BK262.out 1; have hfz18_0 := blk_frozen BK262.out 0; have hfz18_1 := blk_frozen BK262.out 1))
  go_ret
  exact ⟨er_, hb1_ HB.out GE262.out⟩
def shape_format_low.f (a0_0 : Int) (a0_1 : Int) : Option (Int) := if 0 ≤ (wrap64 (a0_0 - 1)) then (some (wrap64 ((wrap64 (2 - (shl .i64 1 (wrap64 (a0_0 - 1))))) - a0_1))) else (none)
theorem shape_format_low.calls (a0_0 : Int) (a0_1 : Int) (r : Int) (w : World) (h : shape_format_low.f a0_0 a0_1 = some r) :
  Calls Tryd.prog 88 #[.agg #[.int .i64 a0_0, .int .i64 a0_1]] w fun e w' => e = .returned (.int .i64 r) ∧ Below w.heap.size w w' := by
 have hu78 := Tryd.underlying78
 have HB := A_ (Below.refl w.heap.size w)
 have H : (if 0 ≤ (wrap64 (a0_0 - 1)) then (some (wrap64 ((wrap64 (2 - (shl .i64 1 (wrap64 (a0_0 - 1))))) - a0_1))) else (none)) = some r := h
 clear h
 obtain ⟨ji2, hji2⟩ : ∃ j_ : Int, (wrap64 (a0_0 - 1)) = j_ := ⟨_, rfl⟩
 replace H : (if 0 ≤ (ji2) then (some (wrap64 ((wrap64 (2 - (shl .i64 1 (ji2)))) - a0_1))) else (none)) = some r := by first | (rw [hji2] at H; exact H) | (simp only [hji2] at H ⊢; exact H)
 have hji2w : (IntKind.i64.wrap (a0_0 - 1)) = ji2 := (i64_w _).trans hji2
 by_cases c3 : 0 ≤ (ji2)
 ·rw [if_pos c3] at H
  have c3b0 := eq_true c3
  have c3b1 : decide (0 ≤ (ji2)) = true := decide_eq_true c3
  clear c3
  obtain ⟨ji4, hji4⟩ : ∃ j_ : Int, (shl .i64 1 (ji2)) = j_ := ⟨_, rfl⟩
  replace H : (some (wrap64 ((wrap64 (2 - (ji4))) - a0_1))) = some r := by first | (rw [hji4] at H; exact H) | (simp only [hji4] at H ⊢; exact H)
  have hji4_ : (IntKind.i64.wrap (1 * 2 ^ min (ji2).toNat 64)) = ji4 := hji4
  have hji4z : (ji2) ≤ 64 → (IntKind.i64.wrap (1 * 2 ^ (ji2).toNat)) = ji4 := shl_small hji4
  have hji4u : (IntKind.i64.wrap (2 ^ min (ji2).toNat 64)) = ji4 := by have h_ := hji4_; rw [Int.one_mul] at h_; exact h_
  have hji4v : (ji2) ≤ 64 → (IntKind.i64.wrap (2 ^ (ji2).toNat)) = ji4 := fun hle_ => by have h_ := hji4z hle_; rw [Int.one_mul] at h_; exact h_
  have hji4y : (wrap64 (1 * 2 ^ min (ji2).toNat 64)) = ji4 := (i64_w _).symm.trans hji4_
  have hji4x : (ji2) ≤ 64 → (wrap64 (1 * 2 ^ (ji2).toNat)) = ji4 := fun h_ => (i64_w _).symm.trans (hji4z h_)
  obtain rfl := Option.some.inj H
  go_enter Tryd.func88, Tryd.ntmps88
  go_wp2_with (first | ((with_reducible refine gate_dst (N := 1) rfl ?_); refine be_ 1 #[.int .i64 a0_0, .int .i64 a0_1] 78 ?_; intro gb265 hg w5 hbox hb; have BK265 := A_ (hbox); have GW265 := A_ (sz_ hg (hb_ HB.out)); have GE265 := A_ (sz_ hg (hb_ HB.out)); replace HB := A_ (below_step (hb_ HB.out) hb); clear hb hbox hg; have hcz6_0 := bv_ BK265.out 0; have hcz6_1 := bv_ BK265.out 1; have hfz6_0 := blk_frozen BK265.out 0; have hfz6_1 := blk_frozen BK265.out 1))
  repeat (go_quiet (first | ((with_reducible refine gate_dst (N := 1) rfl ?_); refine be_ 1 #[.int .i64 a0_0, .int .i64 a0_1] 78 ?_; intro gb265 hg w5 hbox hb; have BK265 := A_ (hbox); have GW265 := A_ (sz_ hg (hb_ HB.out)); have GE265 := A_ (sz_ hg (hb_ HB.out)); replace HB := A_ (below_step (hb_ HB.out) hb); clear hb hbox hg; have hcz6_0 := bv_ BK265.out 0; have hcz6_1 := bv_ BK265.out 1; have hfz6_0 := blk_frozen BK265.out 0; have hfz6_1 := blk_frozen BK265.out 1)); try go_wp2_with (first | ((with_reducible refine gate_dst (N := 1) rfl ?_); refine be_ 1 #[.int .i64 a0_0, .int .i64 a0_1] 78 ?_; intro gb265 hg w5 hbox hb; have BK265 := A_ (hbox); have GW265 := A_ (sz_ hg (hb_ HB.out)); have GE265 := A_ (sz_ hg (hb_ HB.out)); replace HB := A_ (below_step (hb_ HB.out) hb); clear hb hbox hg; have hcz6_0 := bv_ BK265.out 0; have hcz6_1 := bv_ BK265.out 1; have hfz6_0 := blk_frozen BK265.out 0; have hfz6_1 := blk_frozen BK265.out 1)))
  go_ret
  exact ⟨by first | rfl | (simp [errW_none, errW_some] <;> rfl) | (simp only [← hji2, ← hji4]; first | rfl | (simp [errW_none, errW_some] <;> rfl)) | (simp [*, errW_none, errW_some] <;> rfl), hb1_ HB.out GE265.out⟩
 ·rw [if_neg c3] at H
  exact absurd H (by simp)
end Go.Proofs.YthdeeoallfbjmaaDoor.PA
