/- What the Go functions that the statement ChopBack reaches compute, and the mathematics on it, in the order in which one leans on the other; for every input. -/
import Derived.Test.YthdeeoallfbjmaaDoorVChopBack1
import Derived.Test.YthdeeoallfbjmaaDoorMChopBack5
import Derived.Test.YthdeeoallfbjmaaDoorMChopBack8
import Derived.Test.YthdeeoallfbjmaaDoorMChopBack0
import Derived.Deep.RegionHeld3
import Derived.Test.YthdeeoallfbjmaaDoorMChopBack4
import Derived.Test.YthdeeoallfbjmaaDoorMChopBack7
import Derived.Test.YthdeeoallfbjmaaDoorMChopBack1
import Derived.Test.YthdeeoallfbjmaaDoorMChopBack6
import Derived.Test.YthdeeoallfbjmaaDoorMChopBack2
import Derived.Test.YthdeeoallfbjmaaDoorMChopBack3
import Derived.Test.YthdeeoallfbjmaaDoorRows
import Derived.ProofKit
import Derived.JoinedOf
import Derived.KernelRfl
section
set_option linter.unusedVariables false
set_option linter.unusedSimpArgs false
namespace Go.Proofs.YthdeeoallfbjmaaDoor.Th
open Flo
theorem fmt_bd (w : Int) : (fmt w).f < 100 ∧ (-5000 < (fmt w).low ∧ (fmt w).low < 0) ∧ (fmt w).top < 5000 := by
  unfold fmt; split <;> decide
theorem fmt_f (w : Int) : (fmt w).f ≤ 52 := by unfold fmt; split <;> decide
theorem pk_ex (w : Int) (S : Nat) (e : Int) (hS : S < 340282366920938463463374607431768211456) : pkm (fmt w) S e false = (fmt w).rnd ((S : Rat) * tw e) := by
  have h := fmt_bd w
  rw [← pkx_f, pkm_rnd _ h.1 h.2.1 h.2.2 S e false hS]
end Go.Proofs.YthdeeoallfbjmaaDoor.Th
end
namespace Go.Proofs.YthdeeoallfbjmaaDoor.PA
open Go.RowKit Go.Proofs.YthdeeoallfbjmaaDoorW.PrintWords Go.Proofs.YthdeeoallfbjmaaDoorW.PrintLast Go.Proofs.YthdeeoallfbjmaaDoorW.PrintMore
attribute [local go_sem] max2_int min2_int max_two min_two max_three min_three max_four min_four   -- for this text's walks alone
set_option linter.unusedVariables false
set_option linter.unusedSimpArgs false
set_option maxHeartbeats 8000000
set_option maxRecDepth 100000
def r1_Div.l0 : Nat → Int → List Int → List Int → List Int → Option (List Int × List Int)
 | 0, _, _, _, _ => none
 | k + 1, x8, x424000, x427000, x428000 => if x8 ≥ 0 then ((r1_Shl.f k x424000 x8).bind fun t430 => ((r1_Cmp.f k x428000 t430).bind fun t434 => (if t434 ≥ 0 then ((r1_Sub.f k x428000 t430).bind fun t435 => ((r1_Of.f k 1).bind fun t438 => ((r1_Shl.f k t438 x8).bind fun t441 => ((r1_Add.f k x427000 t441).bind fun t444 => (r1_Div.l0 k (wrap64 (x8 - 1)) x424000 t444 t435))))) else (r1_Div.l0 k (wrap64 (x8 - 1)) x424000 x427000 x428000)))) else (some (x427000, x428000))
def r1_Div.f (k : Nat) (l0_0 : List Int) (l1_0 : List Int) : Option (List Int × List Int) := (r1_Len.f k l0_0).bind fun t428 => ((r1_Len.f k l1_0).bind fun t429 => (r1_Div.l0 k (wrap64 (t428 - t429)) l1_0 ([] : List Int) l0_0))
theorem r1_Div.mono_l : ∀ k, (∀ y0 y1 y2 y3, LeO (r1_Div.l0 k y0 y1 y2 y3) (r1_Div.l0 (k + 1) y0 y1 y2 y3))
 | 0 => fun _ _ _ _ r h => by simp [r1_Div.l0] at h
 | k + 1 => by
  have ih0 := r1_Div.mono_l k
  ·intro y0 y1 y2 y3
   unfold r1_Div.l0
   repeat' first
   | (with_reducible exact ih0 _ _ _ _)
   | (with_reducible exact r1_Add.mono _ _ _)
   | (with_reducible exact r1_Cmp.mono _ _ _)
   | (with_reducible exact r1_Len.mono _ _)
   | (with_reducible exact r1_Of.mono _ _)
   | (with_reducible exact r1_Shl.mono _ _ _)
   | (with_reducible exact r1_Sub.mono _ _ _)
   | (with_reducible exact LeO.refl _)
   | (with_reducible exact LeO.none _)
   | (with_reducible refine LeO.ite ?_ ?_)
   | (with_reducible refine LeO.bind ?_ (fun _ => ?_))
   | exact ih0 _ _ _ _
   | exact r1_Add.mono _ _ _
   | exact r1_Cmp.mono _ _ _
   | exact r1_Len.mono _ _
   | exact r1_Of.mono _ _
   | exact r1_Shl.mono _ _ _
   | exact r1_Sub.mono _ _ _
   | exact LeO.none _
   | refine LeO.ite ?_ ?_
   | refine LeO.bind ?_ (fun _ => ?_)
theorem r1_Div.mono : ∀ a0 a1 k, LeO (r1_Div.f k a0 a1) (r1_Div.f (k + 1) a0 a1) := by
 intro a0 a1 k
 have ih0 := r1_Div.mono_l k
 unfold r1_Div.f
 repeat' first
   | (with_reducible exact ih0 _ _ _ _)
   | (with_reducible exact r1_Add.mono _ _ _)
   | (with_reducible exact r1_Cmp.mono _ _ _)
   | (with_reducible exact r1_Len.mono _ _)
   | (with_reducible exact r1_Of.mono _ _)
   | (with_reducible exact r1_Shl.mono _ _ _)
   | (with_reducible exact r1_Sub.mono _ _ _)
   | (with_reducible exact LeO.refl _)
   | (with_reducible exact LeO.none _)
   | (with_reducible refine LeO.ite ?_ ?_)
   | (with_reducible refine LeO.bind ?_ (fun _ => ?_))
   | exact ih0 _ _ _ _
   | exact r1_Add.mono _ _ _
   | exact r1_Cmp.mono _ _ _
   | exact r1_Len.mono _ _
   | exact r1_Of.mono _ _
   | exact r1_Shl.mono _ _ _
   | exact r1_Sub.mono _ _ _
   | exact LeO.none _
   | refine LeO.ite ?_ ?_
   | refine LeO.bind ?_ (fun _ => ?_)
-- IMPORT Derived.Deep.RegionHeld3
-- IMPORT Derived.Test.YthdeeoallfbjmaaDoorNr
theorem Nr.len (k : Nat) (v : Value) (l : List Int) (r : Int) (w : World) (n : Nr.Nr w v l) (h : r1_Len.f k l = some r) : Calls Tryd.prog 94 #[.agg #[v]] w fun e w' => e = .returned (.int .i64 r) ∧ Below w.heap.size w w' := by
 obtain ⟨A, c, rfl, hc, hC⟩ := n
 exact r1_Len.calls k A c l r w hC hc h
theorem Nr.cmp (k : Nat) (v v1 : Value) (l l1 : List Int) (r : Int) (w : World) (n : Nr.Nr w v l) (n1 : Nr.Nr w v1 l1) (h : r1_Cmp.f k l l1 = some r) : Calls Tryd.prog 59 #[.agg #[v], .agg #[v1]] w fun e w' => e = .returned (.int .i64 r) ∧ Below w.heap.size w w' := by
 obtain ⟨A, c, rfl, hc, hC⟩ := n
 obtain ⟨A1, c1, rfl, hc1, hC1⟩ := n1
 exact r1_Cmp.calls k A c l A1 c1 l1 r w hC hc hC1 hc1 h
theorem Nr.outR {f : Nat} {xs : Array Value} {w : World} {r : List Int} (h : Calls Tryd.prog f xs w fun e w' => ∃ v0_ : Value, e = .returned (.agg #[v0_]) ∧ Kd.R (Kd.int .u64) 22 w' w.heap.size (fun _ => True) v0_ r ∧ Below w.heap.size w w') : Calls Tryd.prog f xs w fun e w' => ∃ A c, e = .returned (.agg #[.slice A r.length c]) ∧ Nr.Ow 22 w.heap.size w' (.slice A r.length c) r ∧ Below w.heap.size w w' := by
 refine h.mono ?_
 rintro e w' ⟨v0, rfl, hR, hb⟩
 obtain ⟨A, c, rfl, _⟩ := Nr.Nr.of_R hR
 exact ⟨A, c, rfl, Nr.Ow.of_R hR (Nat.le_refl _), hb⟩
theorem Nr.shl (k : Nat) (v : Value) (l : List Int) (a : Int) (r : List Int) (w : World) (n : Nr.Nr w v l) (h : r1_Shl.f k l a = some r) : Calls Tryd.prog 60 #[.agg #[v], .int .i64 a] w fun e w' => ∃ A c, e = .returned (.agg #[.slice A r.length c]) ∧ Nr.Ow 22 w.heap.size w' (.slice A r.length c) r ∧ Below w.heap.size w w' := by
 obtain ⟨A, c, rfl, hc, hC⟩ := n
 exact Nr.outR (r1_Shl.calls k A c l a r w hC hc h)
theorem Nr.sub (k : Nat) (v v1 : Value) (l l1 : List Int) (r : List Int) (w : World) (n : Nr.Nr w v l) (n1 : Nr.Nr w v1 l1) (h : r1_Sub.f k l l1 = some r) : Calls Tryd.prog 117 #[.agg #[v], .agg #[v1]] w fun e w' => ∃ A c, e = .returned (.agg #[.slice A r.length c]) ∧ Nr.Ow 22 w.heap.size w' (.slice A r.length c) r ∧ Below w.heap.size w w' := by
 obtain ⟨A, c, rfl, hc, hC⟩ := n
 obtain ⟨A1, c1, rfl, hc1, hC1⟩ := n1
 exact Nr.outR (r1_Sub.calls k A c l A1 c1 l1 r w hC hc hC1 hc1 h)
theorem Nr.add (k : Nat) (v v1 : Value) (l l1 : List Int) (r : List Int) (w : World) (n : Nr.Nr w v l) (n1 : Nr.Nr w v1 l1) (h : r1_Add.f k l l1 = some r) : Calls Tryd.prog 116 #[.agg #[v], .agg #[v1]] w fun e w' => ∃ A c, e = .returned (.agg #[.slice A r.length c]) ∧ Nr.Ow 22 w.heap.size w' (.slice A r.length c) r ∧ Below w.heap.size w w' := by
 obtain ⟨A, c, rfl, hc, hC⟩ := n
 obtain ⟨A1, c1, rfl, hc1, hC1⟩ := n1
 exact Nr.outR (r1_Add.calls k A c l A1 c1 l1 r w hC hc hC1 hc1 h)
theorem Nr.of (k : Nat) (a : Int) (r : List Int) (w : World) (h : r1_Of.f k a = some r) : Calls Tryd.prog 57 #[.int .u64 a] w fun e w' => ∃ A c, e = .returned (.agg #[.slice A r.length c]) ∧ Nr.Ow 22 w.heap.size w' (.slice A r.length c) r ∧ Below w.heap.size w w' :=
 Nr.outR (r1_Of.calls k a r w h)
theorem Nr.lower {e b b' : Nat} {w : World} {v : Value} {l : List Int} (h : Nr.Ow e b w v l) (hb : b' ≤ b) : Nr.Ow e b' w v l := Nr.Ow.of_R h.out hb
theorem Nr.fresh {P : Nat → Prop} {e e' base : Nat} {w0 w1 : World} {vq vr : Value} {lq lr : List Int} (hq : Nr.Ow e base w0 vq lq) (hr : Nr.Ow e' w0.heap.size w1 vr lr) (hb : base ≤ w0.heap.size) : Nr.At (fun k => (P k ∨ base ≤ k) ∧ some k ≠ vq.ownBlock) vr :=
 (Nr.At.of_R hr.out).mono fun k hk => ⟨Or.inr (Nat.le_trans hb hk.1), fun e => Nat.lt_irrefl _ (Nat.lt_of_lt_of_le (Kd.R_lt hq.out k e.symm) hk.1)⟩
theorem Nr.atlt {w : World} {v : Value} {l : List Int} (h : Nr.Nr w v l) : Nr.At (fun k => k < w.heap.size) v := by
 obtain ⟨A, c, hv, hl, h1, h2, h3⟩ := h
 intro ad n c' e hn
 rw [hv] at e
 injection e with e1 e2 e3
 subst e2
 obtain ⟨ad', e4, h4⟩ := h3 hn
 rw [e1] at e4
 injection e4 with e4
 subst e4
 obtain ⟨x, hx⟩ : ∃ x, l[0]? = some x := ⟨l[0]'hn, List.getElem?_eq_getElem hn⟩
 obtain ⟨cs, k1, k2, k3⟩ := h4 0 x hx
 have k2' : cs = [Value.int .u64 x] := k2
 have := World.block_lt_of_cell? w _ (k3 0 (.int .u64 x) (by rw [k2']; rfl))
 rwa [add_block] at this
theorem Nr.other {P : Nat → Prop} {e' : Nat} {w0 w1 : World} {vq vq' vr : Value} {lq' lr : List Int} (ha : Nr.At (fun k => P k ∧ some k ≠ vq.ownBlock) vr) (hn : Nr.Nr w0 vr lr) (hq : Nr.Ow e' w0.heap.size w1 vq' lq') : Nr.At (fun k => P k ∧ some k ≠ vq'.ownBlock) vr := fun ad n c e hn' =>
 ⟨(ha ad n c e hn').1, fun e2 => Nat.lt_irrefl _ (Nat.lt_of_lt_of_le (Nr.atlt hn ad n c e hn') (Kd.R_base hq.out _ e2.symm))⟩
theorem Nr.undrew {w w1 : World} (h : Below w.drew.heap.size w.drew w1) : Below w.heap.size w w1 := below_step (below_drew1 (Below.refl _ _)) h
theorem Nr.unalloc {w w1 : World} {o : Obj} (h : Below (w.alloc o).heap.size (w.alloc o) w1) : Below w.heap.size w w1 := below_step (below_alloc (Below.refl _ _) o) h
theorem Nr.newlt {w w1 : World} {o : Obj} (h : Below (w.alloc o).heap.size (w.alloc o) w1) : w.heap.size < w1.heap.size := by
 have := h.size
 simp at this
 omega
theorem Nr.newcell {w w1 : World} {v : Value} {ty : Nat} (h : Below (w.alloc (.cells #[v] ty)).heap.size (w.alloc (.cells #[v] ty)) w1) : w1.cell? ⟨w.heap.size, 0, none⟩ = some v := by
 rw [(Nr.bcell h).1 _ _ (by simp)]
 exact (World.cell?_alloc_new _ _ _ _).trans rfl
theorem r1_Div.calls (k : Nat) (P0_0_ : Nat → Prop) (A0_0 : Option Addr) (c0_0 : Nat) (l0_0 : List Int) (A1_0 : Option Addr) (c1_0 : Nat) (l1_0 : List Int) (r1 : List Int) (r2 : List Int) (w : World) (hs0_0 : Kd.V (Kd.int .u64) 22 w w.heap.size (fun k_ => P0_0_ k_) (.slice A0_0 l0_0.length c0_0) l0_0) (hr1_0 : Kd.C (Kd.int .u64) w A1_0 l1_0.length l1_0) (hc1_0 : l1_0.length ≤ c1_0) (h : r1_Div.f k l0_0 l1_0 = some (r1, r2)) :
  Calls Tryd.prog 110 #[.agg #[.slice A0_0 l0_0.length c0_0], .agg #[.slice A1_0 l1_0.length c1_0]] w fun e w' => ∃ v0_ v1_ : Value, e = .returned (.tuple #[.agg #[v0_], .agg #[v1_]]) ∧ Kd.R (Kd.int .u64) 22 w' w.heap.size (fun k_ => (w.heap.size ≤ k_)) v0_ r1 ∧ Kd.V (Kd.int .u64) 22 w' w.heap.size (fun k_ => (P0_0_ k_ ∨ w.heap.size ≤ k_) ∧ some k_ ≠ (v0_ : Value).ownBlock) v1_ r2 ∧ Below w.heap.size w w' := by
 obtain ⟨t0, A0, H⟩ := ob_ h
 obtain ⟨t1, A1, H⟩ := ob_ H
 have L0 := A_ A0;have L1 := A_ A1;have HL := A_ H;clear h A0 A1 H
 have NA := Nr.Nr.of_V hs0_0
 have AA := A_ (Nr.At.of_V hs0_0)
 have NB := Nr.Nr.of_C hc1_0 hr1_0
 clear hs0_0 hr1_0
 go_enter Tryd.func110, Tryd.ntmps110
 go_wp2
 go_region_held3 (fun w' => w'.cell? ⟨w.heap.size, 0, none⟩ = some (.slice A0_0 l0_0.length c0_0) ∧ w'.cell? ⟨w.heap.size + 1, 0, none⟩ = some (.slice A1_0 l1_0.length c1_0) ∧ w'.cell? ⟨w.heap.size + 2, 0, none⟩ = some (.slice none 0 0) ∧ w'.cell? ⟨w.heap.size + 3, 0, none⟩ = some (.slice none 0 0) ∧ w'.cell? ⟨w.heap.size + 4, 0, none⟩ = some (.slice none 0 0) ∧ w'.cell? ⟨w.heap.size + 5, 0, none⟩ = some (.slice A0_0 l0_0.length c0_0) ∧ w'.frozen? ⟨w.heap.size + 2, 0, none⟩ = false ∧ w'.frozen? ⟨w.heap.size + 3, 0, none⟩ = false ∧ w'.frozen? ⟨w.heap.size + 4, 0, none⟩ = false ∧ w'.frozen? ⟨w.heap.size + 5, 0, none⟩ = false ∧ w.heap.size + 5 < w'.heap.size ∧ Nr.Nr w' (.slice A0_0 l0_0.length c0_0) l0_0 ∧ Nr.Nr w' (.slice A1_0 l1_0.length c1_0) l1_0 ∧ Nr.Ow 22 w.heap.size w' (.slice none 0 0) [] ∧ Below w.heap.size w w')
  (((try go_split_ands); (try dsimp only); (repeat' apply And.intro) <;> first | assumption | (rw [hc _ _ (by omega)]; assumption) | (rw [hf _ _ (by omega)]; assumption) | (rw [Nr.al (by omega)]; assumption) | (rw [Nr.alf (by omega)]; assumption) | (apply Nr.lt_al; assumption) | (have := hb.size; omega) | (refine Nr.Nr.below ?_ hb; assumption) | (apply Nr.Nr.drew; (repeat apply Nr.Nr.alloc); assumption) | (apply Nr.Nr.alloc; assumption) | (apply Nr.Nr.drew; assumption) | (exact Nr.Ow.nil _ _ _) | (refine Nr.Ow.below ?_ hb; assumption) | (apply Nr.Ow.alloc; assumption) | (apply Nr.Ow.drew; assumption) | (refine below_step ?_ hb; assumption) | (simp [go_sem, World.cell?_alloc_past]; done) | (repeat (first | assumption | exact Below.refl _ _ | apply below_drew1 | apply below_alloc | (refine below_set ?_ (by omega))))))
  ((first | (go_at_call 94; (try go_split_ands); refine (Nr.len k _ l0_0 t0 _ ?_ L0.out).mono ?_; (assumption); rintro e w1 ⟨rfl, hb⟩; obtain ⟨hc, hf⟩ := Nr.bcell hb) | (go_at_call 94; (try go_split_ands); refine (Nr.len k _ l1_0 t1 _ ?_ L1.out).mono ?_; (assumption); rintro e w2 ⟨rfl, hb⟩; obtain ⟨hc, hf⟩ := Nr.bcell hb)))
 rename_i hH
 obtain ⟨q0, q1, q2, q3, q4, q5, f2, f3, f4, f5, hz, nr, nb, ow, bl⟩ := hH
 (repeat clear hc hf)
 (repeat clear hb)
 go_wp2
 iterate 30 (rename_i left_; clear left_)
 rename_i hK
 clear H
 have at0 : Nr.At (fun k_ => (P0_0_ k_ ∨ w.heap.size ≤ k_) ∧ some k_ ≠ (Value.slice none 0 0).ownBlock) (.slice A0_0 l0_0.length c0_0) := AA.out.mono fun k hk => ⟨Or.inl hk, fun e => by cases e⟩
 go_loopg [8] k (fun kq v8 w' => ∃ (x : Int) (Aq : Option Addr) (cq : Nat) (lq : List Int) (Ar : Option Addr) (cr : Nat) (lr : List Int), v8 = .int .i64 x ∧ Aside0 (r1_Div.l0 kq x l1_0 lq lr = some (r1, r2)) ∧ Aside0 (w'.cell? ⟨w.heap.size + 1, 0, none⟩ = some (.slice A1_0 l1_0.length c1_0) ∧ w'.cell? ⟨w.heap.size + 2, 0, none⟩ = some (.slice none 0 0) ∧ w'.cell? ⟨w.heap.size + 3, 0, none⟩ = some (.slice none 0 0) ∧ w'.cell? ⟨w.heap.size + 4, 0, none⟩ = some (.slice Aq lq.length cq) ∧ w'.cell? ⟨w.heap.size + 5, 0, none⟩ = some (.slice Ar lr.length cr) ∧ w'.frozen? ⟨w.heap.size + 2, 0, none⟩ = false ∧ w'.frozen? ⟨w.heap.size + 3, 0, none⟩ = false ∧ w'.frozen? ⟨w.heap.size + 4, 0, none⟩ = false ∧ w'.frozen? ⟨w.heap.size + 5, 0, none⟩ = false ∧ w.heap.size + 5 < w'.heap.size ∧ Nr.Nr w' (.slice A1_0 l1_0.length c1_0) l1_0 ∧ Nr.Nr w' (.slice Ar lr.length cr) lr ∧ Nr.Ow 22 (w.heap.size + 6) w' (.slice Aq lq.length cq) lq ∧ Nr.At (fun k_ => (P0_0_ k_ ∨ w.heap.size ≤ k_) ∧ some k_ ≠ (Value.slice Aq lq.length cq).ownBlock) (.slice Ar lr.length cr) ∧ Below w.heap.size w w'))
 case atStart => exact ⟨_, none, 0, [], A0_0, c0_0, l0_0, by rw [i64_w], HL, q1, q2, q3, q4, q5, f2, f3, f4, f5, hz, nb, nr, Nr.Ow.nil _ _ _, at0, bl⟩
 case round =>
  (repeat clear q0 q1 q2 q3 q4 q5 f2 f3 f4 f5 hz nr ow bl at0 nb)
  obtain ⟨x, Aq, cq, lq, Ar, cr, lr, rfl, E, F⟩ := hrel
  obtain ⟨q1, q2, q3, q4, q5, f2, f3, f4, f5, hz, nb, nr, ow, at0, bl⟩ := F.out
  clear F HL
  obtain _ | kr := gk
  ·cases E.out
  have E := E.out
  unfold r1_Div.l0 at E
  by_cases hx : x ≥ 0
  ·rw [if_pos hx] at E
   have c0 : decide (0 ≤ x) = true := decide_eq_true hx
   obtain ⟨t, T0, E⟩ := ob_ E
   obtain ⟨u, T1, E⟩ := ob_ E
   replace T0 := A_ T0;replace T1 := A_ T1;replace hx := A_ hx
   by_cases hu : u ≥ 0
   ·rw [if_pos hu] at E
    obtain ⟨s, S0, E⟩ := ob_ E
    obtain ⟨o1, S1, E⟩ := ob_ E
    obtain ⟨o2, S2, E⟩ := ob_ E
    obtain ⟨q', S3, E⟩ := ob_ E
    replace S0 := A_ S0;replace S1 := A_ S1;replace S2 := A_ S2;replace S3 := A_ S3;have EE := A_ E;clear E
    have cu : decide (0 ≤ u) = true := decide_eq_true hu
    clear hu
    go_wp2_with (first | (go_at_call 60; refine (Nr.shl kr _ l1_0 x t _ nb T0.out).mono ?_; rintro e w1 ⟨At, ct, rfl, ot, hb⟩; (try replace hb := Nr.undrew hb); obtain ⟨hc, hf⟩ := Nr.bcell hb; have hs := hb.size; replace q1 := (hc _ _ (by omega)).trans q1; replace q2 := (hc _ _ (by omega)).trans q2; replace q3 := (hc _ _ (by omega)).trans q3; replace q4 := (hc _ _ (by omega)).trans q4; replace q5 := (hc _ _ (by omega)).trans q5; replace f2 := (hf _ _ (by omega)).trans f2; replace f3 := (hf _ _ (by omega)).trans f3; replace f4 := (hf _ _ (by omega)).trans f4; replace f5 := (hf _ _ (by omega)).trans f5; replace nb := Nr.Nr.below nb hb; replace nr := Nr.Nr.below nr hb; replace ow := Nr.Ow.below ow hb; replace bl := below_step bl hb; replace hz := Nat.lt_of_lt_of_le hz hs; clear hc hf hs hb) | (go_at_call 59; refine (Nr.cmp kr _ _ lr t u _ (Nr.Nr.alloc nr _) (Nr.Nr.alloc ot.nr _) T1.out).mono ?_; rintro e w2 ⟨rfl, hb⟩; have tq := Nr.newcell hb; have ht := Nr.newlt hb; replace hb := Nr.unalloc hb; (try replace hb := Nr.undrew hb); obtain ⟨hc, hf⟩ := Nr.bcell hb; have hs := hb.size; replace q1 := (hc _ _ (by omega)).trans q1; replace q2 := (hc _ _ (by omega)).trans q2; replace q3 := (hc _ _ (by omega)).trans q3; replace q4 := (hc _ _ (by omega)).trans q4; replace q5 := (hc _ _ (by omega)).trans q5; replace f2 := (hf _ _ (by omega)).trans f2; replace f3 := (hf _ _ (by omega)).trans f3; replace f4 := (hf _ _ (by omega)).trans f4; replace f5 := (hf _ _ (by omega)).trans f5; replace nb := Nr.Nr.below nb hb; replace nr := Nr.Nr.below nr hb; replace ow := Nr.Ow.below ow hb; replace ot := Nr.Ow.below ot hb; replace bl := below_step bl hb; replace hz := Nat.lt_of_lt_of_le hz hs; clear hc hf hs hb) | (go_at_call 117; refine (Nr.sub kr _ _ lr t s _ nr ot.nr S0.out).mono ?_; rintro e w3 ⟨As, cs, rfl, os, hb⟩; have at1 := Nr.fresh (P := P0_0_) (Nr.lower ow (b' := w.heap.size) (by omega)) os (by omega); replace os := Nr.lower os (b' := w.heap.size + 6) (by omega); (try replace hb := Nr.undrew hb); obtain ⟨hc, hf⟩ := Nr.bcell hb; have hs := hb.size; replace q1 := (hc _ _ (by omega)).trans q1; replace q2 := (hc _ _ (by omega)).trans q2; replace q3 := (hc _ _ (by omega)).trans q3; replace q4 := (hc _ _ (by omega)).trans q4; replace q5 := (hc _ _ (by omega)).trans q5; replace f2 := (hf _ _ (by omega)).trans f2; replace f3 := (hf _ _ (by omega)).trans f3; replace f4 := (hf _ _ (by omega)).trans f4; replace f5 := (hf _ _ (by omega)).trans f5; replace nb := Nr.Nr.below nb hb; replace nr := Nr.Nr.below nr hb; replace ow := Nr.Ow.below ow hb; replace ot := Nr.Ow.below ot hb; replace bl := below_step bl hb; replace hz := Nat.lt_of_lt_of_le hz hs; clear hc hf hs hb))
    generalize hW : World.setCell _ _ _ = w4
    have hz4 : w4.heap.size = w3.heap.size := by rw [← hW]; simp
    have hc : ∀ b, b ≠ w.heap.size + 5 → w4.cell? ⟨b, 0, none⟩ = w3.cell? ⟨b, 0, none⟩ := fun b hb => by rw [← hW]; exact World.cell?_setCell_far _ _ _ _ (fun e => hb e.symm)
    have hf : ∀ b, w4.frozen? ⟨b, 0, none⟩ = w3.frozen? ⟨b, 0, none⟩ := fun b => by rw [← hW]; exact World.frozen?_setCell _ _ _ _
    have hi : Nr.IsRow (w3.cell? ⟨w.heap.size + 5, 0, none⟩) := by rw [q5]; exact Nr.IsRow.slice _ _ _
    replace q5 : w4.cell? ⟨w.heap.size + 5, 0, none⟩ = some (.slice As s.length cs) := by rw [← hW]; exact World.cell?_setCell_same _ _ _ q5
    replace q1 := (hc _ (by omega)).trans q1
    replace q2 := (hc _ (by omega)).trans q2
    replace q3 := (hc _ (by omega)).trans q3
    replace q4 := (hc _ (by omega)).trans q4
    replace f2 := (hf _).trans f2
    replace f3 := (hf _).trans f3
    replace f4 := (hf _).trans f4
    replace f5 := (hf _).trans f5
    replace nb : Nr.Nr w4 (.slice A1_0 l1_0.length c1_0) l1_0 := by rw [← hW]; exact Nr.Nr.set nb _ hi
    replace ow : Nr.Ow 22 (w.heap.size + 6) w4 (.slice Aq lq.length cq) lq := by rw [← hW]; exact Nr.Ow.set ow _ (fun e => by have h6 : _ ≤ w.heap.size + 5 := Kd.R_base ow.out _ e; omega)
    replace os : Nr.Ow 22 (w.heap.size + 6) w4 (.slice As s.length cs) s := by rw [← hW]; exact Nr.Ow.set os _ (fun e => by have h6 : _ ≤ w.heap.size + 5 := Kd.R_base os.out _ e; omega)
    replace bl : Below w.heap.size w w4 := by rw [← hW]; exact below_set bl (by omega)
    replace hz : w.heap.size + 5 < w4.heap.size := by omega
    clear hW hc hf hi hz4
    replace nr := os.nr
    clear os
    go_region_with (first | (go_at_call 57; refine (Nr.of kr 1 o1 _ S1.out).mono ?_; rintro e w5 ⟨Ao, co, rfl, oo, hb⟩; (try replace hb := Nr.undrew hb); obtain ⟨hc, hf⟩ := Nr.bcell hb; have hs := hb.size; replace q1 := (hc _ _ (by omega)).trans q1; replace q2 := (hc _ _ (by omega)).trans q2; replace q3 := (hc _ _ (by omega)).trans q3; replace q4 := (hc _ _ (by omega)).trans q4; replace q5 := (hc _ _ (by omega)).trans q5; replace f2 := (hf _ _ (by omega)).trans f2; replace f3 := (hf _ _ (by omega)).trans f3; replace f4 := (hf _ _ (by omega)).trans f4; replace f5 := (hf _ _ (by omega)).trans f5; replace nb := Nr.Nr.below nb hb; replace nr := Nr.Nr.below nr hb; replace ow := Nr.Ow.below ow hb; replace bl := below_step bl hb; replace hz := Nat.lt_of_lt_of_le hz hs; clear hc hf hs hb) | (go_at_call 60; refine (Nr.shl kr _ o1 x o2 _ oo.nr S2.out).mono ?_; rintro e w6 ⟨Ap, cp, rfl, op, hb⟩; (try replace hb := Nr.undrew hb); obtain ⟨hc, hf⟩ := Nr.bcell hb; have hs := hb.size; replace q1 := (hc _ _ (by omega)).trans q1; replace q2 := (hc _ _ (by omega)).trans q2; replace q3 := (hc _ _ (by omega)).trans q3; replace q4 := (hc _ _ (by omega)).trans q4; replace q5 := (hc _ _ (by omega)).trans q5; replace f2 := (hf _ _ (by omega)).trans f2; replace f3 := (hf _ _ (by omega)).trans f3; replace f4 := (hf _ _ (by omega)).trans f4; replace f5 := (hf _ _ (by omega)).trans f5; replace nb := Nr.Nr.below nb hb; replace nr := Nr.Nr.below nr hb; replace ow := Nr.Ow.below ow hb; replace oo := Nr.Ow.below oo hb; replace bl := below_step bl hb; replace hz := Nat.lt_of_lt_of_le hz hs; clear hc hf hs hb) | (go_at_call 116; refine (Nr.add kr _ _ lq o2 q' _ ow.nr op.nr S3.out).mono ?_; rintro e w7 ⟨Az, cz, rfl, oz, hb⟩; have at2 := Nr.other at1 nr oz; have oz := Nr.lower oz (b' := w.heap.size + 6) (by omega); (try replace hb := Nr.undrew hb); obtain ⟨hc, hf⟩ := Nr.bcell hb; have hs := hb.size; replace q1 := (hc _ _ (by omega)).trans q1; replace q2 := (hc _ _ (by omega)).trans q2; replace q3 := (hc _ _ (by omega)).trans q3; replace q4 := (hc _ _ (by omega)).trans q4; replace q5 := (hc _ _ (by omega)).trans q5; replace f2 := (hf _ _ (by omega)).trans f2; replace f3 := (hf _ _ (by omega)).trans f3; replace f4 := (hf _ _ (by omega)).trans f4; replace f5 := (hf _ _ (by omega)).trans f5; replace nb := Nr.Nr.below nb hb; replace nr := Nr.Nr.below nr hb; replace ow := Nr.Ow.below ow hb; replace bl := below_step bl hb; replace hz := Nat.lt_of_lt_of_le hz hs; clear hc hf hs hb))
    all_goals (
     generalize hW : World.setCell _ _ _ = w8
     have hz4 : w8.heap.size = w7.heap.size := by rw [← hW]; simp
     have hc : ∀ b, b ≠ w.heap.size + 4 → w8.cell? ⟨b, 0, none⟩ = w7.cell? ⟨b, 0, none⟩ := fun b hb => by rw [← hW]; exact World.cell?_setCell_far _ _ _ _ (fun e => hb e.symm)
     have hf : ∀ b, w8.frozen? ⟨b, 0, none⟩ = w7.frozen? ⟨b, 0, none⟩ := fun b => by rw [← hW]; exact World.frozen?_setCell _ _ _ _
     have hi : Nr.IsRow (w7.cell? ⟨w.heap.size + 4, 0, none⟩) := by rw [q4]; exact Nr.IsRow.slice _ _ _
     replace q4 : w8.cell? ⟨w.heap.size + 4, 0, none⟩ = some (.slice Az q'.length cz) := by rw [← hW]; exact World.cell?_setCell_same _ _ _ q4
     replace q1 := (hc _ (by omega)).trans q1
     replace q2 := (hc _ (by omega)).trans q2
     replace q3 := (hc _ (by omega)).trans q3
     replace q5 := (hc _ (by omega)).trans q5
     replace f2 := (hf _).trans f2
     replace f3 := (hf _).trans f3
     replace f4 := (hf _).trans f4
     replace f5 := (hf _).trans f5
     replace nb : Nr.Nr w8 (.slice A1_0 l1_0.length c1_0) l1_0 := by rw [← hW]; exact Nr.Nr.set nb _ hi
     replace nr : Nr.Nr w8 (.slice As s.length cs) s := by rw [← hW]; exact Nr.Nr.set nr _ hi
     replace oz : Nr.Ow 22 (w.heap.size + 6) w8 (.slice Az q'.length cz) q' := by rw [← hW]; exact Nr.Ow.set oz _ (fun e => by have h6 : _ ≤ w.heap.size + 4 := Kd.R_base oz.out _ e; omega)
     replace bl : Below w.heap.size w w8 := by rw [← hW]; exact below_set bl (by omega)
     replace hz : w.heap.size + 5 < w8.heap.size := by omega
     clear hW hc hf hi hz4
     go_wp2
     go_roundg kr
     case measure => omega
     case rel => exact ⟨_, Az, cz, q', As, cs, s, rfl, EE, ⟨q1, q2, q3, q4, q5, f2, f3, f4, f5, hz, nb, nr, oz, at2, bl⟩⟩)
   ·rw [if_neg hu] at E
    have EE := A_ E;clear E
    have cu : decide (0 ≤ u) = false := decide_eq_false hu
    clear hu
    go_wp2_with (first | (go_at_call 60; refine (Nr.shl kr _ l1_0 x t _ nb T0.out).mono ?_; rintro e w1 ⟨At, ct, rfl, ot, hb⟩; (try replace hb := Nr.undrew hb); obtain ⟨hc, hf⟩ := Nr.bcell hb; have hs := hb.size; replace q1 := (hc _ _ (by omega)).trans q1; replace q2 := (hc _ _ (by omega)).trans q2; replace q3 := (hc _ _ (by omega)).trans q3; replace q4 := (hc _ _ (by omega)).trans q4; replace q5 := (hc _ _ (by omega)).trans q5; replace f2 := (hf _ _ (by omega)).trans f2; replace f3 := (hf _ _ (by omega)).trans f3; replace f4 := (hf _ _ (by omega)).trans f4; replace f5 := (hf _ _ (by omega)).trans f5; replace nb := Nr.Nr.below nb hb; replace nr := Nr.Nr.below nr hb; replace ow := Nr.Ow.below ow hb; replace bl := below_step bl hb; replace hz := Nat.lt_of_lt_of_le hz hs; clear hc hf hs hb) | (go_at_call 59; refine (Nr.cmp kr _ _ lr t u _ (Nr.Nr.alloc nr _) (Nr.Nr.alloc ot.nr _) T1.out).mono ?_; rintro e w2 ⟨rfl, hb⟩; have tq := Nr.newcell hb; have ht := Nr.newlt hb; replace hb := Nr.unalloc hb; (try replace hb := Nr.undrew hb); obtain ⟨hc, hf⟩ := Nr.bcell hb; have hs := hb.size; replace q1 := (hc _ _ (by omega)).trans q1; replace q2 := (hc _ _ (by omega)).trans q2; replace q3 := (hc _ _ (by omega)).trans q3; replace q4 := (hc _ _ (by omega)).trans q4; replace q5 := (hc _ _ (by omega)).trans q5; replace f2 := (hf _ _ (by omega)).trans f2; replace f3 := (hf _ _ (by omega)).trans f3; replace f4 := (hf _ _ (by omega)).trans f4; replace f5 := (hf _ _ (by omega)).trans f5; replace nb := Nr.Nr.below nb hb; replace nr := Nr.Nr.below nr hb; replace ow := Nr.Ow.below ow hb; replace ot := Nr.Ow.below ot hb; replace bl := below_step bl hb; replace hz := Nat.lt_of_lt_of_le hz hs; clear hc hf hs hb))
    go_roundg kr
    case measure => omega
    case rel => exact ⟨_, Aq, cq, lq, Ar, cr, lr, rfl, EE, ⟨q1, q2, q3, q4, q5, f2, f3, f4, f5, hz, nb, nr, ow, at0, bl⟩⟩
  ·rw [if_neg hx] at E
   have c0 : decide (0 ≤ x) = false := decide_eq_false hx
   injection E with E
   injection E with E1 E2
   subst E1
   subst E2
   clear hx E
   go_wp2
   go_region
   go_wp2
   have i2 : Nr.IsRow (wr.cell? ⟨w.heap.size + 2, 0, none⟩) := by rw [q2]; exact Nr.IsRow.slice _ _ _
   have e2 := World.cell?_setCell_same _ _ (.slice Aq lq.length cq) q2
   have e3 : (wr.setCell ⟨w.heap.size + 2, 0, none⟩ (.slice Aq lq.length cq)).cell? ⟨w.heap.size + 3, 0, none⟩ = some (.slice none 0 0) := (World.cell?_setCell_far _ _ _ _ (by simp)).trans q3
   have i3 : Nr.IsRow ((wr.setCell ⟨w.heap.size + 2, 0, none⟩ (.slice Aq lq.length cq)).cell? ⟨w.heap.size + 3, 0, none⟩) := by rw [e3]; exact Nr.IsRow.slice _ _ _
   have e4 := World.cell?_setCell_same _ _ (.slice Ar lr.length cr) e3
   have e5 : ((wr.setCell ⟨w.heap.size + 2, 0, none⟩ (.slice Aq lq.length cq)).setCell ⟨w.heap.size + 3, 0, none⟩ (.slice Ar lr.length cr)).cell? ⟨w.heap.size + 2, 0, none⟩ = some (.slice Aq lq.length cq) := (World.cell?_setCell_far _ _ _ _ (by simp)).trans e2
   have ow' := Nr.Ow.drew (Nr.Ow.set (Nr.Ow.set ow (p := ⟨w.heap.size + 2, 0, none⟩) (.slice Aq lq.length cq) (fun e => by have h6 : _ ≤ w.heap.size + 2 := Kd.R_base ow.out _ e; omega)) (p := ⟨w.heap.size + 3, 0, none⟩) (.slice Ar lr.length cr) (fun e => by have h6 : _ ≤ w.heap.size + 3 := Kd.R_base ow.out _ e; omega))
   have nr' := Nr.Nr.drew (Nr.Nr.set (Nr.Nr.set nr (.slice Aq lq.length cq) i2) (.slice Ar lr.length cr) i3)
   exact bodyPost_ret (v := .tuple #[.agg #[.slice Aq lq.length cq], .agg #[.slice Ar lr.length cr]]) (by simp [results, Tryd.results110, go_sem, e4, e5]) rfl ⟨_, _, rfl, (Nr.lower ow' (by omega)).out, Nr.Nr.toV nr' at0, below_drew1 (below_set (below_set bl (by omega)) (by omega))⟩
end Go.Proofs.YthdeeoallfbjmaaDoor.PA
section
set_option linter.unusedVariables false
set_option linter.unusedSimpArgs false
namespace Go.Proofs.YthdeeoallfbjmaaDoor.Th
open Go.RowKit Go.Proofs.YthdeeoallfbjmaaDoorW.PrintWords Go.Proofs.YthdeeoallfbjmaaDoorW.PrintLast Go.Proofs.YthdeeoallfbjmaaDoorW.PrintMore Go.Proofs.YthdeeoallfbjmaaDoor.PA Bit Flo
theorem packE (w : Int) (hw : w = 32 ∨ w = 64) (s : Bool) (h l : Nat) (hh : h < 18446744073709551616) (hl : l < 18446744073709551616) (e : Int) (m : Bool) : round_Pack.f w s h l e m = some ((mkN w (pkm (fmt w) (wn h l) e m) s : Nat) : Int) := by
  unfold round_Pack.f
  rw [if_pos (by omega), if_pos hw, Int.toNat_natCast, Int.toNat_natCast]
theorem pack1 (w : Int) (hw : w = 32 ∨ w = 64) (s : Bool) (n : Nat) (hn : n < 18446744073709551616) (e : Int) : round_Pack.f w s 0 n e false = some ((mkN w ((fmt w).rnd ((n : Rat) * tw e)) s : Nat) : Int) := by
  have := packE w hw s 0 n (by decide) hn e false
  rw [show wn 0 n = n by unfold wn; omega, pk_ex w n e (by omega)] at this
  exact this
theorem wholeE (w : Int) (hw : w = 32 ∨ w = 64) (s : Bool) (n : Nat) (hn : n < 18446744073709551616) : round_Whole.f w s n = some ((mkN w ((fmt w).rnd (n : Rat)) (s && decide (0 < n)) : Nat) : Int) := by
  unfold round_Whole.f
  have h := fun t => pack1 w hw t n hn 0
  rw [tw_zero, Rat.mul_one] at h
  rw [ofW n]
  cases s
  · rw [if_neg (by decide), Option.bind_some]
    show (round_Pack.f w false 0 (n : Int) 0 false).bind _ = _
    rw [h false, Option.bind_some]
    simp
  · rw [if_pos rfl, Option.bind_some]
    show (round_Pack.f w (decide ((n : Int) > 0)) 0 (n : Int) 0 false).bind _ = _
    rw [h, Option.bind_some]
    simp
end Go.Proofs.YthdeeoallfbjmaaDoor.Th
end
section
set_option linter.unusedVariables false
set_option linter.unusedSimpArgs false
namespace Go.Proofs.YthdeeoallfbjmaaDoor.Th
open Go.RowKit Go.Proofs.YthdeeoallfbjmaaDoorW.PrintWords Go.Proofs.YthdeeoallfbjmaaDoorW.PrintLast Go.Proofs.YthdeeoallfbjmaaDoorW.PrintMore Go.Proofs.YthdeeoallfbjmaaDoor.PA Bit Dig Flo
theorem castKnown (w : Int) (hw : w = 32 ∨ w = 64) : cast_known.f w = some true := by rcases hw with rfl | rfl <;> rfl
theorem inf_sb (w : Int) (hw : w = 32 ∨ w = 64) : (fmt w).inf < sb w ∧ nanN w < sb w ∧ (fmt w).inf < nanN w ∧ nanN w = mkN w (nanN w) false := by
  rcases hw with rfl | rfl
  · rw [fmt32, inf32]; exact ⟨by decide, by decide, by decide, by decide⟩
  · rw [fmt64, inf64]; exact ⟨by decide, by decide, by decide, by decide⟩
def rdM (fr : Int) (n : Nat) (sd : Bool) : Nat := if sd then mg fr n else cutN fr n
def rdS (fr : Int) (n : Nat) (sd : Bool) : Bool := sd && sgB fr n
theorem rdM_lt (fr : Int) (hf : fr = 32 ∨ fr = 64) (n : Nat) (hn : n < 18446744073709551616) (sd : Bool) : rdM fr n sd < 18446744073709551616 := by
  unfold rdM
  have h := mg_bd fr hf n
  have h2 := cutN_lt fr n hn
  have h3 : sb fr ≤ 9223372036854775808 := by unfold sb; split <;> omega
  cases sd
  · simpa using h2
  · simp only [if_true]; omega
theorem castSigned (fr : Int) (hf : fr = 32 ∨ fr = 64) (n : Nat) (hn : n < 18446744073709551616) : cast_signed.f fr n = some (((mg fr n : Nat) : Int), sgB fr n) := by
  have h := signedS fr hf n hn
  have g := sgn_mg fr n
  have b := mg_bd fr hf n
  have h3 : sb fr ≤ 9223372036854775808 := by unfold sb; split <;> omega
  have key : ∀ x : Int, x = sgn fr n → (if x < 0 then (some (IntKind.u64.wrap (-(IntKind.u64.wrap x)), true)) else (some (IntKind.u64.wrap x, false))) = some (((mg fr n : Nat) : Int), sgB fr n) := by
    intro x hx
    rw [hx, g]
    rw [IntKind.wrap_u64]
    cases s : sgB fr n
    · rw [if_neg (show ¬ (false = true) by decide), if_neg (by omega), IntKind.wrap_u64]; congr 2; omega
    · have := b.2.2.1 s
      rw [if_pos (rfl : true = true), if_pos (by omega)]
      congr 2
      rw [IntKind.wrap_u64]; omega
  unfold ints_signed.f at h
  unfold cast_signed.f cast_amount_int32.f cast_amount_int64.f
  rcases hf with rfl | rfl
  · rw [if_pos rfl] at h ⊢
    have e : wrap32 ((n : Int) % 4294967296) = sgn 32 n := by
      rw [← Option.some.inj h, w64_id] <;> unfold wrap32 <;> omega
    rw [key _ e]; rfl
  · rw [if_neg (by decide)] at h ⊢
    have e : wrap64 (n : Int) = sgn 64 n := Option.some.inj h
    rw [key _ e]; rfl
theorem readE (fr : Int) (hf : fr = 32 ∨ fr = 64) (n : Nat) (hn : n < 18446744073709551616) (sd : Bool) : cast_read.f fr n sd = some (((rdM fr n sd : Nat) : Int), rdS fr n sd) := by
  unfold cast_read.f
  cases sd
  · rw [if_neg (by decide), shCut fr n hn]; rfl
  · rw [if_pos rfl, castSigned fr hf n hn]; simp [rdM, rdS]
theorem rd_pos (fr : Int) (hf : fr = 32 ∨ fr = 64) (n : Nat) (sd : Bool) (h : rdS fr n sd = true) : 0 < rdM fr n sd := by
  unfold rdS at h
  unfold rdM
  rw [Bool.and_eq_true] at h
  rw [h.1, if_pos rfl]
  exact (mg_bd fr hf n).2.2.1 h.2
noncomputable def cfN (w fr : Int) (n : Nat) (sd : Bool) : Nat := mkN w ((fmt w).rnd ((rdM fr n sd : Nat) : Rat)) (rdS fr n sd)
theorem castMade (w : Int) (hw : w = 32 ∨ w = 64) (fr : Int) (hf : fr = 32 ∨ fr = 64) (n : Nat) (hn : n < 18446744073709551616) (sd : Bool) : Ev (fun k => cast_made.f k w fr n sd) ((cfN w fr n sd : Nat) : Int) := by
  unfold cast_made.f
  have e : (rdS fr n sd && decide (0 < rdM fr n sd)) = rdS fr n sd := by
    cases s : rdS fr n sd
    · rfl
    · rw [decide_eq_true (rd_pos fr hf n sd s)]; rfl
  refine Ev.bs (castKnown w hw) (Ev.pos rfl (Ev.bs (castKnown fr hf) (Ev.step (fun _ => cast_made.j0.eq_2 ..) (Ev.neg (by decide) (Ev.bs (readE fr hf n hn sd) (Ev.bs (wholeE w hw _ _ (rdM_lt fr hf n hn sd)) (Ev.out ?_)))))))
  rw [e]; rfl
theorem fromU (w : Int) (hw : w = 32 ∨ w = 64) (fr : Int) (hf : fr = 32 ∨ fr = 64) (n : Nat) (hn : n < 18446744073709551616) : Ev (fun k => cast_FromUint.f k w fr n) ((cfN w fr n false : Nat) : Int) := by
  unfold cast_FromUint.f
  exact Ev.bind (castMade w hw fr hf n hn false) (Ev.out rfl)
theorem fromI (w : Int) (hw : w = 32 ∨ w = 64) (fr : Int) (hf : fr = 32 ∨ fr = 64) (n : Nat) (hn : n < 18446744073709551616) : Ev (fun k => cast_FromInt.f k w fr n) ((cfN w fr n true : Nat) : Int) := by
  unfold cast_FromInt.f
  exact Ev.bind (castMade w hw fr hf n hn true) (Ev.out rfl)
theorem rnd64_lt (w : Int) (hw : w = 32 ∨ w = 64) {M : Nat} (hM : M ≤ 18446744073709551616) : (fmt w).rnd (M : Rat) < (fmt w).inf := by
  obtain ⟨m, hm⟩ := (fmt w).val_repr (n := 1) (e := 64) (by have := (fmt w).pow_pos; rw [Nat.pow_succ]; omega) (by rcases hw with rfl | rfl <;> decide)
  have h1 : m < (fmt w).inf := by
    rw [← (fmt w).val_lt_iff, hm, (fmt w).val_inf]
    have : ((1 : Nat) : Rat) * tw 64 = tw 64 := by grind
    rw [this]
    exact tw_lt (by rcases hw with rfl | rfl <;> decide)
  have h2 : (M : Rat) ≤ (fmt w).val m := by
    rw [hm]
    have e : tw 64 = ((18446744073709551616 : Nat) : Rat) := by rw [show (64 : Int) = ((64 : Nat) : Int) from rfl, tw_nat]
    rw [e]
    have := nat_le.2 hM
    grind
  exact Nat.lt_of_le_of_lt ((fmt w).rnd_lt_inf h2 h1) h1
theorem bl_odd {M t o : Nat} (h : M = 2 ^ t * o) (ho : 0 < o) : bl M = bl o + t := by
  rw [h, Nat.mul_comm, bl_shift _ _ ho]
theorem sg_lt' (w : Int) (m : Nat) : (fmt w).sg m < 2 ^ ((fmt w).f + 1) := by
  obtain ⟨q, n, _, h2, _, h4, _⟩ := (fmt w).sg_ex m
  rw [h4]; exact h2
theorem repr_iff (w : Int) (hw : w = 32 ∨ w = 64) {M t o : Nat} (h : M = 2 ^ t * (2 * o + 1)) (hM : M < 18446744073709551616) : (fmt w).val ((fmt w).rnd (M : Rat)) = (M : Rat) ↔ bl M ≤ t + ((fmt w).f + 1) := by
  have hb := bl_odd h (show 0 < 2 * o + 1 by omega)
  constructor
  · intro e
    obtain ⟨m, hm⟩ : ∃ m, (fmt w).rnd (M : Rat) = m := ⟨_, rfl⟩
    rw [hm] at e
    unfold Fmt.val at e
    have hs := sg_lt' w m
    have key : bl (2 * o + 1) ≤ (fmt w).f + 1 := by
      rw [bl_le]
      refine Nat.lt_of_le_of_lt ?_ hs
      rcases Int.le_total 0 ((fmt w).ex m) with x | x
      · obtain ⟨n, hn⟩ := Int.eq_ofNat_of_zero_le x
        rw [hn, tw_nat] at e
        have e2 : (fmt w).sg m * 2 ^ n = 2 ^ t * (2 * o + 1) := by rw [← h]; exact_mod_cast e
        rcases Nat.le_total n t with y | y
        · have e3 : (fmt w).sg m = 2 ^ (t - n) * (2 * o + 1) := by
            have : (fmt w).sg m * 2 ^ n = 2 ^ (t - n) * (2 * o + 1) * 2 ^ n := by
              rw [e2, Nat.mul_right_comm, ← Nat.pow_add, show t - n + n = t by omega]
            exact Nat.eq_of_mul_eq_mul_right (Nat.pow_pos (by decide)) this
          rw [e3]
          exact Nat.le_mul_of_pos_left _ (Nat.pow_pos (by decide))
        · have e3 : (fmt w).sg m * 2 ^ (n - t) = 2 * o + 1 := by
            have : 2 ^ t * ((fmt w).sg m * 2 ^ (n - t)) = 2 ^ t * (2 * o + 1) := by
              rw [← e2, Nat.mul_left_comm, ← Nat.pow_add, show t + (n - t) = n by omega]
            exact Nat.eq_of_mul_eq_mul_left (Nat.pow_pos (by decide)) this
          rcases Nat.eq_zero_or_pos (n - t) with z | z
          · rw [z, Nat.pow_zero, Nat.mul_one] at e3; omega
          · obtain ⟨d, hd⟩ : ∃ d, n - t = d + 1 := ⟨n - t - 1, by omega⟩
            rw [hd, Nat.pow_succ, ← Nat.mul_assoc] at e3
            omega
      · obtain ⟨n, hn⟩ := Int.eq_ofNat_of_zero_le (show 0 ≤ -(fmt w).ex m by omega)
        have e2 : ((fmt w).sg m : Rat) = ((M * 2 ^ n : Nat) : Rat) := by
          have q : tw ((fmt w).ex m) * tw n = 1 := by rw [← tw_add, show (fmt w).ex m + (n : Int) = 0 by omega, tw_zero]
          push_cast
          have q2 := tw_nat n
          push_cast at q2
          rw [← q2, ← e, Rat.mul_assoc, q, Rat.mul_one]
        have e3 : (fmt w).sg m = M * 2 ^ n := by exact_mod_cast e2
        rw [e3, h]
        have p1 : 0 < 2 ^ t := Nat.pow_pos (by decide)
        have p2 : 0 < 2 ^ n := Nat.pow_pos (by decide)
        exact Nat.le_trans (Nat.le_mul_of_pos_left _ p1) (Nat.le_mul_of_pos_right _ p2)
    omega
  · intro e
    have ho : 2 * o + 1 ≤ 2 ^ ((fmt w).f + 1) := Nat.le_of_lt (bl_le.1 (by omega))
    obtain ⟨m, hm⟩ := (fmt w).val_repr (e := (t : Int)) ho (by have := (fmt_bd w).2.1; omega)
    have e2 : (fmt w).val m = (M : Rat) := by
      rw [hm, tw_nat, h]; push_cast; grind
    have l := rnd64_lt w hw (Nat.le_of_lt hM)
    have h1 : m ≤ (fmt w).inf := by
      rcases Nat.lt_or_ge (fmt w).inf m with y | y
      rotate_left
      · exact y
      · exfalso
        have z := (fmt w).rnd_inf (x := (M : Rat)) (by rw [← e2]; exact Rat.le_of_lt ((fmt w).val_lt_iff.2 y))
        omega
    rw [← e2, (fmt w).rnd_val h1]
theorem tz63 (M : Nat) (h0 : 0 < M) (hM : M < 18446744073709551616) : bits_TrailingZeros64.f (Go.bits .or .u64 (M : Int) 9223372036854775808) = some ((Lib.ctz 64 M : Nat) : Int) := by
  rw [show (9223372036854775808 : Int) = ((9223372036854775808 : Nat) : Int) from rfl, u64_or_nat _ _ hM (by decide)]
  have l : M ||| 9223372036854775808 < 18446744073709551616 := Nat.or_lt_two_pow (n := 64) hM (by decide)
  unfold bits_TrailingZeros64.f
  rw [if_pos (by omega), Int.toNat_natCast]
  congr 2
  obtain ⟨m, h1, h2⟩ := ctz_spec 64 (.inr rfl) M (by simpa [pw] using hM) h0
  have p0 : 0 < M ||| 9223372036854775808 := Nat.lt_of_lt_of_le (by decide) Nat.right_le_or
  obtain ⟨m', h1', h2'⟩ := ctz_spec 64 (.inr rfl) (M ||| 9223372036854775808) (by simpa [pw] using l) p0
  obtain ⟨a1, a2⟩ := ctz_bits h1
  obtain ⟨b1, b2⟩ := ctz_bits h1'
  have b64 := bl64 hM
  have ob : ∀ i, (M ||| 9223372036854775808).testBit i = (M.testBit i || decide (i = 63)) := fun i => by
    rw [Nat.testBit_or, show (9223372036854775808 : Nat) = 2 ^ 63 by decide, Nat.testBit_two_pow]
    congr 1
    rw [decide_eq_decide]; omega
  rcases Nat.lt_trichotomy (Lib.ctz 64 (M ||| 9223372036854775808)) (Lib.ctz 64 M) with x | x | x
  · exfalso
    rw [ob, a1 _ x, Bool.false_or, decide_eq_true_eq] at b2
    omega
  · exact x
  · exfalso
    have := b1 _ x
    rw [ob, a2, Bool.true_or] at this
    cases this
theorem fieldsE (w : Int) (hw : w = 32 ∨ w = 64) : ∃ x, shape_Fields.f w = some (x, ((fmt w).f : Int)) := by
  rcases hw with rfl | rfl
  · exact ⟨_, rfl⟩
  · exact ⟨_, rfl⟩
def exB (w : Int) (M : Nat) : Bool := decide (bl M ≤ Lib.ctz 64 M + ((fmt w).f + 1))
theorem exB_iff (w : Int) (hw : w = 32 ∨ w = 64) {M : Nat} (hM : M < 18446744073709551616) : exB w M = true ↔ (fmt w).val ((fmt w).rnd (M : Rat)) = (M : Rat) := by
  unfold exB
  rw [decide_eq_true_iff]
  rcases Nat.eq_zero_or_pos M with z | z
  · subst z
    have e : (fmt w).rnd ((0 : Nat) : Rat) = 0 := (fmt w).rnd_zero
    rw [e, (fmt w).val_zero]
    exact ⟨fun _ => rfl, fun _ => by rw [bl_zero]; omega⟩
  · obtain ⟨m, h1, h2⟩ := ctz_spec 64 (.inr rfl) M (by simpa [pw] using hM) z
    exact (repr_iff w hw h1 hM).symm
theorem exactC (w : Int) (hw : w = 32 ∨ w = 64) (fr : Int) (hf : fr = 32 ∨ fr = 64) (n : Nat) (hn : n < 18446744073709551616) (sd : Bool) : Ev (fun k => cast_Exact.f k w fr n sd) (exB w (rdM fr n sd)) := by
  unfold cast_Exact.f
  have hM := rdM_lt fr hf n hn sd
  have f52 := fmt_f w
  obtain ⟨x, hx⟩ := fieldsE w hw
  refine Ev.bs (castKnown w hw) (Ev.pos rfl (Ev.bs (castKnown fr hf) (Ev.step (fun _ => cast_Exact.j0.eq_2 ..) (Ev.neg (by decide) (Ev.bs (readE fr hf n hn sd) (Ev.bs hx ?_))))))
  generalize rdM fr n sd = M at *
  have b64 := bl64 hM
  refine Ev.bs (a := ((bl M : Nat) : Int)) (by unfold bits_Len64.f; rw [if_pos (by omega), Int.toNat_natCast, bitLen_bl (by omega)]) ?_
  rw [w64_id (n := ((fmt w).f : Int) + 1) (by omega) (by omega)]
  rcases Nat.eq_zero_or_pos M with z | z
  · subst z
    refine Ev.bs (a := 63) (show bits_TrailingZeros64.f (Go.bits .or .u64 ((0 : Nat) : Int) 9223372036854775808) = some 63 by decide +kernel) ?_
    rw [bl_zero]
    exact Ev.pos (by rw [w64_id (by omega) (by omega)]; omega) (Ev.out (by unfold exB; rw [bl_zero]; simp))
  · refine Ev.bs (tz63 M z hM) ?_
    have hz := ctz_le M hM
    rw [w64_id (by omega) (by omega)]
    unfold exB
    by_cases c : bl M ≤ Lib.ctz 64 M + ((fmt w).f + 1)
    · exact Ev.pos (by omega) (Ev.out (by simp [c]))
    · refine Ev.neg (by omega) (Ev.out ?_)
      rw [decide_eq_false c, beq_eq_false_iff_ne]; omega
def amt (w : Int) (m : Nat) : Nat :=
  if (fmt w).inf ≤ m then 18446744073709551616 else
  if (fmt w).ex m ≤ 0 then (fmt w).sg m / 2 ^ (-(fmt w).ex m).toNat else
  if (fmt w).sg m * 2 ^ (mn ((fmt w).ex m) 70).toNat < 18446744073709551616 then (fmt w).sg m * 2 ^ (mn ((fmt w).ex m) 70).toNat else 18446744073709551616
def loN (tt : Int) (sd : Bool) : Nat := if sd then (if tt = 32 then 2147483648 else 9223372036854775808) else 0
def hiN (tt : Int) (sd : Bool) : Nat := if sd then (if tt = 32 then 2147483647 else 9223372036854775807) else (if tt = 32 then 4294967295 else 18446744073709551615)
theorem ends (tt : Int) (ht : tt = 32 ∨ tt = 64) (sd : Bool) : chop_Ends.f tt sd = some ((loN tt sd : Int), (hiN tt sd : Int)) := by
  rcases ht with rfl | rfl <;> cases sd <;> decide +kernel
theorem lo_lt (tt : Int) (sd : Bool) : loN tt sd ≤ 9223372036854775808 := by unfold loN; split <;> (try split) <;> omega
theorem hi_lt (tt : Int) (sd : Bool) : hiN tt sd ≤ 18446744073709551615 := by unfold hiN; split <;> split <;> omega
theorem cknown (w : Int) (hw : w = 32 ∨ w = 64) : chop_known.f w = some true := by rcases hw with rfl | rfl <;> rfl
def outc (tt : Int) (sd s : Bool) (A : Nat) : Int := if s then (if loN tt sd < A then 2 else 0) else if hiN tt sd < A then 3 else 0
theorem sizedS (tt : Int) (ht : tt = 32 ∨ tt = 64) (sd s : Bool) (A : Nat) : Ev (fun k => chop_sized.f k s A tt sd) (outc tt sd s A) := by
  unfold chop_sized.f outc
  refine Ev.bs (ends tt ht sd) ?_
  cases s
  · refine Ev.neg (by decide) (Ev.step (fun _ => chop_sized.j0.eq_2 ..) (Ev.neg (by decide) (Ev.neg (by decide) ?_)))
    by_cases h : hiN tt sd < A
    · exact Ev.pos (show (A : Int) > (hiN tt sd : Int) by omega) (Ev.out (if_pos h).symm)
    · exact Ev.neg (show ¬ ((A : Int) > (hiN tt sd : Int)) by omega) (Ev.out (if_neg h).symm)
  · refine Ev.pos rfl (Ev.step (fun _ => chop_sized.j0.eq_2 ..) ?_)
    by_cases h : loN tt sd < A
    · exact Ev.pos (decide_eq_true (show (A : Int) > (loN tt sd : Int) by omega)) (Ev.out (if_pos h).symm)
    · exact Ev.neg (fun h2 => absurd (of_decide_eq_true h2) (show ¬ ((A : Int) > (loN tt sd : Int)) by omega)) (Ev.pos rfl (Ev.out (if_neg h).symm))
theorem wnz (x : Nat) : wn 0 x = x := by unfold wn; omega
theorem amount_le (b : Bool) (g : Nat) (e : Int) (hg : g < 9007199254740992) (he : -1074 ≤ e) (h : e ≤ 0) : chop_amount.f b 1 e g = some (((g / 2 ^ (-e).toNat : Nat) : Int), true) := by
  unfold chop_amount.f
  have hq := Nat.div_le_self g (2 ^ (-e).toNat)
  rw [if_pos h, ofW g, Option.bind_some, w64_id (n := -e) (by omega) (by omega)]
  show (wide_Right.f ((0 : Nat) : Int) (g : Int) (-e)).bind (fun bt => some (bt.2.1, true)) = _
  rw [rightW 0 g (-e) (by decide) (by omega) (by omega), Option.bind_some]
  unfold rgV
  rw [wnz, Nat.mod_eq_of_lt (by omega)]
theorem amount_gt (b : Bool) (g : Nat) (e : Int) (hg : g < 9007199254740992) (he : e ≤ 971) (h : ¬ e ≤ 0) : chop_amount.f b 1 e g = some (((g * 2 ^ (mn e 70).toNat % 18446744073709551616 : Nat) : Int), decide (g * 2 ^ (mn e 70).toNat < 18446744073709551616)) := by
  unfold chop_amount.f
  have hm : mn e 70 ≤ 70 := (mn_le e 70).2
  have hp : 2 ^ (mn e 70).toNat ≤ 2 ^ 70 := Nat.pow_le_pow_right (by decide) (by omega)
  have hx : g * 2 ^ (mn e 70).toNat ≤ 9007199254740992 * 2 ^ 70 := Nat.mul_le_mul (by omega) hp
  rw [show (9007199254740992 : Nat) * 2 ^ 70 = 10633823966279326983230456482242756608 by decide] at hx
  rw [if_neg h, ofW g, Option.bind_some]
  show (wide_Left.f ((0 : Nat) : Int) (g : Int) (mn e 70)).bind (fun bt => some (bt.2, bt.1 == 0)) = _
  rw [leftW 0 g (mn e 70) (by decide) (by omega) (by omega), Option.bind_some]
  unfold lfV
  rw [wnz, Nat.mod_eq_of_lt (show g * 2 ^ (mn e 70).toNat < 340282366920938463463374607431768211456 by omega)]
  generalize g * 2 ^ (mn e 70).toNat = v at *
  congr 1
  have e1 : (((v / 18446744073709551616 : Nat) : Int) == 0) = decide (v < 18446744073709551616) := by
    by_cases h1 : v < 18446744073709551616
    · rw [decide_eq_true h1, beq_iff_eq]; omega
    · rw [decide_eq_false h1, beq_eq_false_iff_ne]; omega
  rw [e1]
def satR (tt : Int) (sd s : Bool) (A : Nat) : Nat := if s then (if loN tt sd < A then loN tt sd else cutN tt ((18446744073709551616 - A) % 18446744073709551616)) else (if hiN tt sd < A then hiN tt sd else A)
theorem cut_hi (tt : Int) (ht : tt = 32 ∨ tt = 64) (sd : Bool) (A : Nat) (h : ¬ hiN tt sd < A) : cutN tt A = A := by
  unfold hiN at h; unfold cutN
  rcases ht with rfl | rfl
  · rw [if_pos rfl]; cases sd <;> simp at h <;> omega
  · rw [if_neg (by decide), if_pos rfl]
theorem neg_wrap (A : Nat) (h : A < 18446744073709551616) : IntKind.u64.wrap (-(A : Int)) = (((18446744073709551616 - A) % 18446744073709551616 : Nat) : Int) := by
  rw [IntKind.wrap_u64]; omega
def pOf (tt : Int) (sd s : Bool) (A : Nat) : Int × Int := if A = 18446744073709551616 then (0, if s then 2 else 3) else (if s then ((cutN tt ((18446744073709551616 - A) % 18446744073709551616) : Nat) : Int) else ((cutN tt A : Nat) : Int), outc tt sd s A)
theorem sat_end (tt : Int) (ht : tt = 32 ∨ tt = 64) (sd s : Bool) (A : Nat) (hA : A ≤ 18446744073709551616) :
    (if (pOf tt sd s A).2 = 1 then some 0 else if (pOf tt sd s A).2 = 2 then some (loN tt sd : Int) else if (pOf tt sd s A).2 = 3 then some (hiN tt sd : Int) else some (pOf tt sd s A).1) = some ((satR tt sd s A : Nat) : Int) := by
  have h1 := lo_lt tt sd
  have h2 := hi_lt tt sd
  unfold pOf satR
  by_cases hh : A = 18446744073709551616
  · rw [if_pos hh]
    cases s
    · simp only [Bool.false_eq_true, if_false]
      rw [if_pos (show hiN tt sd < A by omega)]; rfl
    · simp only [if_true]
      rw [if_pos (show loN tt sd < A by omega)]; rfl
  · rw [if_neg hh]
    unfold outc
    cases s
    · simp only [Bool.false_eq_true, if_false]
      by_cases h : hiN tt sd < A
      · simp only [if_pos h]; rfl
      · simp only [if_neg h]; rw [cut_hi tt ht sd A h]; rfl
    · simp only [if_true]
      by_cases h : loN tt sd < A
      · simp only [if_pos h]; rfl
      · simp only [if_neg h]; rfl
theorem amt_le (w : Int) (m : Nat) (hs : (fmt w).sg m < 9007199254740992) : amt w m ≤ 18446744073709551616 := by
  unfold amt
  have := Nat.div_le_self ((fmt w).sg m) (2 ^ (-(fmt w).ex m).toNat)
  split
  · omega
  · split
    · omega
    · split <;> omega
theorem chop_tail (tt : Int) (ht : tt = 32 ∨ tt = 64) (sd s : Bool) (A : Nat) (hA : A < 18446744073709551616) (x11 : Int) :
    Ev (fun k => if ((A : Int), true).2 = true then (chop_sized.f k s ((A : Int), true).1 tt sd).bind fun t147 => (if s = true then ((shape_Cut.f tt (IntKind.u64.wrap (-((A : Int), true).1))).bind fun t148 => (some (t148, t147))) else ((shape_Cut.f tt ((A : Int), true).1).bind fun t149 => (some (t149, t147)))) else some (0, x11)) (pOf tt sd s A) := by
  unfold pOf
  rw [if_neg (by omega)]
  refine Ev.pos rfl (Ev.bind (sizedS tt ht sd s A) ?_)
  cases s
  · refine Ev.neg (by decide) (Ev.bs (shCut tt A hA) (Ev.out rfl))
  · refine Ev.pos rfl ?_
    rw [neg_wrap A hA]
    exact Ev.bs (shCut tt _ (Nat.mod_lt _ (by decide))) (Ev.out rfl)
theorem chop_fin (w : Int) (hw : w = 32 ∨ w = 64) (tt : Int) (ht : tt = 32 ∨ tt = 64) (sd s : Bool) (m : Nat) (hm : m < (fmt w).inf) :
    Ev (fun k => chop_chopped.j0 k tt sd (if s then 2 else 3) s 1 ((fmt w).ex m) ((fmt w).sg m : Int)) (pOf tt sd s (amt w m)) := by
  obtain ⟨b1, b2⟩ := ex_bd w hw m hm
  have b3 := sg_64 w hw m
  refine Ev.step (fun _ => chop_chopped.j0.eq_2 ..) (Ev.neg (by decide) (Ev.neg (by decide) (Ev.neg (by decide) ?_)))
  unfold amt
  rw [if_neg (show ¬ (fmt w).inf ≤ m by omega)]
  by_cases h : (fmt w).ex m ≤ 0
  · rw [if_pos h]
    have hq := Nat.div_le_self ((fmt w).sg m) (2 ^ (-(fmt w).ex m).toNat)
    exact Ev.bs (amount_le s _ _ b3 b1 h) (chop_tail tt ht sd s _ (by omega) _)
  · rw [if_neg h]
    have q := amount_gt s _ _ b3 b2 h
    by_cases h2 : (fmt w).sg m * 2 ^ (mn ((fmt w).ex m) 70).toNat < 18446744073709551616
    · rw [if_pos h2]
      rw [decide_eq_true h2, Nat.mod_eq_of_lt h2] at q
      exact Ev.bs q (chop_tail tt ht sd s _ h2 _)
    · rw [if_neg h2]
      rw [decide_eq_false h2] at q
      refine Ev.bs q (Ev.neg Bool.false_ne_true (Ev.out ?_))
      unfold pOf
      rw [if_pos rfl]
theorem chopS (w : Int) (hw : w = 32 ∨ w = 64) (tt : Int) (ht : tt = 32 ∨ tt = 64) (sd : Bool) (a : Nat) (ha : a < 18446744073709551616) (hn : nn w a = false) :
    Ev (fun k => chop_chopped.f k w tt a sd) (pOf tt sd (sgB w a) (amt w (magN w a))) := by
  unfold chop_chopped.f
  refine Ev.bind (openS w hw a ha) ?_
  have hi := inf_pos w hw
  rcases kinds w hw a with ⟨k1, k2⟩ | ⟨k0, k1, k2⟩ | ⟨k1, k2⟩ | ⟨k1, k2⟩
  · rw [k2, k1]
    have e : amt w 0 = 0 := by
      unfold amt
      have e0 : (fmt w).sg 0 = 0 := by rcases hw with rfl | rfl <;> decide
      have e1 : (fmt w).ex 0 ≤ 0 := by rcases hw with rfl | rfl <;> decide
      rw [if_neg (by omega), if_pos e1, e0, Nat.zero_div]
    rw [e]
    have ec : cutN tt 0 = 0 := by unfold cutN; split <;> (try split) <;> rfl
    have ep : ∀ s, pOf tt sd s 0 = (0, 0) := fun s => by
      unfold pOf outc
      rw [if_neg (by decide), Nat.sub_zero, Nat.mod_self, ec]
      cases s <;> rfl
    rw [ep]
    have jj : ∀ x s, Ev (fun k => chop_chopped.j0 k tt sd x s 0 0 0) ((0, 0) : Int × Int) := fun x s =>
      Ev.step (fun _ => chop_chopped.j0.eq_2 ..) (Ev.neg (by decide) (Ev.neg (by decide) (Ev.pos rfl (Ev.out rfl))))
    cases sgB w a
    · exact Ev.neg Bool.false_ne_true (jj _ _)
    · exact Ev.pos rfl (jj _ _)
  · rw [k2]
    have f := fun s => chop_fin w hw tt ht sd s (magN w a) k1
    cases sgB w a
    · exact Ev.neg Bool.false_ne_true (f false)
    · exact Ev.pos rfl (f true)
  · rw [k2]
    have e : amt w (magN w a) = 18446744073709551616 := by unfold amt; rw [if_pos (by omega)]
    rw [e]
    have jj : ∀ x s, Ev (fun k => chop_chopped.j0 k tt sd x s 2 0 0) (0, x) := fun x s =>
      Ev.step (fun _ => chop_chopped.j0.eq_2 ..) (Ev.neg (by decide) (Ev.pos rfl (Ev.out rfl)))
    unfold pOf
    rw [if_pos rfl]
    cases sgB w a
    · exact Ev.neg Bool.false_ne_true (jj _ _)
    · exact Ev.pos rfl (jj _ _)
  · have : nn w a = true := by unfold nn; rw [k2]; rfl
    rw [this] at hn; cases hn
theorem satS (w : Int) (hw : w = 32 ∨ w = 64) (tt : Int) (ht : tt = 32 ∨ tt = 64) (sd : Bool) (a : Nat) (ha : a < 18446744073709551616) (hn : nn w a = false) :
    Ev (fun k => chop_Sat.f k w tt a sd) ((satR tt sd (sgB w a) (amt w (magN w a)) : Nat) : Int) := by
  unfold chop_Sat.f
  refine Ev.bs (cknown w hw) (Ev.pos rfl (Ev.bs (cknown tt ht) (Ev.step (fun _ => chop_Sat.j0.eq_2 ..) (Ev.neg (by decide) (Ev.bs (ends tt ht sd) (Ev.bind (chopS w hw tt ht sd a ha hn) ?_))))))
  have h := sat_end tt ht sd (sgB w a) (amt w (magN w a)) (amt_le w _ (sg_64 w hw _))
  exact h ▸ Ev.out rfl
theorem ex_pos_sg (w : Int) (hw : w = 32 ∨ w = 64) (m : Nat) (h : 0 < (fmt w).ex m) : 0 < (fmt w).sg m := by
  rcases hw with rfl | rfl
  · rw [fmt32] at h ⊢
    rw [ex32] at h; rw [sg32]
    split at h
    · omega
    · rw [if_neg (by assumption)]; omega
  · rw [fmt64] at h ⊢
    rw [ex64] at h; rw [sg64]
    split at h
    · omega
    · rw [if_neg (by assumption)]; omega
theorem trapS (w : Int) (hw : w = 32 ∨ w = 64) (tt : Int) (ht : tt = 32 ∨ tt = 64) (sd : Bool) (a : Nat) (ha : a < 18446744073709551616) (hn : nn w a = false) (r : Int × Int)
    (h : (if (pOf tt sd (sgB w a) (amt w (magN w a))).2 = 1 then some (0, 4) else if (pOf tt sd (sgB w a) (amt w (magN w a))).2 = 2 then some (0, 3) else if (pOf tt sd (sgB w a) (amt w (magN w a))).2 = 3 then some (0, 3) else some ((pOf tt sd (sgB w a) (amt w (magN w a))).1, 0)) = some r) :
    Ev (fun k => chop_Trap.f k w tt a sd) r := by
  unfold chop_Trap.f
  refine Ev.bs (cknown w hw) (Ev.pos rfl (Ev.bs (cknown tt ht) (Ev.step (fun _ => chop_Trap.j0.eq_2 ..) (Ev.neg (by decide) (Ev.bind (chopS w hw tt ht sd a ha hn) ?_)))))
  exact h ▸ Ev.out rfl
theorem awake12 : Ev (fun k => L12_awake.f k) true := by
  unfold L12_awake.f
  have t1 := trapS 64 (.inr rfl) 32 (.inl rfl) false 13829653735729319117 (by decide) (by decide +kernel) (0, 0) (by decide +kernel)
  have t2 := trapS 64 (.inr rfl) 32 (.inl rfl) false 13840687554816376832 (by decide) (by decide +kernel) (0, 3) (by decide +kernel)
  have s1 := satS 64 (.inr rfl) 32 (.inl rfl) false 13840687554816376832 (by decide) (by decide +kernel)
  have s2 := satS 64 (.inr rfl) 32 (.inl rfl) true 4617315517961601024 (by decide) (by decide +kernel)
  rw [show satR 32 false (sgB 64 13840687554816376832) (amt 64 (magN 64 13840687554816376832)) = 0 by decide +kernel] at s1
  rw [show satR 32 true (sgB 64 4617315517961601024) (amt 64 (magN 64 4617315517961601024)) = 5 by decide +kernel] at s2
  exact Ev.bind t1 (Ev.bind t2 (Ev.pos rfl (Ev.pos rfl (Ev.pos rfl (Ev.bind s1 (Ev.pos rfl (Ev.bind s2 (Ev.out rfl))))))))
def fa (w : Int) (m : Nat) : Nat := if 0 ≤ (fmt w).ex m then (fmt w).sg m * 2 ^ ((fmt w).ex m).toNat else (fmt w).sg m / 2 ^ (-(fmt w).ex m).toNat
theorem fa_amt (w : Int) (hw : w = 32 ∨ w = 64) {m : Nat} (hm : m < (fmt w).inf) : (fa w m < 18446744073709551616 → amt w m = fa w m) ∧ (18446744073709551616 ≤ fa w m → amt w m = 18446744073709551616) := by
  have hs := sg_64 w hw m
  unfold fa amt
  rw [if_neg (show ¬ (fmt w).inf ≤ m by omega)]
  by_cases c : (fmt w).ex m ≤ 0
  · rw [if_pos c]
    by_cases c2 : 0 ≤ (fmt w).ex m
    · rw [if_pos c2, show (fmt w).ex m = 0 by omega]
      simp only [Int.neg_zero, Int.toNat_zero, Nat.pow_zero, Nat.mul_one, Nat.div_one]
      exact ⟨fun _ => trivial, fun h => by omega⟩
    · rw [if_neg c2]
      have := Nat.div_le_self ((fmt w).sg m) (2 ^ (-(fmt w).ex m).toNat)
      exact ⟨fun _ => rfl, fun h => by omega⟩
  · rw [if_neg c, if_pos (by omega)]
    have h0 := ex_pos_sg w hw m (by omega)
    by_cases c3 : (fmt w).ex m ≤ 70
    · have e : mn ((fmt w).ex m) 70 = (fmt w).ex m := by unfold mn; split <;> omega
      rw [e]
      constructor
      · intro h; rw [if_pos h]
      · intro h; rw [if_neg (by omega)]
    · have e : mn ((fmt w).ex m) 70 = 70 := by unfold mn; split <;> omega
      rw [e]
      have h1 : 2 ^ (70 : Int).toNat ≤ (fmt w).sg m * 2 ^ (70 : Int).toNat := Nat.le_mul_of_pos_left _ h0
      have h2 : (2 : Nat) ^ (70 : Int).toNat = 1180591620717411303424 := by decide
      have h3 : 2 ^ (70 : Int).toNat ≤ 2 ^ ((fmt w).ex m).toNat := Nat.pow_le_pow_right (by decide) (by omega)
      have h4 := Nat.le_mul_of_pos_left (2 ^ ((fmt w).ex m).toNat) h0
      rw [h2] at h1 h3
      rw [h2]
      constructor
      · intro h; omega
      · intro _; rw [if_neg (by omega)]
theorem cknown_no {w : Int} (hw : ¬ (w = 32 ∨ w = 64)) : chop_known.f w = some false := by
  unfold chop_known.f
  rw [if_neg (by omega)]
  congr 1
  rw [beq_eq_false_iff_ne]; omega
theorem trap_no {w tt : Int} (h : ¬ ((w = 32 ∨ w = 64) ∧ (tt = 32 ∨ tt = 64))) (a : Int) (sd : Bool) : Ev (fun k => chop_Trap.f k w tt a sd) (0, 0) ∧ Ev (fun k => chop_Sat.f k w tt a sd) 0 := by
  have z1 : Ev (fun k => chop_Trap.j0 k w tt a sd true) (0, 0) := Ev.step (fun _ => chop_Trap.j0.eq_2 ..) (Ev.pos rfl (Ev.out rfl))
  have z2 : Ev (fun k => chop_Sat.j0 k w tt a sd true) 0 := Ev.step (fun _ => chop_Sat.j0.eq_2 ..) (Ev.pos rfl (Ev.out rfl))
  unfold chop_Trap.f chop_Sat.f
  by_cases hw : w = 32 ∨ w = 64
  · have ht : ¬ (tt = 32 ∨ tt = 64) := fun x => h ⟨hw, x⟩
    exact ⟨Ev.bs (cknown w hw) (Ev.pos rfl (Ev.bs (cknown_no ht) z1)), Ev.bs (cknown w hw) (Ev.pos rfl (Ev.bs (cknown_no ht) z2))⟩
  · exact ⟨Ev.bs (cknown_no hw) (Ev.neg (by decide) z1), Ev.bs (cknown_no hw) (Ev.neg (by decide) z2)⟩
theorem outc_k (tt : Int) (sd s : Bool) (A : Nat) : (pOf tt sd s A).2 = 0 ∨ (pOf tt sd s A).2 = 2 ∨ (pOf tt sd s A).2 = 3 := by
  unfold pOf outc
  split
  · cases s <;> simp
  · cases s
    · simp only [Bool.false_eq_true, if_false]; split <;> simp
    · simp only [if_true]; split <;> simp
theorem nan_chopP (w : Int) (hw : w = 32 ∨ w = 64) (tt : Int) (ht : tt = 32 ∨ tt = 64) (sd : Bool) (a : Nat) (ha : a < 18446744073709551616) (hn : nn w a = true) :
    Ev (fun k => chop_Trap.f k w tt a sd) (0, 4) ∧ Ev (fun k => chop_Sat.f k w tt a sd) 0 := by
  have hn' : (opn w a).2.1 = 3 := by unfold nn at hn; simpa using hn
  have c : Ev (fun k => chop_chopped.f k w tt a sd) (0, 1) := by
    unfold chop_chopped.f
    refine Ev.bind (openS w hw a ha) ?_
    have j : ∀ x, Ev (fun k => chop_chopped.j0 k tt sd x (opn w a).1 (opn w a).2.1 (opn w a).2.2.1 (opn w a).2.2.2) (0, 1) := fun x => Ev.step (fun _ => chop_chopped.j0.eq_2 ..) (Ev.pos hn' (Ev.out rfl))
    by_cases s : (opn w a).1 = true
    · exact Ev.pos s (j 2)
    · exact Ev.neg s (j 3)
  refine ⟨?_, ?_⟩
  · unfold chop_Trap.f
    exact Ev.bs (cknown w hw) (Ev.pos rfl (Ev.bs (cknown tt ht) (Ev.step (fun _ => chop_Trap.j0.eq_2 ..) (Ev.neg (by decide) (Ev.bind c (Ev.pos rfl (Ev.out rfl)))))))
  · unfold chop_Sat.f
    exact Ev.bs (cknown w hw) (Ev.pos rfl (Ev.bs (cknown tt ht) (Ev.step (fun _ => chop_Sat.j0.eq_2 ..) (Ev.neg (by decide) (Ev.bs (ends tt ht sd) (Ev.bind c (Ev.pos rfl (Ev.out rfl))))))))
theorem trap_sat (w tt : Int) (a : Nat) (ha : a < 18446744073709551616) (sd : Bool) : ∃ n t s : Int, Ev (fun k => chop_Trap.f k w tt a sd) (n, t) ∧ Ev (fun k => chop_Sat.f k w tt a sd) s ∧ (t = 0 → s = n) ∧ (t ≠ 0 → n = 0) := by
  by_cases h : (w = 32 ∨ w = 64) ∧ (tt = 32 ∨ tt = 64)
  · obtain ⟨hw, ht⟩ := h
    cases hn : nn w a
    · have e := sat_end tt ht sd (sgB w a) (amt w (magN w a)) (amt_le w _ (sg_64 w hw _))
      have s := satS w hw tt ht sd a ha hn
      have t := fun r h => trapS w hw tt ht sd a ha hn r h
      rcases outc_k tt sd (sgB w a) (amt w (magN w a)) with k | k | k
      · rw [if_neg (by omega), if_neg (by omega), if_neg (by omega)] at e
        exact ⟨_, 0, _, t _ (by rw [if_neg (by omega), if_neg (by omega), if_neg (by omega)]), s, fun _ => (Option.some.inj e).symm, fun h => absurd rfl h⟩
      · exact ⟨0, 3, _, t _ (by rw [if_neg (by omega), if_pos k]), s, fun h => absurd h (by decide), fun _ => rfl⟩
      · exact ⟨0, 3, _, t _ (by rw [if_neg (by omega), if_neg (by omega), if_pos k]), s, fun h => absurd h (by decide), fun _ => rfl⟩
    · obtain ⟨t1, t2⟩ := nan_chopP w hw tt ht sd a ha hn
      exact ⟨0, 4, 0, t1, t2, fun h => absurd h (by decide), fun _ => rfl⟩
  · obtain ⟨t1, t2⟩ := trap_no h (a : Int) sd
    exact ⟨0, 0, 0, t1, t2, fun _ => rfl, fun h => absurd rfl h⟩
theorem exact_no {w fr : Int} (h : ¬ ((w = 32 ∨ w = 64) ∧ (fr = 32 ∨ fr = 64))) (n : Int) (sd : Bool) : Ev (fun k => cast_Exact.f k w fr n sd) false := by
  have z2 : Ev (fun k => cast_Exact.j0 k w fr n sd true) false := Ev.step (fun _ => cast_Exact.j0.eq_2 ..) (Ev.pos rfl (Ev.out rfl))
  have no : ∀ {v : Int}, ¬ (v = 32 ∨ v = 64) → cast_known.f v = some false := by
    intro v hv
    unfold cast_known.f
    rw [if_neg (by omega)]
    congr 1
    rw [beq_eq_false_iff_ne]; omega
  unfold cast_Exact.f
  by_cases hw : w = 32 ∨ w = 64
  · exact Ev.bs (castKnown w hw) (Ev.pos rfl (Ev.bs (no fun x => h ⟨hw, x⟩) z2))
  · exact Ev.bs (no hw) (Ev.neg (by decide) z2)
theorem amt_ex (w : Int) (hw : w = 32 ∨ w = 64) {M : Nat} (hM : M < 18446744073709551616) (h : (fmt w).val ((fmt w).rnd (M : Rat)) = (M : Rat)) : amt w ((fmt w).rnd (M : Rat)) = M := by
  have l := rnd64_lt w hw (Nat.le_of_lt hM)
  obtain ⟨m, hm⟩ : ∃ m, (fmt w).rnd (M : Rat) = m := ⟨_, rfl⟩
  rw [hm] at h l ⊢
  have f : fa w m = M := by
    unfold Fmt.val at h
    unfold fa
    by_cases c : 0 ≤ (fmt w).ex m
    · rw [if_pos c]
      obtain ⟨n, hn⟩ := Int.eq_ofNat_of_zero_le c
      rw [hn, tw_nat] at h
      rw [hn, Int.toNat_natCast]
      exact_mod_cast h
    · rw [if_neg c]
      obtain ⟨n, hn⟩ := Int.eq_ofNat_of_zero_le (show 0 ≤ -(fmt w).ex m by omega)
      rw [hn, Int.toNat_natCast]
      have t1 : tw ((fmt w).ex m) * tw n = 1 := by rw [← tw_add, show (fmt w).ex m + (n : Int) = 0 by omega, tw_zero]
      have e : ((fmt w).sg m : Rat) = ((M * 2 ^ n : Nat) : Rat) := by
        have t2 := tw_nat n
        push_cast
        push_cast at t2
        rw [← t2, ← h, Rat.mul_assoc, t1, Rat.mul_one]
      rw [Rat.natCast_inj.1 e, Nat.mul_div_cancel _ (Nat.pow_pos (by decide))]
  rw [← f]
  exact (fa_amt w hw l).1 (by omega)
theorem shlshr (tt : Int) (ht : tt = 32 ∨ tt = 64) (a : Nat) (ha : a < 18446744073709551616) : shr .u64 (shl .u64 (a : Int) (wrap64 (64 - tt))) (wrap64 (64 - tt)) = ((cutN tt a : Nat) : Int) := by
  obtain ⟨n, rfl⟩ := Int.eq_ofNat_of_zero_le (show 0 ≤ tt by omega)
  have e : wrap64 (64 - (n : Int)) = ((64 - n : Nat) : Int) := by rw [w64_id (by omega) (by omega)]; omega
  rw [e, shlU a _ (by omega), shrN _ _ (by omega)]
  unfold cutN
  rcases (show n = 32 ∨ n = 64 by omega) with rfl | rfl
  · rw [if_pos (by decide)]; congr 1; simp only [Nat.reduceSub, Nat.reducePow]; omega
  · rw [if_neg (by decide), if_pos (by decide)]; congr 1; simp only [Nat.reduceSub, Nat.reducePow]; omega
theorem chopBk (w : Int) (hw : w = 32 ∨ w = 64) (tt : Int) (ht : tt = 32 ∨ tt = 64) (sd : Bool) (a : Nat) (ha : a < 18446744073709551616) (hx : exB w (rdM tt a sd) = true) : Ev (fun k => chop_Trap.f k w tt ((cfN w tt a sd : Nat) : Int) sd) (((cutN tt a : Nat) : Int), 0) := by
  have hM := rdM_lt tt ht a ha sd
  have l := rnd64_lt w hw (Nat.le_of_lt hM)
  have is := (inf_sb w hw).1
  have ms : (fmt w).rnd ((rdM tt a sd : Nat) : Rat) < sb w := by omega
  have am := amt_ex w hw hM ((exB_iff w hw hM).1 hx)
  have nf : nn w (cfN w tt a sd) = false := by
    rw [nn_eq w hw]
    unfold cfN
    rw [mag_mk w hw _ _ ms]
    exact decide_eq_false (by omega)
  refine trapS w hw tt ht sd (cfN w tt a sd) (mkN_lt w hw _ _ ms) nf _ ?_
  unfold cfN
  rw [sg_mk w hw _ _ ms, mag_mk w hw _ _ ms, am]
  have md := mg_bd tt ht a
  have mz := Nat.mod_lt a (pw_0 tt)
  have p64 := pw_64 tt
  have ec := cutP tt ht a ha
  have key : pOf tt sd (rdS tt a sd) (rdM tt a sd) = (((cutN tt a : Nat) : Int), 0) := by
    unfold pOf
    rw [if_neg (by omega)]
    cases sd
    · have e1 : rdS tt a false = false := rfl
      have e2 : rdM tt a false = cutN tt a := rfl
      rw [e1, e2, if_neg (by decide)]
      have h2 : ¬ hiN tt false < cutN tt a := by
        unfold hiN; rw [if_neg (by decide), ec]; unfold pw at *
        rcases ht with rfl | rfl
        · simp only [if_true] at *; omega
        · simp only [show ¬ ((64 : Int) = 32) by decide, if_false] at *; omega
      unfold outc
      rw [cut_hi tt ht false _ h2, if_neg (by decide), if_neg h2]
    · have e2 : rdM tt a true = mg tt a := rfl
      have e1 : rdS tt a true = sgB tt a := rfl
      rw [e1, e2]
      rw [e2] at hM
      have lo : loN tt true = sb tt := rfl
      have hi : hiN tt true = sb tt - 1 := by unfold hiN sb; rw [if_pos rfl]; split <;> rfl
      have s0 : 0 < sb tt := by unfold sb; split <;> decide
      unfold outc
      cases s : sgB tt a
      · have m1 := md.2.1 s
        have e3 : mg tt a = a % pw tt := by unfold mg; rw [s, if_neg (by decide)]
        have h2 : ¬ hiN tt true < mg tt a := by omega
        rw [if_neg (by decide), if_neg (by decide), cut_hi tt ht true _ h2, if_neg h2, e3, ec]
      · have m1 := md.2.2.1 s
        have e3 : mg tt a = pw tt - a % pw tt := by unfold mg; rw [s, if_pos rfl]
        rw [if_pos rfl, if_pos rfl, if_neg (show ¬ loN tt true < mg tt a by omega)]
        congr 2
        rw [cutP tt ht _ (Nat.mod_lt _ (by decide)), ec, e3]
        unfold pw at *
        rcases ht with rfl | rfl
        · simp only [if_true] at *; omega
        · simp only [show ¬ ((64 : Int) = 32) by decide, if_false] at *; omega
  rw [key]
  rfl
theorem ChopBackP : L12_ChopBack.Pure := by
  intro w tt sd a hw0 ht0 ha0
  obtain ⟨ha1, ha2⟩ := wf_u64 ha0
  obtain ⟨a, rfl⟩ := Int.eq_ofNat_of_zero_le ha1
  have ha : a < 18446744073709551616 := by omega
  refine Ev.rounds ?_
  unfold L12_ChopBack.f
  have j0 : Ev (fun k => L12_ChopBack.j0 k a false w tt sd) true := by
    refine Ev.step (fun _ => L12_ChopBack.j0.eq_2 ..) (Ev.neg (by decide) ?_)
    by_cases h : (w = 32 ∨ w = 64) ∧ (tt = 32 ∨ tt = 64)
    · obtain ⟨hw, ht⟩ := h
      refine Ev.bind (exactC w hw tt ht a ha sd) ?_
      cases hx : exB w (rdM tt a sd)
      · exact Ev.neg (by decide) (Ev.out rfl)
      · have c := chopBk w hw tt ht sd a ha hx
        have z : 0 ≤ wrap64 (64 - tt) := by rw [w64_id (by omega) (by omega)]; omega
        have e := shlshr tt ht a ha
        refine Ev.pos rfl (Ev.bind (fromU w hw tt ht a ha) ?_)
        cases sd
        · refine Ev.neg (by decide) (Ev.bind c (Ev.pos rfl (Ev.pos z (Ev.out ?_))))
          rw [e]; simp
        · refine Ev.pos rfl (Ev.bind (fromI w hw tt ht a ha) (Ev.bind c (Ev.pos rfl (Ev.pos z (Ev.out ?_)))))
          rw [e]; simp
    · exact Ev.bind (exact_no h _ sd) (Ev.neg (by decide) (Ev.out rfl))
  obtain ⟨n, t, s, t1, t2, e1, e2⟩ := trap_sat w tt a ha sd
  refine Ev.bind awake12 (Ev.pos rfl (Ev.bind t1 ?_))
  by_cases z : t = 0
  · exact Ev.pos z (Ev.bind t2 (Ev.pos (e1 z) j0))
  · refine Ev.neg z ?_
    rw [e2 z]
    exact j0
end Go.Proofs.YthdeeoallfbjmaaDoor.Th
end
namespace Go.Proofs.YthdeeoallfbjmaaDoor.Pure
theorem ChopBack : Go.Proofs.YthdeeoallfbjmaaDoor.PA.L12_ChopBack.Pure := Go.Proofs.YthdeeoallfbjmaaDoor.Th.ChopBackP
end Go.Proofs.YthdeeoallfbjmaaDoor.Pure
namespace Go.Proofs.YthdeeoallfbjmaaDoor.Facts
abbrev ch (n : Nat) : Char := Char.ofNat n
theorem words_word (w : List Char) (r : List Char) (h : w.all (fun c => c != ch 32) = true) : wordsSigns (w ++ ch 32 :: r) = w :: wordsSigns r := by
  induction w with
  | nil => rfl
  | cons c w ih =>
    rw [List.all_cons, Bool.and_eq_true] at h
    have hc : c ≠ ch 32 := bne_iff_ne.1 h.1
    rw [List.cons_append]
    rw [wordsSigns.eq_3 c _ (fun e => hc e), ih h.2]
def w1 : List Char := [ch 104, ch 97, ch 114, ch 110, ch 101, ch 115, ch 115]
def w2 : List Char := [ch 98, ch 57, ch 54, ch 51, ch 49, ch 48, ch 49, ch 55, ch 56, ch 57, ch 57, ch 48, ch 102, ch 51, ch 56, ch 101, ch 50, ch 100, ch 48, ch 100, ch 54, ch 53, ch 99, ch 52, ch 55, ch 101, ch 100, ch 50, ch 53, ch 102, ch 54, ch 98, ch 98, ch 52, ch 57, ch 102, ch 54, ch 48, ch 55, ch 48, ch 52, ch 51, ch 99, ch 50, ch 101, ch 56, ch 100, ch 98, ch 55, ch 102, ch 56, ch 97, ch 102, ch 48, ch 55, ch 97, ch 55, ch 49, ch 100, ch 56, ch 50, ch 54, ch 99, ch 48]
def w3 : List Char := [ch 99, ch 117, ch 116]
set_option maxRecDepth 100000 in
def tailSigns : List Char := [ch 97, ch 116, ch 32, ch 116, ch 114, ch 117, ch 110, ch 110, ch 105, ch 111, ch 110, ch 47, ch 116, ch 114, ch 117, ch 110, ch 110, ch 105, ch 111, ch 110, ch 108, ch 97, ch 119, ch 49, ch 51, ch 46, ch 73, ch 110, ch 116, ch 115, ch 82, ch 117, ch 110, ch 115, ch 32, ch 116, ch 114, ch 117, ch 110, ch 110, ch 105, ch 111, ch 110, ch 47, ch 116, ch 114, ch 117, ch 110, ch 110, ch 105, ch 111, ch 110, ch 108, ch 97, ch 119, ch 49, ch 51, ch 46, ch 73, ch 110, ch 116, ch 115, ch 67, ch 111, ch 117, ch 110, ch 116, ch 115, ch 32, ch 116, ch 114, ch 117, ch 110, ch 110, ch 105, ch 111, ch 110, ch 47, ch 116, ch 114, ch 117, ch 110, ch 110, ch 105, ch 111, ch 110, ch 108, ch 97, ch 119, ch 49, ch 49, ch 46, ch 67, ch 97, ch 115, ch 116, ch 77, ch 97, ch 107, ch 101, ch 115, ch 32, ch 116, ch 114, ch 117, ch 110, ch 110, ch 105, ch 111, ch 110, ch 47, ch 116, ch 114, ch 117, ch 110, ch 110, ch 105, ch 111, ch 110, ch 108, ch 97, ch 119, ch 49, ch 49, ch 46, ch 67, ch 97, ch 115, ch 116, ch 66, ch 97, ch 99, ch 107, ch 32, ch 116, ch 114, ch 117, ch 110, ch 110, ch 105, ch 111, ch 110, ch 47, ch 116, ch 114, ch 117, ch 110, ch 110, ch 105, ch 111, ch 110, ch 108, ch 97, ch 119, ch 49, ch 50, ch 46, ch 67, ch 104, ch 111, ch 112, ch 66, ch 97, ch 99, ch 107]
set_option maxRecDepth 100000 in
theorem head_list : Tryd.prog.initOrder.toList = w1 ++ ch 32 :: (w2 ++ ch 32 :: (w3 ++ ch 32 :: tailSigns)) :=
  (congrArg String.toList (show Tryd.prog.initOrder = String.ofList (w1 ++ ch 32 :: (w2 ++ ch 32 :: (w3 ++ ch 32 :: tailSigns))) from rfl)).trans String.toList_ofList
theorem words : ∃ rest, behindMainWord (wordsSigns Tryd.prog.initOrder.toList) = w3 :: rest := by
  refine ⟨wordsSigns tailSigns, ?_⟩
  rw [head_list, words_word w1 _ (by kernel_rfl), words_word w2 _ (by kernel_rfl), words_word w3 _ (by kernel_rfl)]
  generalize wordsSigns tailSigns = rest
  have e : ((w1 == "harness".toList || w1 == "ownmain".toList) && isSumSigns w2) = true := by kernel_rfl
  show (if ((w1 == "harness".toList || w1 == "ownmain".toList) && isSumSigns w2) = true then w3 :: rest else w1 :: w2 :: w3 :: rest) = w3 :: rest
  rw [if_pos e]
theorem c3 : (w3 == "gc".toList) = false ∧ (w3 == "spec".toList) = false ∧ (w3 == "cut".toList) = true ∧ (w3 == "carried".toList) = false ∧ (w3 == "finals".toList) = false := ⟨by kernel_rfl, by kernel_rfl, by kernel_rfl, by kernel_rfl, by kernel_rfl⟩
theorem strip (rest : List (List Char)) : stripLifts liftWords (w3 :: rest) = ([], w3 :: rest) := by
  have key : ∀ l : List String, l.all (fun o => !(w3 == o.toList)) = true → stripLifts l (w3 :: rest) = ([], w3 :: rest) := by
    intro l
    induction l with
    | nil => intro _; rfl
    | cons o l ih =>
      intro h
      rw [List.all_cons, Bool.and_eq_true] at h
      unfold stripLifts
      rw [if_neg (fun e => by have h1 := h.1; rw [e] at h1; cases h1)]
      exact ih h.2
  exact key liftWords (by kernel_rfl)
theorem make_of (P : Program) (h : ∃ rest, behindMainWord (wordsSigns P.initOrder.toList) = w3 :: rest) : P.make = some .cut := by
  obtain ⟨rest, h⟩ := h
  unfold Program.make
  rw [h]
  show (if (w3 == "gc".toList || w3 == "spec".toList) = true then some Make.whole else if (w3 == "cut".toList || (w3 == "finals".toList && rest.head? == some "cut".toList)) = true then some Make.cut else _) = some Make.cut
  rw [if_neg (by rw [c3.1, c3.2.1]; decide), if_pos (by rw [c3.2.2.1, Bool.true_or])]
set_option maxRecDepth 100000 in
theorem liftsFact : Tryd.prog.liftsFinal = false := by
  unfold Program.liftsFinal Program.headLifts
  rw [head_list]
  kernel_rfl
theorem doorFact : (!Tryd.prog.laysLater && !Tryd.prog.bearsReflect && Tryd.prog.doorFits []) = true := by kernel_rfl
theorem makeFact : Tryd.prog.make = some .cut := make_of _ words
theorem enter_of (P : Program) (h : ∃ rest, behindMainWord (wordsSigns P.initOrder.toList) = w3 :: rest) (d : (!P.laysLater && !P.bearsReflect && P.doorFits []) = true) : P.mayEnter = true := by
  obtain ⟨rest, h⟩ := h
  rw [Bool.and_eq_true, Bool.and_eq_true] at d
  have e : ((some w3 == some "cut".toList) : Bool) = true := by kernel_rfl
  unfold Program.mayEnter
  rw [h]
  show ((_ || _) || ((stripLifts liftWords (w3 :: rest)).2.head? == some "cut".toList && ((stripLifts liftWords (w3 :: rest)).1.contains "finals" || !P.laysLater) && ((stripLifts liftWords (w3 :: rest)).1.contains "reflectrows" || !P.bearsReflect) &&
      ((stripLifts liftWords (w3 :: rest)).1.contains "reflectrows" || !(stripLifts liftWords (w3 :: rest)).1.contains "leanrows") && P.doorFits (stripLifts liftWords (w3 :: rest)).1)) = true
  rw [strip, Bool.or_eq_true]
  refine .inr ?_
  rw [Bool.and_eq_true, Bool.and_eq_true, Bool.and_eq_true, Bool.and_eq_true, Bool.or_eq_true, Bool.or_eq_true]
  exact ⟨⟨⟨⟨e, .inr d.1.1⟩, .inr d.1.2⟩, rfl⟩, d.2⟩
theorem enterFact : Tryd.prog.mayEnter = true := enter_of _ words doorFact
end Go.Proofs.YthdeeoallfbjmaaDoor.Facts
