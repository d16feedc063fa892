/- What the Go functions that the statement WholeHalf reaches compute, and the mathematics on it, in the order in which one leans on the other; for every input. -/
import Derived.Test.YthdeeoallfbjmaaVWholeHalf1
import Derived.Test.YthdeeoallfbjmaaMWholeHalf0
import Derived.Deep.RegionHeld3
import Derived.Test.YthdeeoallfbjmaaMWholeHalf1
import Derived.Test.YthdeeoallfbjmaaMWholeHalf4
import Derived.Test.YthdeeoallfbjmaaMWholeHalf5
import Derived.Test.YthdeeoallfbjmaaMWholeHalf10
import Derived.Test.YthdeeoallfbjmaaMWholeHalf8
import Derived.Test.YthdeeoallfbjmaaMWholeHalf9
import Derived.Test.YthdeeoallfbjmaaMWholeHalf3
import Derived.Test.YthdeeoallfbjmaaMWholeHalf6
import Derived.Test.YthdeeoallfbjmaaMWholeHalf2
import Derived.Test.YthdeeoallfbjmaaMWholeHalf7
import Derived.Test.YthdeeoallfbjmaaRows
import Derived.ProofKit
import Derived.JoinedOf
import Derived.KernelRfl
namespace Go.Proofs.Ythdeeoallfbjmaa.PA
open Go.RowKit Go.Proofs.YthdeeoallfbjmaaW.PrintWords Go.Proofs.YthdeeoallfbjmaaW.PrintLast Go.Proofs.YthdeeoallfbjmaaW.PrintMore
attribute [local go_sem] max2_int min2_int max_two min_two max_three min_three max_four min_four   -- for this text's walks alone
set_option linter.unusedVariables false
set_option linter.unusedSimpArgs false
set_option maxHeartbeats 8000000
set_option maxRecDepth 100000
def r1_Div.l0 : Nat → Int → List Int → List Int → List Int → Option (List Int × List Int)
 | 0, _, _, _, _ => none
 | k + 1, x8, x300000, x303000, x304000 => if x8 ≥ 0 then ((r1_Shl.f k x300000 x8).bind fun t306 => ((r1_Cmp.f k x304000 t306).bind fun t310 => (if t310 ≥ 0 then ((r1_Sub.f k x304000 t306).bind fun t311 => ((r1_Of.f k 1).bind fun t314 => ((r1_Shl.f k t314 x8).bind fun t317 => ((r1_Add.f k x303000 t317).bind fun t320 => (r1_Div.l0 k (wrap64 (x8 - 1)) x300000 t320 t311))))) else (r1_Div.l0 k (wrap64 (x8 - 1)) x300000 x303000 x304000)))) else (some (x303000, x304000))
def r1_Div.f (k : Nat) (l0_0 : List Int) (l1_0 : List Int) : Option (List Int × List Int) := (r1_Len.f k l0_0).bind fun t304 => ((r1_Len.f k l1_0).bind fun t305 => (r1_Div.l0 k (wrap64 (t304 - t305)) l1_0 ([] : List Int) l0_0))
theorem r1_Div.mono_l : ∀ k, (∀ y0 y1 y2 y3, LeO (r1_Div.l0 k y0 y1 y2 y3) (r1_Div.l0 (k + 1) y0 y1 y2 y3))
 | 0 => fun _ _ _ _ r h => by simp [r1_Div.l0] at h
 | k + 1 => by
  have ih0 := r1_Div.mono_l k
  ·intro y0 y1 y2 y3
   unfold r1_Div.l0
   repeat' first
   | (with_reducible exact ih0 _ _ _ _)
   | (with_reducible exact r1_Add.mono _ _ _)
   | (with_reducible exact r1_Cmp.mono _ _ _)
   | (with_reducible exact r1_Len.mono _ _)
   | (with_reducible exact r1_Of.mono _ _)
   | (with_reducible exact r1_Shl.mono _ _ _)
   | (with_reducible exact r1_Sub.mono _ _ _)
   | (with_reducible exact LeO.refl _)
   | (with_reducible exact LeO.none _)
   | (with_reducible refine LeO.ite ?_ ?_)
   | (with_reducible refine LeO.bind ?_ (fun _ => ?_))
   | exact ih0 _ _ _ _
   | exact r1_Add.mono _ _ _
   | exact r1_Cmp.mono _ _ _
   | exact r1_Len.mono _ _
   | exact r1_Of.mono _ _
   | exact r1_Shl.mono _ _ _
   | exact r1_Sub.mono _ _ _
   | exact LeO.none _
   | refine LeO.ite ?_ ?_
   | refine LeO.bind ?_ (fun _ => ?_)
theorem r1_Div.mono : ∀ a0 a1 k, LeO (r1_Div.f k a0 a1) (r1_Div.f (k + 1) a0 a1) := by
 intro a0 a1 k
 have ih0 := r1_Div.mono_l k
 unfold r1_Div.f
 repeat' first
   | (with_reducible exact ih0 _ _ _ _)
   | (with_reducible exact r1_Add.mono _ _ _)
   | (with_reducible exact r1_Cmp.mono _ _ _)
   | (with_reducible exact r1_Len.mono _ _)
   | (with_reducible exact r1_Of.mono _ _)
   | (with_reducible exact r1_Shl.mono _ _ _)
   | (with_reducible exact r1_Sub.mono _ _ _)
   | (with_reducible exact LeO.refl _)
   | (with_reducible exact LeO.none _)
   | (with_reducible refine LeO.ite ?_ ?_)
   | (with_reducible refine LeO.bind ?_ (fun _ => ?_))
   | exact ih0 _ _ _ _
   | exact r1_Add.mono _ _ _
   | exact r1_Cmp.mono _ _ _
   | exact r1_Len.mono _ _
   | exact r1_Of.mono _ _
   | exact r1_Shl.mono _ _ _
   | exact r1_Sub.mono _ _ _
   | exact LeO.none _
   | refine LeO.ite ?_ ?_
   | refine LeO.bind ?_ (fun _ => ?_)
-- IMPORT Derived.Deep.RegionHeld3
-- IMPORT Derived.Test.YthdeeoallfbjmaaNr
theorem Nr.len (k : Nat) (v : Value) (l : List Int) (r : Int) (w : World) (n : Nr.Nr w v l) (h : r1_Len.f k l = some r) : Calls Try.prog 65 #[.agg #[v]] w fun e w' => e = .returned (.int .i64 r) ∧ Below w.heap.size w w' := by
 obtain ⟨A, c, rfl, hc, hC⟩ := n
 exact r1_Len.calls k A c l r w hC hc h
theorem Nr.cmp (k : Nat) (v v1 : Value) (l l1 : List Int) (r : Int) (w : World) (n : Nr.Nr w v l) (n1 : Nr.Nr w v1 l1) (h : r1_Cmp.f k l l1 = some r) : Calls Try.prog 46 #[.agg #[v], .agg #[v1]] w fun e w' => e = .returned (.int .i64 r) ∧ Below w.heap.size w w' := by
 obtain ⟨A, c, rfl, hc, hC⟩ := n
 obtain ⟨A1, c1, rfl, hc1, hC1⟩ := n1
 exact r1_Cmp.calls k A c l A1 c1 l1 r w hC hc hC1 hc1 h
theorem Nr.outR {f : Nat} {xs : Array Value} {w : World} {r : List Int} (h : Calls Try.prog f xs w fun e w' => ∃ v0_ : Value, e = .returned (.agg #[v0_]) ∧ Kd.R (Kd.int .u64) 22 w' w.heap.size (fun _ => True) v0_ r ∧ Below w.heap.size w w') : Calls Try.prog f xs w fun e w' => ∃ A c, e = .returned (.agg #[.slice A r.length c]) ∧ Nr.Ow 22 w.heap.size w' (.slice A r.length c) r ∧ Below w.heap.size w w' := by
 refine h.mono ?_
 rintro e w' ⟨v0, rfl, hR, hb⟩
 obtain ⟨A, c, rfl, _⟩ := Nr.Nr.of_R hR
 exact ⟨A, c, rfl, Nr.Ow.of_R hR (Nat.le_refl _), hb⟩
theorem Nr.shl (k : Nat) (v : Value) (l : List Int) (a : Int) (r : List Int) (w : World) (n : Nr.Nr w v l) (h : r1_Shl.f k l a = some r) : Calls Try.prog 44 #[.agg #[v], .int .i64 a] w fun e w' => ∃ A c, e = .returned (.agg #[.slice A r.length c]) ∧ Nr.Ow 22 w.heap.size w' (.slice A r.length c) r ∧ Below w.heap.size w w' := by
 obtain ⟨A, c, rfl, hc, hC⟩ := n
 exact Nr.outR (r1_Shl.calls k A c l a r w hC hc h)
theorem Nr.sub (k : Nat) (v v1 : Value) (l l1 : List Int) (r : List Int) (w : World) (n : Nr.Nr w v l) (n1 : Nr.Nr w v1 l1) (h : r1_Sub.f k l l1 = some r) : Calls Try.prog 66 #[.agg #[v], .agg #[v1]] w fun e w' => ∃ A c, e = .returned (.agg #[.slice A r.length c]) ∧ Nr.Ow 22 w.heap.size w' (.slice A r.length c) r ∧ Below w.heap.size w w' := by
 obtain ⟨A, c, rfl, hc, hC⟩ := n
 obtain ⟨A1, c1, rfl, hc1, hC1⟩ := n1
 exact Nr.outR (r1_Sub.calls k A c l A1 c1 l1 r w hC hc hC1 hc1 h)
theorem Nr.add (k : Nat) (v v1 : Value) (l l1 : List Int) (r : List Int) (w : World) (n : Nr.Nr w v l) (n1 : Nr.Nr w v1 l1) (h : r1_Add.f k l l1 = some r) : Calls Try.prog 33 #[.agg #[v], .agg #[v1]] w fun e w' => ∃ A c, e = .returned (.agg #[.slice A r.length c]) ∧ Nr.Ow 22 w.heap.size w' (.slice A r.length c) r ∧ Below w.heap.size w w' := by
 obtain ⟨A, c, rfl, hc, hC⟩ := n
 obtain ⟨A1, c1, rfl, hc1, hC1⟩ := n1
 exact Nr.outR (r1_Add.calls k A c l A1 c1 l1 r w hC hc hC1 hc1 h)
theorem Nr.of (k : Nat) (a : Int) (r : List Int) (w : World) (h : r1_Of.f k a = some r) : Calls Try.prog 34 #[.int .u64 a] w fun e w' => ∃ A c, e = .returned (.agg #[.slice A r.length c]) ∧ Nr.Ow 22 w.heap.size w' (.slice A r.length c) r ∧ Below w.heap.size w w' :=
 Nr.outR (r1_Of.calls k a r w h)
theorem Nr.lower {e b b' : Nat} {w : World} {v : Value} {l : List Int} (h : Nr.Ow e b w v l) (hb : b' ≤ b) : Nr.Ow e b' w v l := Nr.Ow.of_R h.out hb
theorem Nr.fresh {P : Nat → Prop} {e e' base : Nat} {w0 w1 : World} {vq vr : Value} {lq lr : List Int} (hq : Nr.Ow e base w0 vq lq) (hr : Nr.Ow e' w0.heap.size w1 vr lr) (hb : base ≤ w0.heap.size) : Nr.At (fun k => (P k ∨ base ≤ k) ∧ some k ≠ vq.ownBlock) vr :=
 (Nr.At.of_R hr.out).mono fun k hk => ⟨Or.inr (Nat.le_trans hb hk.1), fun e => Nat.lt_irrefl _ (Nat.lt_of_lt_of_le (Kd.R_lt hq.out k e.symm) hk.1)⟩
theorem Nr.atlt {w : World} {v : Value} {l : List Int} (h : Nr.Nr w v l) : Nr.At (fun k => k < w.heap.size) v := by
 obtain ⟨A, c, hv, hl, h1, h2, h3⟩ := h
 intro ad n c' e hn
 rw [hv] at e
 injection e with e1 e2 e3
 subst e2
 obtain ⟨ad', e4, h4⟩ := h3 hn
 rw [e1] at e4
 injection e4 with e4
 subst e4
 obtain ⟨x, hx⟩ : ∃ x, l[0]? = some x := ⟨l[0]'hn, List.getElem?_eq_getElem hn⟩
 obtain ⟨cs, k1, k2, k3⟩ := h4 0 x hx
 have k2' : cs = [Value.int .u64 x] := k2
 have := World.block_lt_of_cell? w _ (k3 0 (.int .u64 x) (by rw [k2']; rfl))
 rwa [add_block] at this
theorem Nr.other {P : Nat → Prop} {e' : Nat} {w0 w1 : World} {vq vq' vr : Value} {lq' lr : List Int} (ha : Nr.At (fun k => P k ∧ some k ≠ vq.ownBlock) vr) (hn : Nr.Nr w0 vr lr) (hq : Nr.Ow e' w0.heap.size w1 vq' lq') : Nr.At (fun k => P k ∧ some k ≠ vq'.ownBlock) vr := fun ad n c e hn' =>
 ⟨(ha ad n c e hn').1, fun e2 => Nat.lt_irrefl _ (Nat.lt_of_lt_of_le (Nr.atlt hn ad n c e hn') (Kd.R_base hq.out _ e2.symm))⟩
theorem Nr.undrew {w w1 : World} (h : Below w.drew.heap.size w.drew w1) : Below w.heap.size w w1 := below_step (below_drew1 (Below.refl _ _)) h
theorem Nr.unalloc {w w1 : World} {o : Obj} (h : Below (w.alloc o).heap.size (w.alloc o) w1) : Below w.heap.size w w1 := below_step (below_alloc (Below.refl _ _) o) h
theorem Nr.newlt {w w1 : World} {o : Obj} (h : Below (w.alloc o).heap.size (w.alloc o) w1) : w.heap.size < w1.heap.size := by
 have := h.size
 simp at this
 omega
theorem Nr.newcell {w w1 : World} {v : Value} {ty : Nat} (h : Below (w.alloc (.cells #[v] ty)).heap.size (w.alloc (.cells #[v] ty)) w1) : w1.cell? ⟨w.heap.size, 0, none⟩ = some v := by
 rw [(Nr.bcell h).1 _ _ (by simp)]
 exact (World.cell?_alloc_new _ _ _ _).trans rfl
theorem r1_Div.calls (k : Nat) (P0_0_ : Nat → Prop) (A0_0 : Option Addr) (c0_0 : Nat) (l0_0 : List Int) (A1_0 : Option Addr) (c1_0 : Nat) (l1_0 : List Int) (r1 : List Int) (r2 : List Int) (w : World) (hs0_0 : Kd.V (Kd.int .u64) 22 w w.heap.size (fun k_ => P0_0_ k_) (.slice A0_0 l0_0.length c0_0) l0_0) (hr1_0 : Kd.C (Kd.int .u64) w A1_0 l1_0.length l1_0) (hc1_0 : l1_0.length ≤ c1_0) (h : r1_Div.f k l0_0 l1_0 = some (r1, r2)) :
  Calls Try.prog 45 #[.agg #[.slice A0_0 l0_0.length c0_0], .agg #[.slice A1_0 l1_0.length c1_0]] w fun e w' => ∃ v0_ v1_ : Value, e = .returned (.tuple #[.agg #[v0_], .agg #[v1_]]) ∧ Kd.R (Kd.int .u64) 22 w' w.heap.size (fun k_ => (w.heap.size ≤ k_)) v0_ r1 ∧ Kd.V (Kd.int .u64) 22 w' w.heap.size (fun k_ => (P0_0_ k_ ∨ w.heap.size ≤ k_) ∧ some k_ ≠ (v0_ : Value).ownBlock) v1_ r2 ∧ Below w.heap.size w w' := by
 obtain ⟨t0, A0, H⟩ := ob_ h
 obtain ⟨t1, A1, H⟩ := ob_ H
 have L0 := A_ A0;have L1 := A_ A1;have HL := A_ H;clear h A0 A1 H
 have NA := Nr.Nr.of_V hs0_0
 have AA := A_ (Nr.At.of_V hs0_0)
 have NB := Nr.Nr.of_C hc1_0 hr1_0
 clear hs0_0 hr1_0
 go_enter Try.func45, Try.ntmps45
 go_wp2
 go_region_held3 (fun w' => w'.cell? ⟨w.heap.size, 0, none⟩ = some (.slice A0_0 l0_0.length c0_0) ∧ w'.cell? ⟨w.heap.size + 1, 0, none⟩ = some (.slice A1_0 l1_0.length c1_0) ∧ w'.cell? ⟨w.heap.size + 2, 0, none⟩ = some (.slice none 0 0) ∧ w'.cell? ⟨w.heap.size + 3, 0, none⟩ = some (.slice none 0 0) ∧ w'.cell? ⟨w.heap.size + 4, 0, none⟩ = some (.slice none 0 0) ∧ w'.cell? ⟨w.heap.size + 5, 0, none⟩ = some (.slice A0_0 l0_0.length c0_0) ∧ w'.frozen? ⟨w.heap.size + 2, 0, none⟩ = false ∧ w'.frozen? ⟨w.heap.size + 3, 0, none⟩ = false ∧ w'.frozen? ⟨w.heap.size + 4, 0, none⟩ = false ∧ w'.frozen? ⟨w.heap.size + 5, 0, none⟩ = false ∧ w.heap.size + 5 < w'.heap.size ∧ Nr.Nr w' (.slice A0_0 l0_0.length c0_0) l0_0 ∧ Nr.Nr w' (.slice A1_0 l1_0.length c1_0) l1_0 ∧ Nr.Ow 22 w.heap.size w' (.slice none 0 0) [] ∧ Below w.heap.size w w')
  (((try go_split_ands); (try dsimp only); (repeat' apply And.intro) <;> first | assumption | (rw [hc _ _ (by omega)]; assumption) | (rw [hf _ _ (by omega)]; assumption) | (rw [Nr.al (by omega)]; assumption) | (rw [Nr.alf (by omega)]; assumption) | (apply Nr.lt_al; assumption) | (have := hb.size; omega) | (refine Nr.Nr.below ?_ hb; assumption) | (apply Nr.Nr.drew; (repeat apply Nr.Nr.alloc); assumption) | (apply Nr.Nr.alloc; assumption) | (apply Nr.Nr.drew; assumption) | (exact Nr.Ow.nil _ _ _) | (refine Nr.Ow.below ?_ hb; assumption) | (apply Nr.Ow.alloc; assumption) | (apply Nr.Ow.drew; assumption) | (refine below_step ?_ hb; assumption) | (simp [go_sem, World.cell?_alloc_past]; done) | (repeat (first | assumption | exact Below.refl _ _ | apply below_drew1 | apply below_alloc | (refine below_set ?_ (by omega))))))
  ((first | (go_at_call 65; (try go_split_ands); refine (Nr.len k _ l0_0 t0 _ ?_ L0.out).mono ?_; (assumption); rintro e w1 ⟨rfl, hb⟩; obtain ⟨hc, hf⟩ := Nr.bcell hb) | (go_at_call 65; (try go_split_ands); refine (Nr.len k _ l1_0 t1 _ ?_ L1.out).mono ?_; (assumption); rintro e w2 ⟨rfl, hb⟩; obtain ⟨hc, hf⟩ := Nr.bcell hb)))
 rename_i hH
 obtain ⟨q0, q1, q2, q3, q4, q5, f2, f3, f4, f5, hz, nr, nb, ow, bl⟩ := hH
 (repeat clear hc hf)
 (repeat clear hb)
 go_wp2
 iterate 30 (rename_i left_; clear left_)
 rename_i hK
 clear H
 have at0 : Nr.At (fun k_ => (P0_0_ k_ ∨ w.heap.size ≤ k_) ∧ some k_ ≠ (Value.slice none 0 0).ownBlock) (.slice A0_0 l0_0.length c0_0) := AA.out.mono fun k hk => ⟨Or.inl hk, fun e => by cases e⟩
 go_loopg [8] k (fun kq v8 w' => ∃ (x : Int) (Aq : Option Addr) (cq : Nat) (lq : List Int) (Ar : Option Addr) (cr : Nat) (lr : List Int), v8 = .int .i64 x ∧ Aside0 (r1_Div.l0 kq x l1_0 lq lr = some (r1, r2)) ∧ Aside0 (w'.cell? ⟨w.heap.size + 1, 0, none⟩ = some (.slice A1_0 l1_0.length c1_0) ∧ w'.cell? ⟨w.heap.size + 2, 0, none⟩ = some (.slice none 0 0) ∧ w'.cell? ⟨w.heap.size + 3, 0, none⟩ = some (.slice none 0 0) ∧ w'.cell? ⟨w.heap.size + 4, 0, none⟩ = some (.slice Aq lq.length cq) ∧ w'.cell? ⟨w.heap.size + 5, 0, none⟩ = some (.slice Ar lr.length cr) ∧ w'.frozen? ⟨w.heap.size + 2, 0, none⟩ = false ∧ w'.frozen? ⟨w.heap.size + 3, 0, none⟩ = false ∧ w'.frozen? ⟨w.heap.size + 4, 0, none⟩ = false ∧ w'.frozen? ⟨w.heap.size + 5, 0, none⟩ = false ∧ w.heap.size + 5 < w'.heap.size ∧ Nr.Nr w' (.slice A1_0 l1_0.length c1_0) l1_0 ∧ Nr.Nr w' (.slice Ar lr.length cr) lr ∧ Nr.Ow 22 (w.heap.size + 6) w' (.slice Aq lq.length cq) lq ∧ Nr.At (fun k_ => (P0_0_ k_ ∨ w.heap.size ≤ k_) ∧ some k_ ≠ (Value.slice Aq lq.length cq).ownBlock) (.slice Ar lr.length cr) ∧ Below w.heap.size w w'))
 case atStart => exact ⟨_, none, 0, [], A0_0, c0_0, l0_0, by rw [i64_w], HL, q1, q2, q3, q4, q5, f2, f3, f4, f5, hz, nb, nr, Nr.Ow.nil _ _ _, at0, bl⟩
 case round =>
  (repeat clear q0 q1 q2 q3 q4 q5 f2 f3 f4 f5 hz nr ow bl at0 nb)
  obtain ⟨x, Aq, cq, lq, Ar, cr, lr, rfl, E, F⟩ := hrel
  obtain ⟨q1, q2, q3, q4, q5, f2, f3, f4, f5, hz, nb, nr, ow, at0, bl⟩ := F.out
  clear F HL
  obtain _ | kr := gk
  ·cases E.out
  have E := E.out
  unfold r1_Div.l0 at E
  by_cases hx : x ≥ 0
  ·rw [if_pos hx] at E
   have c0 : decide (0 ≤ x) = true := decide_eq_true hx
   obtain ⟨t, T0, E⟩ := ob_ E
   obtain ⟨u, T1, E⟩ := ob_ E
   replace T0 := A_ T0;replace T1 := A_ T1;replace hx := A_ hx
   by_cases hu : u ≥ 0
   ·rw [if_pos hu] at E
    obtain ⟨s, S0, E⟩ := ob_ E
    obtain ⟨o1, S1, E⟩ := ob_ E
    obtain ⟨o2, S2, E⟩ := ob_ E
    obtain ⟨q', S3, E⟩ := ob_ E
    replace S0 := A_ S0;replace S1 := A_ S1;replace S2 := A_ S2;replace S3 := A_ S3;have EE := A_ E;clear E
    have cu : decide (0 ≤ u) = true := decide_eq_true hu
    clear hu
    go_wp2_with (first | (go_at_call 44; refine (Nr.shl kr _ l1_0 x t _ nb T0.out).mono ?_; rintro e w1 ⟨At, ct, rfl, ot, hb⟩; (try replace hb := Nr.undrew hb); obtain ⟨hc, hf⟩ := Nr.bcell hb; have hs := hb.size; replace q1 := (hc _ _ (by omega)).trans q1; replace q2 := (hc _ _ (by omega)).trans q2; replace q3 := (hc _ _ (by omega)).trans q3; replace q4 := (hc _ _ (by omega)).trans q4; replace q5 := (hc _ _ (by omega)).trans q5; replace f2 := (hf _ _ (by omega)).trans f2; replace f3 := (hf _ _ (by omega)).trans f3; replace f4 := (hf _ _ (by omega)).trans f4; replace f5 := (hf _ _ (by omega)).trans f5; replace nb := Nr.Nr.below nb hb; replace nr := Nr.Nr.below nr hb; replace ow := Nr.Ow.below ow hb; replace bl := below_step bl hb; replace hz := Nat.lt_of_lt_of_le hz hs; clear hc hf hs hb) | (go_at_call 46; refine (Nr.cmp kr _ _ lr t u _ (Nr.Nr.alloc nr _) (Nr.Nr.alloc ot.nr _) T1.out).mono ?_; rintro e w2 ⟨rfl, hb⟩; have tq := Nr.newcell hb; have ht := Nr.newlt hb; replace hb := Nr.unalloc hb; (try replace hb := Nr.undrew hb); obtain ⟨hc, hf⟩ := Nr.bcell hb; have hs := hb.size; replace q1 := (hc _ _ (by omega)).trans q1; replace q2 := (hc _ _ (by omega)).trans q2; replace q3 := (hc _ _ (by omega)).trans q3; replace q4 := (hc _ _ (by omega)).trans q4; replace q5 := (hc _ _ (by omega)).trans q5; replace f2 := (hf _ _ (by omega)).trans f2; replace f3 := (hf _ _ (by omega)).trans f3; replace f4 := (hf _ _ (by omega)).trans f4; replace f5 := (hf _ _ (by omega)).trans f5; replace nb := Nr.Nr.below nb hb; replace nr := Nr.Nr.below nr hb; replace ow := Nr.Ow.below ow hb; replace ot := Nr.Ow.below ot hb; replace bl := below_step bl hb; replace hz := Nat.lt_of_lt_of_le hz hs; clear hc hf hs hb) | (go_at_call 66; refine (Nr.sub kr _ _ lr t s _ nr ot.nr S0.out).mono ?_; rintro e w3 ⟨As, cs, rfl, os, hb⟩; have at1 := Nr.fresh (P := P0_0_) (Nr.lower ow (b' := w.heap.size) (by omega)) os (by omega); replace os := Nr.lower os (b' := w.heap.size + 6) (by omega); (try replace hb := Nr.undrew hb); obtain ⟨hc, hf⟩ := Nr.bcell hb; have hs := hb.size; replace q1 := (hc _ _ (by omega)).trans q1; replace q2 := (hc _ _ (by omega)).trans q2; replace q3 := (hc _ _ (by omega)).trans q3; replace q4 := (hc _ _ (by omega)).trans q4; replace q5 := (hc _ _ (by omega)).trans q5; replace f2 := (hf _ _ (by omega)).trans f2; replace f3 := (hf _ _ (by omega)).trans f3; replace f4 := (hf _ _ (by omega)).trans f4; replace f5 := (hf _ _ (by omega)).trans f5; replace nb := Nr.Nr.below nb hb; replace nr := Nr.Nr.below nr hb; replace ow := Nr.Ow.below ow hb; replace ot := Nr.Ow.below ot hb; replace bl := below_step bl hb; replace hz := Nat.lt_of_lt_of_le hz hs; clear hc hf hs hb))
    generalize hW : World.setCell _ _ _ = w4
    have hz4 : w4.heap.size = w3.heap.size := by rw [← hW]; simp
    have hc : ∀ b, b ≠ w.heap.size + 5 → w4.cell? ⟨b, 0, none⟩ = w3.cell? ⟨b, 0, none⟩ := fun b hb => by rw [← hW]; exact World.cell?_setCell_far _ _ _ _ (fun e => hb e.symm)
    have hf : ∀ b, w4.frozen? ⟨b, 0, none⟩ = w3.frozen? ⟨b, 0, none⟩ := fun b => by rw [← hW]; exact World.frozen?_setCell _ _ _ _
    have hi : Nr.IsRow (w3.cell? ⟨w.heap.size + 5, 0, none⟩) := by rw [q5]; exact Nr.IsRow.slice _ _ _
    replace q5 : w4.cell? ⟨w.heap.size + 5, 0, none⟩ = some (.slice As s.length cs) := by rw [← hW]; exact World.cell?_setCell_same _ _ _ q5
    replace q1 := (hc _ (by omega)).trans q1
    replace q2 := (hc _ (by omega)).trans q2
    replace q3 := (hc _ (by omega)).trans q3
    replace q4 := (hc _ (by omega)).trans q4
    replace f2 := (hf _).trans f2
    replace f3 := (hf _).trans f3
    replace f4 := (hf _).trans f4
    replace f5 := (hf _).trans f5
    replace nb : Nr.Nr w4 (.slice A1_0 l1_0.length c1_0) l1_0 := by rw [← hW]; exact Nr.Nr.set nb _ hi
    replace ow : Nr.Ow 22 (w.heap.size + 6) w4 (.slice Aq lq.length cq) lq := by rw [← hW]; exact Nr.Ow.set ow _ (fun e => by have h6 : _ ≤ w.heap.size + 5 := Kd.R_base ow.out _ e; omega)
    replace os : Nr.Ow 22 (w.heap.size + 6) w4 (.slice As s.length cs) s := by rw [← hW]; exact Nr.Ow.set os _ (fun e => by have h6 : _ ≤ w.heap.size + 5 := Kd.R_base os.out _ e; omega)
    replace bl : Below w.heap.size w w4 := by rw [← hW]; exact below_set bl (by omega)
    replace hz : w.heap.size + 5 < w4.heap.size := by omega
    clear hW hc hf hi hz4
    replace nr := os.nr
    clear os
    go_region_with (first | (go_at_call 34; refine (Nr.of kr 1 o1 _ S1.out).mono ?_; rintro e w5 ⟨Ao, co, rfl, oo, hb⟩; (try replace hb := Nr.undrew hb); obtain ⟨hc, hf⟩ := Nr.bcell hb; have hs := hb.size; replace q1 := (hc _ _ (by omega)).trans q1; replace q2 := (hc _ _ (by omega)).trans q2; replace q3 := (hc _ _ (by omega)).trans q3; replace q4 := (hc _ _ (by omega)).trans q4; replace q5 := (hc _ _ (by omega)).trans q5; replace f2 := (hf _ _ (by omega)).trans f2; replace f3 := (hf _ _ (by omega)).trans f3; replace f4 := (hf _ _ (by omega)).trans f4; replace f5 := (hf _ _ (by omega)).trans f5; replace nb := Nr.Nr.below nb hb; replace nr := Nr.Nr.below nr hb; replace ow := Nr.Ow.below ow hb; replace bl := below_step bl hb; replace hz := Nat.lt_of_lt_of_le hz hs; clear hc hf hs hb) | (go_at_call 44; refine (Nr.shl kr _ o1 x o2 _ oo.nr S2.out).mono ?_; rintro e w6 ⟨Ap, cp, rfl, op, hb⟩; (try replace hb := Nr.undrew hb); obtain ⟨hc, hf⟩ := Nr.bcell hb; have hs := hb.size; replace q1 := (hc _ _ (by omega)).trans q1; replace q2 := (hc _ _ (by omega)).trans q2; replace q3 := (hc _ _ (by omega)).trans q3; replace q4 := (hc _ _ (by omega)).trans q4; replace q5 := (hc _ _ (by omega)).trans q5; replace f2 := (hf _ _ (by omega)).trans f2; replace f3 := (hf _ _ (by omega)).trans f3; replace f4 := (hf _ _ (by omega)).trans f4; replace f5 := (hf _ _ (by omega)).trans f5; replace nb := Nr.Nr.below nb hb; replace nr := Nr.Nr.below nr hb; replace ow := Nr.Ow.below ow hb; replace oo := Nr.Ow.below oo hb; replace bl := below_step bl hb; replace hz := Nat.lt_of_lt_of_le hz hs; clear hc hf hs hb) | (go_at_call 33; refine (Nr.add kr _ _ lq o2 q' _ ow.nr op.nr S3.out).mono ?_; rintro e w7 ⟨Az, cz, rfl, oz, hb⟩; have at2 := Nr.other at1 nr oz; have oz := Nr.lower oz (b' := w.heap.size + 6) (by omega); (try replace hb := Nr.undrew hb); obtain ⟨hc, hf⟩ := Nr.bcell hb; have hs := hb.size; replace q1 := (hc _ _ (by omega)).trans q1; replace q2 := (hc _ _ (by omega)).trans q2; replace q3 := (hc _ _ (by omega)).trans q3; replace q4 := (hc _ _ (by omega)).trans q4; replace q5 := (hc _ _ (by omega)).trans q5; replace f2 := (hf _ _ (by omega)).trans f2; replace f3 := (hf _ _ (by omega)).trans f3; replace f4 := (hf _ _ (by omega)).trans f4; replace f5 := (hf _ _ (by omega)).trans f5; replace nb := Nr.Nr.below nb hb; replace nr := Nr.Nr.below nr hb; replace ow := Nr.Ow.below ow hb; replace bl := below_step bl hb; replace hz := Nat.lt_of_lt_of_le hz hs; clear hc hf hs hb))
    all_goals (
     generalize hW : World.setCell _ _ _ = w8
     have hz4 : w8.heap.size = w7.heap.size := by rw [← hW]; simp
     have hc : ∀ b, b ≠ w.heap.size + 4 → w8.cell? ⟨b, 0, none⟩ = w7.cell? ⟨b, 0, none⟩ := fun b hb => by rw [← hW]; exact World.cell?_setCell_far _ _ _ _ (fun e => hb e.symm)
     have hf : ∀ b, w8.frozen? ⟨b, 0, none⟩ = w7.frozen? ⟨b, 0, none⟩ := fun b => by rw [← hW]; exact World.frozen?_setCell _ _ _ _
     have hi : Nr.IsRow (w7.cell? ⟨w.heap.size + 4, 0, none⟩) := by rw [q4]; exact Nr.IsRow.slice _ _ _
     replace q4 : w8.cell? ⟨w.heap.size + 4, 0, none⟩ = some (.slice Az q'.length cz) := by rw [← hW]; exact World.cell?_setCell_same _ _ _ q4
     replace q1 := (hc _ (by omega)).trans q1
     replace q2 := (hc _ (by omega)).trans q2
     replace q3 := (hc _ (by omega)).trans q3
     replace q5 := (hc _ (by omega)).trans q5
     replace f2 := (hf _).trans f2
     replace f3 := (hf _).trans f3
     replace f4 := (hf _).trans f4
     replace f5 := (hf _).trans f5
     replace nb : Nr.Nr w8 (.slice A1_0 l1_0.length c1_0) l1_0 := by rw [← hW]; exact Nr.Nr.set nb _ hi
     replace nr : Nr.Nr w8 (.slice As s.length cs) s := by rw [← hW]; exact Nr.Nr.set nr _ hi
     replace oz : Nr.Ow 22 (w.heap.size + 6) w8 (.slice Az q'.length cz) q' := by rw [← hW]; exact Nr.Ow.set oz _ (fun e => by have h6 : _ ≤ w.heap.size + 4 := Kd.R_base oz.out _ e; omega)
     replace bl : Below w.heap.size w w8 := by rw [← hW]; exact below_set bl (by omega)
     replace hz : w.heap.size + 5 < w8.heap.size := by omega
     clear hW hc hf hi hz4
     go_wp2
     go_roundg kr
     case measure => omega
     case rel => exact ⟨_, Az, cz, q', As, cs, s, rfl, EE, ⟨q1, q2, q3, q4, q5, f2, f3, f4, f5, hz, nb, nr, oz, at2, bl⟩⟩)
   ·rw [if_neg hu] at E
    have EE := A_ E;clear E
    have cu : decide (0 ≤ u) = false := decide_eq_false hu
    clear hu
    go_wp2_with (first | (go_at_call 44; refine (Nr.shl kr _ l1_0 x t _ nb T0.out).mono ?_; rintro e w1 ⟨At, ct, rfl, ot, hb⟩; (try replace hb := Nr.undrew hb); obtain ⟨hc, hf⟩ := Nr.bcell hb; have hs := hb.size; replace q1 := (hc _ _ (by omega)).trans q1; replace q2 := (hc _ _ (by omega)).trans q2; replace q3 := (hc _ _ (by omega)).trans q3; replace q4 := (hc _ _ (by omega)).trans q4; replace q5 := (hc _ _ (by omega)).trans q5; replace f2 := (hf _ _ (by omega)).trans f2; replace f3 := (hf _ _ (by omega)).trans f3; replace f4 := (hf _ _ (by omega)).trans f4; replace f5 := (hf _ _ (by omega)).trans f5; replace nb := Nr.Nr.below nb hb; replace nr := Nr.Nr.below nr hb; replace ow := Nr.Ow.below ow hb; replace bl := below_step bl hb; replace hz := Nat.lt_of_lt_of_le hz hs; clear hc hf hs hb) | (go_at_call 46; refine (Nr.cmp kr _ _ lr t u _ (Nr.Nr.alloc nr _) (Nr.Nr.alloc ot.nr _) T1.out).mono ?_; rintro e w2 ⟨rfl, hb⟩; have tq := Nr.newcell hb; have ht := Nr.newlt hb; replace hb := Nr.unalloc hb; (try replace hb := Nr.undrew hb); obtain ⟨hc, hf⟩ := Nr.bcell hb; have hs := hb.size; replace q1 := (hc _ _ (by omega)).trans q1; replace q2 := (hc _ _ (by omega)).trans q2; replace q3 := (hc _ _ (by omega)).trans q3; replace q4 := (hc _ _ (by omega)).trans q4; replace q5 := (hc _ _ (by omega)).trans q5; replace f2 := (hf _ _ (by omega)).trans f2; replace f3 := (hf _ _ (by omega)).trans f3; replace f4 := (hf _ _ (by omega)).trans f4; replace f5 := (hf _ _ (by omega)).trans f5; replace nb := Nr.Nr.below nb hb; replace nr := Nr.Nr.below nr hb; replace ow := Nr.Ow.below ow hb; replace ot := Nr.Ow.below ot hb; replace bl := below_step bl hb; replace hz := Nat.lt_of_lt_of_le hz hs; clear hc hf hs hb))
    go_roundg kr
    case measure => omega
    case rel => exact ⟨_, Aq, cq, lq, Ar, cr, lr, rfl, EE, ⟨q1, q2, q3, q4, q5, f2, f3, f4, f5, hz, nb, nr, ow, at0, bl⟩⟩
  ·rw [if_neg hx] at E
   have c0 : decide (0 ≤ x) = false := decide_eq_false hx
   injection E with E
   injection E with E1 E2
   subst E1
   subst E2
   clear hx E
   go_wp2
   go_region
   go_wp2
   have i2 : Nr.IsRow (wr.cell? ⟨w.heap.size + 2, 0, none⟩) := by rw [q2]; exact Nr.IsRow.slice _ _ _
   have e2 := World.cell?_setCell_same _ _ (.slice Aq lq.length cq) q2
   have e3 : (wr.setCell ⟨w.heap.size + 2, 0, none⟩ (.slice Aq lq.length cq)).cell? ⟨w.heap.size + 3, 0, none⟩ = some (.slice none 0 0) := (World.cell?_setCell_far _ _ _ _ (by simp)).trans q3
   have i3 : Nr.IsRow ((wr.setCell ⟨w.heap.size + 2, 0, none⟩ (.slice Aq lq.length cq)).cell? ⟨w.heap.size + 3, 0, none⟩) := by rw [e3]; exact Nr.IsRow.slice _ _ _
   have e4 := World.cell?_setCell_same _ _ (.slice Ar lr.length cr) e3
   have e5 : ((wr.setCell ⟨w.heap.size + 2, 0, none⟩ (.slice Aq lq.length cq)).setCell ⟨w.heap.size + 3, 0, none⟩ (.slice Ar lr.length cr)).cell? ⟨w.heap.size + 2, 0, none⟩ = some (.slice Aq lq.length cq) := (World.cell?_setCell_far _ _ _ _ (by simp)).trans e2
   have ow' := Nr.Ow.drew (Nr.Ow.set (Nr.Ow.set ow (p := ⟨w.heap.size + 2, 0, none⟩) (.slice Aq lq.length cq) (fun e => by have h6 : _ ≤ w.heap.size + 2 := Kd.R_base ow.out _ e; omega)) (p := ⟨w.heap.size + 3, 0, none⟩) (.slice Ar lr.length cr) (fun e => by have h6 : _ ≤ w.heap.size + 3 := Kd.R_base ow.out _ e; omega))
   have nr' := Nr.Nr.drew (Nr.Nr.set (Nr.Nr.set nr (.slice Aq lq.length cq) i2) (.slice Ar lr.length cr) i3)
   exact bodyPost_ret (v := .tuple #[.agg #[.slice Aq lq.length cq], .agg #[.slice Ar lr.length cr]]) (by simp [results, Try.results45, go_sem, e4, e5]) rfl ⟨_, _, rfl, (Nr.lower ow' (by omega)).out, Nr.Nr.toV nr' at0, below_drew1 (below_set (below_set bl (by omega)) (by omega))⟩
end Go.Proofs.Ythdeeoallfbjmaa.PA
section
set_option linter.unusedVariables false
set_option linter.unusedSimpArgs false
namespace Go.Proofs.Ythdeeoallfbjmaa.Th
open Go.RowKit Go.Proofs.YthdeeoallfbjmaaW.PrintWords Go.Proofs.YthdeeoallfbjmaaW.PrintLast Go.Proofs.YthdeeoallfbjmaaW.PrintMore Go.Proofs.Ythdeeoallfbjmaa.PA Bit Dig Flo
theorem r2Makew (w : Int) (hw : w = 32 ∨ w = 64) (s : Bool) (e fr : Nat) (he : e ≤ (fmt w).top) (hf : fr < 2 ^ (fmt w).f) : Ev (fun k => r2_Make.f k w s e fr) ((mkN w (e * 2 ^ (fmt w).f + fr) s : Nat) : Int) := by
  rcases hw with rfl | rfl
  · exact r2Make32 s e fr he hf
  · exact r2Make64 s e fr he hf
end Go.Proofs.Ythdeeoallfbjmaa.Th
end
section
set_option linter.unusedVariables false
set_option linter.unusedSimpArgs false
namespace Go.Proofs.Ythdeeoallfbjmaa.Th
open Go.RowKit Go.Proofs.YthdeeoallfbjmaaW.PrintWords Go.Proofs.YthdeeoallfbjmaaW.PrintLast Go.Proofs.YthdeeoallfbjmaaW.PrintMore Go.Proofs.Ythdeeoallfbjmaa.PA Bit Flo
theorem packE (w : Int) (hw : w = 32 ∨ w = 64) (s : Bool) (h l : Nat) (hh : h < 18446744073709551616) (hl : l < 18446744073709551616) (e : Int) (m : Bool) : round_Pack.f w s h l e m = some ((mkN w (pkm (fmt w) (wn h l) e m) s : Nat) : Int) := by
  unfold round_Pack.f
  rw [if_pos (by omega), if_pos hw, Int.toNat_natCast, Int.toNat_natCast]
theorem packV (w : Int) (hw : w = 32 ∨ w = 64) (s : Bool) (V : Nat) (hV : V < 340282366920938463463374607431768211456) (e : Int) (m : Bool) : round_Pack.f w s ((V / 18446744073709551616 : Nat) : Int) ((V % 18446744073709551616 : Nat) : Int) e m = some ((mkN w (pkm (fmt w) V e m) s : Nat) : Int) := by
  rw [packE w hw s _ _ (hi64 hV) (lo64 V), wn_div]
theorem pack1 (w : Int) (hw : w = 32 ∨ w = 64) (s : Bool) (n : Nat) (hn : n < 18446744073709551616) (e : Int) : round_Pack.f w s 0 n e false = some ((mkN w ((fmt w).rnd ((n : Rat) * tw e)) s : Nat) : Int) := by
  have := packE w hw s 0 n (by decide) hn e false
  rw [show wn 0 n = n by unfold wn; omega, pk_ex w n e (by omega)] at this
  exact this
theorem shN (w : Int) (hw : w = 32 ∨ w = 64) : shape_Nan.f w = some ((nanN w : Nat) : Int) := by rcases hw with rfl | rfl; exact shNan32; exact shNan64
theorem pv0 {p : Pt} (h : p.2.1 ≠ 1) : pv p = 0 := by unfold pv; rw [if_neg h]
theorem pv1 (s : Bool) (e : Int) (g : Nat) : pv (s, 1, e, (g : Int)) = if s then -((g : Rat) * tw e) else (g : Rat) * tw e := by
  unfold pv; rw [if_pos rfl]; simp
theorem pos_tw {g : Nat} (h : 0 < g) (e : Int) : 0 < (g : Rat) * tw e := Rat.mul_pos (by exact_mod_cast h) (tw_pos e)
def PtOk (p : Pt) : Prop := (p.2.1 = 0 ∨ p.2.1 = 1 ∨ p.2.1 = 2 ∨ p.2.1 = 3) ∧ (p.2.1 = 1 → 0 < p.2.2.2) ∧ (p.2.1 ≠ 1 → p.2.2.2 = 0 ∧ p.2.2.1 = 0) ∧ 0 ≤ p.2.2.2 ∧ p.2.2.2 < 9007199254740992 ∧ -1100 ≤ p.2.2.1 ∧ p.2.2.1 ≤ 1000
theorem opn_ok (w : Int) (hw : w = 32 ∨ w = 64) (a : Nat) : PtOk (opn w a) := by
  rcases kinds w hw a with ⟨_, h⟩ | ⟨h1, h2, h⟩ | ⟨_, h⟩ | ⟨_, h⟩ <;> rw [h]
  · exact ⟨.inl rfl, fun h => absurd h (by simp), fun _ => ⟨rfl, rfl⟩, by simp, by simp, by simp, by simp⟩
  · have h3 := ex_bd w hw _ h2
    have h4 := sg_64 w hw (magN w a)
    refine ⟨.inr (.inl rfl), fun _ => ?_, fun h => absurd rfl h, by simp, by simp; omega, by simp; omega, by simp; omega⟩
    have : 0 < (fmt w).val (magN w a) := (fmt w).val_pos.2 h1
    unfold Fmt.val at this
    rcases Nat.eq_zero_or_pos ((fmt w).sg (magN w a)) with h5 | h5
    · rw [h5] at this; simp at this
    · simp; omega
  · exact ⟨.inr (.inr (.inl rfl)), fun h => absurd h (by simp), fun _ => ⟨rfl, rfl⟩, by simp, by simp, by simp, by simp⟩
  · exact ⟨.inr (.inr (.inr rfl)), fun h => absurd h (by simp), fun _ => ⟨rfl, rfl⟩, by simp, by simp, by simp, by simp⟩
end Go.Proofs.Ythdeeoallfbjmaa.Th
end
section
set_option linter.unusedVariables false
set_option linter.unusedSimpArgs false
namespace Go.Proofs.Ythdeeoallfbjmaa.Th
open Go.RowKit Go.Proofs.YthdeeoallfbjmaaW.PrintWords Go.Proofs.YthdeeoallfbjmaaW.PrintLast Go.Proofs.YthdeeoallfbjmaaW.PrintMore Go.Proofs.Ythdeeoallfbjmaa.PA Bit Dig Flo
noncomputable def narG (w : Int) (s : Bool) (kd e : Int) (g : Nat) : Nat := if kd = 0 then mkN w 0 s else if kd = 1 then mkN w ((fmt w).rnd ((g : Rat) * tw e)) s else if kd = 2 then mkN w (fmt w).inf s else if kd = 3 then nanN w else 0
theorem narrowG (w : Int) (hw : w = 32 ∨ w = 64) (s : Bool) (kd e : Int) (g : Nat) (hg : g < 18446744073709551616) : round_Narrow.f w s kd e g = some ((narG w s kd e g : Nat) : Int) := by
  unfold round_Narrow.f narG
  by_cases h0 : kd = 0
  · rw [if_pos h0, if_pos h0, shZ w hw, Option.bind_some]
  · rw [if_neg h0, if_neg h0]
    by_cases h1 : kd = 1
    · rw [if_pos h1, if_pos h1, ofW g, Option.bind_some]
      show (round_Pack.f w s 0 (g : Int) e false).bind _ = _
      rw [pack1 w hw s g hg e, Option.bind_some]
    · rw [if_neg h1, if_neg h1]
      by_cases h2 : kd = 2
      · rw [if_pos h2, if_pos h2, shI w hw, Option.bind_some]
      · rw [if_neg h2, if_neg h2]
        by_cases h3 : kd = 3
        · rw [if_pos h3, if_pos h3, shN w hw, Option.bind_some]
        · rw [if_neg h3, if_neg h3]; rfl
theorem wOf (g : Nat) (hg : g < 18446744073709551616) : wide_Of.f (g : Int) = some (wH g, wL g) := by
  obtain ⟨e1, e2⟩ := wSmall hg
  rw [e1, e2]; rfl
theorem pow_big {g n : Nat} (hg : g < 9007199254740992) (hn : 53 ≤ n) : g < 2 ^ n := Nat.lt_of_lt_of_le hg (Nat.pow_le_pow_right (n := 2) (by decide) hn)
theorem ofE (s : Bool) (kd : Int) {g n : Nat} {e : Int} (hg : g < 9007199254740992) (hn : e = -(n : Int)) (h0 : 0 < n) (h1 : n < 2000) :
    whole_of.f s kd e g = some (s, ((g / 2 ^ n : Nat) : Int), decide (g / 2 ^ (n - 1) % 2 = 1), decide (g % 2 ^ (n - 1) ≠ 0)) := by
  unfold whole_of.f
  subst hn
  have e1 : wrap64 (mn (wrap64 (-(-(n : Int)))) 128 - 1) = ((min n 128 - 1 : Nat) : Int) := by
    rw [Int.neg_neg, w64_id (n := (n : Int)) (by omega) (by omega)]
    unfold mn
    split <;> rw [w64_id (by omega) (by omega)] <;> omega
  have hq : g / 2 ^ (min n 128 - 1) ≤ g := Nat.div_le_self _ _
  have hq2 : g / 2 ^ (min n 128 - 1) / 2 ^ 1 ≤ g := Nat.le_trans (Nat.div_le_self _ _) hq
  have k1 := wRight (V := g) (by omega) (min n 128 - 1) (by omega)
  have k2 := wRight (V := g / 2 ^ (min n 128 - 1)) (by omega) 1 (by decide)
  rw [e1, wOf g (by omega), Option.bind_some]
  dsimp only
  rw [k1, Option.bind_some]
  dsimp only
  rw [show (1 : Int) = ((1 : Nat) : Int) from rfl, k2, Option.bind_some]
  dsimp only
  have w1 := wAnd1 (g / 2 ^ (min n 128 - 1))
  have k3 : wL (g / 2 ^ (min n 128 - 1) / 2 ^ 1) = ((g / 2 ^ (min n 128 - 1) / 2 ^ 1 : Nat) : Int) := (wSmall (by omega)).2
  rw [show ((1 : Nat) : Int) = 1 from rfl, w1, k3]
  by_cases c : n ≤ 128
  · rw [Nat.min_eq_left c, Nat.div_div_eq_div_mul, ← Nat.pow_add, show n - 1 + 1 = n by omega]
  · rw [Nat.min_eq_right (by omega)]
    have b1 : g < 2 ^ 127 := pow_big hg (by decide)
    have b2 : g < 2 ^ n := pow_big hg (by omega)
    have b3 : g < 2 ^ (n - 1) := pow_big hg (by omega)
    rw [show 128 - 1 = 127 from rfl, Nat.div_eq_of_lt b1, Nat.mod_eq_of_lt b1, Nat.div_eq_of_lt b2, Nat.div_eq_of_lt b3, Nat.mod_eq_of_lt b3, Nat.zero_div]
theorem whHalf (g n : Nat) (h0 : 0 < n) : g % 2 ^ n = g % 2 ^ (n - 1) + 2 ^ (n - 1) * (g / 2 ^ (n - 1) % 2) := by
  obtain ⟨k, rfl⟩ : ∃ k, n = k + 1 := ⟨n - 1, by omega⟩
  rw [Nat.add_sub_cancel, Nat.pow_succ, Nat.mod_mul]
theorem whLost (g n : Nat) (h0 : 0 < n) : (decide (g / 2 ^ (n - 1) % 2 = 1) || decide (g % 2 ^ (n - 1) ≠ 0)) = decide (g % 2 ^ n ≠ 0) := by
  have h := whHalf g n h0
  have hp : 0 < 2 ^ (n - 1) := Nat.pow_pos (by decide)
  rw [h]
  rcases Nat.mod_two_eq_zero_or_one (g / 2 ^ (n - 1)) with e | e
  · rw [e]; simp
  · rw [e]; simp
theorem whNear (g n : Nat) (h0 : 0 < n) : (decide (g / 2 ^ (n - 1) % 2 = 1) && (decide (g % 2 ^ (n - 1) ≠ 0) || decide (g / 2 ^ n % 2 = 1))) =
    (decide (2 ^ n < 2 * (g % 2 ^ n)) || (decide (2 * (g % 2 ^ n) = 2 ^ n) && decide (g / 2 ^ n % 2 = 1))) := by
  have h := whHalf g n h0
  have hp : 0 < 2 ^ (n - 1) := Nat.pow_pos (by decide)
  have hl : g % 2 ^ (n - 1) < 2 ^ (n - 1) := Nat.mod_lt _ hp
  have e2 : 2 ^ n = 2 * 2 ^ (n - 1) := by rw [← Nat.pow_succ', show (n - 1).succ = n by omega]
  rw [h, e2]
  generalize g / (2 * 2 ^ (n - 1)) % 2 = o
  rcases Nat.mod_two_eq_zero_or_one (g / 2 ^ (n - 1)) with e | e
  · rw [e]
    simp
    exact ⟨by omega, fun h => by omega⟩
  · rw [e]
    by_cases c : g % 2 ^ (n - 1) = 0
    · simp [c]
    · simp [c]
      omega
def upB (way : Nat) (s : Bool) (g n : Nat) : Bool :=
  if way = 1 then decide (g % 2 ^ n ≠ 0) && !s else if way = 2 then decide (g % 2 ^ n ≠ 0) && s
  else if way = 4 then (decide (2 ^ n < 2 * (g % 2 ^ n)) || (decide (2 * (g % 2 ^ n) = 2 ^ n) && decide (g / 2 ^ n % 2 = 1))) else false
noncomputable def mkW (way : Nat) (w : Int) (a : Nat) : Nat :=
  if (opn w a).2.1 = 3 then nanN w
  else if (opn w a).2.1 = 1 ∧ (opn w a).2.2.1 < 0 then
    mkN w ((fmt w).rnd (((fmt w).sg (magN w a) / 2 ^ (-(opn w a).2.2.1).toNat + (if upB way (sgB w a) ((fmt w).sg (magN w a)) (-(opn w a).2.2.1).toNat then 1 else 0) : Nat) : Rat)) (sgB w a)
  else cutN w a
def awB (way : Nat) : Bool → Int → Bool → Bool → Bool := if way = 1 then whole_Ceil.aw else if way = 2 then whole_Floor.aw else if way = 4 then whole_Nearest.aw else whole_Trunc.aw
theorem oddI (q : Nat) (h : q < 18446744073709551616) : (Go.bits .and .u64 (q : Int) 1 == 1) = decide (q % 2 = 1) := by
  have := wAnd1 q
  rw [(wSmall h).2] at this
  exact this
theorem awS (way : Nat) (hway : way = 1 ∨ way = 2 ∨ way = 3 ∨ way = 4) (s : Bool) (g n : Nat) (h0 : 0 < n) (hg : g < 9007199254740992) :
    ((decide (g / 2 ^ (n - 1) % 2 = 1) || decide (g % 2 ^ (n - 1) ≠ 0)) && awB way s ((g / 2 ^ n : Nat) : Int) (decide (g / 2 ^ (n - 1) % 2 = 1)) (decide (g % 2 ^ (n - 1) ≠ 0))) = upB way s g n := by
  have hl := whLost g n h0
  rcases hway with rfl | rfl | rfl | rfl
  · rw [hl]; rfl
  · rw [hl]; rfl
  · rw [hl]; exact Bool.and_false _
  · have e : awB 4 s ((g / 2 ^ n : Nat) : Int) (decide (g / 2 ^ (n - 1) % 2 = 1)) (decide (g % 2 ^ (n - 1) ≠ 0)) = (decide (g / 2 ^ (n - 1) % 2 = 1) && (decide (g % 2 ^ (n - 1) ≠ 0) || decide (g / 2 ^ n % 2 = 1))) := by
      show (_ && (_ || (Go.bits .and .u64 ((g / 2 ^ n : Nat) : Int) 1 == 1))) = _
      rw [oddI _ (by have := Nat.div_le_self g (2 ^ n); omega)]
    rw [e]
    show _ = (decide (2 ^ n < 2 * (g % 2 ^ n)) || (decide (2 * (g % 2 ^ n) = 2 ^ n) && decide (g / 2 ^ n % 2 = 1)))
    rw [← whNear g n h0]
    cases decide (g / 2 ^ (n - 1) % 2 = 1) <;> simp
theorem madeE (way : Nat) (hway : way = 1 ∨ way = 2 ∨ way = 3 ∨ way = 4) (w : Int) (hw : w = 32 ∨ w = 64) (a : Nat) (ha : a < 18446744073709551616) :
    Ev (fun k => whole_madeF k (awB way) w a) ((mkW way w a : Nat) : Int) := by
  unfold whole_madeF mkW
  refine Ev.pos hw (Ev.bind (openS w hw a ha) ?_)
  by_cases k3 : (opn w a).2.1 = 3
  · refine Ev.pos k3 ?_
    rw [if_pos k3, shN w hw]
    exact Ev.out rfl
  · refine Ev.neg k3 ?_
    rw [if_neg k3]
    by_cases c : (opn w a).2.1 = 1 ∧ (opn w a).2.2.1 < 0
    · refine Ev.pos c ?_
      rw [if_pos c]
      rcases kinds w hw a with ⟨k1, k2⟩ | ⟨k0, k1, k2⟩ | ⟨k1, k2⟩ | ⟨k1, k2⟩
      · rw [k2] at c; exact absurd c.1 (by simp)
      · have he := ex_bd w hw _ k1
        have hg := sg_64 w hw (magN w a)
        obtain ⟨n, hn⟩ := Int.eq_ofNat_of_zero_le (show 0 ≤ -(opn w a).2.2.1 by omega)
        rw [k2] at c hn ⊢
        dsimp only at c hn ⊢
        rw [hn, Int.toNat_natCast]
        have h0 : 0 < n := by omega
        have hq : (fmt w).sg (magN w a) / 2 ^ n ≤ (fmt w).sg (magN w a) := Nat.div_le_self _ _
        refine Ev.bs (ofE (sgB w a) 1 hg (show _ = -(n : Int) by omega) h0 (by omega)) ?_
        dsimp only
        rw [awS way hway _ _ _ h0 hg]
        generalize (fmt w).sg (magN w a) / 2 ^ n = q at *
        generalize upB way (sgB w a) ((fmt w).sg (magN w a)) n = u
        have e : (if u = true then IntKind.u64.wrap ((q : Int) + 1) else (q : Int)) = ((q + (if u = true then 1 else 0) : Nat) : Int) := by
          cases u
          · simp
          · rw [if_pos rfl, if_pos rfl, u64_id (by omega) (by omega)]; omega
        rw [e]
        have p := pack1 w hw (sgB w a) (q + (if u = true then 1 else 0)) (by split <;> omega) 0
        rw [tw_zero, Rat.mul_one] at p
        rw [p]
        exact Ev.out rfl
      · rw [k2] at c; exact absurd c.1 (by simp)
      · rw [k2] at c; exact absurd c.1 (by simp)
    · refine Ev.neg c ?_
      rw [if_neg c]
      rw [shCut w a ha]
      exact Ev.out rfl
theorem awake09 : Ev (fun k => L09_awake.f k) true := Ev.of (fun k => L09_awake.mono k) (k := 12) (by decide +kernel)
theorem ceilE (w : Int) (hw : w = 32 ∨ w = 64) (a : Nat) (ha : a < 18446744073709551616) : Ev (fun k => whole_Ceil.f k w a) ((mkW 1 w a : Nat) : Int) := madeE 1 (by simp) w hw a ha
theorem floorE (w : Int) (hw : w = 32 ∨ w = 64) (a : Nat) (ha : a < 18446744073709551616) : Ev (fun k => whole_Floor.f k w a) ((mkW 2 w a : Nat) : Int) := madeE 2 (by simp) w hw a ha
theorem truncE (w : Int) (hw : w = 32 ∨ w = 64) (a : Nat) (ha : a < 18446744073709551616) : Ev (fun k => whole_Trunc.f k w a) ((mkW 3 w a : Nat) : Int) := madeE 3 (by simp) w hw a ha
theorem nearE (w : Int) (hw : w = 32 ∨ w = 64) (a : Nat) (ha : a < 18446744073709551616) : Ev (fun k => whole_Nearest.f k w a) ((mkW 4 w a : Nat) : Int) := madeE 4 (by simp) w hw a ha
theorem whInt (w : Int) (hw : w = 32 ∨ w = 64) (q : Nat) (h : q ≤ 2 ^ ((fmt w).f + 1)) : (fmt w).val ((fmt w).rnd (q : Rat)) = (q : Rat) ∧ (fmt w).rnd (q : Rat) < (fmt w).inf := by
  obtain ⟨m, hm⟩ := (fmt w).val_repr (n := q) (e := 0) h (by have := fmt_bd w; omega)
  rw [tw_zero, Rat.mul_one] at hm
  have lt : m < (fmt w).inf := by
    refine (fmt w).val_lt_iff.1 ?_
    rw [hm, (fmt w).val_inf]
    have h2 : ((2 ^ ((fmt w).f + 1) : Nat) : Rat) < tw ((fmt w).top - 1 + (fmt w).low + (fmt w).f) := by
      rw [← tw_nat]
      refine tw_lt ?_
      rcases hw with rfl | rfl <;> decide
    have h3 : (q : Rat) ≤ ((2 ^ ((fmt w).f + 1) : Nat) : Rat) := nat_le.2 h
    grind
  rw [← hm, (fmt w).rnd_val (by omega)]
  exact ⟨rfl, lt⟩
def tn (r : Nat) (w : Int) : Nat := r ^^^ sb w
theorem wAdd {A B : Nat} (h : A + B < 340282366920938463463374607431768211456) : wide_Add.f (wH A) (wL A) (wH B) (wL B) = some (wH (A + B), wL (A + B)) := by
  have := addW (A / 18446744073709551616) (A % 18446744073709551616) (B / 18446744073709551616) (B % 18446744073709551616) (hi64 (by omega)) (lo64 A) (hi64 (by omega)) (lo64 B)
  rw [wn_div, wn_div, Nat.mod_eq_of_lt h] at this
  exact this
theorem wSub {A B : Nat} (h : A < 340282366920938463463374607431768211456) (hb : B ≤ A) : wide_Sub.f (wH A) (wL A) (wH B) (wL B) = some (wH (A - B), wL (A - B)) := by
  have := subW (A / 18446744073709551616) (A % 18446744073709551616) (B / 18446744073709551616) (B % 18446744073709551616) (hi64 (by omega)) (lo64 A) (hi64 (by omega)) (lo64 B)
  rw [wn_div, wn_div, show (A + (340282366920938463463374607431768211456 - B)) % 340282366920938463463374607431768211456 = A - B by omega] at this
  exact this
theorem wCmp (A B : Nat) : wide_Cmp.f (wH A) (wL A) (wH B) (wL B) = some (cmpN A B) := by
  have := cmpW (A / 18446744073709551616) (A % 18446744073709551616) (B / 18446744073709551616) (B % 18446744073709551616) (lo64 A) (lo64 B)
  rwa [wn_div, wn_div] at this
theorem wPack (w : Int) (hw : w = 32 ∨ w = 64) (s : Bool) (V : Nat) (hV : V < 340282366920938463463374607431768211456) (e : Int) (m : Bool) : round_Pack.f w s (wH V) (wL V) e m = some ((mkN w (pkm (fmt w) V e m) s : Nat) : Int) := packV w hw s V hV e m
theorem alignE (s t : Bool) (k1 k2 : Int) {g g2 : Nat} {e e2 : Int} (hg : g < 9007199254740992) (hg2 : g2 < 9007199254740992) (h1 : -1100 ≤ e2) (h2 : e2 ≤ e) (h3 : e ≤ 1000) {u d : Nat} (hu : (u : Int) = min (e - e2) 64) (hd : (d : Int) = e - e2 - u) :
    sum_align.f s k1 e g t k2 e2 g2 = some (wH (g * 2 ^ u), wL (g * 2 ^ u), wH (g2 / 2 ^ d), wL (g2 / 2 ^ d), e - u, decide (g2 % 2 ^ d ≠ 0)) := by
  have hp : 2 ^ u ≤ 18446744073709551616 := by
    have := Nat.pow_le_pow_right (show 0 < 2 by decide) (show u ≤ 64 by omega)
    rwa [show (2 : Nat) ^ 64 = 18446744073709551616 by decide] at this
  have hm : g * 2 ^ u < 340282366920938463463374607431768211456 := by
    have := Nat.mul_le_mul (show g ≤ 9007199254740992 by omega) hp
    omega
  unfold sum_align.f
  rw [ofW g, Option.bind_some, w64_id (n := e - e2) (by omega) (by omega)]
  have hmn : mn (e - e2) 64 = (u : Int) := by unfold mn; rw [hu]; split <;> omega
  rw [hmn]
  have hl := wLeft (V := g) (by omega) u (by omega) hm
  have hr := wRight (V := g2) (by omega) d (by omega)
  rw [(wSmall (V := g) (by omega)).1, (wSmall (V := g) (by omega)).2] at hl
  rw [(wSmall (V := g2) (by omega)).1, (wSmall (V := g2) (by omega)).2] at hr
  simp only
  rw [hl, Option.bind_some, ofW g2, Option.bind_some, w64_id (n := e - e2 - u) (by omega) (by omega), ← hd]
  simp only
  rw [hr, Option.bind_some, w64_id (n := e - u) (by omega) (by omega)]
theorem natSub {a b : Nat} (h : b ≤ a) : ((a - b : Nat) : Rat) = (a : Rat) - b := by
  obtain ⟨c, rfl⟩ := Nat.le.dest h
  rw [Nat.add_sub_cancel_left, Rat.natCast_add]; grind
theorem subMul (a b c : Rat) : (a - b) * c = a * c - b * c := by grind
theorem finOrd (w : Int) (hw : w = 32 ∨ w = 64) (s t : Bool) (k1 k2 : Int) {g g2 : Nat} {e e2 : Int} (g0 : 0 < g) (g20 : 0 < g2) (hg : g < 9007199254740992) (hg2 : g2 < 9007199254740992) (h1 : -1100 ≤ e2) (h2 : e2 ≤ e) (h3 : e ≤ 1000) :
    Ev (fun k => sum_finite.j0 k w s k1 e g t k2 e2 g2) ((fx w (pv (s, 1, e, (g : Int)) + pv (t, 1, e2, (g2 : Int))) (s && t) : Nat) : Int) := by
  obtain ⟨u, hu⟩ : ∃ u : Nat, (u : Int) = min (e - e2) 64 := ⟨(min (e - e2) 64).toNat, by omega⟩
  obtain ⟨d, hd⟩ : ∃ d : Nat, (d : Int) = e - e2 - u := ⟨(e - e2 - u).toNat, by omega⟩
  have al := alignE s t k1 k2 hg hg2 h1 h2 h3 hu hd
  obtain ⟨f1, f2, f3, f4, f5⟩ := align_eq (sa := g) (sb := g2) h2 g0 hu hd
  have hp : 2 ^ u ≤ 18446744073709551616 := by
    have := Nat.pow_le_pow_right (show 0 < 2 by decide) (show u ≤ 64 by omega)
    rwa [show (2 : Nat) ^ 64 = 18446744073709551616 by decide] at this
  have hm : g * 2 ^ u < 170141183460469231731687303715884105728 := by
    have := Nat.mul_le_mul (show g ≤ 9007199254740992 by omega) hp
    omega
  have hb : g2 / 2 ^ d ≤ g2 := Nat.div_le_self _ _
  have hA : g2 % 2 ^ d ≠ 0 → 18446744073709551616 ≤ g * 2 ^ u := fun h => by
    have := (f5 h).2
    rw [this, show (2 : Nat) ^ 64 = 18446744073709551616 by decide]
    omega
  have pX := pos_tw g0 e
  have pY := pos_tw g20 e2
  rw [pv1, pv1]
  generalize (g : Rat) * tw e = X at *
  generalize (g2 : Rat) * tw e2 = Y at *
  generalize hAA : g * 2 ^ u = A at *
  generalize hBB : g2 / 2 ^ d = B at *
  generalize hEE : e - (u : Int) = E at *
  have T := tw_pos E
  obtain ⟨lost, hl⟩ : ∃ l : Bool, decide (g2 % 2 ^ d ≠ 0) = l := ⟨_, rfl⟩
  rw [hl] at al
  have c0 : lost = false → Y = (B : Rat) * tw E := fun h => f4 (by rw [h] at hl; simpa using hl)
  have c1 : lost = true → (B : Rat) * tw E < Y ∧ 18446744073709551616 ≤ A := fun h => by
    rw [h] at hl
    have : g2 % 2 ^ d ≠ 0 := by simpa using hl
    exact ⟨(f5 this).1, hA this⟩
  clear f4 f5 hA hl
  have cast1 : ∀ n : Nat, ((n + 1 : Nat) : Rat) = (n : Rat) + 1 := fun n => by push_cast; rfl
  refine Ev.step (fun _ => sum_finite.j0.eq_2 ..) (Ev.bs al ?_)
  simp only
  by_cases hst : s = t
  · subst hst
    refine Ev.pos (by simp) (Ev.bs (wAdd (by omega)) (Ev.bs (wPack w hw s _ (by omega) E lost) (Ev.out ?_)))
    have e1 : (if s then -X else X) + (if s then -Y else Y) = if s then -(X + Y) else X + Y := by cases s <;> simp <;> grind
    rw [e1, fx_sg w (by grind)]
    cases hlo : lost
    · rw [pk_ex w _ _ (by omega), f1, c0 hlo, Rat.natCast_add, Rat.add_mul]
    · rw [pk_mo w (x := X + Y) (by omega) (by have := (c1 hlo).2; omega)]
      · have := (c1 hlo).1
        rw [Rat.natCast_add, Rat.add_mul, f1]; grind
      · rw [cast1, Rat.natCast_add, f1]
        rw [cast1] at f3
        grind
  · refine Ev.neg (by simpa using hst) (Ev.bs (wCmp A B) ?_)
    have e1 : (if s then -X else X) + (if t then -Y else Y) = if s then -(X - Y) else X - Y := by revert hst; cases s <;> cases t <;> simp <;> grind
    have e2' : (if s then -X else X) + (if t then -Y else Y) = if t then -(Y - X) else Y - X := by revert hst; cases s <;> cases t <;> simp <;> grind
    have ez : (s && t) = false := by revert hst; cases s <;> cases t <;> simp
    rcases Nat.lt_trichotomy A B with hc | hc | hc
    · have hlo : lost = false := by
        cases hlo : lost
        · rfl
        · have := (c1 hlo).2; omega
      rw [show cmpN A B = -1 by unfold cmpN; rw [if_pos hc]]
      refine Ev.neg (by decide) (Ev.pos rfl (Ev.bs (wSub (by omega) (by omega)) (Ev.bs (wPack w hw t _ (by omega) E false) (Ev.out ?_))))
      have hlt : (A : Rat) * tw E < (B : Rat) * tw E := mul_lt (nat_lt.2 hc) T
      rw [e2', fx_sg w (by rw [f1, c0 hlo]; grind), pk_ex w _ _ (by omega), f1, c0 hlo]
      rw [show ((B - A : Nat) : Rat) = (B : Rat) - A by rw [natSub (by omega)], subMul]
    · have hlo : lost = false := by
        cases hlo : lost
        · rfl
        · have := (c1 hlo).2; omega
      rw [show cmpN A B = 0 by unfold cmpN; rw [if_neg (by omega), if_neg (by omega)]]
      refine Ev.pos rfl (Ev.bs (shZ w hw false) (Ev.out ?_))
      rw [e1, f1, c0 hlo, hc, show (B : Rat) * tw E - (B : Rat) * tw E = 0 by grind, ez]
      cases s <;> simp [fx_zero]
    · rw [show cmpN A B = 1 by unfold cmpN; rw [if_neg (by omega), if_pos hc]]
      refine Ev.neg (by decide) (Ev.neg (by decide) (Ev.bs (wSub (by omega) (by omega)) ?_))
      cases hlo : lost
      · refine Ev.neg (by decide) (Ev.bs (wPack w hw s _ (by omega) E false) (Ev.out ?_))
        have hlt : (B : Rat) * tw E < (A : Rat) * tw E := mul_lt (nat_lt.2 hc) T
        rw [e1, fx_sg w (by rw [f1, c0 hlo]; grind), pk_ex w _ _ (by omega), f1, c0 hlo]
        rw [show ((A - B : Nat) : Rat) = (A : Rat) - B by rw [natSub (by omega)], subMul]
      · have h64 := (c1 hlo).2
        have hlt := (c1 hlo).1
        have hle : ((B + 1 : Nat) : Rat) * tw E ≤ (A : Rat) * tw E := mul_le (nat_le.2 (by omega)) T
        have w1 : wide_Sub.f (wH (A - B)) (wL (A - B)) 0 1 = some (wH (A - B - 1), wL (A - B - 1)) := by
          have := wSub (A := A - B) (B := 1) (by omega) (by omega)
          rwa [(wSmall (V := 1) (by decide)).1, (wSmall (V := 1) (by decide)).2] at this
        refine Ev.pos rfl (Ev.bs (show wide_Of.f 1 = some (0, 1) from rfl) (Ev.bs w1 (Ev.bs (wPack w hw s _ (by omega) E true) (Ev.out ?_))))
        rw [e1, fx_sg w (by rw [f1]; grind)]
        rw [pk_mo w (x := X - Y) (by omega) (by omega)]
        · rw [f1]
          have : ((A - B - 1 : Nat) : Rat) = (A : Rat) - B - 1 := by rw [natSub (by omega), natSub (by omega)]; rfl
          rw [this]
          rw [cast1] at f3
          grind
        · rw [f1, show A - B - 1 + 1 = A - B by omega, natSub (by omega)]
          grind
set_option maxRecDepth 20000 in
theorem partsE (w : Int) (hw : w = 32 ∨ w = 64) (p q : Pt) (hp : PtOk p) (hq : PtOk q) : Ev (fun k => sum_parts.f k w p.1 p.2.1 p.2.2.1 p.2.2.2 q.1 q.2.1 q.2.2.1 q.2.2.2) ((addP w p q : Nat) : Int) := by
  obtain ⟨s, kd, e, g⟩ := p
  obtain ⟨t, kd2, e2, g2⟩ := q
  obtain ⟨h1, h2, h0, h3, h4, h5, h6⟩ := hp
  obtain ⟨k1, k2, k0, k3, k4, k5, k6⟩ := hq
  simp only at h1 h2 h0 h3 h4 h5 h6 k1 k2 k0 k3 k4 k5 k6
  obtain ⟨g, rfl⟩ := Int.eq_ofNat_of_zero_le h3
  obtain ⟨g2, rfl⟩ := Int.eq_ofNat_of_zero_le k3
  simp only
  have nar1 : kd = 1 → round_Narrow.f w s kd e g = some ((fx w (pv (s, 1, e, (g : Int))) true : Nat) : Int) := fun h => by
    rw [narrowG w hw s kd e g (by omega)]
    unfold narG
    rw [if_neg (by omega), if_pos h, pv1, fx_sg w (pos_tw (by have := h2 h; omega) _)]
  have nar2 : kd2 = 1 → round_Narrow.f w t kd2 e2 g2 = some ((fx w (pv (t, 1, e2, (g2 : Int))) true : Nat) : Int) := fun h => by
    rw [narrowG w hw t kd2 e2 g2 (by omega)]
    unfold narG
    rw [if_neg (by omega), if_pos h, pv1, fx_sg w (pos_tw (by have := k2 h; omega) _)]
  have fz : ∀ x z z', x ≠ 0 → fx w x z = fx w x z' := fun x z z' h => by unfold fx; rw [if_neg h, if_neg h]
  have nz1 : kd = 1 → pv (s, 1, e, (g : Int)) ≠ 0 := fun h => by
    have := pos_tw (show 0 < g by have := h2 h; omega) e
    rw [pv1]; cases s <;> simp <;> grind
  have nz2 : kd2 = 1 → pv (t, 1, e2, (g2 : Int)) ≠ 0 := fun h => by
    have := pos_tw (show 0 < g2 by have := k2 h; omega) e2
    rw [pv1]; cases t <;> simp <;> grind
  have fin : kd = 1 → kd2 = 1 → Ev (fun k => sum_finite.f k w s kd e g t kd2 e2 g2) ((fx w (pv (s, 1, e, (g : Int)) + pv (t, 1, e2, (g2 : Int))) (s && t) : Nat) : Int) := fun ha hb => by
    unfold sum_finite.f
    by_cases hlt : e < e2
    · have := finOrd w hw t s kd2 kd (g := g2) (g2 := g) (e := e2) (e2 := e) (by have := k2 hb; omega) (by have := h2 ha; omega) (by omega) (by omega) h5 (by omega) k6
      rw [Rat.add_comm, Bool.and_comm]
      exact Ev.pos hlt this
    · exact Ev.neg hlt (finOrd w hw s t kd kd2 (g := g) (g2 := g2) (e := e) (e2 := e2) (by have := h2 ha; omega) (by have := k2 hb; omega) (by omega) (by omega) k5 (by omega) h6)
  unfold sum_parts.f
  by_cases n1 : kd = 3
  · subst n1
    refine Ev.pos rfl (Ev.step (fun _ => sum_parts.j0.eq_2 ..) (Ev.pos rfl (Ev.bs (shN w hw) (Ev.out ?_))))
    simp [addP]
  refine Ev.neg n1 (Ev.step (fun _ => sum_parts.j0.eq_2 ..) ?_)
  by_cases n2 : kd2 = 3
  · subst n2
    refine Ev.pos rfl (Ev.bs (shN w hw) (Ev.out ?_))
    simp [addP]
  refine Ev.neg (by simpa using n2) ?_
  by_cases i1 : kd = 2
  · subst i1
    refine Ev.pos rfl (Ev.step (fun _ => sum_parts.j1.eq_2 ..) (Ev.pos rfl (Ev.bind (r := ((addP w (s, 2, e, (g : Int)) (t, kd2, e2, (g2 : Int)) : Nat) : Int)) ?_ (Ev.out rfl))))
    unfold sum_infinite.f
    refine Ev.pos rfl ?_
    by_cases i2 : kd2 = 2
    · subst i2
      refine Ev.pos rfl (Ev.step (fun _ => sum_infinite.j0.eq_2 ..) ?_)
      by_cases hst : s = t
      · exact Ev.neg (by simpa using hst) (Ev.bs (shI w hw s) (Ev.out (by simp [addP, hst])))
      · exact Ev.pos (by simpa using hst) (Ev.bs (shN w hw) (Ev.out (by simp [addP, hst])))
    · exact Ev.neg i2 (Ev.step (fun _ => sum_infinite.j0.eq_2 ..) (Ev.neg (by decide) (Ev.bs (shI w hw s) (Ev.out (by simp [addP, n2, i2])))))
  refine Ev.neg i1 (Ev.step (fun _ => sum_parts.j1.eq_2 ..) ?_)
  by_cases i2 : kd2 = 2
  · subst i2
    refine Ev.pos rfl (Ev.bind (r := ((addP w (s, kd, e, (g : Int)) (t, 2, e2, (g2 : Int)) : Nat) : Int)) ?_ (Ev.out rfl))
    unfold sum_infinite.f
    exact Ev.neg i1 (Ev.bs (shI w hw t) (Ev.out (by simp [addP, n1, i1])))
  refine Ev.neg (by simpa using i2) ?_
  have hA : addP w (s, kd, e, (g : Int)) (t, kd2, e2, (g2 : Int)) = fx w (pv (s, kd, e, (g : Int)) + pv (t, kd2, e2, (g2 : Int))) (s && t) := by simp [addP, n1, n2, i1, i2]
  rw [hA]
  by_cases z1 : kd = 0
  · subst z1
    refine Ev.pos rfl (Ev.step (fun _ => sum_parts.j2.eq_2 ..) ?_)
    rw [pv0 (p := (s, 0, e, (g : Int))) (by simp), Rat.zero_add]
    by_cases z2 : kd2 = 0
    · subst z2
      rw [pv0 (p := (t, 0, e2, (g2 : Int))) (by simp), fx_zero]
      refine Ev.pos rfl ?_
      cases s
      · exact Ev.neg (by decide) (Ev.bs (shZ w hw false) (Ev.out (by simp)))
      · exact Ev.pos rfl (Ev.bs (shZ w hw t) (Ev.out (by simp)))
    · have o2 : kd2 = 1 := by omega
      refine Ev.neg (by simpa using z2) (Ev.pos rfl (Ev.bs (nar2 o2) (Ev.out ?_)))
      rw [o2, fz _ true (s && t) (nz2 o2)]
  · have o1 : kd = 1 := by omega
    refine Ev.neg z1 (Ev.step (fun _ => sum_parts.j2.eq_2 ..) (Ev.neg (by decide) (Ev.neg z1 ?_)))
    by_cases z2 : kd2 = 0
    · refine Ev.pos z2 (Ev.bs (nar1 o1) (Ev.out ?_))
      rw [o1, z2, pv0 (p := (t, 0, e2, (g2 : Int))) (by simp), Rat.add_zero, fz _ true (s && t) (nz1 o1)]
    · have o2 : kd2 = 1 := by omega
      refine Ev.neg z2 (Ev.bind (fin o1 o2) (Ev.out ?_))
      rw [o1, o2]
def fl (p : Pt) : Pt := (!p.1, p.2)
theorem fl_ok {p : Pt} (h : PtOk p) : PtOk (fl p) := h
theorem subE (w : Int) (hw : w = 32 ∨ w = 64) (a b : Nat) (ha : a < 18446744073709551616) (hb : b < 18446744073709551616) : Ev (fun k => sum_Sub.f k w a b) ((addP w (opn w a) (fl (opn w b)) : Nat) : Int) := by
  unfold sum_Sub.f
  refine Ev.bs (show sum_known.f w = some true by rcases hw with rfl | rfl <;> rfl) (Ev.pos rfl (Ev.bind (openS w hw b hb) (Ev.bind (openS w hw a ha) ?_)))
  exact Ev.bind (partsE w hw (opn w a) (fl (opn w b)) (opn_ok w hw a) (fl_ok (opn_ok w hw b))) (Ev.out rfl)
end Go.Proofs.Ythdeeoallfbjmaa.Th
end
namespace Knu
theorem k1 (u y d : Nat) (hu : u < y) (hd : d < 4294967296) : (u * 4294967296 + d) / y < 4294967296 := by
  rw [Nat.div_lt_iff_lt_mul (by omega), Nat.mul_comm 4294967296]
  have : (u + 1) * 4294967296 ≤ y * 4294967296 := Nat.mul_le_mul_right _ hu
  omega
theorem k2 (u a b d q r : Nat) (ha : 0 < a) (h : q * a + r = u) : (u * 4294967296 + d) / (a * 4294967296 + b) < q ↔ r * 4294967296 + d < q * b := by
  rw [Nat.div_lt_iff_lt_mul (by omega), Nat.mul_add, ← Nat.mul_assoc, ← h]
  generalize q * b = t
  generalize q * a = s
  omega
theorem k3 (u a b d : Nat) (ha : 0 < a) (hd : d < 4294967296) : (u * 4294967296 + d) / (a * 4294967296 + b) ≤ u / a := by
  rw [Nat.le_div_iff_mul_le ha]
  have h := Nat.div_mul_le_self (u * 4294967296 + d) (a * 4294967296 + b)
  rw [Nat.mul_add, ← Nat.mul_assoc] at h
  generalize (u * 4294967296 + d) / (a * 4294967296 + b) * b = t at *
  generalize (u * 4294967296 + d) / (a * 4294967296 + b) * a = s at *
  omega
theorem k4 (u a b q r : Nat) (h : q * a + r = u) (hu : u < a * 4294967296 + b) (hq : 4294967296 ≤ q) : r < b := by
  have : 4294967296 * a ≤ q * a := Nat.mul_le_mul_right _ hq
  omega
theorem k5 (a q r u : Nat) (h : q * a + r = u) (hq : 0 < q) : (q - 1) * a + (r + a) = u := by
  obtain ⟨p, rfl⟩ : ∃ p, q = p + 1 := ⟨q - 1, by omega⟩
  rw [Nat.add_mul] at h
  rw [Nat.add_sub_cancel]; omega
theorem k6 (q b : Nat) (hq : q < 4294967296) (hb : b < 4294967296) : q * b < 18446744073709551616 := by
  have := Nat.mul_le_mul (show q ≤ 4294967295 by omega) (show b ≤ 4294967295 by omega); omega
theorem two_gen (B u y c d : Nat) (hy : 0 < y) : ((u * B + c) * B + d) / y = (u * B + c) / y * B + ((u * B + c) % y * B + d) / y ∧ ((u * B + c) * B + d) % y = ((u * B + c) % y * B + d) % y := by
  have h := Nat.div_add_mod (u * B + c) y
  generalize (u * B + c) / y = q at *
  generalize (u * B + c) % y = r at *
  generalize u * B + c = v at *
  have e : v * B + d = y * (q * B) + (r * B + d) := by
    rw [← h, Nat.add_mul, Nat.mul_assoc]; omega
  rw [e, Nat.mul_add_div hy, Nat.mul_add_mod]
  exact ⟨rfl, rfl⟩
theorem two (u y c d : Nat) (hy : 0 < y) : ((u * 4294967296 + c) * 4294967296 + d) / y = (u * 4294967296 + c) / y * 4294967296 + ((u * 4294967296 + c) % y * 4294967296 + d) / y ∧ ((u * 4294967296 + c) * 4294967296 + d) % y = ((u * 4294967296 + c) % y * 4294967296 + d) % y :=
  two_gen 4294967296 u y c d hy
end Knu
section
set_option linter.unusedVariables false
set_option linter.unusedSimpArgs false
namespace Go.Proofs.Ythdeeoallfbjmaa.Th
open Go.RowKit Go.Proofs.YthdeeoallfbjmaaW.PrintWords Go.Proofs.YthdeeoallfbjmaaW.PrintLast Go.Proofs.YthdeeoallfbjmaaW.PrintMore Go.Proofs.Ythdeeoallfbjmaa.PA Bit Dig Flo
theorem r2Bw (w : Int) (hw : w = 32 ∨ w = 64) : ∃ B : Nat, r2_B.f w = some ((B : Nat) : Int) ∧ (fmt w).top = 2 * B + 1 ∧ (fmt w).low = 1 - (B : Int) - (fmt w).f ∧ B < 2000 := by
  rcases hw with rfl | rfl
  · exact ⟨127, by decide, by rw [fmt32]; decide, by rw [fmt32]; decide, by decide⟩
  · exact ⟨1023, by decide, by rw [fmt64]; decide, by rw [fmt64]; decide, by decide⟩
theorem evAnd {α β : Type} {f : Nat → Option α} {g : Nat → Option β} {a : α} {b : β} (hf : Ev f a) (hg : Ev g b) : Ev (fun k => (f k).bind fun x => (g k).bind fun y => some (x, y)) (a, b) := Ev.bind hf (Ev.bind hg (Ev.out rfl))
theorem evGet {α β : Type} {f : Option α} {g : Option β} {a : α} {b : β} (h : (f.bind fun x => g.bind fun y => some (x, y)) = some (a, b)) : f = some a ∧ g = some b := by
  obtain ⟨x, h1, h2⟩ := Option.bind_eq_some_iff.mp h
  obtain ⟨y, h3, h4⟩ := Option.bind_eq_some_iff.mp h2
  simp only [Option.some.injEq, Prod.mk.injEq] at h4
  rw [h1, h3, h4.1, h4.2]
  exact ⟨rfl, rfl⟩
theorem pvMk (w : Int) (hw : w = 32 ∨ w = 64) (m : Nat) (s : Bool) (h : m < (fmt w).inf) : pv (opn w (mkN w m s)) = (if s then -(fmt w).val m else (fmt w).val m) ∧ ((opn w (mkN w m s)).2.1 = 0 ∨ (opn w (mkN w m s)).2.1 = 1) := by
  rw [opn_mk w hw m s (by have := sb_inf w hw; omega)]
  by_cases z : m = 0
  · rw [if_pos z, z, (fmt w).val_zero]
    refine ⟨?_, .inl rfl⟩
    rw [pv0 (by simp)]
    cases s <;> simp
  · rw [if_neg z, if_pos h]
    refine ⟨?_, .inr rfl⟩
    rw [pv1]
    rfl
theorem opnCut (w : Int) (hw : w = 32 ∨ w = 64) (a : Nat) (ha : a < 18446744073709551616) : opn w (cutN w a) = opn w a ∨ (opn w a).2.1 = 3 := by
  rcases kinds w hw a with ⟨k1, k2⟩ | ⟨k0, k1, k2⟩ | ⟨k1, k2⟩ | ⟨k1, k2⟩
  · left
    rw [cut_as_mk w hw a ha, opn_mk w hw _ _ (magN_lt w hw a), if_pos k1, k2]
  · left
    rw [cut_as_mk w hw a ha, opn_mk w hw _ _ (magN_lt w hw a), if_neg (by omega), if_pos k1, k2]
  · left
    have := inf_pos w hw
    rw [cut_as_mk w hw a ha, opn_mk w hw _ _ (magN_lt w hw a), if_neg (by omega), if_neg (by omega), if_pos k1, k2]
  · right; rw [k2]
theorem farE (w : Int) (hw : w = 32 ∨ w = 64) (n a L : Nat) (hn : n < 18446744073709551616) (ha : a < 18446744073709551616) (k1 : (opn w n).2.1 = 0 ∨ (opn w n).2.1 = 1) (k2 : (opn w a).2.1 = 0 ∨ (opn w a).2.1 = 1) (hL : L < (fmt w).inf) (D : Rat)
    (h1 : D ≤ (fmt w).val L) (hD : pv (opn w n) - pv (opn w a) = D ∨ pv (opn w n) - pv (opn w a) = -D) (h0 : 0 ≤ D) :
    ∃ s c : Int, Ev (fun k => sum_Sub.f k w n a) s ∧ Ev (fun k => r8_Cmp.f k w (whFarV w s) ((mkN w L false : Nat) : Int)) c ∧ c ≤ 0 := by
  have S := subE w hw n a hn ha
  have is := sb_inf w hw
  have add : addP w (opn w n) (fl (opn w a)) = fx w (pv (opn w n) - pv (opn w a)) ((opn w n).1 && !(opn w a).1) := by
    unfold addP
    rw [if_neg (show ¬ ((opn w n).2.1 = 3 ∨ (fl (opn w a)).2.1 = 3) from fun h => by rcases h with h | h; omega; have : (opn w a).2.1 = 3 := h; omega), if_neg (by omega), if_neg (show ¬ (fl (opn w a)).2.1 = 2 from fun h => by have : (opn w a).2.1 = 2 := h; omega)]
    have e : pv (fl (opn w a)) = -pv (opn w a) := by
      unfold fl pv
      dsimp only
      by_cases k : (opn w a).2.1 = 1
      · rw [if_pos k, if_pos k]; cases (opn w a).1 <;> simp
      · rw [if_neg k, if_neg k]; simp
    rw [e]
    have e2 : pv (opn w n) + -pv (opn w a) = pv (opn w n) - pv (opn w a) := by grind
    rw [e2]
    rfl
  rw [add] at S
  have rl : (fmt w).rnd D ≤ L := (fmt w).rnd_lt_inf h1 hL
  obtain ⟨s', hs⟩ : ∃ s', fx w (pv (opn w n) - pv (opn w a)) ((opn w n).1 && !(opn w a).1) = mkN w ((fmt w).rnd D) s' := by
    by_cases z : D = 0
    · refine ⟨(opn w n).1 && !(opn w a).1, ?_⟩
      have : pv (opn w n) - pv (opn w a) = 0 := by rcases hD with h | h <;> rw [h, z] <;> simp
      rw [this, fx_zero, z, (fmt w).rnd_zero]
    · have p : 0 < D := by grind
      rcases hD with h | h
      · exact ⟨false, by rw [h]; exact fx_pos w p _⟩
      · exact ⟨true, by rw [h]; exact fx_neg w p _⟩
  rw [hs] at S
  have mb : (fmt w).rnd D < sb w := by omega
  have Lb : L < sb w := by omega
  refine ⟨_, cmpV w ((fmt w).rnd D) (mkN w L false), S, ?_⟩
  have far : whFarV w ((mkN w ((fmt w).rnd D) s' : Nat) : Int) = (((fmt w).rnd D : Nat) : Int) := by
    unfold whFarV
    have e : shl .u64 1 (wrap64 (w - 1)) = ((mkN w 0 true : Nat) : Int) := by rcases hw with rfl | rfl <;> decide +kernel
    have b := bitsMag w hw (mkN w ((fmt w).rnd D) s') (mkN_lt w hw _ _ mb)
    rw [cut_mk w hw _ _ mb, mag_mk w hw _ _ mb] at b
    rw [e]; exact b
  have m0 : (fmt w).rnd D = mkN w ((fmt w).rnd D) false := by simp [mkN]
  rw [far]
  have l2 : (fmt w).rnd D < 18446744073709551616 := by rw [m0]; exact mkN_lt w hw _ _ mb
  refine ⟨cmp8S w hw _ _ l2 (mkN_lt w hw _ _ Lb), ?_⟩
  unfold cmpV
  have n1 : nn w ((fmt w).rnd D) = false := by rw [m0, nn_eq w hw, mag_mk w hw _ _ mb]; exact decide_eq_false (by omega)
  have n2 : nn w (mkN w L false) = false := by rw [nn_eq w hw, mag_mk w hw _ _ Lb]; exact decide_eq_false (by omega)
  have r1 : rk w ((fmt w).rnd D) = ((fmt w).rnd D : Int) := by
    have q : rk w (mkN w ((fmt w).rnd D) false) = ((fmt w).rnd D : Int) := by unfold rk; rw [sg_mk w hw _ _ mb, mag_mk w hw _ _ mb, if_neg (by decide)]
    rwa [← m0] at q
  have r2 : rk w (mkN w L false) = (L : Int) := by unfold rk; rw [sg_mk w hw _ _ Lb, mag_mk w hw _ _ Lb, if_neg (by decide)]
  rw [n1, n2, r1, r2, Bool.or_self, if_neg (by decide)]
  split
  · decide
  · split
    · omega
    · decide
theorem valPow (w : Int) (hw : w = 32 ∨ w = 64) (E : Nat) (h1 : 1 ≤ E) (h2 : E < (fmt w).top) : (fmt w).val (E * 2 ^ (fmt w).f) = tw ((fmt w).f + (E - 1) + (fmt w).low) ∧ E * 2 ^ (fmt w).f < (fmt w).inf := by
  have hp := (fmt w).pow_pos
  obtain ⟨a1, a2⟩ := (fmt w).sg_mk (E - 1) (2 ^ (fmt w).f) (by rw [Nat.pow_succ]; omega) (fun _ => Nat.le_refl _)
  have e : (E - 1) * 2 ^ (fmt w).f + 2 ^ (fmt w).f = E * 2 ^ (fmt w).f := by rw [← Nat.succ_mul, show (E - 1).succ = E by omega]
  rw [e] at a1 a2
  constructor
  · unfold Fmt.val
    rw [a1, a2, ← tw_nat, ← tw_add]
    congr 1; omega
  · unfold Fmt.inf
    exact Nat.mul_lt_mul_of_pos_right h2 hp
theorem whFar (way : Nat) (hway : way = 1 ∨ way = 2 ∨ way = 3 ∨ way = 4) (w : Int) (hw : w = 32 ∨ w = 64) (a : Nat) (ha : a < 18446744073709551616) (k2 : (opn w a).2.1 = 0 ∨ (opn w a).2.1 = 1) :
    ∃ D : Rat, 0 ≤ D ∧ D ≤ tw 0 ∧ (way = 4 → D ≤ tw (-1)) ∧ (pv (opn w (mkW way w a)) - pv (opn w a) = D ∨ pv (opn w (mkW way w a)) - pv (opn w a) = -D) ∧ ((opn w (mkW way w a)).2.1 = 0 ∨ (opn w (mkW way w a)).2.1 = 1) ∧ mkW way w a < 18446744073709551616 := by
  have k3 : ¬ (opn w a).2.1 = 3 := by omega
  unfold mkW
  rw [if_neg k3]
  by_cases c : (opn w a).2.1 = 1 ∧ (opn w a).2.2.1 < 0
  · rw [if_pos c]
    rcases kinds w hw a with ⟨z1, z2⟩ | ⟨z0, z1, z2⟩ | ⟨z1, z2⟩ | ⟨z1, z2⟩
    · rw [z2] at c; exact absurd c.1 (by simp)
    · have he := ex_bd w hw _ z1
      have hg := (fmt w).sg_lt (magN w a)
      rw [z2] at c ⊢
      have c2 : (fmt w).ex (magN w a) < 0 := c.2
      dsimp only at c ⊢
      obtain ⟨n, hn⟩ := Int.eq_ofNat_of_zero_le (show 0 ≤ -(fmt w).ex (magN w a) by omega)
      have en : (fmt w).ex (magN w a) = -(n : Int) := by omega
      have h0 : 0 < n := by omega
      rw [hn, Int.toNat_natCast, en]
      generalize (fmt w).sg (magN w a) = g at *
      generalize sgB w a = s at *
      have hp : 0 < 2 ^ n := Nat.pow_pos (by decide)
      have hdm := Nat.div_add_mod g (2 ^ n)
      have hml := Nat.mod_lt g hp
      have pf : 2 ^ ((fmt w).f + 1) = 2 * 2 ^ (fmt w).f := by rw [Nat.pow_succ]; omega
      have hq1 : g / 2 ^ n ≤ g / 2 := Nat.div_le_div_left (by have : 2 ^ 1 ≤ 2 ^ n := Nat.pow_le_pow_right (by decide) h0; omega) (by decide)
      have fp := (fmt w).pow_pos
      obtain ⟨N, hN⟩ : ∃ N, g / 2 ^ n + (if upB way s g n = true then 1 else 0) = N := ⟨_, rfl⟩
      have Nle : N ≤ 2 ^ ((fmt w).f + 1) := by rw [← hN]; split <;> omega
      obtain ⟨I1, I2⟩ := whInt w hw N Nle
      obtain ⟨P1, P2⟩ := pvMk w hw _ s I2
      rw [I1] at P1
      rw [hN, P1]
      have ms : (fmt w).rnd (N : Rat) < sb w := by have := sb_inf w hw; omega
      -- the distance, as a whole number
      obtain ⟨d, hd1, hd2, hd3⟩ : ∃ d : Nat, (N * 2 ^ n = g + d ∨ g = N * 2 ^ n + d) ∧ d ≤ 2 ^ n ∧ (way = 4 → 2 * d ≤ 2 ^ n) := by
        by_cases u : upB way s g n = true
        · rw [if_pos u] at hN
          refine ⟨2 ^ n - g % 2 ^ n, .inl ?_, by omega, ?_⟩
          · rw [← hN, Nat.add_mul, Nat.one_mul, Nat.mul_comm (g / 2 ^ n)]; omega
          · intro h4
            subst h4
            unfold upB at u
            rw [if_neg (by decide), if_neg (by decide), if_pos rfl] at u
            simp only [Bool.or_eq_true, Bool.and_eq_true, decide_eq_true_eq] at u
            omega
        · rw [if_neg u, Nat.add_zero] at hN
          refine ⟨g % 2 ^ n, .inr ?_, by omega, ?_⟩
          · rw [← hN, Nat.mul_comm]; omega
          · intro h4
            subst h4
            unfold upB at u
            rw [if_neg (by decide), if_neg (by decide), if_pos rfl] at u
            simp only [Bool.or_eq_true, Bool.and_eq_true, decide_eq_true_eq] at u
            omega
      have T := tw_pos (-(n : Int))
      have t2 : tw n * tw (-(n : Int)) = 1 := by rw [← tw_add, show (n : Int) + -(n : Int) = 0 by omega, tw_zero]
      have tn := tw_nat n
      have Nr : (N : Rat) = ((N * 2 ^ n : Nat) : Rat) * tw (-(n : Int)) := by
        push_cast; push_cast at tn
        rw [← tn, Rat.mul_assoc, t2, Rat.mul_one]
      refine ⟨(d : Rat) * tw (-(n : Int)), ?_, ?_, ?_, ?_, P2, mkN_lt w hw _ _ ms⟩
      · exact Rat.mul_nonneg (by exact_mod_cast Nat.zero_le d) (Rat.le_of_lt T)
      · have : (d : Rat) * tw (-(n : Int)) ≤ ((2 ^ n : Nat) : Rat) * tw (-(n : Int)) := mul_le (nat_le.2 hd2) T
        rw [← tn, t2] at this
        rw [tw_zero]; exact this
      · intro h4
        have h5 : ((2 * d : Nat) : Rat) * tw (-(n : Int)) ≤ ((2 ^ n : Nat) : Rat) * tw (-(n : Int)) := mul_le (nat_le.2 (hd3 h4)) T
        rw [← tn, t2] at h5
        have h6 := tw_pred 0
        rw [tw_zero] at h6
        push_cast at h5
        have e0 : tw (0 - 1) = tw (-1) := rfl
        rw [e0] at h6
        generalize tw (-1) = y at *
        generalize tw (-(n : Int)) = x at *
        grind
      · rw [pv1]
        have key : (N : Rat) - (g : Rat) * tw (-(n : Int)) = (d : Rat) * tw (-(n : Int)) ∨ (N : Rat) - (g : Rat) * tw (-(n : Int)) = -((d : Rat) * tw (-(n : Int))) := by
          rcases hd1 with h | h
          · left
            rw [Nr, h]; push_cast; grind
          · right
            rw [Nr, h]; push_cast; grind
        cases s
        · simp only [Bool.false_eq_true, if_false]
          exact key
        · simp only [if_true]
          rcases key with h | h
          · right
            rw [← h]; grind
          · left
            have : (d : Rat) * tw (-(n : Int)) = -((N : Rat) - (g : Rat) * tw (-(n : Int))) := by rw [h]; grind
            rw [this]; grind
    · rw [z2] at c; exact absurd c.1 (by simp)
    · rw [z2] at c; exact absurd c.1 (by simp)
  · rw [if_neg c]
    have o := (opnCut w hw a ha).resolve_right k3
    rw [o]
    refine ⟨0, Rat.le_refl, ?_, fun _ => Rat.le_of_lt (tw_pos _), .inl (by grind), k2, cutN_lt w a ha⟩
    exact Rat.le_of_lt (tw_pos _)
theorem WholeHalfP : L09_WholeHalf.Pure := by
  intro w a hw0 ha0
  obtain ⟨ha1, ha2⟩ := wf_u64 ha0
  obtain ⟨a, rfl⟩ := Int.eq_ofNat_of_zero_le ha1
  have ha : a < 18446744073709551616 := by omega
  unfold L09_WholeHalf.Ok
  by_cases hw : w = 32 ∨ w = 64
  · have kn : r2_Known.f w = some true := by rw [known_f, decide_eq_true hw]
    by_cases k2 : (opn w a).2.1 = 0 ∨ (opn w a).2.1 = 1
    · obtain ⟨B, hB, hT, hlo, hB2⟩ := r2Bw w hw
      have B2 : 2 ≤ B := by rcases hw with rfl | rfl; all_goals (have := hT; revert this; simp [fmt, f32, f64]; omega)
      obtain ⟨v1, i1⟩ := valPow w hw (B - 1) (by omega) (by omega)
      obtain ⟨v2, i2⟩ := valPow w hw B (by omega) (by omega)
      have e1 : tw ((fmt w).f + (((B - 1 : Nat) : Int) - 1) + (fmt w).low) = tw (-1) := by congr 1; omega
      have e2 : tw ((fmt w).f + ((B : Int) - 1) + (fmt w).low) = tw 0 := by congr 1; omega
      rw [e1] at v1
      rw [e2] at v2
      have fp := (fmt w).pow_pos
      have m1 := r2Makew w hw false (B - 1) 0 (by omega) fp
      have m2 := r2Makew w hw false B 0 (by omega) fp
      rw [Nat.add_zero] at m1 m2
      have eB : wrap64 ((B : Int) - 1) = ((B - 1 : Nat) : Int) := by rw [w64_id (by omega) (by omega)]; omega
      have one : ∀ way, way = 1 ∨ way = 2 ∨ way = 3 ∨ way = 4 → ∃ s c : Int, Ev (fun k => sum_Sub.f k w ((mkW way w a : Nat) : Int) a) s ∧ Ev (fun k => r8_Cmp.f k w (whFarV w s) ((mkN w (B * 2 ^ (fmt w).f) false : Nat) : Int)) c ∧ c ≤ 0 := by
        intro way hway
        obtain ⟨D, d1, d2, _, d4, d5, d6⟩ := whFar way hway w hw a ha k2
        exact farE w hw _ a _ d6 ha d5 k2 i2 D (by rw [v2]; exact d2) d4 d1
      obtain ⟨D, d1, _, d3, d4, d5, d6⟩ := whFar 4 (by simp) w hw a ha k2
      obtain ⟨s4, c4, S4, C4, L4⟩ := farE w hw _ a _ d6 ha d5 k2 i1 D (by rw [v1]; exact d3 rfl) d4 d1
      obtain ⟨s1, c1, S1, C1, L1⟩ := one 1 (by simp)
      obtain ⟨s2, c2, S2, C2, L2⟩ := one 2 (by simp)
      obtain ⟨s3, c3, S3, C3, L3⟩ := one 3 (by simp)
      obtain ⟨k, hk⟩ := Ev.rounds (evAnd awake09 (evAnd (r2Open w hw a ha) (evAnd m1 (evAnd m2 (evAnd (nearE w hw a ha) (evAnd (ceilE w hw a ha) (evAnd (floorE w hw a ha) (evAnd (truncE w hw a ha) (evAnd S4 (evAnd S1 (evAnd S2 (evAnd S3 (evAnd C4 (evAnd C1 (evAnd C2 C3)))))))))))))))
      obtain ⟨g1, hk⟩ := evGet hk
      obtain ⟨g2, hk⟩ := evGet hk
      obtain ⟨g3, hk⟩ := evGet hk
      obtain ⟨g4, hk⟩ := evGet hk
      obtain ⟨g5, hk⟩ := evGet hk
      obtain ⟨g6, hk⟩ := evGet hk
      obtain ⟨g7, hk⟩ := evGet hk
      obtain ⟨g8, hk⟩ := evGet hk
      obtain ⟨g9, hk⟩ := evGet hk
      obtain ⟨g10, hk⟩ := evGet hk
      obtain ⟨g11, hk⟩ := evGet hk
      obtain ⟨g12, hk⟩ := evGet hk
      obtain ⟨g13, hk⟩ := evGet hk
      obtain ⟨g14, hk⟩ := evGet hk
      obtain ⟨g15, g16⟩ := evGet hk
      refine ⟨k, g1, .inr ⟨hw, kn, (opn w a).1, (opn w a).2.1, (opn w a).2.2.1, (opn w a).2.2.2, g2, .inr ⟨by omega, (B : Int), _, _, _, _, _, _, s1, s2, s3, s4, c1, c2, c3, c4, hB, ?_, g4, g5, g6, g7, g8, g9, g10, g11, g12, g13, g14, g15, g16, L4, L1, L2, L3⟩⟩⟩
      rw [eB]; exact g3
    · obtain ⟨k, hk⟩ := Ev.rounds (evAnd awake09 (r2Open w hw a ha))
      obtain ⟨g1, g2⟩ := evGet hk
      refine ⟨k, g1, .inr ⟨hw, kn, (opn w a).1, (opn w a).2.1, (opn w a).2.2.1, (opn w a).2.2.2, g2, .inl ?_⟩⟩
      rcases kinds w hw a with ⟨z1, z2⟩ | ⟨z0, z1, z2⟩ | ⟨z1, z2⟩ | ⟨z1, z2⟩
      · rw [z2] at k2; exact absurd (.inl rfl) k2
      · rw [z2] at k2; exact absurd (.inr rfl) k2
      · rw [z2]; exact (by decide : (1 : Int) < 2)
      · rw [z2]; exact (by decide : (1 : Int) < 3)
  · obtain ⟨k, hk⟩ := Ev.rounds awake09
    exact ⟨k, hk, .inl (by rw [known_f, decide_eq_false hw])⟩
end Go.Proofs.Ythdeeoallfbjmaa.Th
end
namespace Go.Proofs.Ythdeeoallfbjmaa.Pure
theorem WholeHalf : Go.Proofs.Ythdeeoallfbjmaa.PA.L09_WholeHalf.Pure := Go.Proofs.Ythdeeoallfbjmaa.Th.WholeHalfP
end Go.Proofs.Ythdeeoallfbjmaa.Pure
namespace Go.Proofs.Ythdeeoallfbjmaa.Facts
abbrev ch (n : Nat) : Char := Char.ofNat n
theorem words_word (w : List Char) (r : List Char) (h : w.all (fun c => c != ch 32) = true) : wordsSigns (w ++ ch 32 :: r) = w :: wordsSigns r := by
  induction w with
  | nil => rfl
  | cons c w ih =>
    rw [List.all_cons, Bool.and_eq_true] at h
    have hc : c ≠ ch 32 := bne_iff_ne.1 h.1
    rw [List.cons_append]
    rw [wordsSigns.eq_3 c _ (fun e => hc e), ih h.2]
def w1 : List Char := [ch 104, ch 97, ch 114, ch 110, ch 101, ch 115, ch 115]
def w2 : List Char := [ch 51, ch 57, ch 100, ch 53, ch 55, ch 99, ch 97, ch 57, ch 56, ch 97, ch 51, ch 53, ch 50, ch 57, ch 55, ch 99, ch 50, ch 97, ch 99, ch 101, ch 55, ch 101, ch 97, ch 48, ch 53, ch 101, ch 99, ch 102, ch 97, ch 51, ch 53, ch 50, ch 97, ch 54, ch 54, ch 98, ch 102, ch 53, ch 56, ch 48, ch 54, ch 99, ch 98, ch 55, ch 49, ch 48, ch 100, ch 57, ch 49, ch 49, ch 99, ch 48, ch 50, ch 53, ch 57, ch 97, ch 49, ch 55, ch 55, ch 55, ch 97, ch 48, ch 101, ch 50]
def w3 : List Char := [ch 99, ch 117, ch 116]
set_option maxRecDepth 100000 in
def tailSigns : List Char := [ch 97, ch 116, ch 32, ch 116, ch 114, ch 117, ch 110, ch 110, ch 105, ch 111, ch 110, ch 47, ch 116, ch 114, ch 117, ch 110, ch 110, ch 105, ch 111, ch 110, ch 108, ch 97, ch 119, ch 48, ch 57, ch 46, ch 87, ch 104, ch 111, ch 108, ch 101, ch 77, ch 97, ch 107, ch 101, ch 115, ch 32, ch 116, ch 114, ch 117, ch 110, ch 110, ch 105, ch 111, ch 110, ch 47, ch 116, ch 114, ch 117, ch 110, ch 110, ch 105, ch 111, ch 110, ch 108, ch 97, ch 119, ch 48, ch 57, ch 46, ch 87, ch 104, ch 111, ch 108, ch 101, ch 75, ch 101, ch 101, ch 112, ch 115, ch 32, ch 116, ch 114, ch 117, ch 110, ch 110, ch 105, ch 111, ch 110, ch 47, ch 116, ch 114, ch 117, ch 110, ch 110, ch 105, ch 111, ch 110, ch 108, ch 97, ch 119, ch 48, ch 57, ch 46, ch 87, ch 104, ch 111, ch 108, ch 101, ch 72, ch 97, ch 108, ch 102]
set_option maxRecDepth 100000 in
theorem head_list : Try.prog.initOrder.toList = w1 ++ ch 32 :: (w2 ++ ch 32 :: (w3 ++ ch 32 :: tailSigns)) :=
  (congrArg String.toList (show Try.prog.initOrder = String.ofList (w1 ++ ch 32 :: (w2 ++ ch 32 :: (w3 ++ ch 32 :: tailSigns))) from rfl)).trans String.toList_ofList
theorem words : ∃ rest, behindMainWord (wordsSigns Try.prog.initOrder.toList) = w3 :: rest := by
  refine ⟨wordsSigns tailSigns, ?_⟩
  rw [head_list, words_word w1 _ (by kernel_rfl), words_word w2 _ (by kernel_rfl), words_word w3 _ (by kernel_rfl)]
  generalize wordsSigns tailSigns = rest
  have e : ((w1 == "harness".toList || w1 == "ownmain".toList) && isSumSigns w2) = true := by kernel_rfl
  show (if ((w1 == "harness".toList || w1 == "ownmain".toList) && isSumSigns w2) = true then w3 :: rest else w1 :: w2 :: w3 :: rest) = w3 :: rest
  rw [if_pos e]
theorem c3 : (w3 == "gc".toList) = false ∧ (w3 == "spec".toList) = false ∧ (w3 == "cut".toList) = true ∧ (w3 == "carried".toList) = false ∧ (w3 == "finals".toList) = false := ⟨by kernel_rfl, by kernel_rfl, by kernel_rfl, by kernel_rfl, by kernel_rfl⟩
theorem strip (rest : List (List Char)) : stripLifts liftWords (w3 :: rest) = ([], w3 :: rest) := by
  have key : ∀ l : List String, l.all (fun o => !(w3 == o.toList)) = true → stripLifts l (w3 :: rest) = ([], w3 :: rest) := by
    intro l
    induction l with
    | nil => intro _; rfl
    | cons o l ih =>
      intro h
      rw [List.all_cons, Bool.and_eq_true] at h
      unfold stripLifts
      rw [if_neg (fun e => by have h1 := h.1; rw [e] at h1; cases h1)]
      exact ih h.2
  exact key liftWords (by kernel_rfl)
theorem make_of (P : Program) (h : ∃ rest, behindMainWord (wordsSigns P.initOrder.toList) = w3 :: rest) : P.make = some .cut := by
  obtain ⟨rest, h⟩ := h
  unfold Program.make
  rw [h]
  show (if (w3 == "gc".toList || w3 == "spec".toList) = true then some Make.whole else if (w3 == "cut".toList || (w3 == "finals".toList && rest.head? == some "cut".toList)) = true then some Make.cut else _) = some Make.cut
  rw [if_neg (by rw [c3.1, c3.2.1]; decide), if_pos (by rw [c3.2.2.1, Bool.true_or])]
set_option maxRecDepth 100000 in
theorem liftsFact : Try.prog.liftsFinal = false := by
  unfold Program.liftsFinal Program.headLifts
  rw [head_list]
  kernel_rfl
theorem doorFact : (!Try.prog.laysLater && !Try.prog.bearsReflect && Try.prog.doorFits []) = true := by kernel_rfl
theorem makeFact : Try.prog.make = some .cut := make_of _ words
theorem enter_of (P : Program) (h : ∃ rest, behindMainWord (wordsSigns P.initOrder.toList) = w3 :: rest) (d : (!P.laysLater && !P.bearsReflect && P.doorFits []) = true) : P.mayEnter = true := by
  obtain ⟨rest, h⟩ := h
  rw [Bool.and_eq_true, Bool.and_eq_true] at d
  have e : ((some w3 == some "cut".toList) : Bool) = true := by kernel_rfl
  unfold Program.mayEnter
  rw [h]
  show ((_ || _) || ((stripLifts liftWords (w3 :: rest)).2.head? == some "cut".toList && ((stripLifts liftWords (w3 :: rest)).1.contains "finals" || !P.laysLater) && ((stripLifts liftWords (w3 :: rest)).1.contains "reflectrows" || !P.bearsReflect) &&
      ((stripLifts liftWords (w3 :: rest)).1.contains "reflectrows" || !(stripLifts liftWords (w3 :: rest)).1.contains "leanrows") && P.doorFits (stripLifts liftWords (w3 :: rest)).1)) = true
  rw [strip, Bool.or_eq_true]
  refine .inr ?_
  rw [Bool.and_eq_true, Bool.and_eq_true, Bool.and_eq_true, Bool.and_eq_true, Bool.or_eq_true, Bool.or_eq_true]
  exact ⟨⟨⟨⟨e, .inr d.1.1⟩, .inr d.1.2⟩, rfl⟩, d.2⟩
theorem enterFact : Try.prog.mayEnter = true := enter_of _ words doorFact
end Go.Proofs.Ythdeeoallfbjmaa.Facts
