/- What the Go functions that the statement QuotientScale reaches compute, and the mathematics on it, in the order in which one leans on the other; for every input. -/
import Derived.Test.YtbpmnmceajmmcaaVQuotientScale0
import Derived.Test.YtbpmnmceajmmcaaMQuotientScale0
import Derived.Deep.RegionHeld3
import Derived.Test.YtbpmnmceajmmcaaMQuotientScale3
import Derived.Test.YtbpmnmceajmmcaaMQuotientScale4
import Derived.Test.YtbpmnmceajmmcaaMQuotientScale8
import Derived.Test.YtbpmnmceajmmcaaMQuotientScale6
import Derived.Test.YtbpmnmceajmmcaaMQuotientScale1
import Derived.Test.YtbpmnmceajmmcaaMQuotientScale5
import Derived.Test.YtbpmnmceajmmcaaMQuotientScale7
import Derived.Test.YtbpmnmceajmmcaaRows
import Derived.ProofKit
import Derived.JoinedOf
import Derived.KernelRfl
namespace Go.Proofs.Ytbpmnmceajmmcaa.PA
open Go.RowKit Go.Proofs.YtbpmnmceajmmcaaW.PrintWords Go.Proofs.YtbpmnmceajmmcaaW.PrintLast Go.Proofs.YtbpmnmceajmmcaaW.PrintMore
attribute [local go_sem] max2_int min2_int max_two min_two max_three min_three max_four min_four   -- for this text's walks alone
set_option linter.unusedVariables false
set_option linter.unusedSimpArgs false
set_option maxHeartbeats 8000000
set_option maxRecDepth 100000
def r1_Div.l0 : Nat → Int → List Int → List Int → List Int → Option (List Int × List Int)
 | 0, _, _, _, _ => none
 | k + 1, x8, x426000, x429000, x430000 => if x8 ≥ 0 then ((r1_Shl.f k x426000 x8).bind fun t432 => ((r1_Cmp.f k x430000 t432).bind fun t436 => (if t436 ≥ 0 then ((r1_Sub.f k x430000 t432).bind fun t437 => ((r1_Of.f k 1).bind fun t440 => ((r1_Shl.f k t440 x8).bind fun t443 => ((r1_Add.f k x429000 t443).bind fun t446 => (r1_Div.l0 k (wrap64 (x8 - 1)) x426000 t446 t437))))) else (r1_Div.l0 k (wrap64 (x8 - 1)) x426000 x429000 x430000)))) else (some (x429000, x430000))
def r1_Div.f (k : Nat) (l0_0 : List Int) (l1_0 : List Int) : Option (List Int × List Int) := (r1_Len.f k l0_0).bind fun t430 => ((r1_Len.f k l1_0).bind fun t431 => (r1_Div.l0 k (wrap64 (t430 - t431)) l1_0 ([] : List Int) l0_0))
theorem r1_Div.mono_l : ∀ k, (∀ y0 y1 y2 y3, LeO (r1_Div.l0 k y0 y1 y2 y3) (r1_Div.l0 (k + 1) y0 y1 y2 y3))
 | 0 => fun _ _ _ _ r h => by simp [r1_Div.l0] at h
 | k + 1 => by
  have ih0 := r1_Div.mono_l k
  ·intro y0 y1 y2 y3
   unfold r1_Div.l0
   repeat' first
   | (with_reducible exact ih0 _ _ _ _)
   | (with_reducible exact r1_Add.mono _ _ _)
   | (with_reducible exact r1_Cmp.mono _ _ _)
   | (with_reducible exact r1_Len.mono _ _)
   | (with_reducible exact r1_Of.mono _ _)
   | (with_reducible exact r1_Shl.mono _ _ _)
   | (with_reducible exact r1_Sub.mono _ _ _)
   | (with_reducible exact LeO.refl _)
   | (with_reducible exact LeO.none _)
   | (with_reducible refine LeO.ite ?_ ?_)
   | (with_reducible refine LeO.bind ?_ (fun _ => ?_))
   | exact ih0 _ _ _ _
   | exact r1_Add.mono _ _ _
   | exact r1_Cmp.mono _ _ _
   | exact r1_Len.mono _ _
   | exact r1_Of.mono _ _
   | exact r1_Shl.mono _ _ _
   | exact r1_Sub.mono _ _ _
   | exact LeO.none _
   | refine LeO.ite ?_ ?_
   | refine LeO.bind ?_ (fun _ => ?_)
theorem r1_Div.mono : ∀ a0 a1 k, LeO (r1_Div.f k a0 a1) (r1_Div.f (k + 1) a0 a1) := by
 intro a0 a1 k
 have ih0 := r1_Div.mono_l k
 unfold r1_Div.f
 repeat' first
   | (with_reducible exact ih0 _ _ _ _)
   | (with_reducible exact r1_Add.mono _ _ _)
   | (with_reducible exact r1_Cmp.mono _ _ _)
   | (with_reducible exact r1_Len.mono _ _)
   | (with_reducible exact r1_Of.mono _ _)
   | (with_reducible exact r1_Shl.mono _ _ _)
   | (with_reducible exact r1_Sub.mono _ _ _)
   | (with_reducible exact LeO.refl _)
   | (with_reducible exact LeO.none _)
   | (with_reducible refine LeO.ite ?_ ?_)
   | (with_reducible refine LeO.bind ?_ (fun _ => ?_))
   | exact ih0 _ _ _ _
   | exact r1_Add.mono _ _ _
   | exact r1_Cmp.mono _ _ _
   | exact r1_Len.mono _ _
   | exact r1_Of.mono _ _
   | exact r1_Shl.mono _ _ _
   | exact r1_Sub.mono _ _ _
   | exact LeO.none _
   | refine LeO.ite ?_ ?_
   | refine LeO.bind ?_ (fun _ => ?_)
-- IMPORT Derived.Deep.RegionHeld3
-- IMPORT Derived.Test.YtbpmnmceajmmcaaNr
theorem Nr.len (k : Nat) (v : Value) (l : List Int) (r : Int) (w : World) (n : Nr.Nr w v l) (h : r1_Len.f k l = some r) : Calls Try.prog 96 #[.agg #[v]] w fun e w' => e = .returned (.int .i64 r) ∧ Below w.heap.size w w' := by
 obtain ⟨A, c, rfl, hc, hC⟩ := n
 exact r1_Len.calls k A c l r w hC hc h
theorem Nr.cmp (k : Nat) (v v1 : Value) (l l1 : List Int) (r : Int) (w : World) (n : Nr.Nr w v l) (n1 : Nr.Nr w v1 l1) (h : r1_Cmp.f k l l1 = some r) : Calls Try.prog 113 #[.agg #[v], .agg #[v1]] w fun e w' => e = .returned (.int .i64 r) ∧ Below w.heap.size w w' := by
 obtain ⟨A, c, rfl, hc, hC⟩ := n
 obtain ⟨A1, c1, rfl, hc1, hC1⟩ := n1
 exact r1_Cmp.calls k A c l A1 c1 l1 r w hC hc hC1 hc1 h
theorem Nr.outR {f : Nat} {xs : Array Value} {w : World} {r : List Int} (h : Calls Try.prog f xs w fun e w' => ∃ v0_ : Value, e = .returned (.agg #[v0_]) ∧ Kd.R (Kd.int .u64) 22 w' w.heap.size (fun _ => True) v0_ r ∧ Below w.heap.size w w') : Calls Try.prog f xs w fun e w' => ∃ A c, e = .returned (.agg #[.slice A r.length c]) ∧ Nr.Ow 22 w.heap.size w' (.slice A r.length c) r ∧ Below w.heap.size w w' := by
 refine h.mono ?_
 rintro e w' ⟨v0, rfl, hR, hb⟩
 obtain ⟨A, c, rfl, _⟩ := Nr.Nr.of_R hR
 exact ⟨A, c, rfl, Nr.Ow.of_R hR (Nat.le_refl _), hb⟩
theorem Nr.shl (k : Nat) (v : Value) (l : List Int) (a : Int) (r : List Int) (w : World) (n : Nr.Nr w v l) (h : r1_Shl.f k l a = some r) : Calls Try.prog 78 #[.agg #[v], .int .i64 a] w fun e w' => ∃ A c, e = .returned (.agg #[.slice A r.length c]) ∧ Nr.Ow 22 w.heap.size w' (.slice A r.length c) r ∧ Below w.heap.size w w' := by
 obtain ⟨A, c, rfl, hc, hC⟩ := n
 exact Nr.outR (r1_Shl.calls k A c l a r w hC hc h)
theorem Nr.sub (k : Nat) (v v1 : Value) (l l1 : List Int) (r : List Int) (w : World) (n : Nr.Nr w v l) (n1 : Nr.Nr w v1 l1) (h : r1_Sub.f k l l1 = some r) : Calls Try.prog 118 #[.agg #[v], .agg #[v1]] w fun e w' => ∃ A c, e = .returned (.agg #[.slice A r.length c]) ∧ Nr.Ow 22 w.heap.size w' (.slice A r.length c) r ∧ Below w.heap.size w w' := by
 obtain ⟨A, c, rfl, hc, hC⟩ := n
 obtain ⟨A1, c1, rfl, hc1, hC1⟩ := n1
 exact Nr.outR (r1_Sub.calls k A c l A1 c1 l1 r w hC hc hC1 hc1 h)
theorem Nr.add (k : Nat) (v v1 : Value) (l l1 : List Int) (r : List Int) (w : World) (n : Nr.Nr w v l) (n1 : Nr.Nr w v1 l1) (h : r1_Add.f k l l1 = some r) : Calls Try.prog 80 #[.agg #[v], .agg #[v1]] w fun e w' => ∃ A c, e = .returned (.agg #[.slice A r.length c]) ∧ Nr.Ow 22 w.heap.size w' (.slice A r.length c) r ∧ Below w.heap.size w w' := by
 obtain ⟨A, c, rfl, hc, hC⟩ := n
 obtain ⟨A1, c1, rfl, hc1, hC1⟩ := n1
 exact Nr.outR (r1_Add.calls k A c l A1 c1 l1 r w hC hc hC1 hc1 h)
theorem Nr.of (k : Nat) (a : Int) (r : List Int) (w : World) (h : r1_Of.f k a = some r) : Calls Try.prog 62 #[.int .u64 a] w fun e w' => ∃ A c, e = .returned (.agg #[.slice A r.length c]) ∧ Nr.Ow 22 w.heap.size w' (.slice A r.length c) r ∧ Below w.heap.size w w' :=
 Nr.outR (r1_Of.calls k a r w h)
theorem Nr.lower {e b b' : Nat} {w : World} {v : Value} {l : List Int} (h : Nr.Ow e b w v l) (hb : b' ≤ b) : Nr.Ow e b' w v l := Nr.Ow.of_R h.out hb
theorem Nr.fresh {P : Nat → Prop} {e e' base : Nat} {w0 w1 : World} {vq vr : Value} {lq lr : List Int} (hq : Nr.Ow e base w0 vq lq) (hr : Nr.Ow e' w0.heap.size w1 vr lr) (hb : base ≤ w0.heap.size) : Nr.At (fun k => (P k ∨ base ≤ k) ∧ some k ≠ vq.ownBlock) vr :=
 (Nr.At.of_R hr.out).mono fun k hk => ⟨Or.inr (Nat.le_trans hb hk.1), fun e => Nat.lt_irrefl _ (Nat.lt_of_lt_of_le (Kd.R_lt hq.out k e.symm) hk.1)⟩
theorem Nr.atlt {w : World} {v : Value} {l : List Int} (h : Nr.Nr w v l) : Nr.At (fun k => k < w.heap.size) v := by
 obtain ⟨A, c, hv, hl, h1, h2, h3⟩ := h
 intro ad n c' e hn
 rw [hv] at e
 injection e with e1 e2 e3
 subst e2
 obtain ⟨ad', e4, h4⟩ := h3 hn
 rw [e1] at e4
 injection e4 with e4
 subst e4
 obtain ⟨x, hx⟩ : ∃ x, l[0]? = some x := ⟨l[0]'hn, List.getElem?_eq_getElem hn⟩
 obtain ⟨cs, k1, k2, k3⟩ := h4 0 x hx
 have k2' : cs = [Value.int .u64 x] := k2
 have := World.block_lt_of_cell? w _ (k3 0 (.int .u64 x) (by rw [k2']; rfl))
 rwa [add_block] at this
theorem Nr.other {P : Nat → Prop} {e' : Nat} {w0 w1 : World} {vq vq' vr : Value} {lq' lr : List Int} (ha : Nr.At (fun k => P k ∧ some k ≠ vq.ownBlock) vr) (hn : Nr.Nr w0 vr lr) (hq : Nr.Ow e' w0.heap.size w1 vq' lq') : Nr.At (fun k => P k ∧ some k ≠ vq'.ownBlock) vr := fun ad n c e hn' =>
 ⟨(ha ad n c e hn').1, fun e2 => Nat.lt_irrefl _ (Nat.lt_of_lt_of_le (Nr.atlt hn ad n c e hn') (Kd.R_base hq.out _ e2.symm))⟩
theorem Nr.undrew {w w1 : World} (h : Below w.drew.heap.size w.drew w1) : Below w.heap.size w w1 := below_step (below_drew1 (Below.refl _ _)) h
theorem Nr.unalloc {w w1 : World} {o : Obj} (h : Below (w.alloc o).heap.size (w.alloc o) w1) : Below w.heap.size w w1 := below_step (below_alloc (Below.refl _ _) o) h
theorem Nr.newlt {w w1 : World} {o : Obj} (h : Below (w.alloc o).heap.size (w.alloc o) w1) : w.heap.size < w1.heap.size := by
 have := h.size
 simp at this
 omega
theorem Nr.newcell {w w1 : World} {v : Value} {ty : Nat} (h : Below (w.alloc (.cells #[v] ty)).heap.size (w.alloc (.cells #[v] ty)) w1) : w1.cell? ⟨w.heap.size, 0, none⟩ = some v := by
 rw [(Nr.bcell h).1 _ _ (by simp)]
 exact (World.cell?_alloc_new _ _ _ _).trans rfl
theorem r1_Div.calls (k : Nat) (P0_0_ : Nat → Prop) (A0_0 : Option Addr) (c0_0 : Nat) (l0_0 : List Int) (A1_0 : Option Addr) (c1_0 : Nat) (l1_0 : List Int) (r1 : List Int) (r2 : List Int) (w : World) (hs0_0 : Kd.V (Kd.int .u64) 22 w w.heap.size (fun k_ => P0_0_ k_) (.slice A0_0 l0_0.length c0_0) l0_0) (hr1_0 : Kd.C (Kd.int .u64) w A1_0 l1_0.length l1_0) (hc1_0 : l1_0.length ≤ c1_0) (h : r1_Div.f k l0_0 l1_0 = some (r1, r2)) :
  Calls Try.prog 115 #[.agg #[.slice A0_0 l0_0.length c0_0], .agg #[.slice A1_0 l1_0.length c1_0]] w fun e w' => ∃ v0_ v1_ : Value, e = .returned (.tuple #[.agg #[v0_], .agg #[v1_]]) ∧ Kd.R (Kd.int .u64) 22 w' w.heap.size (fun k_ => (w.heap.size ≤ k_)) v0_ r1 ∧ Kd.V (Kd.int .u64) 22 w' w.heap.size (fun k_ => (P0_0_ k_ ∨ w.heap.size ≤ k_) ∧ some k_ ≠ (v0_ : Value).ownBlock) v1_ r2 ∧ Below w.heap.size w w' := by
 obtain ⟨t0, A0, H⟩ := ob_ h
 obtain ⟨t1, A1, H⟩ := ob_ H
 have L0 := A_ A0;have L1 := A_ A1;have HL := A_ H;clear h A0 A1 H
 have NA := Nr.Nr.of_V hs0_0
 have AA := A_ (Nr.At.of_V hs0_0)
 have NB := Nr.Nr.of_C hc1_0 hr1_0
 clear hs0_0 hr1_0
 go_enter Try.func115, Try.ntmps115
 go_wp2
 go_region_held3 (fun w' => w'.cell? ⟨w.heap.size, 0, none⟩ = some (.slice A0_0 l0_0.length c0_0) ∧ w'.cell? ⟨w.heap.size + 1, 0, none⟩ = some (.slice A1_0 l1_0.length c1_0) ∧ w'.cell? ⟨w.heap.size + 2, 0, none⟩ = some (.slice none 0 0) ∧ w'.cell? ⟨w.heap.size + 3, 0, none⟩ = some (.slice none 0 0) ∧ w'.cell? ⟨w.heap.size + 4, 0, none⟩ = some (.slice none 0 0) ∧ w'.cell? ⟨w.heap.size + 5, 0, none⟩ = some (.slice A0_0 l0_0.length c0_0) ∧ w'.frozen? ⟨w.heap.size + 2, 0, none⟩ = false ∧ w'.frozen? ⟨w.heap.size + 3, 0, none⟩ = false ∧ w'.frozen? ⟨w.heap.size + 4, 0, none⟩ = false ∧ w'.frozen? ⟨w.heap.size + 5, 0, none⟩ = false ∧ w.heap.size + 5 < w'.heap.size ∧ Nr.Nr w' (.slice A0_0 l0_0.length c0_0) l0_0 ∧ Nr.Nr w' (.slice A1_0 l1_0.length c1_0) l1_0 ∧ Nr.Ow 22 w.heap.size w' (.slice none 0 0) [] ∧ Below w.heap.size w w')
  (((try go_split_ands); (try dsimp only); (repeat' apply And.intro) <;> first | assumption | (rw [hc _ _ (by omega)]; assumption) | (rw [hf _ _ (by omega)]; assumption) | (rw [Nr.al (by omega)]; assumption) | (rw [Nr.alf (by omega)]; assumption) | (apply Nr.lt_al; assumption) | (have := hb.size; omega) | (refine Nr.Nr.below ?_ hb; assumption) | (apply Nr.Nr.drew; (repeat apply Nr.Nr.alloc); assumption) | (apply Nr.Nr.alloc; assumption) | (apply Nr.Nr.drew; assumption) | (exact Nr.Ow.nil _ _ _) | (refine Nr.Ow.below ?_ hb; assumption) | (apply Nr.Ow.alloc; assumption) | (apply Nr.Ow.drew; assumption) | (refine below_step ?_ hb; assumption) | (simp [go_sem, World.cell?_alloc_past]; done) | (repeat (first | assumption | exact Below.refl _ _ | apply below_drew1 | apply below_alloc | (refine below_set ?_ (by omega))))))
  ((first | (go_at_call 96; (try go_split_ands); refine (Nr.len k _ l0_0 t0 _ ?_ L0.out).mono ?_; (assumption); rintro e w1 ⟨rfl, hb⟩; obtain ⟨hc, hf⟩ := Nr.bcell hb) | (go_at_call 96; (try go_split_ands); refine (Nr.len k _ l1_0 t1 _ ?_ L1.out).mono ?_; (assumption); rintro e w2 ⟨rfl, hb⟩; obtain ⟨hc, hf⟩ := Nr.bcell hb)))
 rename_i hH
 obtain ⟨q0, q1, q2, q3, q4, q5, f2, f3, f4, f5, hz, nr, nb, ow, bl⟩ := hH
 (repeat clear hc hf)
 (repeat clear hb)
 go_wp2
 iterate 30 (rename_i left_; clear left_)
 rename_i hK
 clear H
 have at0 : Nr.At (fun k_ => (P0_0_ k_ ∨ w.heap.size ≤ k_) ∧ some k_ ≠ (Value.slice none 0 0).ownBlock) (.slice A0_0 l0_0.length c0_0) := AA.out.mono fun k hk => ⟨Or.inl hk, fun e => by cases e⟩
 go_loopg [8] k (fun kq v8 w' => ∃ (x : Int) (Aq : Option Addr) (cq : Nat) (lq : List Int) (Ar : Option Addr) (cr : Nat) (lr : List Int), v8 = .int .i64 x ∧ Aside0 (r1_Div.l0 kq x l1_0 lq lr = some (r1, r2)) ∧ Aside0 (w'.cell? ⟨w.heap.size + 1, 0, none⟩ = some (.slice A1_0 l1_0.length c1_0) ∧ w'.cell? ⟨w.heap.size + 2, 0, none⟩ = some (.slice none 0 0) ∧ w'.cell? ⟨w.heap.size + 3, 0, none⟩ = some (.slice none 0 0) ∧ w'.cell? ⟨w.heap.size + 4, 0, none⟩ = some (.slice Aq lq.length cq) ∧ w'.cell? ⟨w.heap.size + 5, 0, none⟩ = some (.slice Ar lr.length cr) ∧ w'.frozen? ⟨w.heap.size + 2, 0, none⟩ = false ∧ w'.frozen? ⟨w.heap.size + 3, 0, none⟩ = false ∧ w'.frozen? ⟨w.heap.size + 4, 0, none⟩ = false ∧ w'.frozen? ⟨w.heap.size + 5, 0, none⟩ = false ∧ w.heap.size + 5 < w'.heap.size ∧ Nr.Nr w' (.slice A1_0 l1_0.length c1_0) l1_0 ∧ Nr.Nr w' (.slice Ar lr.length cr) lr ∧ Nr.Ow 22 (w.heap.size + 6) w' (.slice Aq lq.length cq) lq ∧ Nr.At (fun k_ => (P0_0_ k_ ∨ w.heap.size ≤ k_) ∧ some k_ ≠ (Value.slice Aq lq.length cq).ownBlock) (.slice Ar lr.length cr) ∧ Below w.heap.size w w'))
 case atStart => exact ⟨_, none, 0, [], A0_0, c0_0, l0_0, by rw [i64_w], HL, q1, q2, q3, q4, q5, f2, f3, f4, f5, hz, nb, nr, Nr.Ow.nil _ _ _, at0, bl⟩
 case round =>
  (repeat clear q0 q1 q2 q3 q4 q5 f2 f3 f4 f5 hz nr ow bl at0 nb)
  obtain ⟨x, Aq, cq, lq, Ar, cr, lr, rfl, E, F⟩ := hrel
  obtain ⟨q1, q2, q3, q4, q5, f2, f3, f4, f5, hz, nb, nr, ow, at0, bl⟩ := F.out
  clear F HL
  obtain _ | kr := gk
  ·cases E.out
  have E := E.out
  unfold r1_Div.l0 at E
  by_cases hx : x ≥ 0
  ·rw [if_pos hx] at E
   have c0 : decide (0 ≤ x) = true := decide_eq_true hx
   obtain ⟨t, T0, E⟩ := ob_ E
   obtain ⟨u, T1, E⟩ := ob_ E
   replace T0 := A_ T0;replace T1 := A_ T1;replace hx := A_ hx
   by_cases hu : u ≥ 0
   ·rw [if_pos hu] at E
    obtain ⟨s, S0, E⟩ := ob_ E
    obtain ⟨o1, S1, E⟩ := ob_ E
    obtain ⟨o2, S2, E⟩ := ob_ E
    obtain ⟨q', S3, E⟩ := ob_ E
    replace S0 := A_ S0;replace S1 := A_ S1;replace S2 := A_ S2;replace S3 := A_ S3;have EE := A_ E;clear E
    have cu : decide (0 ≤ u) = true := decide_eq_true hu
    clear hu
    go_wp2_with (first | (go_at_call 78; refine (Nr.shl kr _ l1_0 x t _ nb T0.out).mono ?_; rintro e w1 ⟨At, ct, rfl, ot, hb⟩; (try replace hb := Nr.undrew hb); obtain ⟨hc, hf⟩ := Nr.bcell hb; have hs := hb.size; replace q1 := (hc _ _ (by omega)).trans q1; replace q2 := (hc _ _ (by omega)).trans q2; replace q3 := (hc _ _ (by omega)).trans q3; replace q4 := (hc _ _ (by omega)).trans q4; replace q5 := (hc _ _ (by omega)).trans q5; replace f2 := (hf _ _ (by omega)).trans f2; replace f3 := (hf _ _ (by omega)).trans f3; replace f4 := (hf _ _ (by omega)).trans f4; replace f5 := (hf _ _ (by omega)).trans f5; replace nb := Nr.Nr.below nb hb; replace nr := Nr.Nr.below nr hb; replace ow := Nr.Ow.below ow hb; replace bl := below_step bl hb; replace hz := Nat.lt_of_lt_of_le hz hs; clear hc hf hs hb) | (go_at_call 113; refine (Nr.cmp kr _ _ lr t u _ (Nr.Nr.alloc nr _) (Nr.Nr.alloc ot.nr _) T1.out).mono ?_; rintro e w2 ⟨rfl, hb⟩; have tq := Nr.newcell hb; have ht := Nr.newlt hb; replace hb := Nr.unalloc hb; (try replace hb := Nr.undrew hb); obtain ⟨hc, hf⟩ := Nr.bcell hb; have hs := hb.size; replace q1 := (hc _ _ (by omega)).trans q1; replace q2 := (hc _ _ (by omega)).trans q2; replace q3 := (hc _ _ (by omega)).trans q3; replace q4 := (hc _ _ (by omega)).trans q4; replace q5 := (hc _ _ (by omega)).trans q5; replace f2 := (hf _ _ (by omega)).trans f2; replace f3 := (hf _ _ (by omega)).trans f3; replace f4 := (hf _ _ (by omega)).trans f4; replace f5 := (hf _ _ (by omega)).trans f5; replace nb := Nr.Nr.below nb hb; replace nr := Nr.Nr.below nr hb; replace ow := Nr.Ow.below ow hb; replace ot := Nr.Ow.below ot hb; replace bl := below_step bl hb; replace hz := Nat.lt_of_lt_of_le hz hs; clear hc hf hs hb) | (go_at_call 118; refine (Nr.sub kr _ _ lr t s _ nr ot.nr S0.out).mono ?_; rintro e w3 ⟨As, cs, rfl, os, hb⟩; have at1 := Nr.fresh (P := P0_0_) (Nr.lower ow (b' := w.heap.size) (by omega)) os (by omega); replace os := Nr.lower os (b' := w.heap.size + 6) (by omega); (try replace hb := Nr.undrew hb); obtain ⟨hc, hf⟩ := Nr.bcell hb; have hs := hb.size; replace q1 := (hc _ _ (by omega)).trans q1; replace q2 := (hc _ _ (by omega)).trans q2; replace q3 := (hc _ _ (by omega)).trans q3; replace q4 := (hc _ _ (by omega)).trans q4; replace q5 := (hc _ _ (by omega)).trans q5; replace f2 := (hf _ _ (by omega)).trans f2; replace f3 := (hf _ _ (by omega)).trans f3; replace f4 := (hf _ _ (by omega)).trans f4; replace f5 := (hf _ _ (by omega)).trans f5; replace nb := Nr.Nr.below nb hb; replace nr := Nr.Nr.below nr hb; replace ow := Nr.Ow.below ow hb; replace ot := Nr.Ow.below ot hb; replace bl := below_step bl hb; replace hz := Nat.lt_of_lt_of_le hz hs; clear hc hf hs hb))
    generalize hW : World.setCell _ _ _ = w4
    have hz4 : w4.heap.size = w3.heap.size := by rw [← hW]; simp
    have hc : ∀ b, b ≠ w.heap.size + 5 → w4.cell? ⟨b, 0, none⟩ = w3.cell? ⟨b, 0, none⟩ := fun b hb => by rw [← hW]; exact World.cell?_setCell_far _ _ _ _ (fun e => hb e.symm)
    have hf : ∀ b, w4.frozen? ⟨b, 0, none⟩ = w3.frozen? ⟨b, 0, none⟩ := fun b => by rw [← hW]; exact World.frozen?_setCell _ _ _ _
    have hi : Nr.IsRow (w3.cell? ⟨w.heap.size + 5, 0, none⟩) := by rw [q5]; exact Nr.IsRow.slice _ _ _
    replace q5 : w4.cell? ⟨w.heap.size + 5, 0, none⟩ = some (.slice As s.length cs) := by rw [← hW]; exact World.cell?_setCell_same _ _ _ q5
    replace q1 := (hc _ (by omega)).trans q1
    replace q2 := (hc _ (by omega)).trans q2
    replace q3 := (hc _ (by omega)).trans q3
    replace q4 := (hc _ (by omega)).trans q4
    replace f2 := (hf _).trans f2
    replace f3 := (hf _).trans f3
    replace f4 := (hf _).trans f4
    replace f5 := (hf _).trans f5
    replace nb : Nr.Nr w4 (.slice A1_0 l1_0.length c1_0) l1_0 := by rw [← hW]; exact Nr.Nr.set nb _ hi
    replace ow : Nr.Ow 22 (w.heap.size + 6) w4 (.slice Aq lq.length cq) lq := by rw [← hW]; exact Nr.Ow.set ow _ (fun e => by have h6 : _ ≤ w.heap.size + 5 := Kd.R_base ow.out _ e; omega)
    replace os : Nr.Ow 22 (w.heap.size + 6) w4 (.slice As s.length cs) s := by rw [← hW]; exact Nr.Ow.set os _ (fun e => by have h6 : _ ≤ w.heap.size + 5 := Kd.R_base os.out _ e; omega)
    replace bl : Below w.heap.size w w4 := by rw [← hW]; exact below_set bl (by omega)
    replace hz : w.heap.size + 5 < w4.heap.size := by omega
    clear hW hc hf hi hz4
    replace nr := os.nr
    clear os
    go_region_with (first | (go_at_call 62; refine (Nr.of kr 1 o1 _ S1.out).mono ?_; rintro e w5 ⟨Ao, co, rfl, oo, hb⟩; (try replace hb := Nr.undrew hb); obtain ⟨hc, hf⟩ := Nr.bcell hb; have hs := hb.size; replace q1 := (hc _ _ (by omega)).trans q1; replace q2 := (hc _ _ (by omega)).trans q2; replace q3 := (hc _ _ (by omega)).trans q3; replace q4 := (hc _ _ (by omega)).trans q4; replace q5 := (hc _ _ (by omega)).trans q5; replace f2 := (hf _ _ (by omega)).trans f2; replace f3 := (hf _ _ (by omega)).trans f3; replace f4 := (hf _ _ (by omega)).trans f4; replace f5 := (hf _ _ (by omega)).trans f5; replace nb := Nr.Nr.below nb hb; replace nr := Nr.Nr.below nr hb; replace ow := Nr.Ow.below ow hb; replace bl := below_step bl hb; replace hz := Nat.lt_of_lt_of_le hz hs; clear hc hf hs hb) | (go_at_call 78; refine (Nr.shl kr _ o1 x o2 _ oo.nr S2.out).mono ?_; rintro e w6 ⟨Ap, cp, rfl, op, hb⟩; (try replace hb := Nr.undrew hb); obtain ⟨hc, hf⟩ := Nr.bcell hb; have hs := hb.size; replace q1 := (hc _ _ (by omega)).trans q1; replace q2 := (hc _ _ (by omega)).trans q2; replace q3 := (hc _ _ (by omega)).trans q3; replace q4 := (hc _ _ (by omega)).trans q4; replace q5 := (hc _ _ (by omega)).trans q5; replace f2 := (hf _ _ (by omega)).trans f2; replace f3 := (hf _ _ (by omega)).trans f3; replace f4 := (hf _ _ (by omega)).trans f4; replace f5 := (hf _ _ (by omega)).trans f5; replace nb := Nr.Nr.below nb hb; replace nr := Nr.Nr.below nr hb; replace ow := Nr.Ow.below ow hb; replace oo := Nr.Ow.below oo hb; replace bl := below_step bl hb; replace hz := Nat.lt_of_lt_of_le hz hs; clear hc hf hs hb) | (go_at_call 80; refine (Nr.add kr _ _ lq o2 q' _ ow.nr op.nr S3.out).mono ?_; rintro e w7 ⟨Az, cz, rfl, oz, hb⟩; have at2 := Nr.other at1 nr oz; have oz := Nr.lower oz (b' := w.heap.size + 6) (by omega); (try replace hb := Nr.undrew hb); obtain ⟨hc, hf⟩ := Nr.bcell hb; have hs := hb.size; replace q1 := (hc _ _ (by omega)).trans q1; replace q2 := (hc _ _ (by omega)).trans q2; replace q3 := (hc _ _ (by omega)).trans q3; replace q4 := (hc _ _ (by omega)).trans q4; replace q5 := (hc _ _ (by omega)).trans q5; replace f2 := (hf _ _ (by omega)).trans f2; replace f3 := (hf _ _ (by omega)).trans f3; replace f4 := (hf _ _ (by omega)).trans f4; replace f5 := (hf _ _ (by omega)).trans f5; replace nb := Nr.Nr.below nb hb; replace nr := Nr.Nr.below nr hb; replace ow := Nr.Ow.below ow hb; replace bl := below_step bl hb; replace hz := Nat.lt_of_lt_of_le hz hs; clear hc hf hs hb))
    all_goals (
     generalize hW : World.setCell _ _ _ = w8
     have hz4 : w8.heap.size = w7.heap.size := by rw [← hW]; simp
     have hc : ∀ b, b ≠ w.heap.size + 4 → w8.cell? ⟨b, 0, none⟩ = w7.cell? ⟨b, 0, none⟩ := fun b hb => by rw [← hW]; exact World.cell?_setCell_far _ _ _ _ (fun e => hb e.symm)
     have hf : ∀ b, w8.frozen? ⟨b, 0, none⟩ = w7.frozen? ⟨b, 0, none⟩ := fun b => by rw [← hW]; exact World.frozen?_setCell _ _ _ _
     have hi : Nr.IsRow (w7.cell? ⟨w.heap.size + 4, 0, none⟩) := by rw [q4]; exact Nr.IsRow.slice _ _ _
     replace q4 : w8.cell? ⟨w.heap.size + 4, 0, none⟩ = some (.slice Az q'.length cz) := by rw [← hW]; exact World.cell?_setCell_same _ _ _ q4
     replace q1 := (hc _ (by omega)).trans q1
     replace q2 := (hc _ (by omega)).trans q2
     replace q3 := (hc _ (by omega)).trans q3
     replace q5 := (hc _ (by omega)).trans q5
     replace f2 := (hf _).trans f2
     replace f3 := (hf _).trans f3
     replace f4 := (hf _).trans f4
     replace f5 := (hf _).trans f5
     replace nb : Nr.Nr w8 (.slice A1_0 l1_0.length c1_0) l1_0 := by rw [← hW]; exact Nr.Nr.set nb _ hi
     replace nr : Nr.Nr w8 (.slice As s.length cs) s := by rw [← hW]; exact Nr.Nr.set nr _ hi
     replace oz : Nr.Ow 22 (w.heap.size + 6) w8 (.slice Az q'.length cz) q' := by rw [← hW]; exact Nr.Ow.set oz _ (fun e => by have h6 : _ ≤ w.heap.size + 4 := Kd.R_base oz.out _ e; omega)
     replace bl : Below w.heap.size w w8 := by rw [← hW]; exact below_set bl (by omega)
     replace hz : w.heap.size + 5 < w8.heap.size := by omega
     clear hW hc hf hi hz4
     go_wp2
     go_roundg kr
     case measure => omega
     case rel => exact ⟨_, Az, cz, q', As, cs, s, rfl, EE, ⟨q1, q2, q3, q4, q5, f2, f3, f4, f5, hz, nb, nr, oz, at2, bl⟩⟩)
   ·rw [if_neg hu] at E
    have EE := A_ E;clear E
    have cu : decide (0 ≤ u) = false := decide_eq_false hu
    clear hu
    go_wp2_with (first | (go_at_call 78; refine (Nr.shl kr _ l1_0 x t _ nb T0.out).mono ?_; rintro e w1 ⟨At, ct, rfl, ot, hb⟩; (try replace hb := Nr.undrew hb); obtain ⟨hc, hf⟩ := Nr.bcell hb; have hs := hb.size; replace q1 := (hc _ _ (by omega)).trans q1; replace q2 := (hc _ _ (by omega)).trans q2; replace q3 := (hc _ _ (by omega)).trans q3; replace q4 := (hc _ _ (by omega)).trans q4; replace q5 := (hc _ _ (by omega)).trans q5; replace f2 := (hf _ _ (by omega)).trans f2; replace f3 := (hf _ _ (by omega)).trans f3; replace f4 := (hf _ _ (by omega)).trans f4; replace f5 := (hf _ _ (by omega)).trans f5; replace nb := Nr.Nr.below nb hb; replace nr := Nr.Nr.below nr hb; replace ow := Nr.Ow.below ow hb; replace bl := below_step bl hb; replace hz := Nat.lt_of_lt_of_le hz hs; clear hc hf hs hb) | (go_at_call 113; refine (Nr.cmp kr _ _ lr t u _ (Nr.Nr.alloc nr _) (Nr.Nr.alloc ot.nr _) T1.out).mono ?_; rintro e w2 ⟨rfl, hb⟩; have tq := Nr.newcell hb; have ht := Nr.newlt hb; replace hb := Nr.unalloc hb; (try replace hb := Nr.undrew hb); obtain ⟨hc, hf⟩ := Nr.bcell hb; have hs := hb.size; replace q1 := (hc _ _ (by omega)).trans q1; replace q2 := (hc _ _ (by omega)).trans q2; replace q3 := (hc _ _ (by omega)).trans q3; replace q4 := (hc _ _ (by omega)).trans q4; replace q5 := (hc _ _ (by omega)).trans q5; replace f2 := (hf _ _ (by omega)).trans f2; replace f3 := (hf _ _ (by omega)).trans f3; replace f4 := (hf _ _ (by omega)).trans f4; replace f5 := (hf _ _ (by omega)).trans f5; replace nb := Nr.Nr.below nb hb; replace nr := Nr.Nr.below nr hb; replace ow := Nr.Ow.below ow hb; replace ot := Nr.Ow.below ot hb; replace bl := below_step bl hb; replace hz := Nat.lt_of_lt_of_le hz hs; clear hc hf hs hb))
    go_roundg kr
    case measure => omega
    case rel => exact ⟨_, Aq, cq, lq, Ar, cr, lr, rfl, EE, ⟨q1, q2, q3, q4, q5, f2, f3, f4, f5, hz, nb, nr, ow, at0, bl⟩⟩
  ·rw [if_neg hx] at E
   have c0 : decide (0 ≤ x) = false := decide_eq_false hx
   injection E with E
   injection E with E1 E2
   subst E1
   subst E2
   clear hx E
   go_wp2
   go_region
   go_wp2
   have i2 : Nr.IsRow (wr.cell? ⟨w.heap.size + 2, 0, none⟩) := by rw [q2]; exact Nr.IsRow.slice _ _ _
   have e2 := World.cell?_setCell_same _ _ (.slice Aq lq.length cq) q2
   have e3 : (wr.setCell ⟨w.heap.size + 2, 0, none⟩ (.slice Aq lq.length cq)).cell? ⟨w.heap.size + 3, 0, none⟩ = some (.slice none 0 0) := (World.cell?_setCell_far _ _ _ _ (by simp)).trans q3
   have i3 : Nr.IsRow ((wr.setCell ⟨w.heap.size + 2, 0, none⟩ (.slice Aq lq.length cq)).cell? ⟨w.heap.size + 3, 0, none⟩) := by rw [e3]; exact Nr.IsRow.slice _ _ _
   have e4 := World.cell?_setCell_same _ _ (.slice Ar lr.length cr) e3
   have e5 : ((wr.setCell ⟨w.heap.size + 2, 0, none⟩ (.slice Aq lq.length cq)).setCell ⟨w.heap.size + 3, 0, none⟩ (.slice Ar lr.length cr)).cell? ⟨w.heap.size + 2, 0, none⟩ = some (.slice Aq lq.length cq) := (World.cell?_setCell_far _ _ _ _ (by simp)).trans e2
   have ow' := Nr.Ow.drew (Nr.Ow.set (Nr.Ow.set ow (p := ⟨w.heap.size + 2, 0, none⟩) (.slice Aq lq.length cq) (fun e => by have h6 : _ ≤ w.heap.size + 2 := Kd.R_base ow.out _ e; omega)) (p := ⟨w.heap.size + 3, 0, none⟩) (.slice Ar lr.length cr) (fun e => by have h6 : _ ≤ w.heap.size + 3 := Kd.R_base ow.out _ e; omega))
   have nr' := Nr.Nr.drew (Nr.Nr.set (Nr.Nr.set nr (.slice Aq lq.length cq) i2) (.slice Ar lr.length cr) i3)
   exact bodyPost_ret (v := .tuple #[.agg #[.slice Aq lq.length cq], .agg #[.slice Ar lr.length cr]]) (by simp [results, Try.results115, go_sem, e4, e5]) rfl ⟨_, _, rfl, (Nr.lower ow' (by omega)).out, Nr.Nr.toV nr' at0, below_drew1 (below_set (below_set bl (by omega)) (by omega))⟩
end Go.Proofs.Ytbpmnmceajmmcaa.PA
section
set_option linter.unusedVariables false
set_option linter.unusedSimpArgs false
namespace Go.Proofs.Ytbpmnmceajmmcaa.Th
open Go.RowKit Go.Proofs.YtbpmnmceajmmcaaW.PrintWords Go.Proofs.YtbpmnmceajmmcaaW.PrintLast Go.Proofs.YtbpmnmceajmmcaaW.PrintMore Go.Proofs.Ytbpmnmceajmmcaa.PA Bit Dig Flo
theorem r2Makew (w : Int) (hw : w = 32 ∨ w = 64) (s : Bool) (e fr : Nat) (he : e ≤ (fmt w).top) (hf : fr < 2 ^ (fmt w).f) : Ev (fun k => r2_Make.f k w s e fr) ((mkN w (e * 2 ^ (fmt w).f + fr) s : Nat) : Int) := by
  rcases hw with rfl | rfl
  · exact r2Make32 s e fr he hf
  · exact r2Make64 s e fr he hf
end Go.Proofs.Ytbpmnmceajmmcaa.Th
end
section
set_option linter.unusedVariables false
set_option linter.unusedSimpArgs false
namespace Go.Proofs.Ytbpmnmceajmmcaa.Th
open Go.RowKit Go.Proofs.YtbpmnmceajmmcaaW.PrintWords Go.Proofs.YtbpmnmceajmmcaaW.PrintLast Go.Proofs.YtbpmnmceajmmcaaW.PrintMore Go.Proofs.Ytbpmnmceajmmcaa.PA Bit Flo
theorem packE (w : Int) (hw : w = 32 ∨ w = 64) (s : Bool) (h l : Nat) (hh : h < 18446744073709551616) (hl : l < 18446744073709551616) (e : Int) (m : Bool) : round_Pack.f w s h l e m = some ((mkN w (pkm (fmt w) (wn h l) e m) s : Nat) : Int) := by
  unfold round_Pack.f
  rw [if_pos (by omega), if_pos hw, Int.toNat_natCast, Int.toNat_natCast]
theorem packV (w : Int) (hw : w = 32 ∨ w = 64) (s : Bool) (V : Nat) (hV : V < 340282366920938463463374607431768211456) (e : Int) (m : Bool) : round_Pack.f w s ((V / 18446744073709551616 : Nat) : Int) ((V % 18446744073709551616 : Nat) : Int) e m = some ((mkN w (pkm (fmt w) V e m) s : Nat) : Int) := by
  rw [packE w hw s _ _ (hi64 hV) (lo64 V), wn_div]
theorem pack1 (w : Int) (hw : w = 32 ∨ w = 64) (s : Bool) (n : Nat) (hn : n < 18446744073709551616) (e : Int) : round_Pack.f w s 0 n e false = some ((mkN w ((fmt w).rnd ((n : Rat) * tw e)) s : Nat) : Int) := by
  have := packE w hw s 0 n (by decide) hn e false
  rw [show wn 0 n = n by unfold wn; omega, pk_ex w n e (by omega)] at this
  exact this
theorem shN (w : Int) (hw : w = 32 ∨ w = 64) : shape_Nan.f w = some ((nanN w : Nat) : Int) := by rcases hw with rfl | rfl; exact shNan32; exact shNan64
theorem pv1 (s : Bool) (e : Int) (g : Nat) : pv (s, 1, e, (g : Int)) = if s then -((g : Rat) * tw e) else (g : Rat) * tw e := by
  unfold pv; rw [if_pos rfl]; simp
theorem pos_tw {g : Nat} (h : 0 < g) (e : Int) : 0 < (g : Rat) * tw e := Rat.mul_pos (by exact_mod_cast h) (tw_pos e)
def PtOk (p : Pt) : Prop := (p.2.1 = 0 ∨ p.2.1 = 1 ∨ p.2.1 = 2 ∨ p.2.1 = 3) ∧ (p.2.1 = 1 → 0 < p.2.2.2) ∧ (p.2.1 ≠ 1 → p.2.2.2 = 0 ∧ p.2.2.1 = 0) ∧ 0 ≤ p.2.2.2 ∧ p.2.2.2 < 9007199254740992 ∧ -1100 ≤ p.2.2.1 ∧ p.2.2.1 ≤ 1000
theorem opn_ok (w : Int) (hw : w = 32 ∨ w = 64) (a : Nat) : PtOk (opn w a) := by
  rcases kinds w hw a with ⟨_, h⟩ | ⟨h1, h2, h⟩ | ⟨_, h⟩ | ⟨_, h⟩ <;> rw [h]
  · exact ⟨.inl rfl, fun h => absurd h (by simp), fun _ => ⟨rfl, rfl⟩, by simp, by simp, by simp, by simp⟩
  · have h3 := ex_bd w hw _ h2
    have h4 := sg_64 w hw (magN w a)
    refine ⟨.inr (.inl rfl), fun _ => ?_, fun h => absurd rfl h, by simp, by simp; omega, by simp; omega, by simp; omega⟩
    have : 0 < (fmt w).val (magN w a) := (fmt w).val_pos.2 h1
    unfold Fmt.val at this
    rcases Nat.eq_zero_or_pos ((fmt w).sg (magN w a)) with h5 | h5
    · rw [h5] at this; simp at this
    · simp; omega
  · exact ⟨.inr (.inr (.inl rfl)), fun h => absurd h (by simp), fun _ => ⟨rfl, rfl⟩, by simp, by simp, by simp, by simp⟩
  · exact ⟨.inr (.inr (.inr rfl)), fun h => absurd h (by simp), fun _ => ⟨rfl, rfl⟩, by simp, by simp, by simp, by simp⟩
end Go.Proofs.Ytbpmnmceajmmcaa.Th
end
section
set_option linter.unusedVariables false
set_option linter.unusedSimpArgs false
namespace Go.Proofs.Ytbpmnmceajmmcaa.Th
open Go.RowKit Go.Proofs.YtbpmnmceajmmcaaW.PrintWords Go.Proofs.YtbpmnmceajmmcaaW.PrintLast Go.Proofs.YtbpmnmceajmmcaaW.PrintMore Go.Proofs.Ytbpmnmceajmmcaa.PA Bit Dig Flo
noncomputable def narG (w : Int) (s : Bool) (kd e : Int) (g : Nat) : Nat := if kd = 0 then mkN w 0 s else if kd = 1 then mkN w ((fmt w).rnd ((g : Rat) * tw e)) s else if kd = 2 then mkN w (fmt w).inf s else if kd = 3 then nanN w else 0
theorem narrowG (w : Int) (hw : w = 32 ∨ w = 64) (s : Bool) (kd e : Int) (g : Nat) (hg : g < 18446744073709551616) : round_Narrow.f w s kd e g = some ((narG w s kd e g : Nat) : Int) := by
  unfold round_Narrow.f narG
  by_cases h0 : kd = 0
  · rw [if_pos h0, if_pos h0, shZ w hw, Option.bind_some]
  · rw [if_neg h0, if_neg h0]
    by_cases h1 : kd = 1
    · rw [if_pos h1, if_pos h1, ofW g, Option.bind_some]
      show (round_Pack.f w s 0 (g : Int) e false).bind _ = _
      rw [pack1 w hw s g hg e, Option.bind_some]
    · rw [if_neg h1, if_neg h1]
      by_cases h2 : kd = 2
      · rw [if_pos h2, if_pos h2, shI w hw, Option.bind_some]
      · rw [if_neg h2, if_neg h2]
        by_cases h3 : kd = 3
        · rw [if_pos h3, if_pos h3, shN w hw, Option.bind_some]
        · rw [if_neg h3, if_neg h3]; rfl
theorem inf_sb (w : Int) (hw : w = 32 ∨ w = 64) : (fmt w).inf < sb w ∧ nanN w < sb w ∧ (fmt w).inf < nanN w ∧ nanN w = mkN w (nanN w) false := by
  rcases hw with rfl | rfl
  · rw [fmt32, inf32]; exact ⟨by decide, by decide, by decide, by decide⟩
  · rw [fmt64, inf64]; exact ⟨by decide, by decide, by decide, by decide⟩
end Go.Proofs.Ytbpmnmceajmmcaa.Th
end
namespace Knu
theorem k1 (u y d : Nat) (hu : u < y) (hd : d < 4294967296) : (u * 4294967296 + d) / y < 4294967296 := by
  rw [Nat.div_lt_iff_lt_mul (by omega), Nat.mul_comm 4294967296]
  have : (u + 1) * 4294967296 ≤ y * 4294967296 := Nat.mul_le_mul_right _ hu
  omega
theorem k2 (u a b d q r : Nat) (ha : 0 < a) (h : q * a + r = u) : (u * 4294967296 + d) / (a * 4294967296 + b) < q ↔ r * 4294967296 + d < q * b := by
  rw [Nat.div_lt_iff_lt_mul (by omega), Nat.mul_add, ← Nat.mul_assoc, ← h]
  generalize q * b = t
  generalize q * a = s
  omega
theorem k3 (u a b d : Nat) (ha : 0 < a) (hd : d < 4294967296) : (u * 4294967296 + d) / (a * 4294967296 + b) ≤ u / a := by
  rw [Nat.le_div_iff_mul_le ha]
  have h := Nat.div_mul_le_self (u * 4294967296 + d) (a * 4294967296 + b)
  rw [Nat.mul_add, ← Nat.mul_assoc] at h
  generalize (u * 4294967296 + d) / (a * 4294967296 + b) * b = t at *
  generalize (u * 4294967296 + d) / (a * 4294967296 + b) * a = s at *
  omega
theorem k4 (u a b q r : Nat) (h : q * a + r = u) (hu : u < a * 4294967296 + b) (hq : 4294967296 ≤ q) : r < b := by
  have : 4294967296 * a ≤ q * a := Nat.mul_le_mul_right _ hq
  omega
theorem k5 (a q r u : Nat) (h : q * a + r = u) (hq : 0 < q) : (q - 1) * a + (r + a) = u := by
  obtain ⟨p, rfl⟩ : ∃ p, q = p + 1 := ⟨q - 1, by omega⟩
  rw [Nat.add_mul] at h
  rw [Nat.add_sub_cancel]; omega
theorem k6 (q b : Nat) (hq : q < 4294967296) (hb : b < 4294967296) : q * b < 18446744073709551616 := by
  have := Nat.mul_le_mul (show q ≤ 4294967295 by omega) (show b ≤ 4294967295 by omega); omega
theorem two_gen (B u y c d : Nat) (hy : 0 < y) : ((u * B + c) * B + d) / y = (u * B + c) / y * B + ((u * B + c) % y * B + d) / y ∧ ((u * B + c) * B + d) % y = ((u * B + c) % y * B + d) % y := by
  have h := Nat.div_add_mod (u * B + c) y
  generalize (u * B + c) / y = q at *
  generalize (u * B + c) % y = r at *
  generalize u * B + c = v at *
  have e : v * B + d = y * (q * B) + (r * B + d) := by
    rw [← h, Nat.add_mul, Nat.mul_assoc]; omega
  rw [e, Nat.mul_add_div hy, Nat.mul_add_mod]
  exact ⟨rfl, rfl⟩
theorem two (u y c d : Nat) (hy : 0 < y) : ((u * 4294967296 + c) * 4294967296 + d) / y = (u * 4294967296 + c) / y * 4294967296 + ((u * 4294967296 + c) % y * 4294967296 + d) / y ∧ ((u * 4294967296 + c) * 4294967296 + d) % y = ((u * 4294967296 + c) % y * 4294967296 + d) % y :=
  two_gen 4294967296 u y c d hy
end Knu
set_option linter.unusedVariables false
set_option linter.unusedSectionVars false
set_option linter.unusedSimpArgs false
namespace Go.Proofs.Ytbpmnmceajmmcaa.Th
open Go.RowKit Go.Proofs.YtbpmnmceajmmcaaW.PrintWords Go.Proofs.YtbpmnmceajmmcaaW.PrintLast Go.Proofs.YtbpmnmceajmmcaaW.PrintMore Go.Proofs.Ytbpmnmceajmmcaa.PA Bit Dig
theorem rem_wrap (u c q y : Nat) (hq : q = (u * 4294967296 + c) / y) (hy : 0 < y) (hy2 : y < 18446744073709551616) :
    IntKind.u64.wrap ((IntKind.u64.wrap ((IntKind.u64.wrap ((u : Int) * 4294967296)) + (c : Int))) - (IntKind.u64.wrap ((q : Int) * (y : Int)))) = (((u * 4294967296 + c) % y : Nat) : Int) := by
  have h := Nat.div_add_mod (u * 4294967296 + c) y
  have h2 := Nat.mod_lt (u * 4294967296 + c) hy
  rw [← hq] at h
  rw [← Int.natCast_mul, Nat.mul_comm q y]
  generalize y * q = t at *
  generalize (u * 4294967296 + c) % y = r at *
  simp only [IntKind.wrap_u64]
  omega
section
variable (y a b u c d s : Nat) (hy : y = a * 4294967296 + b) (ha : 2147483648 ≤ a) (ha2 : a < 4294967296) (hb : b < 4294967296) (hc : c < 4294967296) (hd : d < 4294967296) (R : Int × Int)
include hy ha ha2 hb hc hd
theorem div_l0 (hu : u < y) (Q : Nat) (hQ : (u * 4294967296 + c) / y = Q) (hj : Ev (fun k => bits_Div64.j2 k y s a b u c d ((Q : Nat) : Int)) R) (n : Nat) :
    ∀ q r : Nat, q - Q = n → Q ≤ q → q < 18446744073709551616 → q * a + r = u → r < 4294967296 →
    Ev (fun k => bits_Div64.l0 k y s a b u c d q r) R := by
  have K1 := Knu.k1 u y c hu hc
  rw [hQ] at K1
  induction n with
  | zero =>
    intro q r hn hq hq2 he hr
    obtain rfl : q = Q := by omega
    have K2 := Knu.k2 u a b c _ r (by omega) he
    rw [← hy, hQ] at K2
    have K6 := Knu.k6 _ b K1 hb
    refine Ev.step (fun _ => bits_Div64.l0.eq_2 ..) ?_
    refine Ev.neg (by omega) ?_
    rw [← Int.natCast_mul, u64_id (by omega) (by omega), u64_id (n := 4294967296 * (r : Int)) (by omega) (by omega), u64_id (by omega) (by omega), decide_eq_false (by omega)]
    refine Ev.step (fun _ => bits_Div64.j1.eq_2 ..) ?_
    exact Ev.neg (by decide) hj
  | succ n ih =>
    intro q r hn hq hq2 he hr
    have hq0 : 0 < q := by omega
    have K2 := Knu.k2 u a b c q r (by omega) he
    rw [← hy, hQ] at K2
    have K5 := Knu.k5 a q r u he hq0
    have body : Ev (fun k => bits_Div64.j1 k y s a b u c d q r true) R := by
      refine Ev.step (fun _ => bits_Div64.j1.eq_2 ..) ?_
      refine Ev.pos rfl ?_
      rw [u64_id (n := (r : Int) + a) (by omega) (by omega), u64_id (n := (q : Int) - 1) (by omega) (by omega), show (q : Int) - 1 = ((q - 1 : Nat) : Int) by omega, show (r : Int) + a = ((r + a : Nat) : Int) by omega]
      by_cases h : ((r + a : Nat) : Int) ≥ 4294967296
      · have e : q - 1 = Q := by
          have h1 : q - 1 < 4294967296 := by
            rcases Nat.lt_or_ge (q - 1) 4294967296 with h2 | h2
            · exact h2
            · have := Knu.k4 u a b (q - 1) (r + a) K5 (by omega) h2; omega
          have K2' := Knu.k2 u a b c (q - 1) (r + a) (by omega) K5
          rw [← hy, hQ] at K2'
          have K6 := Knu.k6 (q - 1) b h1 hb
          omega
        rw [e]
        exact Ev.pos h hj
      · exact Ev.neg h (ih (q - 1) (r + a) (by omega) (by omega) (by omega) K5 (by omega))
    refine Ev.step (fun _ => bits_Div64.l0.eq_2 ..) ?_
    by_cases h : (q : Int) ≥ 4294967296
    · exact Ev.pos h body
    · refine Ev.neg h ?_
      have K6 := Knu.k6 q b (by omega) hb
      rw [← Int.natCast_mul, u64_id (by omega) (by omega), u64_id (n := 4294967296 * (r : Int)) (by omega) (by omega), u64_id (by omega) (by omega), decide_eq_true (by omega)]
      exact body
theorem div_l1 (q1 : Nat) (hq1 : q1 < 4294967296) (hu : u < y) (hs : s < 64) (Q M : Nat) (hQ : (u * 4294967296 + d) / y = Q) (hM : (u * 4294967296 + d) % y = M) (n : Nat) :
    ∀ q r : Nat, q - Q = n → Q ≤ q → q < 18446744073709551616 → q * a + r = u → r < 4294967296 →
    Ev (fun k => bits_Div64.l1 k y s a b d q1 r u q) (((q1 * 4294967296 + Q : Nat) : Int), ((M / 2 ^ s : Nat) : Int)) := by
  have K1 := Knu.k1 u y d hu hd
  rw [hQ] at K1
  have Y0 : 0 < y := by omega
  have Y2 : y < 18446744073709551616 := by omega
  have W := rem_wrap u d Q y hQ.symm Y0 Y2
  rw [hM] at W
  have hsh := shrN' M s hs
  induction n with
  | zero =>
    intro q r hn hq hq2 he hr
    obtain rfl : q = Q := by omega
    have K2 := Knu.k2 u a b d _ r (by omega) he
    rw [← hy, hQ] at K2
    have K6 := Knu.k6 _ b K1 hb
    refine Ev.step (fun _ => bits_Div64.l1.eq_2 ..) ?_
    refine Ev.neg (by omega) ?_
    rw [← Int.natCast_mul, u64_id (by omega) (by omega), u64_id (n := 4294967296 * (r : Int)) (by omega) (by omega), u64_id (by omega) (by omega), decide_eq_false (by omega)]
    refine Ev.step (fun _ => bits_Div64.j4.eq_2 ..) ?_
    refine Ev.neg (by decide) (Ev.pos (by omega) (Ev.out ?_))
    rw [W, hsh, u64_id (n := (q1 : Int) * 4294967296) (by omega) (by omega), u64_id (by omega) (by omega)]
    congr 1
  | succ n ih =>
    intro q r hn hq hq2 he hr
    have hq0 : 0 < q := by omega
    have K2 := Knu.k2 u a b d q r (by omega) he
    rw [← hy, hQ] at K2
    have K5 := Knu.k5 a q r u he hq0
    have body : Ev (fun k => bits_Div64.j4 k y s a b d q1 r u q true) (((q1 * 4294967296 + Q : Nat) : Int), ((M / 2 ^ s : Nat) : Int)) := by
      refine Ev.step (fun _ => bits_Div64.j4.eq_2 ..) ?_
      refine Ev.pos rfl ?_
      rw [u64_id (n := (r : Int) + a) (by omega) (by omega), u64_id (n := (q : Int) - 1) (by omega) (by omega), show (q : Int) - 1 = ((q - 1 : Nat) : Int) by omega, show (r : Int) + a = ((r + a : Nat) : Int) by omega]
      by_cases h : ((r + a : Nat) : Int) ≥ 4294967296
      · have e : q - 1 = Q := by
          have h1 : q - 1 < 4294967296 := by
            rcases Nat.lt_or_ge (q - 1) 4294967296 with h2 | h2
            · exact h2
            · have := Knu.k4 u a b (q - 1) (r + a) K5 (by omega) h2; omega
          have K2' := Knu.k2 u a b d (q - 1) (r + a) (by omega) K5
          rw [← hy, hQ] at K2'
          have K6 := Knu.k6 (q - 1) b h1 hb
          omega
        refine Ev.pos h (Ev.pos (by omega) (Ev.out ?_))
        rw [e, W, hsh, u64_id (n := (q1 : Int) * 4294967296) (by omega) (by omega), u64_id (by omega) (by omega)]
        congr 1
      · exact Ev.neg h (ih (q - 1) (r + a) (by omega) (by omega) (by omega) K5 (by omega))
    refine Ev.step (fun _ => bits_Div64.l1.eq_2 ..) ?_
    by_cases h : (q : Int) ≥ 4294967296
    · exact Ev.pos h body
    · refine Ev.neg h ?_
      have K6 := Knu.k6 q b (by omega) hb
      rw [← Int.natCast_mul, u64_id (by omega) (by omega), u64_id (n := 4294967296 * (r : Int)) (by omega) (by omega), u64_id (by omega) (by omega), decide_eq_true (by omega)]
      exact body
end
theorem and_mask32 (x : Nat) (hx : x < 18446744073709551616) : Go.bits .and .u64 (x : Int) 4294967295 = ((x % 4294967296 : Nat) : Int) := by
  rw [show (4294967295 : Int) = ((4294967295 : Nat) : Int) from rfl, u64_and_nat x _ hx (by decide), show (4294967295 : Nat) = 2 ^ 32 - 1 by decide, and_low]
theorem start_q (u a : Nat) (ha : 0 < a) (hu : u < 18446744073709551616) : IntKind.u64.wrap (Int.tdiv (u : Int) (a : Int)) = ((u / a : Nat) : Int) ∧ IntKind.u64.wrap ((u : Int) - IntKind.u64.wrap (((u / a : Nat) : Int) * (a : Int))) = ((u % a : Nat) : Int) := by
  have h := Nat.div_add_mod u a
  have h1 := Nat.div_le_self u a
  have h2 := Nat.mod_lt u ha
  constructor
  · rw [Int.tdiv_eq_ediv_of_nonneg (by omega), ← Int.natCast_ediv]
    generalize u / a = q at *
    rw [u64_id (by omega) (by omega)]
  · rw [← Int.natCast_mul, Nat.mul_comm]
    generalize a * (u / a) = t at *
    generalize u % a = r at *
    rw [u64_id (n := (t : Int)) (by omega) (by omega), u64_id (by omega) (by omega)]; omega
theorem div64 (h l y : Nat) (hh : h < y) (hl : l < 18446744073709551616) (hy2 : y < 18446744073709551616) :
    Ev (fun k => bits_Div64.f k h l y) (((wn h l / y : Nat) : Int), ((wn h l % y : Nat) : Int)) := by
  unfold bits_Div64.f
  refine Ev.neg (by omega) (Ev.neg (by omega) ?_)
  by_cases h0 : h = 0
  · subst h0
    refine Ev.pos rfl (Ev.out ?_)
    have h1 := Nat.div_le_self l y
    rw [Int.tdiv_eq_ediv_of_nonneg (by omega), Int.tmod_eq_emod_of_nonneg (by omega), ← Int.natCast_ediv, ← Int.natCast_emod, show wn 0 l = l by unfold wn; omega]
    generalize l / y = q at *
    rw [u64_id (by omega) (by omega)]
  · refine Ev.neg (by omega) ?_
    have hy0 : 0 < y := by omega
    have hby := bl64 hy2
    have hbp := bl_pos.2 hy0
    obtain ⟨s, hs⟩ : ∃ s, s = 64 - bl y := ⟨_, rfl⟩
    have hs64 : s < 64 := by omega
    have hlz : bits_LeadingZeros64.f y = some ((s : Nat) : Int) := by
      unfold bits_LeadingZeros64.f
      rw [if_pos (by omega), Int.toNat_natCast, bitLen_bl hy2]; congr 1; omega
    refine Ev.bs hlz ?_
    rw [u64_id (n := (s : Int)) (by omega) (by omega), u64_id (n := 64 - (s : Int)) (by omega) (by omega), show (64 : Int) - s = ((64 - s : Nat) : Int) by omega]
    have p0 : 0 < 2 ^ s := Nat.pow_pos (by decide)
    have e64 : 2 ^ s * 2 ^ (64 - s) = 18446744073709551616 := by rw [← Nat.pow_add, show s + (64 - s) = 64 by omega]
    -- the divisor, its highest bit at the top
    have y1 : y * 2 ^ s < 18446744073709551616 := by
      have h1 := Nat.mul_lt_mul_of_pos_right (lt_two_bl y) p0
      rw [← Nat.pow_add, show bl y + s = 64 by omega] at h1
      exact h1
    have y2 : 9223372036854775808 ≤ y * 2 ^ s := by
      have h1 := Nat.mul_le_mul_right (2 ^ s) (two_bl_le hy0)
      rw [← Nat.pow_add, show bl y - 1 + s = 63 by omega] at h1
      exact h1
    have h1 : h * 2 ^ s + 2 ^ s ≤ y * 2 ^ s := by
      have := Nat.mul_le_mul_right (2 ^ s) (show h + 1 ≤ y from hh)
      rw [Nat.add_mul, Nat.one_mul] at this; exact this
    have hlo : l / 2 ^ (64 - s) < 2 ^ s := by
      rw [Nat.div_lt_iff_lt_mul (Nat.pow_pos (by decide)), e64]; exact hl
    have eY : shl .u64 (y : Int) (s : Int) = ((y * 2 ^ s : Nat) : Int) := by rw [shlN y s hs64, Nat.mod_eq_of_lt y1]
    have eH : shl .u64 (h : Int) (s : Int) = ((h * 2 ^ s : Nat) : Int) := by rw [shlN h s hs64, Nat.mod_eq_of_lt (by omega)]
    have eL : shl .u64 (l : Int) (s : Int) = ((l * 2 ^ s % 18446744073709551616 : Nat) : Int) := shlN l s hs64
    have eR : shr .u64 (l : Int) ((64 - s : Nat) : Int) = ((l / 2 ^ (64 - s) : Nat) : Int) := by
      by_cases h2 : s = 0
      · subst h2
        unfold shr
        rw [show min (((64 - 0 : Nat) : Int)).toNat IntKind.u64.bits = 64 by decide, show (2 : Int) ^ 64 = ((2 ^ 64 : Nat) : Int) by decide]
        omega
      · exact shrN' l (64 - s) (by omega)
    have eO := or_add (h * 2 ^ s) (l / 2 ^ (64 - s)) s (by omega) (Nat.dvd_mul_left _ _) hlo (by omega) (by omega)
    rw [eY, eH, eL, eR, eO]
    -- the number, shifted
    have eN : wn h l * 2 ^ s = (h * 2 ^ s + l / 2 ^ (64 - s)) * 18446744073709551616 + l * 2 ^ s % 18446744073709551616 := by
      have h2 := Nat.div_add_mod (l * 2 ^ s) 18446744073709551616
      have h3 : l * 2 ^ s / 18446744073709551616 = l / 2 ^ (64 - s) := by
        rw [← e64, Nat.mul_comm l, Nat.mul_div_mul_left _ _ p0]
      rw [h3] at h2
      unfold wn
      rw [Nat.add_mul, Nat.mul_right_comm]
      omega
    have u1 : h * 2 ^ s + l / 2 ^ (64 - s) < y * 2 ^ s := by omega
    have v1 := Nat.mod_lt (l * 2 ^ s) (show 0 < 18446744073709551616 by decide)
    have eq1 : wn h l / y = wn h l * 2 ^ s / (y * 2 ^ s) := (Nat.mul_div_mul_right _ _ p0).symm
    have eq2 : wn h l % y = wn h l * 2 ^ s % (y * 2 ^ s) / 2 ^ s := by rw [Nat.mul_mod_mul_right, Nat.mul_div_cancel _ p0]
    rw [eq1, eq2, eN]
    clear eq1 eq2 eN eY eH eL eR eO hlz
    generalize h * 2 ^ s + l / 2 ^ (64 - s) = u at *
    generalize l * 2 ^ s % 18446744073709551616 = v at *
    generalize y * 2 ^ s = Y at *
    rw [and_mask32 Y y1, and_mask32 v v1, show ((Y : Nat) : Int) / 4294967296 = ((Y / 4294967296 : Nat) : Int) by omega, show ((v : Nat) : Int) / 4294967296 = ((v / 4294967296 : Nat) : Int) by omega]
    have hv : (u * 18446744073709551616 + v) = (u * 4294967296 + v / 4294967296) * 4294967296 + v % 4294967296 := by omega
    have T := Knu.two u Y (v / 4294967296) (v % 4294967296) (by omega)
    rw [hv, T.1, T.2]
    have hA : Y = Y / 4294967296 * 4294967296 + Y % 4294967296 := by omega
    obtain ⟨a, ea⟩ : ∃ a, Y / 4294967296 = a := ⟨_, rfl⟩
    obtain ⟨b, eb⟩ : ∃ b, Y % 4294967296 = b := ⟨_, rfl⟩
    obtain ⟨c, ec⟩ : ∃ c, v / 4294967296 = c := ⟨_, rfl⟩
    obtain ⟨d, ed⟩ : ∃ d, v % 4294967296 = d := ⟨_, rfl⟩
    rw [ea, eb] at hA
    rw [ea, eb, ec, ed]
    have ha : 2147483648 ≤ a := by omega
    have ha2 : a < 4294967296 := by omega
    have hb : b < 4294967296 := by omega
    have hc : c < 4294967296 := by omega
    have hd : d < 4294967296 := by omega
    clear hv T ea eb ec ed
    refine Ev.pos (by omega) (Ev.pos (by omega) (Ev.neg (by omega) ?_))
    obtain ⟨s1, s2⟩ := start_q u a (by omega) (by omega)
    rw [s1, s2]
    have hr1 := Nat.mod_lt (u * 4294967296 + c) (show 0 < Y by omega)
    have K3 := Knu.k3 u a b c (by omega) hc
    rw [← hA] at K3
    have m1 := Nat.div_add_mod u a
    have m2 := Nat.mod_lt u (show 0 < a by omega)
    have m3 := Nat.div_le_self u a
    rw [Nat.mul_comm] at m1
    refine div_l0 Y a b u c d s hA ha ha2 hb hc hd _ u1 _ rfl ?_ _ (u / a) (u % a) rfl K3 (by omega) m1 (by omega)
    refine Ev.step (fun _ => bits_Div64.j2.eq_2 ..) ?_
    refine Ev.neg (by omega) ?_
    rw [rem_wrap u c _ Y rfl (by omega) y1]
    have q1b := Knu.k1 u Y c u1 hc
    obtain ⟨q1, hq1⟩ : ∃ q1, q1 = (u * 4294967296 + c) / Y := ⟨_, rfl⟩
    obtain ⟨u', hu'⟩ : ∃ u', u' = (u * 4294967296 + c) % Y := ⟨_, rfl⟩
    rw [← hq1] at q1b ⊢
    rw [← hu'] at hr1 ⊢
    clear hq1 hu'
    obtain ⟨t1, t2⟩ := start_q u' a (by omega) (by omega)
    rw [t1, t2]
    have K3' := Knu.k3 u' a b d (by omega) hd
    rw [← hA] at K3'
    have n1 := Nat.div_add_mod u' a
    have n2 := Nat.mod_lt u' (show 0 < a by omega)
    have n3 := Nat.div_le_self u' a
    rw [Nat.mul_comm] at n1
    exact div_l1 Y a b u' c d s hA ha ha2 hb hc hd q1 q1b hr1 hs64 _ _ rfl rfl _ (u' / a) (u' % a) rfl K3' (by omega) n1 (by omega)
theorem wlt (B m b l : Nat) (hm : m < b) (hl : l < B) : m * B + l < B * b := by
  have := Nat.mul_le_mul_right B (show m + 1 ≤ b from hm)
  rw [Nat.add_mul, Nat.one_mul, Nat.mul_comm b] at this
  omega
theorem whi (B h b l : Nat) : h * B + l = b * (h / b * B) + (h % b * B + l) := by
  have := Nat.div_add_mod h b
  have e2 : h * B = (b * (h / b) + h % b) * B := by rw [this]
  rw [e2, Nat.add_mul, Nat.add_assoc, Nat.mul_assoc]
theorem divW (h l b : Nat) (hh : h < 18446744073709551616) (hl : l < 18446744073709551616) (hb : 0 < b) (hb2 : b < 18446744073709551616) :
    Ev (fun k => wide_Div.f k h l b) (((wn h l / b / 18446744073709551616 : Nat) : Int), ((wn h l / b % 18446744073709551616 : Nat) : Int), ((wn h l % b : Nat) : Int), 0) := by
  unfold wide_Div.f
  have hm := Nat.mod_lt h hb
  have h1 := Nat.div_le_self h b
  have e : Int.tmod (h : Int) (b : Int) = ((h % b : Nat) : Int) := by rw [Int.tmod_eq_emod_of_nonneg (by omega), Int.natCast_emod]
  rw [e]
  refine Ev.neg (by omega) (Ev.bind (div64 (h % b) l b hm hl hb2) (Ev.out ?_))
  rw [Int.tdiv_eq_ediv_of_nonneg (by omega), ← Int.natCast_ediv]
  have eh : IntKind.u64.wrap ((h / b : Nat) : Int) = ((h / b : Nat) : Int) := by generalize h / b = q at *; exact u64_id (by omega) (by omega)
  rw [eh]
  have hN : wn h l = b * (h / b * 18446744073709551616) + wn (h % b) l := whi _ h b l
  have hq : wn (h % b) l / b < 18446744073709551616 := by
    rw [Nat.div_lt_iff_lt_mul hb]
    exact wlt _ _ _ _ hm hl
  obtain ⟨X, hX⟩ : ∃ X, X = h / b * 18446744073709551616 := ⟨_, rfl⟩
  rw [← hX] at hN
  rw [hN, Nat.mul_add_div hb X, Nat.mul_add_mod b X, hX]
  clear hN hX
  obtain ⟨q, hqe⟩ : ∃ q, q = wn (h % b) l / b := ⟨_, rfl⟩
  obtain ⟨p, hpe⟩ : ∃ p, p = h / b := ⟨_, rfl⟩
  rw [← hqe] at hq ⊢
  rw [← hpe]
  have e1 : (p * 18446744073709551616 + q) / 18446744073709551616 = p := by omega
  have e2 : (p * 18446744073709551616 + q) % 18446744073709551616 = q := by omega
  rw [e1, e2]
end Go.Proofs.Ytbpmnmceajmmcaa.Th
section
set_option linter.unusedVariables false
set_option linter.unusedSimpArgs false
namespace Go.Proofs.Ytbpmnmceajmmcaa.Th
open Go.RowKit Go.Proofs.YtbpmnmceajmmcaaW.PrintWords Go.Proofs.YtbpmnmceajmmcaaW.PrintLast Go.Proofs.YtbpmnmceajmmcaaW.PrintMore Go.Proofs.Ytbpmnmceajmmcaa.PA Bit Dig Flo
theorem quo_pk (w : Int) {N b : Nat} (hb : 0 < b) (E : Int) (x : Rat) (hx : x * (b : Rat) = (N : Rat) * tw E) (hlt : N / b < 340282366920938463463374607431768211456) (hge : 9007199254740992 ≤ N / b) :
    pkm (fmt w) (N / b) E (decide (N % b ≠ 0)) = (fmt w).rnd x := by
  have T := tw_pos E
  have B0 : (0 : Rat) < (b : Rat) := by exact_mod_cast hb
  have h1 := Nat.div_add_mod N b
  have h2 := Nat.mod_lt N hb
  generalize N / b = q at *
  generalize N % b = r at *
  have e1 : (q : Rat) * tw E * (b : Rat) = ((b * q : Nat) : Rat) * tw E := by push_cast; grind
  have e2 : ((q + 1 : Nat) : Rat) * tw E * (b : Rat) = ((b * q + b : Nat) : Rat) * tw E := by push_cast; grind
  by_cases h0 : r = 0
  · rw [decide_eq_false (by omega), pk_ex w q E hlt]
    have e3 : x * (b : Rat) = (q : Rat) * tw E * (b : Rat) := by
      rw [hx, e1]; congr 2; omega
    have h6 : ¬ ((q : Rat) * tw E) < x := fun h => by have := mul_lt h B0; grind
    have h7 : ¬ x < ((q : Rat) * tw E) := fun h => by have := mul_lt h B0; grind
    congr 1
    grind
  · rw [decide_eq_true (by omega)]
    refine pk_mo w hlt hge ?_ ?_
    · refine lt_of_mul (t := (b : Rat)) ?_ B0
      rw [hx, e1]
      exact mul_lt (nat_lt.2 (by omega)) T
    · refine lt_of_mul (t := (b : Rat)) ?_ B0
      rw [hx, e2]
      exact mul_lt (nat_lt.2 (by omega)) T
theorem quo_x {g g2 n n2 : Nat} (h2 : 0 < g2) (e e2 : Int) : ((g : Rat) * tw e) / ((g2 : Rat) * tw e2) * ((g2 * 2 ^ n2 : Nat) : Rat) = ((g * 2 ^ n * 18446744073709551616 : Nat) : Rat) * tw (e - n - (e2 - n2) - 64) := by
  have T := tw_pos e2
  have G : (0 : Rat) < (g2 : Rat) := by exact_mod_cast h2
  have hne : ((g2 : Rat) * tw e2) ≠ 0 := by have := Rat.mul_pos G T; grind
  have k1 : ((g : Rat) * tw e) / ((g2 : Rat) * tw e2) * ((g2 : Rat) * tw e2) = (g : Rat) * tw e := Rat.div_mul_cancel hne
  generalize ((g : Rat) * tw e) / ((g2 : Rat) * tw e2) = x at *
  have a1 : ((g2 * 2 ^ n2 : Nat) : Rat) = (g2 : Rat) * tw n2 := by rw [tw_nat]; push_cast; rfl
  have a2 : ((g * 2 ^ n * 18446744073709551616 : Nat) : Rat) = (g : Rat) * tw n * tw 64 := by
    rw [show tw 64 = tw ((64 : Nat) : Int) from rfl, tw_nat, tw_nat]; push_cast; rfl
  have a3 : tw (e - n - (e2 - n2) - 64) * tw 64 = tw (e - n - (e2 - n2)) := by rw [← tw_add]; congr 1; omega
  have a4 : tw n * tw (e - n - (e2 - n2)) = tw e * tw (n2 - e2) := by rw [← tw_add, ← tw_add]; congr 1; omega
  have a5 : tw n2 = tw e2 * tw (n2 - e2) := by rw [← tw_add]; congr 1; omega
  rw [a1, a2, a5]
  calc x * ((g2 : Rat) * (tw e2 * tw (n2 - e2))) = (x * ((g2 : Rat) * tw e2)) * tw (n2 - e2) := by grind
    _ = (g : Rat) * (tw e * tw (n2 - e2)) := by rw [k1]; grind
    _ = (g : Rat) * (tw n * (tw (e - n - (e2 - n2) - 64) * tw 64)) := by rw [a3, a4]
    _ = _ := by grind
theorem top64 {g : Nat} (h : 0 < g) (hg : g < 18446744073709551616) : 9223372036854775808 ≤ g * 2 ^ (64 - bl g) ∧ g * 2 ^ (64 - bl g) < 18446744073709551616 ∧ bl g ≤ 64 := by
  have hb := bl64 hg
  have h0 := bl_pos.2 h
  refine ⟨?_, ?_, hb⟩
  · have h1 := Nat.mul_le_mul_right (2 ^ (64 - bl g)) (two_bl_le h)
    rw [← Nat.pow_add, show bl g - 1 + (64 - bl g) = 63 by omega] at h1
    exact h1
  · have h1 := Nat.mul_lt_mul_of_pos_right (lt_two_bl g) (Nat.pow_pos (n := 64 - bl g) (show 0 < 2 by decide))
    rw [← Nat.pow_add, show bl g + (64 - bl g) = 64 by omega] at h1
    exact h1
theorem neg_div' (a b : Rat) : -a / b = -(a / b) := by rw [Rat.div_def, Rat.neg_mul, ← Rat.div_def]
theorem div_neg' {a b : Rat} (h : b ≠ 0) : a / -b = -(a / b) := by
  have h2 : -b ≠ 0 := by grind
  have e1 : a / -b * -b = a := Rat.div_mul_cancel h2
  have e2 : a / b * b = a := Rat.div_mul_cancel h
  have e3 : (a / -b + a / b) * b = 0 := by grind
  rcases Rat.mul_eq_zero.1 e3 with e | e
  · grind
  · exact absurd e h
theorem fullE (s : Bool) (kd : Int) {e : Int} {g : Nat} (h : 0 < g) (hg : g < 9007199254740992) (he : -1100 ≤ e ∧ e ≤ 1000) : quotient_above_full.f s kd e g = some (((g * 2 ^ (64 - bl g) : Nat) : Int), e - ((64 - bl g : Nat) : Int)) := by
  have h0 := bl_pos.2 h
  obtain ⟨t1, t2, t3⟩ := top64 h (by omega)
  unfold quotient_above_full.f bits_LeadingZeros64.f
  rw [if_pos (by omega), Option.bind_some, Int.toNat_natCast, bitLen_bl (by omega), show (64 : Int) - ((bl g : Nat) : Int) = ((64 - bl g : Nat) : Int) by omega, if_pos (by omega), shlN g _ (by omega), Nat.mod_eq_of_lt t2, w64_id (by omega) (by omega)]
theorem valueE (w : Int) (hw : w = 32 ∨ w = 64) (s t : Bool) (kd kd2 : Int) {e e2 : Int} {g g2 : Nat} (h : 0 < g) (h2 : 0 < g2) (hg : g < 9007199254740992) (hg2 : g2 < 9007199254740992) (he : -1100 ≤ e ∧ e ≤ 1000) (he2 : -1100 ≤ e2 ∧ e2 ≤ 1000) :
    Ev (fun k => quotient_fraction_value.f k s kd e g t kd2 e2 g2 w) ((mkN w ((fmt w).rnd (((g : Rat) * tw e) / ((g2 : Rat) * tw e2))) (s != t) : Nat) : Int) := by
  obtain ⟨a1, a2, a3⟩ := top64 h (by omega)
  obtain ⟨b1, b2, b3⟩ := top64 h2 (by omega)
  have X := quo_x (g := g) (n := 64 - bl g) (n2 := 64 - bl g2) h2 e e2
  unfold quotient_fraction_value.f
  refine Ev.bs (fullE s kd h hg he) (Ev.bs (fullE t kd2 h2 hg2 he2) ?_)
  generalize hn : 64 - bl g = n at *
  generalize hn2 : 64 - bl g2 = n2 at *
  generalize hA : g * 2 ^ n = A at *
  generalize hB : g2 * 2 ^ n2 = B at *
  have hl := wLeft (V := A) (by omega) 64 (by decide) (by rw [show (2 : Nat) ^ 64 = 18446744073709551616 by decide]; omega)
  rw [(wSmall a2).1, (wSmall a2).2, show (2 : Nat) ^ 64 = 18446744073709551616 by decide] at hl
  generalize hN : A * 18446744073709551616 = N at *
  have hd := divW (N / 18446744073709551616) (N % 18446744073709551616) B (hi64 (by omega)) (lo64 N) (by omega) b2
  rw [wn_div] at hd
  have hq1 : N / B < 340282366920938463463374607431768211456 := Nat.lt_of_le_of_lt (Nat.div_le_self _ _) (by omega)
  have hq2 : 9007199254740992 ≤ N / B := by rw [Nat.le_div_iff_mul_le (by omega)]; omega
  refine Ev.bs (ofW A) (Ev.bs hl (Ev.bind hd ?_))
  have hm : ((((N % B : Nat) : Int)) != 0) = decide (N % B ≠ 0) := by generalize N % B = m; rw [Bool.eq_iff_iff]; simp
  simp only
  rw [hm, w64_id (n := e - (n : Int) - (e2 - (n2 : Int))) (by omega) (by omega), w64_id (n := e - (n : Int) - (e2 - (n2 : Int)) - 64) (by omega) (by omega)]
  refine Ev.bs (packV w hw (s != t) (N / B) hq1 _ _) (Ev.out ?_)
  rw [quo_pk w (by omega) _ _ X hq1 hq2]
theorem div_fx (w : Int) (s t : Bool) (e e2 : Int) {g g2 : Nat} (h : 0 < g) (h2 : 0 < g2) (z : Bool) : fx w (pv (s, 1, e, (g : Int)) / pv (t, 1, e2, (g2 : Int))) z = mkN w ((fmt w).rnd (((g : Rat) * tw e) / ((g2 : Rat) * tw e2))) (s != t) := by
  have p1 := pos_tw h e
  have p2 := pos_tw h2 e2
  rw [pv1, pv1]
  generalize (g : Rat) * tw e = x at *
  generalize (g2 : Rat) * tw e2 = y at *
  have hne : y ≠ 0 := by grind
  have hp : 0 < x / y := by
    refine lt_of_mul (t := y) ?_ p2
    rw [Rat.zero_mul, Rat.div_mul_cancel hne]; exact p1
  have e1 : (if s = true then -x else x) / (if t = true then -y else y) = if (s != t) = true then -(x / y) else x / y := by
    cases s <;> cases t <;> simp [neg_div', div_neg' hne, Rat.neg_neg]
  rw [e1, fx_sg w hp]
set_option maxRecDepth 20000 in
theorem divProg (w : Int) (hw : w = 32 ∨ w = 64) (p q : Pt) (hp : PtOk p) (hq : PtOk q) : Ev (fun k => quotient_parts.f k w p.1 p.2.1 p.2.2.1 p.2.2.2 q.1 q.2.1 q.2.2.1 q.2.2.2) ((divP w p q : Nat) : Int) := by
  obtain ⟨s, kd, e, g⟩ := p
  obtain ⟨t, kd2, e2, g2⟩ := q
  obtain ⟨h1, h2, h0, h3, h4, h5, h6⟩ := hp
  obtain ⟨k1, k2, k0, k3, k4, k5, k6⟩ := hq
  simp only at h1 h2 h0 h3 h4 h5 h6 k1 k2 k0 k3 k4 k5 k6
  obtain ⟨g, rfl⟩ := Int.eq_ofNat_of_zero_le h3
  obtain ⟨g2, rfl⟩ := Int.eq_ofNat_of_zero_le k3
  simp only
  generalize hR : divP w (s, kd, e, (g : Int)) (t, kd2, e2, (g2 : Int)) = R
  unfold quotient_parts.f
  rcases h1 with rfl | rfl | rfl | rfl <;> rcases k1 with rfl | rfl | rfl | rfl
  all_goals
    simp [divP] at hR
    subst hR
    repeat (first
      | (with_reducible refine Ev.pos (by decide) ?_)
      | (with_reducible refine Ev.neg (by decide) ?_)
      | (with_reducible refine Ev.step (fun _ => quotient_parts.j0.eq_2 ..) ?_)
      | (with_reducible refine Ev.step (fun _ => quotient_parts.j1.eq_2 ..) ?_)
      | (with_reducible refine Ev.step (fun _ => quotient_parts.j2.eq_2 ..) ?_))
  all_goals first
    | (rw [div_fx w s t e e2 (by have := h2 rfl; omega) (by have := k2 rfl; omega)]
       exact Ev.bind (valueE w hw s t 1 1 (by have := h2 rfl; omega) (by have := k2 rfl; omega) (by omega) (by omega) ⟨h5, h6⟩ ⟨k5, k6⟩) (Ev.out rfl))
    | (exact Ev.bs (shN w hw) (Ev.out rfl))
    | (exact Ev.bs (shI w hw _) (Ev.out rfl))
    | (exact Ev.bs (shZ w hw _) (Ev.out rfl))
theorem divE (w : Int) (hw : w = 32 ∨ w = 64) (a b : Nat) (ha : a < 18446744073709551616) (hb : b < 18446744073709551616) : Ev (fun k => quotient_Div.f k w a b) ((divP w (opn w a) (opn w b) : Nat) : Int) := by
  have main : Ev (fun k => quotient_Div.j0 k w a b false) ((divP w (opn w a) (opn w b) : Nat) : Int) := by
    refine Ev.step (fun _ => quotient_Div.j0.eq_2 ..) (Ev.neg (by decide) (Ev.bind (openS w hw a ha) (Ev.bind (openS w hw b hb) ?_)))
    exact Ev.bind (divProg w hw _ _ (opn_ok w hw a) (opn_ok w hw b)) (Ev.out rfl)
  unfold quotient_Div.f
  rcases hw with rfl | rfl
  · exact Ev.pos rfl main
  · exact Ev.neg (by decide) main
theorem awake06S : Ev (fun k => L06_awake.f k) true := Ev.of (fun k => L06_awake.mono k) (k := 80) (by decide +kernel)
theorem scaleN (w : Int) (hw : w = 32 ∨ w = 64) (a : Nat) (ha : a < 18446744073709551616) (n : Int) (hn : -5000 ≤ n ∧ n ≤ 5000) :
    Ev (fun k => product_Scale.f k w a n) ((narG w (opn w a).1 (opn w a).2.1 (if (opn w a).2.1 = 1 then (opn w a).2.2.1 + n else (opn w a).2.2.1) (opn w a).2.2.2.toNat : Nat) : Int) := by
  have hp := opn_ok w hw a
  have o1 := openS w hw a ha
  generalize opn w a = p at *
  obtain ⟨s, kd, e, g⟩ := p
  obtain ⟨h1, h2, h0, h3, h4, h5, h6⟩ := hp
  simp only at h1 h2 h0 h3 h4 h5 h6
  obtain ⟨g, rfl⟩ := Int.eq_ofNat_of_zero_le h3
  have hm : mn (mx n (-1048576)) 1048576 = n := by unfold mn mx; (repeat' split) <;> omega
  unfold product_Scale.f
  refine Ev.bs (show product_known.f w = some true by rcases hw with rfl | rfl <;> rfl) (Ev.pos rfl (Ev.bind o1 ?_))
  simp only
  rw [hm, w64_id (n := e + n) (by omega) (by omega), narrowG w hw s kd _ g (by omega)]
  exact Ev.out rfl
theorem r2Bw (w : Int) (hw : w = 32 ∨ w = 64) : ∃ B : Nat, r2_B.f w = some ((B : Nat) : Int) ∧ (fmt w).top = 2 * B + 1 ∧ (fmt w).low = 1 - (B : Int) - (fmt w).f ∧ B < 2000 := by
  rcases hw with rfl | rfl
  · exact ⟨127, by decide, by rw [fmt32]; decide, by rw [fmt32]; decide, by decide⟩
  · exact ⟨1023, by decide, by rw [fmt64]; decide, by rw [fmt64]; decide, by decide⟩
theorem opn_pow (w : Int) (hw : w = 32 ∨ w = 64) (E : Nat) (h1 : 1 ≤ E) (h2 : E < (fmt w).top) : ∃ x, opn w (mkN w (E * 2 ^ (fmt w).f) false) = (false, 1, x) ∧ pv (opn w (mkN w (E * 2 ^ (fmt w).f) false)) = tw ((fmt w).f + (E - 1) + (fmt w).low) ∧ mkN w (E * 2 ^ (fmt w).f) false < 18446744073709551616 := by
  have hi := inf_sb w hw
  have hp := (fmt w).pow_pos
  have hI : E * 2 ^ (fmt w).f < (fmt w).inf := by unfold Fmt.inf; exact Nat.mul_lt_mul_of_pos_right h2 hp
  have h0 : 0 < E * 2 ^ (fmt w).f := Nat.mul_pos h1 hp
  have e := opn_mk w hw (E * 2 ^ (fmt w).f) false (by omega)
  rw [if_neg (by omega), if_pos hI] at e
  have e5 : E * 2 ^ (fmt w).f = (E - 1) * 2 ^ (fmt w).f + 2 ^ (fmt w).f := by rw [← Nat.succ_mul]; congr 1; omega
  have hs := Fmt.sg_mk (fmt w) (E - 1) (2 ^ (fmt w).f) (by rw [Nat.pow_succ]; omega) (fun _ => Nat.le_refl _)
  rw [← e5] at hs
  refine ⟨_, e, ?_, ?_⟩
  · rw [e, pv1, hs.1, hs.2, if_neg (by decide), ← tw_nat, ← tw_add]
    congr 1; omega
  · have h3 : 2 * sb w ≤ 18446744073709551616 := by unfold sb; split <;> decide
    unfold mkN
    simp; omega
theorem div_pow (w : Int) (hw : w = 32 ∨ w = 64) (p q : Pt) (hp : PtOk p) (k : Int) (h1 : q.1 = false) (h2 : q.2.1 = 1) (h3 : pv q = tw k) : divP w p q = narG w p.1 p.2.1 (if p.2.1 = 1 then p.2.2.1 + -k else p.2.2.1) p.2.2.2.toNat := by
  obtain ⟨s, kd, e, g⟩ := p
  obtain ⟨a1, a2, a0, a3, a4, a5, a6⟩ := hp
  simp only at a1 a2 a0 a3 a4 a5 a6
  obtain ⟨g, rfl⟩ := Int.eq_ofNat_of_zero_le a3
  have hs : (s != false) = s := by cases s <;> rfl
  unfold divP narG
  rw [h3, h1, h2]
  simp only [hs, Int.toNat_natCast]
  rcases a1 with rfl | rfl | rfl | rfl
  · simp
  · have hg : 0 < g := by have := a2 rfl; omega
    simp only [pv1]
    have e1 : tw e = tw (e + -k) * tw k := by rw [← tw_add]; congr 1; omega
    have hk : tw k ≠ 0 := by have := tw_pos k; grind
    have e2 : ((g : Rat) * tw e) / tw k = (g : Rat) * tw (e + -k) := by
      have c1 : ((g : Rat) * tw e) / tw k * tw k = (g : Rat) * tw e := Rat.div_mul_cancel hk
      rw [e1] at c1 ⊢
      grind
    have e3 : (if s = true then -((g : Rat) * tw e) else (g : Rat) * tw e) / tw k = if s = true then -((g : Rat) * tw (e + -k)) else (g : Rat) * tw (e + -k) := by
      cases s
      · simpa using e2
      · simp only [if_true]; rw [neg_div', e2]
    rw [e3, fx_sg w (pos_tw hg _)]
    simp
  · simp
  · simp
theorem QuotientScaleP : L06_QuotientScale.Pure := by
  intro w a n hw0 ha0 hn0
  obtain ⟨ha1, ha2⟩ := wf_u64 ha0
  obtain ⟨a, rfl⟩ := Int.eq_ofNat_of_zero_le ha1
  have ha : a < 18446744073709551616 := by omega
  refine Ev.rounds ?_
  unfold L06_QuotientScale.f
  refine Ev.bind awake06S (Ev.pos rfl (Ev.bs (known_f w) ?_))
  by_cases hw : w = 32 ∨ w = 64
  · obtain ⟨B, hB, ht, hl, hB2⟩ := r2Bw w hw
    rw [decide_eq_true hw]
    refine Ev.pos rfl (Ev.bs hB ?_)
    rw [w64_id (n := -((B : Nat) : Int)) (by omega) (by omega)]
    by_cases h1 : n ≤ -((B : Nat) : Int)
    · exact Ev.pos h1 (Ev.step (fun _ => L06_QuotientScale.j0.eq_2 ..) (Ev.pos rfl (Ev.out rfl)))
    · refine Ev.neg h1 (Ev.bs hB (Ev.step (fun _ => L06_QuotientScale.j0.eq_2 ..) ?_))
      by_cases h2 : n > (B : Int)
      · exact Ev.pos (decide_eq_true h2) (Ev.out rfl)
      · refine Ev.neg (fun h => h2 (of_decide_eq_true h)) (Ev.bs hB ?_)
        obtain ⟨E, hE⟩ := Int.eq_ofNat_of_zero_le (show 0 ≤ n + (B : Int) by omega)
        rw [w64_id (n := n + (B : Int)) (by omega) (by omega), w64_id (n := -n) (by omega) (by omega), hE]
        have hm := r2Makew w hw false E 0 (by omega) ((fmt w).pow_pos)
        rw [Nat.add_zero] at hm
        obtain ⟨x, o1, o2, o3⟩ := opn_pow w hw E (by omega) (by omega)
        have hd := divE w hw a _ ha o3
        rw [div_pow w hw _ _ (opn_ok w hw a) n (by rw [o1]) (by rw [o1]) (by rw [o2]; congr 1; omega)] at hd
        exact Ev.bind hm (Ev.bind hd (Ev.bind (scaleN w hw a ha (-n) (by omega)) (Ev.out (by simp))))
  · rw [decide_eq_false hw]
    exact Ev.neg (by decide) (Ev.step (fun _ => L06_QuotientScale.j0.eq_2 ..) (Ev.pos rfl (Ev.out rfl)))
end Go.Proofs.Ytbpmnmceajmmcaa.Th
end
namespace Go.Proofs.Ytbpmnmceajmmcaa.Pure
theorem QuotientScale : Go.Proofs.Ytbpmnmceajmmcaa.PA.L06_QuotientScale.Pure := Go.Proofs.Ytbpmnmceajmmcaa.Th.QuotientScaleP
end Go.Proofs.Ytbpmnmceajmmcaa.Pure
namespace Go.Proofs.Ytbpmnmceajmmcaa.Facts
abbrev ch (n : Nat) : Char := Char.ofNat n
theorem words_word (w : List Char) (r : List Char) (h : w.all (fun c => c != ch 32) = true) : wordsSigns (w ++ ch 32 :: r) = w :: wordsSigns r := by
  induction w with
  | nil => rfl
  | cons c w ih =>
    rw [List.all_cons, Bool.and_eq_true] at h
    have hc : c ≠ ch 32 := bne_iff_ne.1 h.1
    rw [List.cons_append]
    rw [wordsSigns.eq_3 c _ (fun e => hc e), ih h.2]
def w1 : List Char := [ch 104, ch 97, ch 114, ch 110, ch 101, ch 115, ch 115]
def w2 : List Char := [ch 97, ch 57, ch 99, ch 102, ch 100, ch 53, ch 99, ch 57, ch 100, ch 54, ch 48, ch 56, ch 102, ch 100, ch 52, ch 54, ch 54, ch 52, ch 54, ch 53, ch 57, ch 56, ch 53, ch 100, ch 57, ch 55, ch 54, ch 57, ch 102, ch 102, ch 100, ch 56, ch 53, ch 100, ch 49, ch 56, ch 54, ch 56, ch 53, ch 55, ch 54, ch 97, ch 49, ch 53, ch 100, ch 100, ch 56, ch 49, ch 54, ch 55, ch 99, ch 101, ch 56, ch 52, ch 54, ch 98, ch 102, ch 55, ch 57, ch 48, ch 52, ch 55, ch 56, ch 49]
def w3 : List Char := [ch 99, ch 117, ch 116]
set_option maxRecDepth 100000 in
def tailSigns : List Char := [ch 97, ch 116, ch 32, ch 116, ch 114, ch 117, ch 110, ch 110, ch 105, ch 111, ch 110, ch 47, ch 116, ch 114, ch 117, ch 110, ch 110, ch 105, ch 111, ch 110, ch 108, ch 97, ch 119, ch 48, ch 53, ch 46, ch 80, ch 114, ch 111, ch 100, ch 117, ch 99, ch 116, ch 84, ch 119, ch 105, ch 99, ch 101, ch 32, ch 116, ch 114, ch 117, ch 110, ch 110, ch 105, ch 111, ch 110, ch 47, ch 116, ch 114, ch 117, ch 110, ch 110, ch 105, ch 111, ch 110, ch 108, ch 97, ch 119, ch 48, ch 53, ch 46, ch 80, ch 114, ch 111, ch 100, ch 117, ch 99, ch 116, ch 83, ch 99, ch 97, ch 108, ch 101, ch 115, ch 32, ch 116, ch 114, ch 117, ch 110, ch 110, ch 105, ch 111, ch 110, ch 47, ch 116, ch 114, ch 117, ch 110, ch 110, ch 105, ch 111, ch 110, ch 108, ch 97, ch 119, ch 48, ch 54, ch 46, ch 81, ch 117, ch 111, ch 116, ch 105, ch 101, ch 110, ch 116, ch 68, ch 105, ch 118, ch 115, ch 32, ch 116, ch 114, ch 117, ch 110, ch 110, ch 105, ch 111, ch 110, ch 47, ch 116, ch 114, ch 117, ch 110, ch 110, ch 105, ch 111, ch 110, ch 108, ch 97, ch 119, ch 48, ch 54, ch 46, ch 81, ch 117, ch 111, ch 116, ch 105, ch 101, ch 110, ch 116, ch 75, ch 101, ch 101, ch 112, ch 115, ch 32, ch 116, ch 114, ch 117, ch 110, ch 110, ch 105, ch 111, ch 110, ch 47, ch 116, ch 114, ch 117, ch 110, ch 110, ch 105, ch 111, ch 110, ch 108, ch 97, ch 119, ch 48, ch 54, ch 46, ch 81, ch 117, ch 111, ch 116, ch 105, ch 101, ch 110, ch 116, ch 83, ch 99, ch 97, ch 108, ch 101, ch 32, ch 116, ch 114, ch 117, ch 110, ch 110, ch 105, ch 111, ch 110, ch 47, ch 116, ch 114, ch 117, ch 110, ch 110, ch 105, ch 111, ch 110, ch 108, ch 97, ch 119, ch 48, ch 51, ch 46, ch 82, ch 111, ch 117, ch 110, ch 100, ch 80, ch 97, ch 99, ch 107, ch 115, ch 32, ch 116, ch 114, ch 117, ch 110, ch 110, ch 105, ch 111, ch 110, ch 47, ch 116, ch 114, ch 117, ch 110, ch 110, ch 105, ch 111, ch 110, ch 108, ch 97, ch 119, ch 48, ch 51, ch 46, ch 82, ch 111, ch 117, ch 110, ch 100, ch 82, ch 105, ch 115, ch 101, ch 115, ch 32, ch 116, ch 114, ch 117, ch 110, ch 110, ch 105, ch 111, ch 110, ch 47, ch 116, ch 114, ch 117, ch 110, ch 110, ch 105, ch 111, ch 110, ch 108, ch 97, ch 119, ch 48, ch 51, ch 46, ch 82, ch 111, ch 117, ch 110, ch 100, ch 75, ch 101, ch 101, ch 112, ch 115, ch 32, ch 116, ch 114, ch 117, ch 110, ch 110, ch 105, ch 111, ch 110, ch 47, ch 116, ch 114, ch 117, ch 110, ch 110, ch 105, ch 111, ch 110, ch 108, ch 97, ch 119, ch 48, ch 52, ch 46, ch 83, ch 117, ch 109, ch 65, ch 100, ch 100, ch 115, ch 32, ch 116, ch 114, ch 117, ch 110, ch 110, ch 105, ch 111, ch 110, ch 47, ch 116, ch 114, ch 117, ch 110, ch 110, ch 105, ch 111, ch 110, ch 108, ch 97, ch 119, ch 48, ch 52, ch 46, ch 83, ch 117, ch 109, ch 79, ch 114, ch 100, ch 101, ch 114, ch 32, ch 116, ch 114, ch 117, ch 110, ch 110, ch 105, ch 111, ch 110, ch 47, ch 116, ch 114, ch 117, ch 110, ch 110, ch 105, ch 111, ch 110, ch 108, ch 97, ch 119, ch 48, ch 52, ch 46, ch 83, ch 117, ch 109, ch 67, ch 108, ch 111, ch 115, ch 101, ch 32, ch 116, ch 114, ch 117, ch 110, ch 110, ch 105, ch 111, ch 110, ch 47, ch 116, ch 114, ch 117, ch 110, ch 110, ch 105, ch 111, ch 110, ch 108, ch 97, ch 119, ch 48, ch 52, ch 46, ch 83, ch 117, ch 109, ch 84, ch 111, ch 116, ch 97, ch 108, ch 115]
set_option maxRecDepth 100000 in
theorem head_list : Try.prog.initOrder.toList = w1 ++ ch 32 :: (w2 ++ ch 32 :: (w3 ++ ch 32 :: tailSigns)) :=
  (congrArg String.toList (show Try.prog.initOrder = String.ofList (w1 ++ ch 32 :: (w2 ++ ch 32 :: (w3 ++ ch 32 :: tailSigns))) from rfl)).trans String.toList_ofList
theorem words : ∃ rest, behindMainWord (wordsSigns Try.prog.initOrder.toList) = w3 :: rest := by
  refine ⟨wordsSigns tailSigns, ?_⟩
  rw [head_list, words_word w1 _ (by kernel_rfl), words_word w2 _ (by kernel_rfl), words_word w3 _ (by kernel_rfl)]
  generalize wordsSigns tailSigns = rest
  have e : ((w1 == "harness".toList || w1 == "ownmain".toList) && isSumSigns w2) = true := by kernel_rfl
  show (if ((w1 == "harness".toList || w1 == "ownmain".toList) && isSumSigns w2) = true then w3 :: rest else w1 :: w2 :: w3 :: rest) = w3 :: rest
  rw [if_pos e]
theorem c3 : (w3 == "gc".toList) = false ∧ (w3 == "spec".toList) = false ∧ (w3 == "cut".toList) = true ∧ (w3 == "carried".toList) = false ∧ (w3 == "finals".toList) = false := ⟨by kernel_rfl, by kernel_rfl, by kernel_rfl, by kernel_rfl, by kernel_rfl⟩
theorem strip (rest : List (List Char)) : stripLifts liftWords (w3 :: rest) = ([], w3 :: rest) := by
  have key : ∀ l : List String, l.all (fun o => !(w3 == o.toList)) = true → stripLifts l (w3 :: rest) = ([], w3 :: rest) := by
    intro l
    induction l with
    | nil => intro _; rfl
    | cons o l ih =>
      intro h
      rw [List.all_cons, Bool.and_eq_true] at h
      unfold stripLifts
      rw [if_neg (fun e => by have h1 := h.1; rw [e] at h1; cases h1)]
      exact ih h.2
  exact key liftWords (by kernel_rfl)
theorem make_of (P : Program) (h : ∃ rest, behindMainWord (wordsSigns P.initOrder.toList) = w3 :: rest) : P.make = some .cut := by
  obtain ⟨rest, h⟩ := h
  unfold Program.make
  rw [h]
  show (if (w3 == "gc".toList || w3 == "spec".toList) = true then some Make.whole else if (w3 == "cut".toList || (w3 == "finals".toList && rest.head? == some "cut".toList)) = true then some Make.cut else _) = some Make.cut
  rw [if_neg (by rw [c3.1, c3.2.1]; decide), if_pos (by rw [c3.2.2.1, Bool.true_or])]
set_option maxRecDepth 100000 in
theorem liftsFact : Try.prog.liftsFinal = false := by
  unfold Program.liftsFinal Program.headLifts
  rw [head_list]
  kernel_rfl
theorem doorFact : (!Try.prog.laysLater && !Try.prog.bearsReflect && Try.prog.doorFits []) = true := by kernel_rfl
theorem makeFact : Try.prog.make = some .cut := make_of _ words
theorem enter_of (P : Program) (h : ∃ rest, behindMainWord (wordsSigns P.initOrder.toList) = w3 :: rest) (d : (!P.laysLater && !P.bearsReflect && P.doorFits []) = true) : P.mayEnter = true := by
  obtain ⟨rest, h⟩ := h
  rw [Bool.and_eq_true, Bool.and_eq_true] at d
  have e : ((some w3 == some "cut".toList) : Bool) = true := by kernel_rfl
  unfold Program.mayEnter
  rw [h]
  show ((_ || _) || ((stripLifts liftWords (w3 :: rest)).2.head? == some "cut".toList && ((stripLifts liftWords (w3 :: rest)).1.contains "finals" || !P.laysLater) && ((stripLifts liftWords (w3 :: rest)).1.contains "reflectrows" || !P.bearsReflect) &&
      ((stripLifts liftWords (w3 :: rest)).1.contains "reflectrows" || !(stripLifts liftWords (w3 :: rest)).1.contains "leanrows") && P.doorFits (stripLifts liftWords (w3 :: rest)).1)) = true
  rw [strip, Bool.or_eq_true]
  refine .inr ?_
  rw [Bool.and_eq_true, Bool.and_eq_true, Bool.and_eq_true, Bool.and_eq_true, Bool.or_eq_true, Bool.or_eq_true]
  exact ⟨⟨⟨⟨e, .inr d.1.1⟩, .inr d.1.2⟩, rfl⟩, d.2⟩
theorem enterFact : Try.prog.mayEnter = true := enter_of _ words doorFact
end Go.Proofs.Ytbpmnmceajmmcaa.Facts
