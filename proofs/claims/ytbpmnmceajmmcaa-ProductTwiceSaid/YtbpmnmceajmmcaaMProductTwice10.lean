/- What the Go functions that the statement ProductTwice reaches compute, and the mathematics on it, in the order in which one leans on the other; for every input. -/
import Derived.Test.YtbpmnmceajmmcaaVProductTwice0
import Derived.Test.YtbpmnmceajmmcaaMProductTwice4
import Derived.Test.YtbpmnmceajmmcaaMProductTwice9
import Derived.Test.YtbpmnmceajmmcaaMProductTwice0
import Derived.Deep.RegionHeld3
import Derived.Test.YtbpmnmceajmmcaaMProductTwice3
import Derived.Test.YtbpmnmceajmmcaaMProductTwice6
import Derived.Test.YtbpmnmceajmmcaaMProductTwice7
import Derived.Test.YtbpmnmceajmmcaaMProductTwice1
import Derived.Test.YtbpmnmceajmmcaaMProductTwice5
import Derived.Test.YtbpmnmceajmmcaaMProductTwice8
import Derived.Test.YtbpmnmceajmmcaaRows
import Derived.ProofKit
import Derived.JoinedOf
import Derived.KernelRfl
section
set_option linter.unusedVariables false
set_option linter.unusedSimpArgs false
namespace Go.Proofs.Ytbpmnmceajmmcaa.Th
open Flo
theorem fmt_bd (w : Int) : (fmt w).f < 100 ∧ (-5000 < (fmt w).low ∧ (fmt w).low < 0) ∧ (fmt w).top < 5000 := by
  unfold fmt; split <;> decide
theorem fmt_f (w : Int) : (fmt w).f ≤ 52 := by unfold fmt; split <;> decide
theorem pk_ex (w : Int) (S : Nat) (e : Int) (hS : S < 340282366920938463463374607431768211456) : pkm (fmt w) S e false = (fmt w).rnd ((S : Rat) * tw e) := by
  have h := fmt_bd w
  rw [← pkx_f, pkm_rnd _ h.1 h.2.1 h.2.2 S e false hS]
theorem pk_mo (w : Int) {x : Rat} {S : Nat} {e : Int} (hS : S < 340282366920938463463374607431768211456) (h0 : 9007199254740992 ≤ S) (h1 : (S : Rat) * tw e < x) (h2 : x < ((S + 1 : Nat) : Rat) * tw e) : pkm (fmt w) S e true = (fmt w).rnd x := by
  have h := fmt_bd w
  have h3 : 2 ^ ((fmt w).f + 1) ≤ S := by
    have : 2 ^ ((fmt w).f + 1) ≤ 2 ^ 53 := Nat.pow_le_pow_right (by decide) (by have := fmt_f w; omega)
    rw [show (2 : Nat) ^ 53 = 9007199254740992 by decide] at this
    omega
  rw [rnd_more _ h1 h2 h3, pkm_rnd _ h.1 h.2.1 h.2.2 S e true hS]
abbrev Pt := Bool × Int × Int × Int
noncomputable def pv (p : Pt) : Rat := if p.2.1 = 1 then (if p.1 then -((p.2.2.2.toNat : Rat) * tw p.2.2.1) else (p.2.2.2.toNat : Rat) * tw p.2.2.1) else 0
noncomputable def fx (w : Int) (s : Rat) (z : Bool) : Nat := if s = 0 then mkN w 0 z else if s < 0 then mkN w ((fmt w).rnd (-s)) true else mkN w ((fmt w).rnd s) false
noncomputable def addP (w : Int) (p q : Pt) : Nat :=
  if p.2.1 = 3 ∨ q.2.1 = 3 then nanN w else if p.2.1 = 2 then (if q.2.1 = 2 ∧ p.1 ≠ q.1 then nanN w else mkN w (fmt w).inf p.1) else if q.2.1 = 2 then mkN w (fmt w).inf q.1
  else fx w (pv p + pv q) (p.1 && q.1)
noncomputable def mulP (w : Int) (p q : Pt) : Nat :=
  if p.2.1 = 3 ∨ q.2.1 = 3 ∨ p.2.1 = 2 ∧ q.2.1 = 0 ∨ p.2.1 = 0 ∧ q.2.1 = 2 then nanN w else if p.2.1 = 2 ∨ q.2.1 = 2 then mkN w (fmt w).inf (p.1 != q.1)
  else fx w (pv p * pv q) (p.1 != q.1)
theorem fx_pos (w : Int) {s : Rat} (h : 0 < s) (z : Bool) : fx w s z = mkN w ((fmt w).rnd s) false := by
  unfold fx; rw [if_neg (by grind), if_neg (by grind)]
theorem fx_neg (w : Int) {s : Rat} (h : 0 < s) (z : Bool) : fx w (-s) z = mkN w ((fmt w).rnd s) true := by
  unfold fx; rw [if_neg (by grind), if_pos (by grind), Rat.neg_neg]
theorem fx_zero (w : Int) (z : Bool) : fx w 0 z = mkN w 0 z := by unfold fx; rw [if_pos rfl]
theorem fx_sg (w : Int) {s : Rat} (h : 0 < s) (n z : Bool) : fx w (if n then -s else s) z = mkN w ((fmt w).rnd s) n := by
  cases n
  · exact fx_pos w h z
  · exact fx_neg w h z
theorem align_eq {sa sb : Nat} {ea eb : Int} (hab : eb ≤ ea) (h0 : 0 < sa) {u d : Nat} (hu : (u : Int) = min (ea - eb) 64) (hd : (d : Int) = ea - eb - u) :
    (sa : Rat) * tw ea = ((sa * 2 ^ u : Nat) : Rat) * tw (ea - u) ∧ ((sb / 2 ^ d : Nat) : Rat) * tw (ea - u) ≤ (sb : Rat) * tw eb ∧ (sb : Rat) * tw eb < ((sb / 2 ^ d + 1 : Nat) : Rat) * tw (ea - u) ∧
    (sb % 2 ^ d = 0 → (sb : Rat) * tw eb = ((sb / 2 ^ d : Nat) : Rat) * tw (ea - u)) ∧ (sb % 2 ^ d ≠ 0 → ((sb / 2 ^ d : Nat) : Rat) * tw (ea - u) < (sb : Rat) * tw eb ∧ u = 64) := by
  have hp : 0 < 2 ^ d := Nat.pow_pos (by decide)
  have e1 : tw (ea - u) = ((2 ^ d : Nat) : Rat) * tw eb := by rw [tw_sub_nat (ea - u) eb (by omega)]; congr 3; omega
  have T := tw_pos eb
  have h1 := Nat.div_add_mod sb (2 ^ d)
  have h2 := Nat.mod_lt sb hp
  have e3 : ∀ x : Nat, (x : Rat) * tw (ea - u) = ((2 ^ d * x : Nat) : Rat) * tw eb := fun x => by rw [e1, Nat.mul_comm]; push_cast; grind
  refine ⟨?_, ?_, ?_, ?_, ?_⟩
  · rw [tw_sub_nat ea (ea - u) (by omega), show (ea - (ea - (u : Int))).toNat = u by omega]; push_cast; grind
  · rw [e3]; exact mul_le (nat_le.2 (by omega)) T
  · rw [e3]; exact mul_lt (nat_lt.2 (by rw [Nat.mul_add]; omega)) T
  · intro h; rw [e3]; congr 2; omega
  · intro h
    refine ⟨?_, ?_⟩
    · rw [e3]; exact mul_lt (nat_lt.2 (by omega)) T
    · rcases Nat.eq_zero_or_pos d with h3 | h3
      · subst h3; rw [Nat.pow_zero, Nat.mod_one] at h; exact absurd rfl h
      · omega
end Go.Proofs.Ytbpmnmceajmmcaa.Th
end
namespace Go.Proofs.Ytbpmnmceajmmcaa.PA
open Go.RowKit Go.Proofs.YtbpmnmceajmmcaaW.PrintWords Go.Proofs.YtbpmnmceajmmcaaW.PrintLast Go.Proofs.YtbpmnmceajmmcaaW.PrintMore
attribute [local go_sem] max2_int min2_int max_two min_two max_three min_three max_four min_four   -- for this text's walks alone
set_option linter.unusedVariables false
set_option linter.unusedSimpArgs false
set_option maxHeartbeats 8000000
set_option maxRecDepth 100000
def r1_Div.l0 : Nat → Int → List Int → List Int → List Int → Option (List Int × List Int)
 | 0, _, _, _, _ => none
 | k + 1, x8, x426000, x429000, x430000 => if x8 ≥ 0 then ((r1_Shl.f k x426000 x8).bind fun t432 => ((r1_Cmp.f k x430000 t432).bind fun t436 => (if t436 ≥ 0 then ((r1_Sub.f k x430000 t432).bind fun t437 => ((r1_Of.f k 1).bind fun t440 => ((r1_Shl.f k t440 x8).bind fun t443 => ((r1_Add.f k x429000 t443).bind fun t446 => (r1_Div.l0 k (wrap64 (x8 - 1)) x426000 t446 t437))))) else (r1_Div.l0 k (wrap64 (x8 - 1)) x426000 x429000 x430000)))) else (some (x429000, x430000))
def r1_Div.f (k : Nat) (l0_0 : List Int) (l1_0 : List Int) : Option (List Int × List Int) := (r1_Len.f k l0_0).bind fun t430 => ((r1_Len.f k l1_0).bind fun t431 => (r1_Div.l0 k (wrap64 (t430 - t431)) l1_0 ([] : List Int) l0_0))
theorem r1_Div.mono_l : ∀ k, (∀ y0 y1 y2 y3, LeO (r1_Div.l0 k y0 y1 y2 y3) (r1_Div.l0 (k + 1) y0 y1 y2 y3))
 | 0 => fun _ _ _ _ r h => by simp [r1_Div.l0] at h
 | k + 1 => by
  have ih0 := r1_Div.mono_l k
  ·intro y0 y1 y2 y3
   unfold r1_Div.l0
   repeat' first
   | (with_reducible exact ih0 _ _ _ _)
   | (with_reducible exact r1_Add.mono _ _ _)
   | (with_reducible exact r1_Cmp.mono _ _ _)
   | (with_reducible exact r1_Len.mono _ _)
   | (with_reducible exact r1_Of.mono _ _)
   | (with_reducible exact r1_Shl.mono _ _ _)
   | (with_reducible exact r1_Sub.mono _ _ _)
   | (with_reducible exact LeO.refl _)
   | (with_reducible exact LeO.none _)
   | (with_reducible refine LeO.ite ?_ ?_)
   | (with_reducible refine LeO.bind ?_ (fun _ => ?_))
   | exact ih0 _ _ _ _
   | exact r1_Add.mono _ _ _
   | exact r1_Cmp.mono _ _ _
   | exact r1_Len.mono _ _
   | exact r1_Of.mono _ _
   | exact r1_Shl.mono _ _ _
   | exact r1_Sub.mono _ _ _
   | exact LeO.none _
   | refine LeO.ite ?_ ?_
   | refine LeO.bind ?_ (fun _ => ?_)
theorem r1_Div.mono : ∀ a0 a1 k, LeO (r1_Div.f k a0 a1) (r1_Div.f (k + 1) a0 a1) := by
 intro a0 a1 k
 have ih0 := r1_Div.mono_l k
 unfold r1_Div.f
 repeat' first
   | (with_reducible exact ih0 _ _ _ _)
   | (with_reducible exact r1_Add.mono _ _ _)
   | (with_reducible exact r1_Cmp.mono _ _ _)
   | (with_reducible exact r1_Len.mono _ _)
   | (with_reducible exact r1_Of.mono _ _)
   | (with_reducible exact r1_Shl.mono _ _ _)
   | (with_reducible exact r1_Sub.mono _ _ _)
   | (with_reducible exact LeO.refl _)
   | (with_reducible exact LeO.none _)
   | (with_reducible refine LeO.ite ?_ ?_)
   | (with_reducible refine LeO.bind ?_ (fun _ => ?_))
   | exact ih0 _ _ _ _
   | exact r1_Add.mono _ _ _
   | exact r1_Cmp.mono _ _ _
   | exact r1_Len.mono _ _
   | exact r1_Of.mono _ _
   | exact r1_Shl.mono _ _ _
   | exact r1_Sub.mono _ _ _
   | exact LeO.none _
   | refine LeO.ite ?_ ?_
   | refine LeO.bind ?_ (fun _ => ?_)
-- IMPORT Derived.Deep.RegionHeld3
-- IMPORT Derived.Test.YtbpmnmceajmmcaaNr
theorem Nr.len (k : Nat) (v : Value) (l : List Int) (r : Int) (w : World) (n : Nr.Nr w v l) (h : r1_Len.f k l = some r) : Calls Try.prog 96 #[.agg #[v]] w fun e w' => e = .returned (.int .i64 r) ∧ Below w.heap.size w w' := by
 obtain ⟨A, c, rfl, hc, hC⟩ := n
 exact r1_Len.calls k A c l r w hC hc h
theorem Nr.cmp (k : Nat) (v v1 : Value) (l l1 : List Int) (r : Int) (w : World) (n : Nr.Nr w v l) (n1 : Nr.Nr w v1 l1) (h : r1_Cmp.f k l l1 = some r) : Calls Try.prog 113 #[.agg #[v], .agg #[v1]] w fun e w' => e = .returned (.int .i64 r) ∧ Below w.heap.size w w' := by
 obtain ⟨A, c, rfl, hc, hC⟩ := n
 obtain ⟨A1, c1, rfl, hc1, hC1⟩ := n1
 exact r1_Cmp.calls k A c l A1 c1 l1 r w hC hc hC1 hc1 h
theorem Nr.outR {f : Nat} {xs : Array Value} {w : World} {r : List Int} (h : Calls Try.prog f xs w fun e w' => ∃ v0_ : Value, e = .returned (.agg #[v0_]) ∧ Kd.R (Kd.int .u64) 22 w' w.heap.size (fun _ => True) v0_ r ∧ Below w.heap.size w w') : Calls Try.prog f xs w fun e w' => ∃ A c, e = .returned (.agg #[.slice A r.length c]) ∧ Nr.Ow 22 w.heap.size w' (.slice A r.length c) r ∧ Below w.heap.size w w' := by
 refine h.mono ?_
 rintro e w' ⟨v0, rfl, hR, hb⟩
 obtain ⟨A, c, rfl, _⟩ := Nr.Nr.of_R hR
 exact ⟨A, c, rfl, Nr.Ow.of_R hR (Nat.le_refl _), hb⟩
theorem Nr.shl (k : Nat) (v : Value) (l : List Int) (a : Int) (r : List Int) (w : World) (n : Nr.Nr w v l) (h : r1_Shl.f k l a = some r) : Calls Try.prog 78 #[.agg #[v], .int .i64 a] w fun e w' => ∃ A c, e = .returned (.agg #[.slice A r.length c]) ∧ Nr.Ow 22 w.heap.size w' (.slice A r.length c) r ∧ Below w.heap.size w w' := by
 obtain ⟨A, c, rfl, hc, hC⟩ := n
 exact Nr.outR (r1_Shl.calls k A c l a r w hC hc h)
theorem Nr.sub (k : Nat) (v v1 : Value) (l l1 : List Int) (r : List Int) (w : World) (n : Nr.Nr w v l) (n1 : Nr.Nr w v1 l1) (h : r1_Sub.f k l l1 = some r) : Calls Try.prog 118 #[.agg #[v], .agg #[v1]] w fun e w' => ∃ A c, e = .returned (.agg #[.slice A r.length c]) ∧ Nr.Ow 22 w.heap.size w' (.slice A r.length c) r ∧ Below w.heap.size w w' := by
 obtain ⟨A, c, rfl, hc, hC⟩ := n
 obtain ⟨A1, c1, rfl, hc1, hC1⟩ := n1
 exact Nr.outR (r1_Sub.calls k A c l A1 c1 l1 r w hC hc hC1 hc1 h)
theorem Nr.add (k : Nat) (v v1 : Value) (l l1 : List Int) (r : List Int) (w : World) (n : Nr.Nr w v l) (n1 : Nr.Nr w v1 l1) (h : r1_Add.f k l l1 = some r) : Calls Try.prog 80 #[.agg #[v], .agg #[v1]] w fun e w' => ∃ A c, e = .returned (.agg #[.slice A r.length c]) ∧ Nr.Ow 22 w.heap.size w' (.slice A r.length c) r ∧ Below w.heap.size w w' := by
 obtain ⟨A, c, rfl, hc, hC⟩ := n
 obtain ⟨A1, c1, rfl, hc1, hC1⟩ := n1
 exact Nr.outR (r1_Add.calls k A c l A1 c1 l1 r w hC hc hC1 hc1 h)
theorem Nr.of (k : Nat) (a : Int) (r : List Int) (w : World) (h : r1_Of.f k a = some r) : Calls Try.prog 62 #[.int .u64 a] w fun e w' => ∃ A c, e = .returned (.agg #[.slice A r.length c]) ∧ Nr.Ow 22 w.heap.size w' (.slice A r.length c) r ∧ Below w.heap.size w w' :=
 Nr.outR (r1_Of.calls k a r w h)
theorem Nr.lower {e b b' : Nat} {w : World} {v : Value} {l : List Int} (h : Nr.Ow e b w v l) (hb : b' ≤ b) : Nr.Ow e b' w v l := Nr.Ow.of_R h.out hb
theorem Nr.fresh {P : Nat → Prop} {e e' base : Nat} {w0 w1 : World} {vq vr : Value} {lq lr : List Int} (hq : Nr.Ow e base w0 vq lq) (hr : Nr.Ow e' w0.heap.size w1 vr lr) (hb : base ≤ w0.heap.size) : Nr.At (fun k => (P k ∨ base ≤ k) ∧ some k ≠ vq.ownBlock) vr :=
 (Nr.At.of_R hr.out).mono fun k hk => ⟨Or.inr (Nat.le_trans hb hk.1), fun e => Nat.lt_irrefl _ (Nat.lt_of_lt_of_le (Kd.R_lt hq.out k e.symm) hk.1)⟩
theorem Nr.atlt {w : World} {v : Value} {l : List Int} (h : Nr.Nr w v l) : Nr.At (fun k => k < w.heap.size) v := by
 obtain ⟨A, c, hv, hl, h1, h2, h3⟩ := h
 intro ad n c' e hn
 rw [hv] at e
 injection e with e1 e2 e3
 subst e2
 obtain ⟨ad', e4, h4⟩ := h3 hn
 rw [e1] at e4
 injection e4 with e4
 subst e4
 obtain ⟨x, hx⟩ : ∃ x, l[0]? = some x := ⟨l[0]'hn, List.getElem?_eq_getElem hn⟩
 obtain ⟨cs, k1, k2, k3⟩ := h4 0 x hx
 have k2' : cs = [Value.int .u64 x] := k2
 have := World.block_lt_of_cell? w _ (k3 0 (.int .u64 x) (by rw [k2']; rfl))
 rwa [add_block] at this
theorem Nr.other {P : Nat → Prop} {e' : Nat} {w0 w1 : World} {vq vq' vr : Value} {lq' lr : List Int} (ha : Nr.At (fun k => P k ∧ some k ≠ vq.ownBlock) vr) (hn : Nr.Nr w0 vr lr) (hq : Nr.Ow e' w0.heap.size w1 vq' lq') : Nr.At (fun k => P k ∧ some k ≠ vq'.ownBlock) vr := fun ad n c e hn' =>
 ⟨(ha ad n c e hn').1, fun e2 => Nat.lt_irrefl _ (Nat.lt_of_lt_of_le (Nr.atlt hn ad n c e hn') (Kd.R_base hq.out _ e2.symm))⟩
theorem Nr.undrew {w w1 : World} (h : Below w.drew.heap.size w.drew w1) : Below w.heap.size w w1 := below_step (below_drew1 (Below.refl _ _)) h
theorem Nr.unalloc {w w1 : World} {o : Obj} (h : Below (w.alloc o).heap.size (w.alloc o) w1) : Below w.heap.size w w1 := below_step (below_alloc (Below.refl _ _) o) h
theorem Nr.newlt {w w1 : World} {o : Obj} (h : Below (w.alloc o).heap.size (w.alloc o) w1) : w.heap.size < w1.heap.size := by
 have := h.size
 simp at this
 omega
theorem Nr.newcell {w w1 : World} {v : Value} {ty : Nat} (h : Below (w.alloc (.cells #[v] ty)).heap.size (w.alloc (.cells #[v] ty)) w1) : w1.cell? ⟨w.heap.size, 0, none⟩ = some v := by
 rw [(Nr.bcell h).1 _ _ (by simp)]
 exact (World.cell?_alloc_new _ _ _ _).trans rfl
theorem r1_Div.calls (k : Nat) (P0_0_ : Nat → Prop) (A0_0 : Option Addr) (c0_0 : Nat) (l0_0 : List Int) (A1_0 : Option Addr) (c1_0 : Nat) (l1_0 : List Int) (r1 : List Int) (r2 : List Int) (w : World) (hs0_0 : Kd.V (Kd.int .u64) 22 w w.heap.size (fun k_ => P0_0_ k_) (.slice A0_0 l0_0.length c0_0) l0_0) (hr1_0 : Kd.C (Kd.int .u64) w A1_0 l1_0.length l1_0) (hc1_0 : l1_0.length ≤ c1_0) (h : r1_Div.f k l0_0 l1_0 = some (r1, r2)) :
  Calls Try.prog 115 #[.agg #[.slice A0_0 l0_0.length c0_0], .agg #[.slice A1_0 l1_0.length c1_0]] w fun e w' => ∃ v0_ v1_ : Value, e = .returned (.tuple #[.agg #[v0_], .agg #[v1_]]) ∧ Kd.R (Kd.int .u64) 22 w' w.heap.size (fun k_ => (w.heap.size ≤ k_)) v0_ r1 ∧ Kd.V (Kd.int .u64) 22 w' w.heap.size (fun k_ => (P0_0_ k_ ∨ w.heap.size ≤ k_) ∧ some k_ ≠ (v0_ : Value).ownBlock) v1_ r2 ∧ Below w.heap.size w w' := by
 obtain ⟨t0, A0, H⟩ := ob_ h
 obtain ⟨t1, A1, H⟩ := ob_ H
 have L0 := A_ A0;have L1 := A_ A1;have HL := A_ H;clear h A0 A1 H
 have NA := Nr.Nr.of_V hs0_0
 have AA := A_ (Nr.At.of_V hs0_0)
 have NB := Nr.Nr.of_C hc1_0 hr1_0
 clear hs0_0 hr1_0
 go_enter Try.func115, Try.ntmps115
 go_wp2
 go_region_held3 (fun w' => w'.cell? ⟨w.heap.size, 0, none⟩ = some (.slice A0_0 l0_0.length c0_0) ∧ w'.cell? ⟨w.heap.size + 1, 0, none⟩ = some (.slice A1_0 l1_0.length c1_0) ∧ w'.cell? ⟨w.heap.size + 2, 0, none⟩ = some (.slice none 0 0) ∧ w'.cell? ⟨w.heap.size + 3, 0, none⟩ = some (.slice none 0 0) ∧ w'.cell? ⟨w.heap.size + 4, 0, none⟩ = some (.slice none 0 0) ∧ w'.cell? ⟨w.heap.size + 5, 0, none⟩ = some (.slice A0_0 l0_0.length c0_0) ∧ w'.frozen? ⟨w.heap.size + 2, 0, none⟩ = false ∧ w'.frozen? ⟨w.heap.size + 3, 0, none⟩ = false ∧ w'.frozen? ⟨w.heap.size + 4, 0, none⟩ = false ∧ w'.frozen? ⟨w.heap.size + 5, 0, none⟩ = false ∧ w.heap.size + 5 < w'.heap.size ∧ Nr.Nr w' (.slice A0_0 l0_0.length c0_0) l0_0 ∧ Nr.Nr w' (.slice A1_0 l1_0.length c1_0) l1_0 ∧ Nr.Ow 22 w.heap.size w' (.slice none 0 0) [] ∧ Below w.heap.size w w')
  (((try go_split_ands); (try dsimp only); (repeat' apply And.intro) <;> first | assumption | (rw [hc _ _ (by omega)]; assumption) | (rw [hf _ _ (by omega)]; assumption) | (rw [Nr.al (by omega)]; assumption) | (rw [Nr.alf (by omega)]; assumption) | (apply Nr.lt_al; assumption) | (have := hb.size; omega) | (refine Nr.Nr.below ?_ hb; assumption) | (apply Nr.Nr.drew; (repeat apply Nr.Nr.alloc); assumption) | (apply Nr.Nr.alloc; assumption) | (apply Nr.Nr.drew; assumption) | (exact Nr.Ow.nil _ _ _) | (refine Nr.Ow.below ?_ hb; assumption) | (apply Nr.Ow.alloc; assumption) | (apply Nr.Ow.drew; assumption) | (refine below_step ?_ hb; assumption) | (simp [go_sem, World.cell?_alloc_past]; done) | (repeat (first | assumption | exact Below.refl _ _ | apply below_drew1 | apply below_alloc | (refine below_set ?_ (by omega))))))
  ((first | (go_at_call 96; (try go_split_ands); refine (Nr.len k _ l0_0 t0 _ ?_ L0.out).mono ?_; (assumption); rintro e w1 ⟨rfl, hb⟩; obtain ⟨hc, hf⟩ := Nr.bcell hb) | (go_at_call 96; (try go_split_ands); refine (Nr.len k _ l1_0 t1 _ ?_ L1.out).mono ?_; (assumption); rintro e w2 ⟨rfl, hb⟩; obtain ⟨hc, hf⟩ := Nr.bcell hb)))
 rename_i hH
 obtain ⟨q0, q1, q2, q3, q4, q5, f2, f3, f4, f5, hz, nr, nb, ow, bl⟩ := hH
 (repeat clear hc hf)
 (repeat clear hb)
 go_wp2
 iterate 30 (rename_i left_; clear left_)
 rename_i hK
 clear H
 have at0 : Nr.At (fun k_ => (P0_0_ k_ ∨ w.heap.size ≤ k_) ∧ some k_ ≠ (Value.slice none 0 0).ownBlock) (.slice A0_0 l0_0.length c0_0) := AA.out.mono fun k hk => ⟨Or.inl hk, fun e => by cases e⟩
 go_loopg [8] k (fun kq v8 w' => ∃ (x : Int) (Aq : Option Addr) (cq : Nat) (lq : List Int) (Ar : Option Addr) (cr : Nat) (lr : List Int), v8 = .int .i64 x ∧ Aside0 (r1_Div.l0 kq x l1_0 lq lr = some (r1, r2)) ∧ Aside0 (w'.cell? ⟨w.heap.size + 1, 0, none⟩ = some (.slice A1_0 l1_0.length c1_0) ∧ w'.cell? ⟨w.heap.size + 2, 0, none⟩ = some (.slice none 0 0) ∧ w'.cell? ⟨w.heap.size + 3, 0, none⟩ = some (.slice none 0 0) ∧ w'.cell? ⟨w.heap.size + 4, 0, none⟩ = some (.slice Aq lq.length cq) ∧ w'.cell? ⟨w.heap.size + 5, 0, none⟩ = some (.slice Ar lr.length cr) ∧ w'.frozen? ⟨w.heap.size + 2, 0, none⟩ = false ∧ w'.frozen? ⟨w.heap.size + 3, 0, none⟩ = false ∧ w'.frozen? ⟨w.heap.size + 4, 0, none⟩ = false ∧ w'.frozen? ⟨w.heap.size + 5, 0, none⟩ = false ∧ w.heap.size + 5 < w'.heap.size ∧ Nr.Nr w' (.slice A1_0 l1_0.length c1_0) l1_0 ∧ Nr.Nr w' (.slice Ar lr.length cr) lr ∧ Nr.Ow 22 (w.heap.size + 6) w' (.slice Aq lq.length cq) lq ∧ Nr.At (fun k_ => (P0_0_ k_ ∨ w.heap.size ≤ k_) ∧ some k_ ≠ (Value.slice Aq lq.length cq).ownBlock) (.slice Ar lr.length cr) ∧ Below w.heap.size w w'))
 case atStart => exact ⟨_, none, 0, [], A0_0, c0_0, l0_0, by rw [i64_w], HL, q1, q2, q3, q4, q5, f2, f3, f4, f5, hz, nb, nr, Nr.Ow.nil _ _ _, at0, bl⟩
 case round =>
  (repeat clear q0 q1 q2 q3 q4 q5 f2 f3 f4 f5 hz nr ow bl at0 nb)
  obtain ⟨x, Aq, cq, lq, Ar, cr, lr, rfl, E, F⟩ := hrel
  obtain ⟨q1, q2, q3, q4, q5, f2, f3, f4, f5, hz, nb, nr, ow, at0, bl⟩ := F.out
  clear F HL
  obtain _ | kr := gk
  ·cases E.out
  have E := E.out
  unfold r1_Div.l0 at E
  by_cases hx : x ≥ 0
  ·rw [if_pos hx] at E
   have c0 : decide (0 ≤ x) = true := decide_eq_true hx
   obtain ⟨t, T0, E⟩ := ob_ E
   obtain ⟨u, T1, E⟩ := ob_ E
   replace T0 := A_ T0;replace T1 := A_ T1;replace hx := A_ hx
   by_cases hu : u ≥ 0
   ·rw [if_pos hu] at E
    obtain ⟨s, S0, E⟩ := ob_ E
    obtain ⟨o1, S1, E⟩ := ob_ E
    obtain ⟨o2, S2, E⟩ := ob_ E
    obtain ⟨q', S3, E⟩ := ob_ E
    replace S0 := A_ S0;replace S1 := A_ S1;replace S2 := A_ S2;replace S3 := A_ S3;have EE := A_ E;clear E
    have cu : decide (0 ≤ u) = true := decide_eq_true hu
    clear hu
    go_wp2_with (first | (go_at_call 78; refine (Nr.shl kr _ l1_0 x t _ nb T0.out).mono ?_; rintro e w1 ⟨At, ct, rfl, ot, hb⟩; (try replace hb := Nr.undrew hb); obtain ⟨hc, hf⟩ := Nr.bcell hb; have hs := hb.size; replace q1 := (hc _ _ (by omega)).trans q1; replace q2 := (hc _ _ (by omega)).trans q2; replace q3 := (hc _ _ (by omega)).trans q3; replace q4 := (hc _ _ (by omega)).trans q4; replace q5 := (hc _ _ (by omega)).trans q5; replace f2 := (hf _ _ (by omega)).trans f2; replace f3 := (hf _ _ (by omega)).trans f3; replace f4 := (hf _ _ (by omega)).trans f4; replace f5 := (hf _ _ (by omega)).trans f5; replace nb := Nr.Nr.below nb hb; replace nr := Nr.Nr.below nr hb; replace ow := Nr.Ow.below ow hb; replace bl := below_step bl hb; replace hz := Nat.lt_of_lt_of_le hz hs; clear hc hf hs hb) | (go_at_call 113; refine (Nr.cmp kr _ _ lr t u _ (Nr.Nr.alloc nr _) (Nr.Nr.alloc ot.nr _) T1.out).mono ?_; rintro e w2 ⟨rfl, hb⟩; have tq := Nr.newcell hb; have ht := Nr.newlt hb; replace hb := Nr.unalloc hb; (try replace hb := Nr.undrew hb); obtain ⟨hc, hf⟩ := Nr.bcell hb; have hs := hb.size; replace q1 := (hc _ _ (by omega)).trans q1; replace q2 := (hc _ _ (by omega)).trans q2; replace q3 := (hc _ _ (by omega)).trans q3; replace q4 := (hc _ _ (by omega)).trans q4; replace q5 := (hc _ _ (by omega)).trans q5; replace f2 := (hf _ _ (by omega)).trans f2; replace f3 := (hf _ _ (by omega)).trans f3; replace f4 := (hf _ _ (by omega)).trans f4; replace f5 := (hf _ _ (by omega)).trans f5; replace nb := Nr.Nr.below nb hb; replace nr := Nr.Nr.below nr hb; replace ow := Nr.Ow.below ow hb; replace ot := Nr.Ow.below ot hb; replace bl := below_step bl hb; replace hz := Nat.lt_of_lt_of_le hz hs; clear hc hf hs hb) | (go_at_call 118; refine (Nr.sub kr _ _ lr t s _ nr ot.nr S0.out).mono ?_; rintro e w3 ⟨As, cs, rfl, os, hb⟩; have at1 := Nr.fresh (P := P0_0_) (Nr.lower ow (b' := w.heap.size) (by omega)) os (by omega); replace os := Nr.lower os (b' := w.heap.size + 6) (by omega); (try replace hb := Nr.undrew hb); obtain ⟨hc, hf⟩ := Nr.bcell hb; have hs := hb.size; replace q1 := (hc _ _ (by omega)).trans q1; replace q2 := (hc _ _ (by omega)).trans q2; replace q3 := (hc _ _ (by omega)).trans q3; replace q4 := (hc _ _ (by omega)).trans q4; replace q5 := (hc _ _ (by omega)).trans q5; replace f2 := (hf _ _ (by omega)).trans f2; replace f3 := (hf _ _ (by omega)).trans f3; replace f4 := (hf _ _ (by omega)).trans f4; replace f5 := (hf _ _ (by omega)).trans f5; replace nb := Nr.Nr.below nb hb; replace nr := Nr.Nr.below nr hb; replace ow := Nr.Ow.below ow hb; replace ot := Nr.Ow.below ot hb; replace bl := below_step bl hb; replace hz := Nat.lt_of_lt_of_le hz hs; clear hc hf hs hb))
    generalize hW : World.setCell _ _ _ = w4
    have hz4 : w4.heap.size = w3.heap.size := by rw [← hW]; simp
    have hc : ∀ b, b ≠ w.heap.size + 5 → w4.cell? ⟨b, 0, none⟩ = w3.cell? ⟨b, 0, none⟩ := fun b hb => by rw [← hW]; exact World.cell?_setCell_far _ _ _ _ (fun e => hb e.symm)
    have hf : ∀ b, w4.frozen? ⟨b, 0, none⟩ = w3.frozen? ⟨b, 0, none⟩ := fun b => by rw [← hW]; exact World.frozen?_setCell _ _ _ _
    have hi : Nr.IsRow (w3.cell? ⟨w.heap.size + 5, 0, none⟩) := by rw [q5]; exact Nr.IsRow.slice _ _ _
    replace q5 : w4.cell? ⟨w.heap.size + 5, 0, none⟩ = some (.slice As s.length cs) := by rw [← hW]; exact World.cell?_setCell_same _ _ _ q5
    replace q1 := (hc _ (by omega)).trans q1
    replace q2 := (hc _ (by omega)).trans q2
    replace q3 := (hc _ (by omega)).trans q3
    replace q4 := (hc _ (by omega)).trans q4
    replace f2 := (hf _).trans f2
    replace f3 := (hf _).trans f3
    replace f4 := (hf _).trans f4
    replace f5 := (hf _).trans f5
    replace nb : Nr.Nr w4 (.slice A1_0 l1_0.length c1_0) l1_0 := by rw [← hW]; exact Nr.Nr.set nb _ hi
    replace ow : Nr.Ow 22 (w.heap.size + 6) w4 (.slice Aq lq.length cq) lq := by rw [← hW]; exact Nr.Ow.set ow _ (fun e => by have h6 : _ ≤ w.heap.size + 5 := Kd.R_base ow.out _ e; omega)
    replace os : Nr.Ow 22 (w.heap.size + 6) w4 (.slice As s.length cs) s := by rw [← hW]; exact Nr.Ow.set os _ (fun e => by have h6 : _ ≤ w.heap.size + 5 := Kd.R_base os.out _ e; omega)
    replace bl : Below w.heap.size w w4 := by rw [← hW]; exact below_set bl (by omega)
    replace hz : w.heap.size + 5 < w4.heap.size := by omega
    clear hW hc hf hi hz4
    replace nr := os.nr
    clear os
    go_region_with (first | (go_at_call 62; refine (Nr.of kr 1 o1 _ S1.out).mono ?_; rintro e w5 ⟨Ao, co, rfl, oo, hb⟩; (try replace hb := Nr.undrew hb); obtain ⟨hc, hf⟩ := Nr.bcell hb; have hs := hb.size; replace q1 := (hc _ _ (by omega)).trans q1; replace q2 := (hc _ _ (by omega)).trans q2; replace q3 := (hc _ _ (by omega)).trans q3; replace q4 := (hc _ _ (by omega)).trans q4; replace q5 := (hc _ _ (by omega)).trans q5; replace f2 := (hf _ _ (by omega)).trans f2; replace f3 := (hf _ _ (by omega)).trans f3; replace f4 := (hf _ _ (by omega)).trans f4; replace f5 := (hf _ _ (by omega)).trans f5; replace nb := Nr.Nr.below nb hb; replace nr := Nr.Nr.below nr hb; replace ow := Nr.Ow.below ow hb; replace bl := below_step bl hb; replace hz := Nat.lt_of_lt_of_le hz hs; clear hc hf hs hb) | (go_at_call 78; refine (Nr.shl kr _ o1 x o2 _ oo.nr S2.out).mono ?_; rintro e w6 ⟨Ap, cp, rfl, op, hb⟩; (try replace hb := Nr.undrew hb); obtain ⟨hc, hf⟩ := Nr.bcell hb; have hs := hb.size; replace q1 := (hc _ _ (by omega)).trans q1; replace q2 := (hc _ _ (by omega)).trans q2; replace q3 := (hc _ _ (by omega)).trans q3; replace q4 := (hc _ _ (by omega)).trans q4; replace q5 := (hc _ _ (by omega)).trans q5; replace f2 := (hf _ _ (by omega)).trans f2; replace f3 := (hf _ _ (by omega)).trans f3; replace f4 := (hf _ _ (by omega)).trans f4; replace f5 := (hf _ _ (by omega)).trans f5; replace nb := Nr.Nr.below nb hb; replace nr := Nr.Nr.below nr hb; replace ow := Nr.Ow.below ow hb; replace oo := Nr.Ow.below oo hb; replace bl := below_step bl hb; replace hz := Nat.lt_of_lt_of_le hz hs; clear hc hf hs hb) | (go_at_call 80; refine (Nr.add kr _ _ lq o2 q' _ ow.nr op.nr S3.out).mono ?_; rintro e w7 ⟨Az, cz, rfl, oz, hb⟩; have at2 := Nr.other at1 nr oz; have oz := Nr.lower oz (b' := w.heap.size + 6) (by omega); (try replace hb := Nr.undrew hb); obtain ⟨hc, hf⟩ := Nr.bcell hb; have hs := hb.size; replace q1 := (hc _ _ (by omega)).trans q1; replace q2 := (hc _ _ (by omega)).trans q2; replace q3 := (hc _ _ (by omega)).trans q3; replace q4 := (hc _ _ (by omega)).trans q4; replace q5 := (hc _ _ (by omega)).trans q5; replace f2 := (hf _ _ (by omega)).trans f2; replace f3 := (hf _ _ (by omega)).trans f3; replace f4 := (hf _ _ (by omega)).trans f4; replace f5 := (hf _ _ (by omega)).trans f5; replace nb := Nr.Nr.below nb hb; replace nr := Nr.Nr.below nr hb; replace ow := Nr.Ow.below ow hb; replace bl := below_step bl hb; replace hz := Nat.lt_of_lt_of_le hz hs; clear hc hf hs hb))
    all_goals (
     generalize hW : World.setCell _ _ _ = w8
     have hz4 : w8.heap.size = w7.heap.size := by rw [← hW]; simp
     have hc : ∀ b, b ≠ w.heap.size + 4 → w8.cell? ⟨b, 0, none⟩ = w7.cell? ⟨b, 0, none⟩ := fun b hb => by rw [← hW]; exact World.cell?_setCell_far _ _ _ _ (fun e => hb e.symm)
     have hf : ∀ b, w8.frozen? ⟨b, 0, none⟩ = w7.frozen? ⟨b, 0, none⟩ := fun b => by rw [← hW]; exact World.frozen?_setCell _ _ _ _
     have hi : Nr.IsRow (w7.cell? ⟨w.heap.size + 4, 0, none⟩) := by rw [q4]; exact Nr.IsRow.slice _ _ _
     replace q4 : w8.cell? ⟨w.heap.size + 4, 0, none⟩ = some (.slice Az q'.length cz) := by rw [← hW]; exact World.cell?_setCell_same _ _ _ q4
     replace q1 := (hc _ (by omega)).trans q1
     replace q2 := (hc _ (by omega)).trans q2
     replace q3 := (hc _ (by omega)).trans q3
     replace q5 := (hc _ (by omega)).trans q5
     replace f2 := (hf _).trans f2
     replace f3 := (hf _).trans f3
     replace f4 := (hf _).trans f4
     replace f5 := (hf _).trans f5
     replace nb : Nr.Nr w8 (.slice A1_0 l1_0.length c1_0) l1_0 := by rw [← hW]; exact Nr.Nr.set nb _ hi
     replace nr : Nr.Nr w8 (.slice As s.length cs) s := by rw [← hW]; exact Nr.Nr.set nr _ hi
     replace oz : Nr.Ow 22 (w.heap.size + 6) w8 (.slice Az q'.length cz) q' := by rw [← hW]; exact Nr.Ow.set oz _ (fun e => by have h6 : _ ≤ w.heap.size + 4 := Kd.R_base oz.out _ e; omega)
     replace bl : Below w.heap.size w w8 := by rw [← hW]; exact below_set bl (by omega)
     replace hz : w.heap.size + 5 < w8.heap.size := by omega
     clear hW hc hf hi hz4
     go_wp2
     go_roundg kr
     case measure => omega
     case rel => exact ⟨_, Az, cz, q', As, cs, s, rfl, EE, ⟨q1, q2, q3, q4, q5, f2, f3, f4, f5, hz, nb, nr, oz, at2, bl⟩⟩)
   ·rw [if_neg hu] at E
    have EE := A_ E;clear E
    have cu : decide (0 ≤ u) = false := decide_eq_false hu
    clear hu
    go_wp2_with (first | (go_at_call 78; refine (Nr.shl kr _ l1_0 x t _ nb T0.out).mono ?_; rintro e w1 ⟨At, ct, rfl, ot, hb⟩; (try replace hb := Nr.undrew hb); obtain ⟨hc, hf⟩ := Nr.bcell hb; have hs := hb.size; replace q1 := (hc _ _ (by omega)).trans q1; replace q2 := (hc _ _ (by omega)).trans q2; replace q3 := (hc _ _ (by omega)).trans q3; replace q4 := (hc _ _ (by omega)).trans q4; replace q5 := (hc _ _ (by omega)).trans q5; replace f2 := (hf _ _ (by omega)).trans f2; replace f3 := (hf _ _ (by omega)).trans f3; replace f4 := (hf _ _ (by omega)).trans f4; replace f5 := (hf _ _ (by omega)).trans f5; replace nb := Nr.Nr.below nb hb; replace nr := Nr.Nr.below nr hb; replace ow := Nr.Ow.below ow hb; replace bl := below_step bl hb; replace hz := Nat.lt_of_lt_of_le hz hs; clear hc hf hs hb) | (go_at_call 113; refine (Nr.cmp kr _ _ lr t u _ (Nr.Nr.alloc nr _) (Nr.Nr.alloc ot.nr _) T1.out).mono ?_; rintro e w2 ⟨rfl, hb⟩; have tq := Nr.newcell hb; have ht := Nr.newlt hb; replace hb := Nr.unalloc hb; (try replace hb := Nr.undrew hb); obtain ⟨hc, hf⟩ := Nr.bcell hb; have hs := hb.size; replace q1 := (hc _ _ (by omega)).trans q1; replace q2 := (hc _ _ (by omega)).trans q2; replace q3 := (hc _ _ (by omega)).trans q3; replace q4 := (hc _ _ (by omega)).trans q4; replace q5 := (hc _ _ (by omega)).trans q5; replace f2 := (hf _ _ (by omega)).trans f2; replace f3 := (hf _ _ (by omega)).trans f3; replace f4 := (hf _ _ (by omega)).trans f4; replace f5 := (hf _ _ (by omega)).trans f5; replace nb := Nr.Nr.below nb hb; replace nr := Nr.Nr.below nr hb; replace ow := Nr.Ow.below ow hb; replace ot := Nr.Ow.below ot hb; replace bl := below_step bl hb; replace hz := Nat.lt_of_lt_of_le hz hs; clear hc hf hs hb))
    go_roundg kr
    case measure => omega
    case rel => exact ⟨_, Aq, cq, lq, Ar, cr, lr, rfl, EE, ⟨q1, q2, q3, q4, q5, f2, f3, f4, f5, hz, nb, nr, ow, at0, bl⟩⟩
  ·rw [if_neg hx] at E
   have c0 : decide (0 ≤ x) = false := decide_eq_false hx
   injection E with E
   injection E with E1 E2
   subst E1
   subst E2
   clear hx E
   go_wp2
   go_region
   go_wp2
   have i2 : Nr.IsRow (wr.cell? ⟨w.heap.size + 2, 0, none⟩) := by rw [q2]; exact Nr.IsRow.slice _ _ _
   have e2 := World.cell?_setCell_same _ _ (.slice Aq lq.length cq) q2
   have e3 : (wr.setCell ⟨w.heap.size + 2, 0, none⟩ (.slice Aq lq.length cq)).cell? ⟨w.heap.size + 3, 0, none⟩ = some (.slice none 0 0) := (World.cell?_setCell_far _ _ _ _ (by simp)).trans q3
   have i3 : Nr.IsRow ((wr.setCell ⟨w.heap.size + 2, 0, none⟩ (.slice Aq lq.length cq)).cell? ⟨w.heap.size + 3, 0, none⟩) := by rw [e3]; exact Nr.IsRow.slice _ _ _
   have e4 := World.cell?_setCell_same _ _ (.slice Ar lr.length cr) e3
   have e5 : ((wr.setCell ⟨w.heap.size + 2, 0, none⟩ (.slice Aq lq.length cq)).setCell ⟨w.heap.size + 3, 0, none⟩ (.slice Ar lr.length cr)).cell? ⟨w.heap.size + 2, 0, none⟩ = some (.slice Aq lq.length cq) := (World.cell?_setCell_far _ _ _ _ (by simp)).trans e2
   have ow' := Nr.Ow.drew (Nr.Ow.set (Nr.Ow.set ow (p := ⟨w.heap.size + 2, 0, none⟩) (.slice Aq lq.length cq) (fun e => by have h6 : _ ≤ w.heap.size + 2 := Kd.R_base ow.out _ e; omega)) (p := ⟨w.heap.size + 3, 0, none⟩) (.slice Ar lr.length cr) (fun e => by have h6 : _ ≤ w.heap.size + 3 := Kd.R_base ow.out _ e; omega))
   have nr' := Nr.Nr.drew (Nr.Nr.set (Nr.Nr.set nr (.slice Aq lq.length cq) i2) (.slice Ar lr.length cr) i3)
   exact bodyPost_ret (v := .tuple #[.agg #[.slice Aq lq.length cq], .agg #[.slice Ar lr.length cr]]) (by simp [results, Try.results115, go_sem, e4, e5]) rfl ⟨_, _, rfl, (Nr.lower ow' (by omega)).out, Nr.Nr.toV nr' at0, below_drew1 (below_set (below_set bl (by omega)) (by omega))⟩
end Go.Proofs.Ytbpmnmceajmmcaa.PA
section
set_option linter.unusedVariables false
set_option linter.unusedSimpArgs false
namespace Go.Proofs.Ytbpmnmceajmmcaa.Th
open Go.RowKit Go.Proofs.YtbpmnmceajmmcaaW.PrintWords Go.Proofs.YtbpmnmceajmmcaaW.PrintLast Go.Proofs.YtbpmnmceajmmcaaW.PrintMore Go.Proofs.Ytbpmnmceajmmcaa.PA Bit Flo
theorem packE (w : Int) (hw : w = 32 ∨ w = 64) (s : Bool) (h l : Nat) (hh : h < 18446744073709551616) (hl : l < 18446744073709551616) (e : Int) (m : Bool) : round_Pack.f w s h l e m = some ((mkN w (pkm (fmt w) (wn h l) e m) s : Nat) : Int) := by
  unfold round_Pack.f
  rw [if_pos (by omega), if_pos hw, Int.toNat_natCast, Int.toNat_natCast]
theorem packV (w : Int) (hw : w = 32 ∨ w = 64) (s : Bool) (V : Nat) (hV : V < 340282366920938463463374607431768211456) (e : Int) (m : Bool) : round_Pack.f w s ((V / 18446744073709551616 : Nat) : Int) ((V % 18446744073709551616 : Nat) : Int) e m = some ((mkN w (pkm (fmt w) V e m) s : Nat) : Int) := by
  rw [packE w hw s _ _ (hi64 hV) (lo64 V), wn_div]
theorem pack1 (w : Int) (hw : w = 32 ∨ w = 64) (s : Bool) (n : Nat) (hn : n < 18446744073709551616) (e : Int) : round_Pack.f w s 0 n e false = some ((mkN w ((fmt w).rnd ((n : Rat) * tw e)) s : Nat) : Int) := by
  have := packE w hw s 0 n (by decide) hn e false
  rw [show wn 0 n = n by unfold wn; omega, pk_ex w n e (by omega)] at this
  exact this
theorem shN (w : Int) (hw : w = 32 ∨ w = 64) : shape_Nan.f w = some ((nanN w : Nat) : Int) := by rcases hw with rfl | rfl; exact shNan32; exact shNan64
theorem pv0 {p : Pt} (h : p.2.1 ≠ 1) : pv p = 0 := by unfold pv; rw [if_neg h]
theorem pv1 (s : Bool) (e : Int) (g : Nat) : pv (s, 1, e, (g : Int)) = if s then -((g : Rat) * tw e) else (g : Rat) * tw e := by
  unfold pv; rw [if_pos rfl]; simp
theorem pos_tw {g : Nat} (h : 0 < g) (e : Int) : 0 < (g : Rat) * tw e := Rat.mul_pos (by exact_mod_cast h) (tw_pos e)
def PtOk (p : Pt) : Prop := (p.2.1 = 0 ∨ p.2.1 = 1 ∨ p.2.1 = 2 ∨ p.2.1 = 3) ∧ (p.2.1 = 1 → 0 < p.2.2.2) ∧ (p.2.1 ≠ 1 → p.2.2.2 = 0 ∧ p.2.2.1 = 0) ∧ 0 ≤ p.2.2.2 ∧ p.2.2.2 < 9007199254740992 ∧ -1100 ≤ p.2.2.1 ∧ p.2.2.1 ≤ 1000
theorem opn_ok (w : Int) (hw : w = 32 ∨ w = 64) (a : Nat) : PtOk (opn w a) := by
  rcases kinds w hw a with ⟨_, h⟩ | ⟨h1, h2, h⟩ | ⟨_, h⟩ | ⟨_, h⟩ <;> rw [h]
  · exact ⟨.inl rfl, fun h => absurd h (by simp), fun _ => ⟨rfl, rfl⟩, by simp, by simp, by simp, by simp⟩
  · have h3 := ex_bd w hw _ h2
    have h4 := sg_64 w hw (magN w a)
    refine ⟨.inr (.inl rfl), fun _ => ?_, fun h => absurd rfl h, by simp, by simp; omega, by simp; omega, by simp; omega⟩
    have : 0 < (fmt w).val (magN w a) := (fmt w).val_pos.2 h1
    unfold Fmt.val at this
    rcases Nat.eq_zero_or_pos ((fmt w).sg (magN w a)) with h5 | h5
    · rw [h5] at this; simp at this
    · simp; omega
  · exact ⟨.inr (.inr (.inl rfl)), fun h => absurd h (by simp), fun _ => ⟨rfl, rfl⟩, by simp, by simp, by simp, by simp⟩
  · exact ⟨.inr (.inr (.inr rfl)), fun h => absurd h (by simp), fun _ => ⟨rfl, rfl⟩, by simp, by simp, by simp, by simp⟩
end Go.Proofs.Ytbpmnmceajmmcaa.Th
end
section
set_option linter.unusedVariables false
set_option linter.unusedSimpArgs false
namespace Go.Proofs.Ytbpmnmceajmmcaa.Th
open Go.RowKit Go.Proofs.YtbpmnmceajmmcaaW.PrintWords Go.Proofs.YtbpmnmceajmmcaaW.PrintLast Go.Proofs.YtbpmnmceajmmcaaW.PrintMore Go.Proofs.Ytbpmnmceajmmcaa.PA Bit Dig Flo
noncomputable def narG (w : Int) (s : Bool) (kd e : Int) (g : Nat) : Nat := if kd = 0 then mkN w 0 s else if kd = 1 then mkN w ((fmt w).rnd ((g : Rat) * tw e)) s else if kd = 2 then mkN w (fmt w).inf s else if kd = 3 then nanN w else 0
theorem narrowG (w : Int) (hw : w = 32 ∨ w = 64) (s : Bool) (kd e : Int) (g : Nat) (hg : g < 18446744073709551616) : round_Narrow.f w s kd e g = some ((narG w s kd e g : Nat) : Int) := by
  unfold round_Narrow.f narG
  by_cases h0 : kd = 0
  · rw [if_pos h0, if_pos h0, shZ w hw, Option.bind_some]
  · rw [if_neg h0, if_neg h0]
    by_cases h1 : kd = 1
    · rw [if_pos h1, if_pos h1, ofW g, Option.bind_some]
      show (round_Pack.f w s 0 (g : Int) e false).bind _ = _
      rw [pack1 w hw s g hg e, Option.bind_some]
    · rw [if_neg h1, if_neg h1]
      by_cases h2 : kd = 2
      · rw [if_pos h2, if_pos h2, shI w hw, Option.bind_some]
      · rw [if_neg h2, if_neg h2]
        by_cases h3 : kd = 3
        · rw [if_pos h3, if_pos h3, shN w hw, Option.bind_some]
        · rw [if_neg h3, if_neg h3]; rfl
theorem mul_pv (s t : Bool) (e e2 : Int) (g g2 : Nat) : pv (s, 1, e, (g : Int)) * pv (t, 1, e2, (g2 : Int)) = if (s != t) then -(((g * g2 : Nat) : Rat) * tw (e + e2)) else ((g * g2 : Nat) : Rat) * tw (e + e2) := by
  rw [pv1, pv1, tw_add]
  push_cast
  generalize tw e = x
  generalize tw e2 = y
  cases s <;> cases t <;> simp <;> grind
theorem mul_fx (w : Int) (s t : Bool) (e e2 : Int) {g g2 : Nat} (h : 0 < g) (h2 : 0 < g2) (z : Bool) : fx w (pv (s, 1, e, (g : Int)) * pv (t, 1, e2, (g2 : Int))) z = mkN w ((fmt w).rnd (((g * g2 : Nat) : Rat) * tw (e + e2))) (s != t) := by
  rw [mul_pv]
  exact fx_sg w (pos_tw (Nat.mul_pos h h2) _) _ z
set_option maxRecDepth 20000 in
theorem mulProg (w : Int) (hw : w = 32 ∨ w = 64) (p q : Pt) (hp : PtOk p) (hq : PtOk q) : Ev (fun k => product_parts.f k w p.1 p.2.1 p.2.2.1 p.2.2.2 q.1 q.2.1 q.2.2.1 q.2.2.2) ((mulP w p q : Nat) : Int) := by
  obtain ⟨s, kd, e, g⟩ := p
  obtain ⟨t, kd2, e2, g2⟩ := q
  obtain ⟨h1, h2, h0, h3, h4, h5, h6⟩ := hp
  obtain ⟨k1, k2, k0, k3, k4, k5, k6⟩ := hq
  simp only at h1 h2 h0 h3 h4 h5 h6 k1 k2 k0 k3 k4 k5 k6
  obtain ⟨g, rfl⟩ := Int.eq_ofNat_of_zero_le h3
  obtain ⟨g2, rfl⟩ := Int.eq_ofNat_of_zero_le k3
  simp only
  generalize hR : mulP w (s, kd, e, (g : Int)) (t, kd2, e2, (g2 : Int)) = R
  unfold product_parts.f
  have fin : 0 < g → 0 < g2 → Ev (fun k => (wide_Mul.f (g : Int) (g2 : Int)).bind fun bt => (round_Pack.f w (s != t) bt.1 bt.2 (wrap64 (e + e2)) false).bind fun t => some t) ((mkN w ((fmt w).rnd (((g * g2 : Nat) : Rat) * tw (e + e2))) (s != t) : Nat) : Int) := by
    intro _ _
    have hlt : g * g2 < 340282366920938463463374607431768211456 := by
      have := Nat.mul_lt_mul'' (show g < 9007199254740992 by omega) (show g2 < 9007199254740992 by omega)
      omega
    refine Ev.bs (mulW g g2 (by omega) (by omega)) ?_
    rw [w64_id (n := e + e2) (by omega) (by omega)]
    refine Ev.bs (packV w hw (s != t) (g * g2) hlt (e + e2) false) (Ev.out ?_)
    rw [pk_ex w _ _ hlt]
  rcases h1 with rfl | rfl | rfl | rfl <;> rcases k1 with rfl | rfl | rfl | rfl
  all_goals
    simp [mulP, pv0, fx_zero] at hR
    subst hR
    repeat (first
      | (with_reducible refine Ev.pos (by decide) ?_)
      | (with_reducible refine Ev.neg (by decide) ?_)
      | (with_reducible refine Ev.step (fun _ => product_parts.j0.eq_2 ..) ?_)
      | (with_reducible refine Ev.step (fun _ => product_parts.j1.eq_2 ..) ?_)
      | (with_reducible refine Ev.step (fun _ => product_parts.j2.eq_2 ..) ?_))
  all_goals first
    | (rw [mul_fx w s t e e2 (by have := h2 rfl; omega) (by have := k2 rfl; omega)]
       exact fin (by have := h2 rfl; omega) (by have := k2 rfl; omega))
    | (exact Ev.bs (shN w hw) (Ev.out rfl))
    | (exact Ev.bs (shI w hw _) (Ev.out rfl))
    | (exact Ev.bs (shZ w hw _) (Ev.out rfl))
theorem prodE (w : Int) (hw : w = 32 ∨ w = 64) (a b : Nat) (ha : a < 18446744073709551616) (hb : b < 18446744073709551616) : Ev (fun k => product_Mul.f k w a b) ((mulP w (opn w a) (opn w b) : Nat) : Int) := by
  unfold product_Mul.f
  refine Ev.bs (show product_known.f w = some true by rcases hw with rfl | rfl <;> rfl) (Ev.pos rfl (Ev.bind (openS w hw a ha) (Ev.bind (openS w hw b hb) ?_)))
  exact Ev.bind (mulProg w hw _ _ (opn_ok w hw a) (opn_ok w hw b)) (Ev.out rfl)
theorem awake05 : Ev (fun k => L05_awake.f k) true := Ev.of (fun k => L05_awake.mono k) (k := 12) (by decide +kernel)
theorem inf_sb (w : Int) (hw : w = 32 ∨ w = 64) : (fmt w).inf < sb w ∧ nanN w < sb w ∧ (fmt w).inf < nanN w ∧ nanN w = mkN w (nanN w) false := by
  rcases hw with rfl | rfl
  · rw [fmt32, inf32]; exact ⟨by decide, by decide, by decide, by decide⟩
  · rw [fmt64, inf64]; exact ⟨by decide, by decide, by decide, by decide⟩
theorem wAdd {A B : Nat} (h : A + B < 340282366920938463463374607431768211456) : wide_Add.f (wH A) (wL A) (wH B) (wL B) = some (wH (A + B), wL (A + B)) := by
  have := addW (A / 18446744073709551616) (A % 18446744073709551616) (B / 18446744073709551616) (B % 18446744073709551616) (hi64 (by omega)) (lo64 A) (hi64 (by omega)) (lo64 B)
  rw [wn_div, wn_div, Nat.mod_eq_of_lt h] at this
  exact this
theorem wSub {A B : Nat} (h : A < 340282366920938463463374607431768211456) (hb : B ≤ A) : wide_Sub.f (wH A) (wL A) (wH B) (wL B) = some (wH (A - B), wL (A - B)) := by
  have := subW (A / 18446744073709551616) (A % 18446744073709551616) (B / 18446744073709551616) (B % 18446744073709551616) (hi64 (by omega)) (lo64 A) (hi64 (by omega)) (lo64 B)
  rw [wn_div, wn_div, show (A + (340282366920938463463374607431768211456 - B)) % 340282366920938463463374607431768211456 = A - B by omega] at this
  exact this
theorem wCmp (A B : Nat) : wide_Cmp.f (wH A) (wL A) (wH B) (wL B) = some (cmpN A B) := by
  have := cmpW (A / 18446744073709551616) (A % 18446744073709551616) (B / 18446744073709551616) (B % 18446744073709551616) (lo64 A) (lo64 B)
  rwa [wn_div, wn_div] at this
theorem wPack (w : Int) (hw : w = 32 ∨ w = 64) (s : Bool) (V : Nat) (hV : V < 340282366920938463463374607431768211456) (e : Int) (m : Bool) : round_Pack.f w s (wH V) (wL V) e m = some ((mkN w (pkm (fmt w) V e m) s : Nat) : Int) := packV w hw s V hV e m
theorem alignE (s t : Bool) (k1 k2 : Int) {g g2 : Nat} {e e2 : Int} (hg : g < 9007199254740992) (hg2 : g2 < 9007199254740992) (h1 : -1100 ≤ e2) (h2 : e2 ≤ e) (h3 : e ≤ 1000) {u d : Nat} (hu : (u : Int) = min (e - e2) 64) (hd : (d : Int) = e - e2 - u) :
    sum_align.f s k1 e g t k2 e2 g2 = some (wH (g * 2 ^ u), wL (g * 2 ^ u), wH (g2 / 2 ^ d), wL (g2 / 2 ^ d), e - u, decide (g2 % 2 ^ d ≠ 0)) := by
  have hp : 2 ^ u ≤ 18446744073709551616 := by
    have := Nat.pow_le_pow_right (show 0 < 2 by decide) (show u ≤ 64 by omega)
    rwa [show (2 : Nat) ^ 64 = 18446744073709551616 by decide] at this
  have hm : g * 2 ^ u < 340282366920938463463374607431768211456 := by
    have := Nat.mul_le_mul (show g ≤ 9007199254740992 by omega) hp
    omega
  unfold sum_align.f
  rw [ofW g, Option.bind_some, w64_id (n := e - e2) (by omega) (by omega)]
  have hmn : mn (e - e2) 64 = (u : Int) := by unfold mn; rw [hu]; split <;> omega
  rw [hmn]
  have hl := wLeft (V := g) (by omega) u (by omega) hm
  have hr := wRight (V := g2) (by omega) d (by omega)
  rw [(wSmall (V := g) (by omega)).1, (wSmall (V := g) (by omega)).2] at hl
  rw [(wSmall (V := g2) (by omega)).1, (wSmall (V := g2) (by omega)).2] at hr
  simp only
  rw [hl, Option.bind_some, ofW g2, Option.bind_some, w64_id (n := e - e2 - u) (by omega) (by omega), ← hd]
  simp only
  rw [hr, Option.bind_some, w64_id (n := e - u) (by omega) (by omega)]
theorem natSub {a b : Nat} (h : b ≤ a) : ((a - b : Nat) : Rat) = (a : Rat) - b := by
  obtain ⟨c, rfl⟩ := Nat.le.dest h
  rw [Nat.add_sub_cancel_left, Rat.natCast_add]; grind
theorem subMul (a b c : Rat) : (a - b) * c = a * c - b * c := by grind
theorem finOrd (w : Int) (hw : w = 32 ∨ w = 64) (s t : Bool) (k1 k2 : Int) {g g2 : Nat} {e e2 : Int} (g0 : 0 < g) (g20 : 0 < g2) (hg : g < 9007199254740992) (hg2 : g2 < 9007199254740992) (h1 : -1100 ≤ e2) (h2 : e2 ≤ e) (h3 : e ≤ 1000) :
    Ev (fun k => sum_finite.j0 k w s k1 e g t k2 e2 g2) ((fx w (pv (s, 1, e, (g : Int)) + pv (t, 1, e2, (g2 : Int))) (s && t) : Nat) : Int) := by
  obtain ⟨u, hu⟩ : ∃ u : Nat, (u : Int) = min (e - e2) 64 := ⟨(min (e - e2) 64).toNat, by omega⟩
  obtain ⟨d, hd⟩ : ∃ d : Nat, (d : Int) = e - e2 - u := ⟨(e - e2 - u).toNat, by omega⟩
  have al := alignE s t k1 k2 hg hg2 h1 h2 h3 hu hd
  obtain ⟨f1, f2, f3, f4, f5⟩ := align_eq (sa := g) (sb := g2) h2 g0 hu hd
  have hp : 2 ^ u ≤ 18446744073709551616 := by
    have := Nat.pow_le_pow_right (show 0 < 2 by decide) (show u ≤ 64 by omega)
    rwa [show (2 : Nat) ^ 64 = 18446744073709551616 by decide] at this
  have hm : g * 2 ^ u < 170141183460469231731687303715884105728 := by
    have := Nat.mul_le_mul (show g ≤ 9007199254740992 by omega) hp
    omega
  have hb : g2 / 2 ^ d ≤ g2 := Nat.div_le_self _ _
  have hA : g2 % 2 ^ d ≠ 0 → 18446744073709551616 ≤ g * 2 ^ u := fun h => by
    have := (f5 h).2
    rw [this, show (2 : Nat) ^ 64 = 18446744073709551616 by decide]
    omega
  have pX := pos_tw g0 e
  have pY := pos_tw g20 e2
  rw [pv1, pv1]
  generalize (g : Rat) * tw e = X at *
  generalize (g2 : Rat) * tw e2 = Y at *
  generalize hAA : g * 2 ^ u = A at *
  generalize hBB : g2 / 2 ^ d = B at *
  generalize hEE : e - (u : Int) = E at *
  have T := tw_pos E
  obtain ⟨lost, hl⟩ : ∃ l : Bool, decide (g2 % 2 ^ d ≠ 0) = l := ⟨_, rfl⟩
  rw [hl] at al
  have c0 : lost = false → Y = (B : Rat) * tw E := fun h => f4 (by rw [h] at hl; simpa using hl)
  have c1 : lost = true → (B : Rat) * tw E < Y ∧ 18446744073709551616 ≤ A := fun h => by
    rw [h] at hl
    have : g2 % 2 ^ d ≠ 0 := by simpa using hl
    exact ⟨(f5 this).1, hA this⟩
  clear f4 f5 hA hl
  have cast1 : ∀ n : Nat, ((n + 1 : Nat) : Rat) = (n : Rat) + 1 := fun n => by push_cast; rfl
  refine Ev.step (fun _ => sum_finite.j0.eq_2 ..) (Ev.bs al ?_)
  simp only
  by_cases hst : s = t
  · subst hst
    refine Ev.pos (by simp) (Ev.bs (wAdd (by omega)) (Ev.bs (wPack w hw s _ (by omega) E lost) (Ev.out ?_)))
    have e1 : (if s then -X else X) + (if s then -Y else Y) = if s then -(X + Y) else X + Y := by cases s <;> simp <;> grind
    rw [e1, fx_sg w (by grind)]
    cases hlo : lost
    · rw [pk_ex w _ _ (by omega), f1, c0 hlo, Rat.natCast_add, Rat.add_mul]
    · rw [pk_mo w (x := X + Y) (by omega) (by have := (c1 hlo).2; omega)]
      · have := (c1 hlo).1
        rw [Rat.natCast_add, Rat.add_mul, f1]; grind
      · rw [cast1, Rat.natCast_add, f1]
        rw [cast1] at f3
        grind
  · refine Ev.neg (by simpa using hst) (Ev.bs (wCmp A B) ?_)
    have e1 : (if s then -X else X) + (if t then -Y else Y) = if s then -(X - Y) else X - Y := by revert hst; cases s <;> cases t <;> simp <;> grind
    have e2' : (if s then -X else X) + (if t then -Y else Y) = if t then -(Y - X) else Y - X := by revert hst; cases s <;> cases t <;> simp <;> grind
    have ez : (s && t) = false := by revert hst; cases s <;> cases t <;> simp
    rcases Nat.lt_trichotomy A B with hc | hc | hc
    · have hlo : lost = false := by
        cases hlo : lost
        · rfl
        · have := (c1 hlo).2; omega
      rw [show cmpN A B = -1 by unfold cmpN; rw [if_pos hc]]
      refine Ev.neg (by decide) (Ev.pos rfl (Ev.bs (wSub (by omega) (by omega)) (Ev.bs (wPack w hw t _ (by omega) E false) (Ev.out ?_))))
      have hlt : (A : Rat) * tw E < (B : Rat) * tw E := mul_lt (nat_lt.2 hc) T
      rw [e2', fx_sg w (by rw [f1, c0 hlo]; grind), pk_ex w _ _ (by omega), f1, c0 hlo]
      rw [show ((B - A : Nat) : Rat) = (B : Rat) - A by rw [natSub (by omega)], subMul]
    · have hlo : lost = false := by
        cases hlo : lost
        · rfl
        · have := (c1 hlo).2; omega
      rw [show cmpN A B = 0 by unfold cmpN; rw [if_neg (by omega), if_neg (by omega)]]
      refine Ev.pos rfl (Ev.bs (shZ w hw false) (Ev.out ?_))
      rw [e1, f1, c0 hlo, hc, show (B : Rat) * tw E - (B : Rat) * tw E = 0 by grind, ez]
      cases s <;> simp [fx_zero]
    · rw [show cmpN A B = 1 by unfold cmpN; rw [if_neg (by omega), if_pos hc]]
      refine Ev.neg (by decide) (Ev.neg (by decide) (Ev.bs (wSub (by omega) (by omega)) ?_))
      cases hlo : lost
      · refine Ev.neg (by decide) (Ev.bs (wPack w hw s _ (by omega) E false) (Ev.out ?_))
        have hlt : (B : Rat) * tw E < (A : Rat) * tw E := mul_lt (nat_lt.2 hc) T
        rw [e1, fx_sg w (by rw [f1, c0 hlo]; grind), pk_ex w _ _ (by omega), f1, c0 hlo]
        rw [show ((A - B : Nat) : Rat) = (A : Rat) - B by rw [natSub (by omega)], subMul]
      · have h64 := (c1 hlo).2
        have hlt := (c1 hlo).1
        have hle : ((B + 1 : Nat) : Rat) * tw E ≤ (A : Rat) * tw E := mul_le (nat_le.2 (by omega)) T
        have w1 : wide_Sub.f (wH (A - B)) (wL (A - B)) 0 1 = some (wH (A - B - 1), wL (A - B - 1)) := by
          have := wSub (A := A - B) (B := 1) (by omega) (by omega)
          rwa [(wSmall (V := 1) (by decide)).1, (wSmall (V := 1) (by decide)).2] at this
        refine Ev.pos rfl (Ev.bs (show wide_Of.f 1 = some (0, 1) from rfl) (Ev.bs w1 (Ev.bs (wPack w hw s _ (by omega) E true) (Ev.out ?_))))
        rw [e1, fx_sg w (by rw [f1]; grind)]
        rw [pk_mo w (x := X - Y) (by omega) (by omega)]
        · rw [f1]
          have : ((A - B - 1 : Nat) : Rat) = (A : Rat) - B - 1 := by rw [natSub (by omega), natSub (by omega)]; rfl
          rw [this]
          rw [cast1] at f3
          grind
        · rw [f1, show A - B - 1 + 1 = A - B by omega, natSub (by omega)]
          grind
set_option maxRecDepth 20000 in
theorem partsE (w : Int) (hw : w = 32 ∨ w = 64) (p q : Pt) (hp : PtOk p) (hq : PtOk q) : Ev (fun k => sum_parts.f k w p.1 p.2.1 p.2.2.1 p.2.2.2 q.1 q.2.1 q.2.2.1 q.2.2.2) ((addP w p q : Nat) : Int) := by
  obtain ⟨s, kd, e, g⟩ := p
  obtain ⟨t, kd2, e2, g2⟩ := q
  obtain ⟨h1, h2, h0, h3, h4, h5, h6⟩ := hp
  obtain ⟨k1, k2, k0, k3, k4, k5, k6⟩ := hq
  simp only at h1 h2 h0 h3 h4 h5 h6 k1 k2 k0 k3 k4 k5 k6
  obtain ⟨g, rfl⟩ := Int.eq_ofNat_of_zero_le h3
  obtain ⟨g2, rfl⟩ := Int.eq_ofNat_of_zero_le k3
  simp only
  have nar1 : kd = 1 → round_Narrow.f w s kd e g = some ((fx w (pv (s, 1, e, (g : Int))) true : Nat) : Int) := fun h => by
    rw [narrowG w hw s kd e g (by omega)]
    unfold narG
    rw [if_neg (by omega), if_pos h, pv1, fx_sg w (pos_tw (by have := h2 h; omega) _)]
  have nar2 : kd2 = 1 → round_Narrow.f w t kd2 e2 g2 = some ((fx w (pv (t, 1, e2, (g2 : Int))) true : Nat) : Int) := fun h => by
    rw [narrowG w hw t kd2 e2 g2 (by omega)]
    unfold narG
    rw [if_neg (by omega), if_pos h, pv1, fx_sg w (pos_tw (by have := k2 h; omega) _)]
  have fz : ∀ x z z', x ≠ 0 → fx w x z = fx w x z' := fun x z z' h => by unfold fx; rw [if_neg h, if_neg h]
  have nz1 : kd = 1 → pv (s, 1, e, (g : Int)) ≠ 0 := fun h => by
    have := pos_tw (show 0 < g by have := h2 h; omega) e
    rw [pv1]; cases s <;> simp <;> grind
  have nz2 : kd2 = 1 → pv (t, 1, e2, (g2 : Int)) ≠ 0 := fun h => by
    have := pos_tw (show 0 < g2 by have := k2 h; omega) e2
    rw [pv1]; cases t <;> simp <;> grind
  have fin : kd = 1 → kd2 = 1 → Ev (fun k => sum_finite.f k w s kd e g t kd2 e2 g2) ((fx w (pv (s, 1, e, (g : Int)) + pv (t, 1, e2, (g2 : Int))) (s && t) : Nat) : Int) := fun ha hb => by
    unfold sum_finite.f
    by_cases hlt : e < e2
    · have := finOrd w hw t s kd2 kd (g := g2) (g2 := g) (e := e2) (e2 := e) (by have := k2 hb; omega) (by have := h2 ha; omega) (by omega) (by omega) h5 (by omega) k6
      rw [Rat.add_comm, Bool.and_comm]
      exact Ev.pos hlt this
    · exact Ev.neg hlt (finOrd w hw s t kd kd2 (g := g) (g2 := g2) (e := e) (e2 := e2) (by have := h2 ha; omega) (by have := k2 hb; omega) (by omega) (by omega) k5 (by omega) h6)
  unfold sum_parts.f
  by_cases n1 : kd = 3
  · subst n1
    refine Ev.pos rfl (Ev.step (fun _ => sum_parts.j0.eq_2 ..) (Ev.pos rfl (Ev.bs (shN w hw) (Ev.out ?_))))
    simp [addP]
  refine Ev.neg n1 (Ev.step (fun _ => sum_parts.j0.eq_2 ..) ?_)
  by_cases n2 : kd2 = 3
  · subst n2
    refine Ev.pos rfl (Ev.bs (shN w hw) (Ev.out ?_))
    simp [addP]
  refine Ev.neg (by simpa using n2) ?_
  by_cases i1 : kd = 2
  · subst i1
    refine Ev.pos rfl (Ev.step (fun _ => sum_parts.j1.eq_2 ..) (Ev.pos rfl (Ev.bind (r := ((addP w (s, 2, e, (g : Int)) (t, kd2, e2, (g2 : Int)) : Nat) : Int)) ?_ (Ev.out rfl))))
    unfold sum_infinite.f
    refine Ev.pos rfl ?_
    by_cases i2 : kd2 = 2
    · subst i2
      refine Ev.pos rfl (Ev.step (fun _ => sum_infinite.j0.eq_2 ..) ?_)
      by_cases hst : s = t
      · exact Ev.neg (by simpa using hst) (Ev.bs (shI w hw s) (Ev.out (by simp [addP, hst])))
      · exact Ev.pos (by simpa using hst) (Ev.bs (shN w hw) (Ev.out (by simp [addP, hst])))
    · exact Ev.neg i2 (Ev.step (fun _ => sum_infinite.j0.eq_2 ..) (Ev.neg (by decide) (Ev.bs (shI w hw s) (Ev.out (by simp [addP, n2, i2])))))
  refine Ev.neg i1 (Ev.step (fun _ => sum_parts.j1.eq_2 ..) ?_)
  by_cases i2 : kd2 = 2
  · subst i2
    refine Ev.pos rfl (Ev.bind (r := ((addP w (s, kd, e, (g : Int)) (t, 2, e2, (g2 : Int)) : Nat) : Int)) ?_ (Ev.out rfl))
    unfold sum_infinite.f
    exact Ev.neg i1 (Ev.bs (shI w hw t) (Ev.out (by simp [addP, n1, i1])))
  refine Ev.neg (by simpa using i2) ?_
  have hA : addP w (s, kd, e, (g : Int)) (t, kd2, e2, (g2 : Int)) = fx w (pv (s, kd, e, (g : Int)) + pv (t, kd2, e2, (g2 : Int))) (s && t) := by simp [addP, n1, n2, i1, i2]
  rw [hA]
  by_cases z1 : kd = 0
  · subst z1
    refine Ev.pos rfl (Ev.step (fun _ => sum_parts.j2.eq_2 ..) ?_)
    rw [pv0 (p := (s, 0, e, (g : Int))) (by simp), Rat.zero_add]
    by_cases z2 : kd2 = 0
    · subst z2
      rw [pv0 (p := (t, 0, e2, (g2 : Int))) (by simp), fx_zero]
      refine Ev.pos rfl ?_
      cases s
      · exact Ev.neg (by decide) (Ev.bs (shZ w hw false) (Ev.out (by simp)))
      · exact Ev.pos rfl (Ev.bs (shZ w hw t) (Ev.out (by simp)))
    · have o2 : kd2 = 1 := by omega
      refine Ev.neg (by simpa using z2) (Ev.pos rfl (Ev.bs (nar2 o2) (Ev.out ?_)))
      rw [o2, fz _ true (s && t) (nz2 o2)]
  · have o1 : kd = 1 := by omega
    refine Ev.neg z1 (Ev.step (fun _ => sum_parts.j2.eq_2 ..) (Ev.neg (by decide) (Ev.neg z1 ?_)))
    by_cases z2 : kd2 = 0
    · refine Ev.pos z2 (Ev.bs (nar1 o1) (Ev.out ?_))
      rw [o1, z2, pv0 (p := (t, 0, e2, (g2 : Int))) (by simp), Rat.add_zero, fz _ true (s && t) (nz1 o1)]
    · have o2 : kd2 = 1 := by omega
      refine Ev.neg z2 (Ev.bind (fin o1 o2) (Ev.out ?_))
      rw [o1, o2]
theorem sumE (w : Int) (hw : w = 32 ∨ w = 64) (a b : Nat) (ha : a < 18446744073709551616) (hb : b < 18446744073709551616) : Ev (fun k => sum_Add.f k w a b) ((addP w (opn w a) (opn w b) : Nat) : Int) := by
  unfold sum_Add.f
  refine Ev.bs (show sum_known.f w = some true by rcases hw with rfl | rfl <;> rfl) (Ev.pos rfl (Ev.bind (openS w hw a ha) (Ev.bind (openS w hw b hb) ?_)))
  exact Ev.bind (partsE w hw _ _ (opn_ok w hw a) (opn_ok w hw b)) (Ev.out rfl)
def twoN (w : Int) : Nat := if w = 32 then 1073741824 else 4611686018427387904
theorem val_two (w : Int) (hw : w = 32 ∨ w = 64) : (fmt w).val (twoN w) = 2 ∧ twoN w < (fmt w).inf ∧ 0 < twoN w := by
  rcases hw with rfl | rfl
  · refine ⟨?_, by rw [fmt32, inf32]; decide, by decide⟩
    unfold Fmt.val
    rw [fmt32, show twoN 32 = 127 * 2 ^ f32.f + 2 ^ f32.f by decide]
    have := Fmt.sg_mk f32 127 (2 ^ f32.f) (by decide) (fun _ => Nat.le_refl _)
    rw [this.1, this.2]
    rw [show ((2 ^ f32.f : Nat) : Rat) = tw 23 from (tw_nat 23).symm, ← tw_add]
    exact tw_one
  · refine ⟨?_, by rw [fmt64, inf64]; decide, by decide⟩
    unfold Fmt.val
    rw [fmt64, show twoN 64 = 1023 * 2 ^ f64.f + 2 ^ f64.f by decide]
    have := Fmt.sg_mk f64 1023 (2 ^ f64.f) (by decide) (fun _ => Nat.le_refl _)
    rw [this.1, this.2]
    rw [show ((2 ^ f64.f : Nat) : Rat) = tw 52 from (tw_nat 52).symm, ← tw_add]
    exact tw_one
theorem opn_two (w : Int) (hw : w = 32 ∨ w = 64) : opn w (twoN w) = (false, 1, (fmt w).ex (twoN w), ((fmt w).sg (twoN w) : Int)) ∧ pv (opn w (twoN w)) = 2 := by
  have h := val_two w hw
  have hi := inf_sb w hw
  have e := opn_mk w hw (twoN w) false (by omega)
  rw [show mkN w (twoN w) false = twoN w by simp [mkN], if_neg (by omega), if_pos h.2.1] at e
  refine ⟨e, ?_⟩
  rw [e, pv1]
  have := h.1
  unfold Fmt.val at this
  simpa using this
theorem twice (w : Int) (hw : w = 32 ∨ w = 64) (p : Pt) : mulP w p (opn w (twoN w)) = addP w p p := by
  obtain ⟨e1, e2⟩ := opn_two w hw
  unfold mulP addP
  rw [e2, e1]
  simp only
  have hb : (p.1 != false) = p.1 := by cases p.1 <;> rfl
  by_cases h3 : p.2.1 = 3
  · rw [if_pos (.inl h3), if_pos (.inl h3)]
  · have n1 : ¬ (p.2.1 = 3 ∨ (1 : Int) = 3 ∨ p.2.1 = 2 ∧ (1 : Int) = 0 ∨ p.2.1 = 0 ∧ (1 : Int) = 2) := by omega
    have n2 : ¬ (p.2.1 = 3 ∨ p.2.1 = 3) := by omega
    rw [if_neg n1, if_neg n2]
    by_cases h2 : p.2.1 = 2
    · have y : p.2.1 = 2 ∨ (1 : Int) = 2 := .inl h2
      rw [if_pos y, if_pos h2, if_neg (fun x => x.2 rfl), hb]
    · have y : ¬ (p.2.1 = 2 ∨ (1 : Int) = 2) := by omega
      rw [if_neg y, if_neg h2, if_neg h2, hb, Bool.and_self, show pv p * 2 = pv p + pv p by grind]
theorem scale1 (w : Int) (hw : w = 32 ∨ w = 64) (a : Nat) (ha : a < 18446744073709551616) : Ev (fun k => product_Scale.f k w a 1) ((addP w (opn w a) (opn w a) : Nat) : Int) := by
  have hp := opn_ok w hw a
  have o1 := openS w hw a ha
  generalize opn w a = p at *
  obtain ⟨s, kd, e, g⟩ := p
  obtain ⟨h1, h2, h0, h3, h4, h5, h6⟩ := hp
  simp only at h1 h2 h0 h3 h4 h5 h6
  obtain ⟨g, rfl⟩ := Int.eq_ofNat_of_zero_le h3
  have hm : mn (mx 1 (-1048576)) 1048576 = 1 := by decide
  unfold product_Scale.f
  refine Ev.bs (show product_known.f w = some true by rcases hw with rfl | rfl <;> rfl) (Ev.pos rfl (Ev.bind o1 ?_))
  simp only
  rw [hm, w64_id (n := e + 1) (by omega) (by omega), narrowG w hw s kd _ g (by omega)]
  refine Ev.out ?_
  congr 1
  unfold narG addP
  simp only
  by_cases k0 : kd = 0
  · subst k0; simp [pv0]; rw [show (0 : Rat) + 0 = 0 by grind, fx_zero]
  · by_cases k1 : kd = 1
    · subst k1
      have hg : 0 < g := by have := h2 rfl; omega
      have hx := pos_tw hg e
      simp only [pv1]
      rw [show (if s then -((g : Rat) * tw e) else (g : Rat) * tw e) + (if s then -((g : Rat) * tw e) else (g : Rat) * tw e) = if s then -((g : Rat) * tw (e + 1)) else (g : Rat) * tw (e + 1) by rw [tw_succ]; cases s <;> simp <;> grind]
      simp
      rw [fx_sg w (pos_tw hg (e + 1))]
    · by_cases k2 : kd = 2
      · subst k2; simp
      · have k3 : kd = 3 := by omega
        subst k3; simp
theorem makeTwo (w : Int) (hw : w = 32 ∨ w = 64) : ∃ b, r2_B.f w = some b ∧ Ev (fun k => r2_Make.f k w false (wrap64 (b + 1)) 0) ((twoN w : Nat) : Int) := by
  rcases hw with rfl | rfl
  · exact ⟨127, by decide, Ev.of (fun k => r2_Make.mono _ _ _ _ k) (k := 80) (by decide +kernel)⟩
  · exact ⟨1023, by decide, Ev.of (fun k => r2_Make.mono _ _ _ _ k) (k := 80) (by decide +kernel)⟩
theorem ProductTwiceP : L05_ProductTwice.Pure := by
  intro w a hw0 ha0
  obtain ⟨ha1, ha2⟩ := wf_u64 ha0
  obtain ⟨a, rfl⟩ := Int.eq_ofNat_of_zero_le ha1
  have ha : a < 18446744073709551616 := by omega
  refine Ev.rounds ?_
  unfold L05_ProductTwice.f
  refine Ev.bind awake05 (Ev.pos rfl (Ev.bs (known_f w) ?_))
  by_cases hw : w = 32 ∨ w = 64
  · rw [decide_eq_true hw]
    obtain ⟨b, hb, hm⟩ := makeTwo w hw
    have e1 := prodE w hw a (twoN w) ha (by unfold twoN; split <;> decide)
    rw [twice w hw] at e1
    exact Ev.pos rfl (Ev.bs hb (Ev.bind hm (Ev.bind e1 (Ev.bind (sumE w hw a a ha ha) (Ev.pos rfl (Ev.bind (scale1 w hw a ha) (Ev.bind (sumE w hw a a ha ha) (Ev.out (by simp)))))))))
  · rw [decide_eq_false hw]
    exact Ev.neg (by decide) (Ev.out rfl)
end Go.Proofs.Ytbpmnmceajmmcaa.Th
end
namespace Go.Proofs.Ytbpmnmceajmmcaa.Pure
theorem ProductTwice : Go.Proofs.Ytbpmnmceajmmcaa.PA.L05_ProductTwice.Pure := Go.Proofs.Ytbpmnmceajmmcaa.Th.ProductTwiceP
end Go.Proofs.Ytbpmnmceajmmcaa.Pure
namespace Go.Proofs.Ytbpmnmceajmmcaa.Facts
abbrev ch (n : Nat) : Char := Char.ofNat n
theorem words_word (w : List Char) (r : List Char) (h : w.all (fun c => c != ch 32) = true) : wordsSigns (w ++ ch 32 :: r) = w :: wordsSigns r := by
  induction w with
  | nil => rfl
  | cons c w ih =>
    rw [List.all_cons, Bool.and_eq_true] at h
    have hc : c ≠ ch 32 := bne_iff_ne.1 h.1
    rw [List.cons_append]
    rw [wordsSigns.eq_3 c _ (fun e => hc e), ih h.2]
def w1 : List Char := [ch 104, ch 97, ch 114, ch 110, ch 101, ch 115, ch 115]
def w2 : List Char := [ch 97, ch 57, ch 99, ch 102, ch 100, ch 53, ch 99, ch 57, ch 100, ch 54, ch 48, ch 56, ch 102, ch 100, ch 52, ch 54, ch 54, ch 52, ch 54, ch 53, ch 57, ch 56, ch 53, ch 100, ch 57, ch 55, ch 54, ch 57, ch 102, ch 102, ch 100, ch 56, ch 53, ch 100, ch 49, ch 56, ch 54, ch 56, ch 53, ch 55, ch 54, ch 97, ch 49, ch 53, ch 100, ch 100, ch 56, ch 49, ch 54, ch 55, ch 99, ch 101, ch 56, ch 52, ch 54, ch 98, ch 102, ch 55, ch 57, ch 48, ch 52, ch 55, ch 56, ch 49]
def w3 : List Char := [ch 99, ch 117, ch 116]
set_option maxRecDepth 100000 in
def tailSigns : List Char := [ch 97, ch 116, ch 32, ch 116, ch 114, ch 117, ch 110, ch 110, ch 105, ch 111, ch 110, ch 47, ch 116, ch 114, ch 117, ch 110, ch 110, ch 105, ch 111, ch 110, ch 108, ch 97, ch 119, ch 48, ch 53, ch 46, ch 80, ch 114, ch 111, ch 100, ch 117, ch 99, ch 116, ch 84, ch 119, ch 105, ch 99, ch 101, ch 32, ch 116, ch 114, ch 117, ch 110, ch 110, ch 105, ch 111, ch 110, ch 47, ch 116, ch 114, ch 117, ch 110, ch 110, ch 105, ch 111, ch 110, ch 108, ch 97, ch 119, ch 48, ch 53, ch 46, ch 80, ch 114, ch 111, ch 100, ch 117, ch 99, ch 116, ch 83, ch 99, ch 97, ch 108, ch 101, ch 115, ch 32, ch 116, ch 114, ch 117, ch 110, ch 110, ch 105, ch 111, ch 110, ch 47, ch 116, ch 114, ch 117, ch 110, ch 110, ch 105, ch 111, ch 110, ch 108, ch 97, ch 119, ch 48, ch 54, ch 46, ch 81, ch 117, ch 111, ch 116, ch 105, ch 101, ch 110, ch 116, ch 68, ch 105, ch 118, ch 115, ch 32, ch 116, ch 114, ch 117, ch 110, ch 110, ch 105, ch 111, ch 110, ch 47, ch 116, ch 114, ch 117, ch 110, ch 110, ch 105, ch 111, ch 110, ch 108, ch 97, ch 119, ch 48, ch 54, ch 46, ch 81, ch 117, ch 111, ch 116, ch 105, ch 101, ch 110, ch 116, ch 75, ch 101, ch 101, ch 112, ch 115, ch 32, ch 116, ch 114, ch 117, ch 110, ch 110, ch 105, ch 111, ch 110, ch 47, ch 116, ch 114, ch 117, ch 110, ch 110, ch 105, ch 111, ch 110, ch 108, ch 97, ch 119, ch 48, ch 54, ch 46, ch 81, ch 117, ch 111, ch 116, ch 105, ch 101, ch 110, ch 116, ch 83, ch 99, ch 97, ch 108, ch 101, ch 32, ch 116, ch 114, ch 117, ch 110, ch 110, ch 105, ch 111, ch 110, ch 47, ch 116, ch 114, ch 117, ch 110, ch 110, ch 105, ch 111, ch 110, ch 108, ch 97, ch 119, ch 48, ch 51, ch 46, ch 82, ch 111, ch 117, ch 110, ch 100, ch 80, ch 97, ch 99, ch 107, ch 115, ch 32, ch 116, ch 114, ch 117, ch 110, ch 110, ch 105, ch 111, ch 110, ch 47, ch 116, ch 114, ch 117, ch 110, ch 110, ch 105, ch 111, ch 110, ch 108, ch 97, ch 119, ch 48, ch 51, ch 46, ch 82, ch 111, ch 117, ch 110, ch 100, ch 82, ch 105, ch 115, ch 101, ch 115, ch 32, ch 116, ch 114, ch 117, ch 110, ch 110, ch 105, ch 111, ch 110, ch 47, ch 116, ch 114, ch 117, ch 110, ch 110, ch 105, ch 111, ch 110, ch 108, ch 97, ch 119, ch 48, ch 51, ch 46, ch 82, ch 111, ch 117, ch 110, ch 100, ch 75, ch 101, ch 101, ch 112, ch 115, ch 32, ch 116, ch 114, ch 117, ch 110, ch 110, ch 105, ch 111, ch 110, ch 47, ch 116, ch 114, ch 117, ch 110, ch 110, ch 105, ch 111, ch 110, ch 108, ch 97, ch 119, ch 48, ch 52, ch 46, ch 83, ch 117, ch 109, ch 65, ch 100, ch 100, ch 115, ch 32, ch 116, ch 114, ch 117, ch 110, ch 110, ch 105, ch 111, ch 110, ch 47, ch 116, ch 114, ch 117, ch 110, ch 110, ch 105, ch 111, ch 110, ch 108, ch 97, ch 119, ch 48, ch 52, ch 46, ch 83, ch 117, ch 109, ch 79, ch 114, ch 100, ch 101, ch 114, ch 32, ch 116, ch 114, ch 117, ch 110, ch 110, ch 105, ch 111, ch 110, ch 47, ch 116, ch 114, ch 117, ch 110, ch 110, ch 105, ch 111, ch 110, ch 108, ch 97, ch 119, ch 48, ch 52, ch 46, ch 83, ch 117, ch 109, ch 67, ch 108, ch 111, ch 115, ch 101, ch 32, ch 116, ch 114, ch 117, ch 110, ch 110, ch 105, ch 111, ch 110, ch 47, ch 116, ch 114, ch 117, ch 110, ch 110, ch 105, ch 111, ch 110, ch 108, ch 97, ch 119, ch 48, ch 52, ch 46, ch 83, ch 117, ch 109, ch 84, ch 111, ch 116, ch 97, ch 108, ch 115]
set_option maxRecDepth 100000 in
theorem head_list : Try.prog.initOrder.toList = w1 ++ ch 32 :: (w2 ++ ch 32 :: (w3 ++ ch 32 :: tailSigns)) :=
  (congrArg String.toList (show Try.prog.initOrder = String.ofList (w1 ++ ch 32 :: (w2 ++ ch 32 :: (w3 ++ ch 32 :: tailSigns))) from rfl)).trans String.toList_ofList
theorem words : ∃ rest, behindMainWord (wordsSigns Try.prog.initOrder.toList) = w3 :: rest := by
  refine ⟨wordsSigns tailSigns, ?_⟩
  rw [head_list, words_word w1 _ (by kernel_rfl), words_word w2 _ (by kernel_rfl), words_word w3 _ (by kernel_rfl)]
  generalize wordsSigns tailSigns = rest
  have e : ((w1 == "harness".toList || w1 == "ownmain".toList) && isSumSigns w2) = true := by kernel_rfl
  show (if ((w1 == "harness".toList || w1 == "ownmain".toList) && isSumSigns w2) = true then w3 :: rest else w1 :: w2 :: w3 :: rest) = w3 :: rest
  rw [if_pos e]
theorem c3 : (w3 == "gc".toList) = false ∧ (w3 == "spec".toList) = false ∧ (w3 == "cut".toList) = true ∧ (w3 == "carried".toList) = false ∧ (w3 == "finals".toList) = false := ⟨by kernel_rfl, by kernel_rfl, by kernel_rfl, by kernel_rfl, by kernel_rfl⟩
theorem strip (rest : List (List Char)) : stripLifts liftWords (w3 :: rest) = ([], w3 :: rest) := by
  have key : ∀ l : List String, l.all (fun o => !(w3 == o.toList)) = true → stripLifts l (w3 :: rest) = ([], w3 :: rest) := by
    intro l
    induction l with
    | nil => intro _; rfl
    | cons o l ih =>
      intro h
      rw [List.all_cons, Bool.and_eq_true] at h
      unfold stripLifts
      rw [if_neg (fun e => by have h1 := h.1; rw [e] at h1; cases h1)]
      exact ih h.2
  exact key liftWords (by kernel_rfl)
theorem make_of (P : Program) (h : ∃ rest, behindMainWord (wordsSigns P.initOrder.toList) = w3 :: rest) : P.make = some .cut := by
  obtain ⟨rest, h⟩ := h
  unfold Program.make
  rw [h]
  show (if (w3 == "gc".toList || w3 == "spec".toList) = true then some Make.whole else if (w3 == "cut".toList || (w3 == "finals".toList && rest.head? == some "cut".toList)) = true then some Make.cut else _) = some Make.cut
  rw [if_neg (by rw [c3.1, c3.2.1]; decide), if_pos (by rw [c3.2.2.1, Bool.true_or])]
set_option maxRecDepth 100000 in
theorem liftsFact : Try.prog.liftsFinal = false := by
  unfold Program.liftsFinal Program.headLifts
  rw [head_list]
  kernel_rfl
theorem doorFact : (!Try.prog.laysLater && !Try.prog.bearsReflect && Try.prog.doorFits []) = true := by kernel_rfl
theorem makeFact : Try.prog.make = some .cut := make_of _ words
theorem enter_of (P : Program) (h : ∃ rest, behindMainWord (wordsSigns P.initOrder.toList) = w3 :: rest) (d : (!P.laysLater && !P.bearsReflect && P.doorFits []) = true) : P.mayEnter = true := by
  obtain ⟨rest, h⟩ := h
  rw [Bool.and_eq_true, Bool.and_eq_true] at d
  have e : ((some w3 == some "cut".toList) : Bool) = true := by kernel_rfl
  unfold Program.mayEnter
  rw [h]
  show ((_ || _) || ((stripLifts liftWords (w3 :: rest)).2.head? == some "cut".toList && ((stripLifts liftWords (w3 :: rest)).1.contains "finals" || !P.laysLater) && ((stripLifts liftWords (w3 :: rest)).1.contains "reflectrows" || !P.bearsReflect) &&
      ((stripLifts liftWords (w3 :: rest)).1.contains "reflectrows" || !(stripLifts liftWords (w3 :: rest)).1.contains "leanrows") && P.doorFits (stripLifts liftWords (w3 :: rest)).1)) = true
  rw [strip, Bool.or_eq_true]
  refine .inr ?_
  rw [Bool.and_eq_true, Bool.and_eq_true, Bool.and_eq_true, Bool.and_eq_true, Bool.or_eq_true, Bool.or_eq_true]
  exact ⟨⟨⟨⟨e, .inr d.1.1⟩, .inr d.1.2⟩, rfl⟩, d.2⟩
theorem enterFact : Try.prog.mayEnter = true := enter_of _ words doorFact
end Go.Proofs.Ytbpmnmceajmmcaa.Facts
