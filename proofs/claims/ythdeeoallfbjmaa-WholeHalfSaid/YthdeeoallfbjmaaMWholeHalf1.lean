/- What the Go functions that the statement WholeHalf reaches compute, and the mathematics on it, in the order in which one leans on the other; for every input. -/
import Derived.Test.YthdeeoallfbjmaaVWholeHalf1
import Derived.Test.YthdeeoallfbjmaaMWholeHalf0
import Derived.Deep.RegionHeld3
import Derived.Shelf.Spec.BitsCarry
import Derived.Deep.DeepCutAuto
import Derived.BigRegion
import Derived.Shelf.Strconv.Itoa0
import Derived.Test.YthdeeoallfbjmaaProg
set_option linter.unusedVariables false
set_option linter.unusedSimpArgs false
namespace Go.Proofs.Ythdeeoallfbjmaa.Nr
open Go.RowKit Go.Proofs.YthdeeoallfbjmaaW.PrintWords Go.Proofs.YthdeeoallfbjmaaW.PrintLast Go.Proofs.YthdeeoallfbjmaaW.PrintMore
def Nr (w : World) (v : Value) (l : List Int) : Prop := ∃ A c, v = .slice A l.length c ∧ l.length ≤ c ∧ Kd.C (Kd.int .u64) w A l.length l
def IsRow (v : Option Value) : Prop := ∃ A n c, v = some (.slice A n c)
theorem Nr.below {w w1 : World} {v : Value} {l : List Int} (h : Nr w v l) (hb : Below w.heap.size w w1) : Nr w1 v l := by
  obtain ⟨A, c, e, hc, h⟩ := h
  exact ⟨A, c, e, hc, Kd.C_below h hb⟩
theorem Nr.alloc {w : World} {v : Value} {l : List Int} (h : Nr w v l) (o : Obj) : Nr (w.alloc o) v l := h.below (below_alloc (Below.refl _ _) o)
theorem Nr.drew {w : World} {v : Value} {l : List Int} (h : Nr w v l) : Nr w.drew v l := h.below (below_drew1 (Below.refl _ _))
theorem Nr.drewN {w : World} {v : Value} {l : List Int} (h : Nr w v l) (n : Nat) : Nr (w.drewN n) v l := h.below (pw_below_drewN (Below.refl _ _) n)
theorem Nr.set {w : World} {v : Value} {l : List Int} (h : Nr w v l) {p : Addr} (x : Value) (hp : IsRow (w.cell? p)) : Nr (w.setCell p x) v l := by
  obtain ⟨A, c, e, hc, h1, h2, h3⟩ := h
  refine ⟨A, c, e, hc, h1, h2, fun hn => ?_⟩
  obtain ⟨ad, e1, h4⟩ := h3 hn
  refine ⟨ad, e1, fun j q hj => ?_⟩
  obtain ⟨cs, k1, k2, k3⟩ := h4 j q hj
  refine ⟨cs, k1, k2, fun i u hu => ?_⟩
  have k4 := k3 i u hu
  have k5 : u = .int .u64 q := by
    have k6 : cs = [Value.int .u64 q] := k2
    rw [k6] at hu
    rcases i with _ | i
    · simpa using hu.symm
    · simp at hu
  rw [World.cell?_setCell_other]
  · exact k4
  · intro e2
    obtain ⟨B, n, d, hp⟩ := hp
    rw [e2, k4, k5] at hp
    cases hp
theorem Nr.nil (w : World) : Nr w (.slice none 0 0) [] := ⟨none, 0, rfl, Nat.le_refl _, Kd.C_nil _ w⟩
theorem Nr.of_R {w : World} {e base : Nat} {ok : Nat → Prop} {v : Value} {l : List Int} (h : Kd.R (Kd.int .u64) e w base ok v l) : Nr w v l := Kd.R_reads h
theorem Nr.of_C {w : World} {A : Option Addr} {c : Nat} {l : List Int} (hc : l.length ≤ c) (h : Kd.C (Kd.int .u64) w A l.length l) : Nr w (.slice A l.length c) l := ⟨A, c, rfl, hc, h⟩
theorem IsRow.slice (A : Option Addr) (n c : Nat) : IsRow (some (.slice A n c)) := ⟨A, n, c, rfl⟩
theorem bcell {W w1 : World} (hb : Below W.heap.size W w1) : (∀ b o, b < W.heap.size → w1.cell? ⟨b, o, none⟩ = W.cell? ⟨b, o, none⟩) ∧ (∀ b o, b < W.heap.size → w1.frozen? ⟨b, o, none⟩ = W.frozen? ⟨b, o, none⟩) :=
  ⟨fun b o h => hb.cell (p := ⟨b, o, none⟩) h, fun b o h => hb.frozen (p := ⟨b, o, none⟩) h⟩
theorem al {W : World} {b : Nat} (h : b < W.heap.size) (o : Nat) (x : Obj) : (W.alloc x).cell? ⟨b, o, none⟩ = W.cell? ⟨b, o, none⟩ := (bcell (below_alloc (Below.refl _ W) x)).1 b o h
theorem alf {W : World} {b : Nat} (h : b < W.heap.size) (o : Nat) (x : Obj) : (W.alloc x).frozen? ⟨b, o, none⟩ = W.frozen? ⟨b, o, none⟩ := (bcell (below_alloc (Below.refl _ W) x)).2 b o h
theorem lt_al {n : Nat} {W : World} {x : Obj} (h : n < W.heap.size) : n < (W.alloc x).heap.size := Nat.lt_of_lt_of_le h (below_alloc (Below.refl _ W) x).size
theorem Nr.of_V {w : World} {e base : Nat} {ok : Nat → Prop} {v : Value} {l : List Int} (h : Kd.V (Kd.int .u64) e w base ok v l) : Nr w v l := by
  obtain ⟨A, c, hv, hl, hf⟩ := h
  exact ⟨A, c, hv, hl, Kd.F_now hf⟩
def At (ok : Nat → Prop) (v : Value) : Prop := ∀ ad n c, v = .slice (some ad) n c → 0 < n → ok ad.block
theorem At.mono {ok ok' : Nat → Prop} {v : Value} (h : At ok v) (i : ∀ k, ok k → ok' k) : At ok' v := fun ad n c e hn => i _ (h ad n c e hn)
theorem At.of_V {w : World} {e base : Nat} {ok : Nat → Prop} {v : Value} {l : List Int} (h : Kd.V (Kd.int .u64) e w base ok v l) : At ok v := by
  obtain ⟨A, c, hv, hl, hf⟩ := h
  intro ad n c' e1 hn
  rw [hv] at e1
  injection e1 with e1 e2 e3
  subst e2
  exact Kd.F_in hf e1 hn (by decide)
theorem At.of_R {w : World} {e base : Nat} {ok : Nat → Prop} {v : Value} {l : List Int} (h : Kd.R (Kd.int .u64) e w base ok v l) : At (fun k => base ≤ k ∧ k < w.heap.size) v := by
  intro ad n c e1 hn
  obtain ⟨A, c', e2, hl, _⟩ := Kd.R_reads h
  have hlen : 0 < l.length := by
    rw [e2] at e1
    injection e1 with _ e3 _
    omega
  obtain ⟨g, cap, e3, hb, hlt, _⟩ := Kd.R_form h hlen
  rw [e3] at e1
  injection e1 with e4 _ _
  injection e4 with e4
  rw [← e4]; exact ⟨hb, hlt⟩
theorem Nr.toV {w : World} {e base : Nat} {ok : Nat → Prop} {v : Value} {l : List Int} (h : Nr w v l) (ha : At ok v) : Kd.V (Kd.int .u64) e w base ok v l := by
  obtain ⟨A, c, hv, hl, hc⟩ := h
  refine ⟨A, c, hv, hl, ?_⟩
  intro W' hW'
  obtain ⟨h1, h2, h3⟩ := hc
  refine ⟨h1, h2, fun hn => ?_⟩
  obtain ⟨ad, e1, h4⟩ := h3 hn
  refine ⟨ad, e1, fun j p hj => ?_⟩
  obtain ⟨cs, k1, k2, k3⟩ := h4 j p hj
  refine ⟨cs, k1, k2, fun i u hu => ?_⟩
  have k4 := k3 i u hu
  have hok : ok ad.block := ha ad l.length c (by rw [hv, e1]) hn
  have hb := World.block_lt_of_cell? w _ k4
  have hblk : ∀ n, (ad.add n).block = ad.block := fun n => by rw [add_block]
  rw [hblk] at hb
  have e := hW' ad.block hok hb
  have e2 : W'.heap[(ad.add (j * (Kd.int .u64).sz + i)).block]? = w.heap[(ad.add (j * (Kd.int .u64).sz + i)).block]? := by rw [hblk]; exact e
  simpa [World.cell?, e2] using k4
theorem Rs {w : World} {e base : Nat} {ok : Nat → Prop} {v : Value} {l : List Int} (h : Kd.R (Kd.int .u64) e w base ok v l) {p : Addr} (hne : v.ownBlock ≠ some p.block) (x : Value) : Kd.R (Kd.int .u64) e (w.setCell p x) base ok v l :=
  Kd.R_mono (Kd.R_far (Kd.R_far1 h rfl (g := p.block) (fun e => hne e.symm)) (fun _ hk => hk.2) x) (fun _ hk => hk.1)
theorem Rok {w : World} {e base base' : Nat} {ok ok' : Nat → Prop} {v : Value} {l : List Int} (h : Kd.R (Kd.int .u64) e w base ok v l) (hb : base' ≤ base) (hok : ∀ k, v.ownBlock = some k → base ≤ k → k < w.heap.size → ok' k) : Kd.R (Kd.int .u64) e w base' ok' v l :=
  Kd.R_reok rfl (Kd.R_lower h hb) (fun k hk => hok k hk (Kd.R_base h k hk) (Kd.R_lt h k hk))
structure Ow (e base : Nat) (w : World) (v : Value) (l : List Int) : Prop where
  out : Kd.R (Kd.int .u64) e w base (fun k => base ≤ k) v l
theorem Ow.nil (e base : Nat) (w : World) : Ow e base w (.slice none 0 0) [] := ⟨Kd.R_nil _ _ _ _ _⟩
theorem Ow.below {e base : Nat} {w w1 : World} {v : Value} {l : List Int} (h : Ow e base w v l) (hb : Below w.heap.size w w1) : Ow e base w1 v l := ⟨Kd.R_below h.out hb⟩
theorem Ow.alloc {e base : Nat} {w : World} {v : Value} {l : List Int} (h : Ow e base w v l) (o : Obj) : Ow e base (w.alloc o) v l := ⟨Kd.R_alloc h.out o⟩
theorem Ow.drew {e base : Nat} {w : World} {v : Value} {l : List Int} (h : Ow e base w v l) : Ow e base w.drew v l := ⟨Kd.R_drew h.out⟩
theorem Ow.drewN {e base : Nat} {w : World} {v : Value} {l : List Int} (h : Ow e base w v l) (n : Nat) : Ow e base (w.drewN n) v l := ⟨Kd.R_drewN h.out n⟩
theorem Ow.set {e base : Nat} {w : World} {v : Value} {l : List Int} (h : Ow e base w v l) {p : Addr} (x : Value) (hne : v.ownBlock ≠ some p.block) : Ow e base (w.setCell p x) v l := ⟨Rs h.out hne x⟩
theorem Ow.of_R {e base base' : Nat} {w : World} {ok : Nat → Prop} {v : Value} {l : List Int} (h : Kd.R (Kd.int .u64) e w base ok v l) (hb : base' ≤ base) : Ow e base' w v l := ⟨Rok h hb (fun k _ h1 _ => Nat.le_trans hb h1)⟩
theorem Ow.nr {e base : Nat} {w : World} {v : Value} {l : List Int} (h : Ow e base w v l) : Nr w v l := Nr.of_R h.out
end Go.Proofs.Ythdeeoallfbjmaa.Nr
namespace Go.Proofs.Ythdeeoallfbjmaa.PA
open Go.RowKit Go.Proofs.YthdeeoallfbjmaaW.PrintWords Go.Proofs.YthdeeoallfbjmaaW.PrintLast Go.Proofs.YthdeeoallfbjmaaW.PrintMore
attribute [local go_sem] max2_int min2_int max_two min_two max_three min_three max_four min_four   -- for this text's walks alone
set_option linter.unusedVariables false
set_option linter.unusedSimpArgs false
set_option maxHeartbeats 8000000
set_option maxRecDepth 100000
theorem eqA75 (d : Nat) (w : World) (x0 y0 : Int) (x1 y1 : Int) :
  (Op.equalIn (d + 2) 75 (.agg #[.int .u64 x0, .int .u64 x1]) (.agg #[.int .u64 y0, .int .u64 y1])).run Try.prog w = .ok (x0 == y0 && (x1 == y1)) w := by
 refine eqA_of Try.underlying75 (by kernel_rfl) ?_
 refine eqf_cons (by rfl) (by go_simp; rfl) (by go_simp; rfl) (by go_simp) ?_
 exact eqf_last (by rfl) (by go_simp; rfl) (by go_simp; rfl) (by go_simp)
def wide_Left.f (a0_0 : Int) (a0_1 : Int) (a1 : Int) : Option (Int × Int) := if a1 ≤ 0 then (some (a0_0, a0_1)) else (if a1 ≥ 128 then (some (0, 0)) else (if a1 ≥ 64 then (if 0 ≤ (wrap64 (a1 - 64)) then (some (shl .u64 a0_1 (wrap64 (a1 - 64)), 0)) else (none)) else (if 0 ≤ a1 then (if 0 ≤ (wrap64 (64 - a1)) then (some (Go.bits .or .u64 (shl .u64 a0_0 a1) (shr .u64 a0_1 (wrap64 (64 - a1))), shl .u64 a0_1 a1)) else (none)) else (none))))
def wide_Left.T7 : Bool × List (List Nat × List Nat) := (true, [([], []), ([0], [0]), ([], []), ([1, 2], [1, 2]), ([], []), ([4], [4]), ([], []), ([6], [6]), ([5, 7], [5, 7]), ([3, 8], [3, 8]), ([], []), ([10], [10]), ([], []), ([11, 12], [11, 12]), ([9, 13], [9, 13]), ([14, 0, 1, 2, 3, 4, 5, 6, 7, 8, 9, 10, 11, 12, 13, 14], [14])])
def wide_Left.B7 : List Nat := [0, 1, 0, 7, 0, 16, 0, 64, 240, 511, 0, 1024, 0, 7168, 16383, 32767]
theorem wide_Left.tab7 : rtab .any (opsOf Try.f77 7) = wide_Left.T7 := by kernel_rfl
theorem wide_Left.bits7 : waitsOk wide_Left.T7.2 wide_Left.B7 = true := by kernel_rfl
theorem wide_Left.calls (a0_0 : Int) (a0_1 : Int) (a1 : Int) (r1 : Int) (r2 : Int) (w : World) (h : wide_Left.f a0_0 a0_1 a1 = some (r1, r2)) :
  Calls Try.prog 77 #[.agg #[.int .u64 a0_0, .int .u64 a0_1], .int .i64 a1] w fun e w' => e = .returned (.agg #[.int .u64 r1, .int .u64 r2]) ∧ Below w.heap.size w w' := by
 have hu75 := Try.underlying75
 have HB := A_ (Below.refl w.heap.size w)
 have H : (if a1 ≤ 0 then (some (a0_0, a0_1)) else (if a1 ≥ 128 then (some (0, 0)) else (if a1 ≥ 64 then (if 0 ≤ (wrap64 (a1 - 64)) then (some (shl .u64 a0_1 (wrap64 (a1 - 64)), 0)) else (none)) else (if 0 ≤ a1 then (if 0 ≤ (wrap64 (64 - a1)) then (some (Go.bits .or .u64 (shl .u64 a0_0 a1) (shr .u64 a0_1 (wrap64 (64 - a1))), shl .u64 a0_1 a1)) else (none)) else (none))))) = some (r1, r2) := h
 clear h
 by_cases c3 : a1 ≤ 0
 ·rw [if_pos c3] at H
  have c3b0 : decide (a1 ≤ 0) = true := decide_eq_true c3
  clear c3
  simp only [Option.some.injEq, Prod.mk.injEq] at H
  obtain ⟨rfl, rfl⟩ := H
  go_enter Try.func77, Try.ntmps77
  go_wp2_with (first | ((with_reducible refine gate_dst (N := 2) rfl ?_); refine be_ 2 #[.int .u64 a0_0, .int .u64 a0_1] 75 ?_; intro gb132 hg w4 hbox hb; have BK132 := A_ (hbox); have GW132 := A_ (sz_ hg (hb_ HB.out)); have GE132 := A_ (sz_ hg (hb_ HB.out)); replace HB := A_ (below_step (hb_ HB.out) hb); clear hb hbox hg) | ((with_reducible refine gate_dst (N := 4) rfl ?_); refine be_ 4 #[.int .u64 0, .int .u64 0] 75 ?_; intro gb133 hg w5 hbox hb; have BK133 := A_ (hbox); have GW133 := A_ (sz_ hg (hb1_ HB.out GE132.out)); have GE133 := A_ (sz_ hg (hb1_ HB.out GE132.out)); have NB132_133 := A_ (nl_ hg BK132.out); have NB133_132 := A_ (ng_ hg BK132.out); replace BK132 := A_ (bb_ BK132.out hb); replace HB := A_ (below_step (hb1_ HB.out GE132.out) hb); clear hb hbox hg; have hnb6 := NB132_133.out; have hnc6 := NB133_132.out; have hcz7_0 := bv_ BK132.out 0; have hcz7_1 := bv_ BK132.out 1; have hfz7_0 := blk_frozen BK132.out 0; have hfz7_1 := blk_frozen BK132.out 1; have hcz8_0 := bv_ BK133.out 0; have hcz8_1 := bv_ BK133.out 1; have hfz8_0 := blk_frozen BK133.out 0; have hfz8_1 := blk_frozen BK133.out 1))
  refine bodyPost_ret (results_cell_row rfl _ _ gb133 75 #[.int .u64 a0_0, .int .u64 a0_1] (0, 0) _ rfl (by (with_reducible repeat (first | refine blk_drewN ?_ _ | refine blk_drew ?_ | refine blk_alloc ?_ _)); refine blk_put (cs := #[.int .u64 a0_0, .int .u64 0]) ?_ 1 _ rfl; (with_reducible repeat (first | refine blk_drewN ?_ _ | refine blk_drew ?_ | refine blk_alloc ?_ _)); refine blk_put (cs := #[.int .u64 0, .int .u64 0]) ?_ 0 _ rfl; (with_reducible repeat (first | refine blk_drewN ?_ _ | refine blk_drew ?_ | refine blk_alloc ?_ _)); exact BK133.out) Try.underlying75 rfl (by kernel_rfl)) rfl ?_
  exact ⟨er_, hb2_ HB.out GE132.out GE133.out⟩
 ·rw [if_neg c3] at H
  have c3b0 : decide (a1 ≤ 0) = false := decide_eq_false c3
  clear c3
  by_cases c9 : a1 ≥ 128
  ·rw [if_pos c9] at H
   have c9b0 : decide (128 ≤ a1) = true := decide_eq_true c9
   clear c9
   simp only [Option.some.injEq, Prod.mk.injEq] at H
   obtain ⟨rfl, rfl⟩ := H
   go_enter Try.func77, Try.ntmps77
   go_wp2_with (first | ((with_reducible refine gate_dst (N := 2) rfl ?_); refine be_ 2 #[.int .u64 a0_0, .int .u64 a0_1] 75 ?_; intro gb132 hg w10 hbox hb; have BK132 := A_ (hbox); have GW132 := A_ (sz_ hg (hb_ HB.out)); have GE132 := A_ (sz_ hg (hb_ HB.out)); replace HB := A_ (below_step (hb_ HB.out) hb); clear hb hbox hg) | ((with_reducible refine gate_dst (N := 4) rfl ?_); refine be_ 4 #[.int .u64 0, .int .u64 0] 75 ?_; intro gb133 hg w11 hbox hb; have BK133 := A_ (hbox); have GW133 := A_ (sz_ hg (hb1_ HB.out GE132.out)); have GE133 := A_ (sz_ hg (hb1_ HB.out GE132.out)); have NB132_133 := A_ (nl_ hg BK132.out); have NB133_132 := A_ (ng_ hg BK132.out); replace BK132 := A_ (bb_ BK132.out hb); replace HB := A_ (below_step (hb1_ HB.out GE132.out) hb); clear hb hbox hg; have hnb12 := NB133_132.out; have hnc12 := NB132_133.out; have hcz13_0 := bv_ BK133.out 0; have hcz13_1 := bv_ BK133.out 1; have hfz13_0 := blk_frozen BK133.out 0; have hfz13_1 := blk_frozen BK133.out 1))
   refine bodyPost_ret (results_cell_row rfl _ _ gb133 75 #[.int .u64 0, .int .u64 0] (0, 0) _ rfl (by (with_reducible repeat (first | refine blk_drewN ?_ _ | refine blk_drew ?_ | refine blk_alloc ?_ _)); refine blk_put (cs := #[.int .u64 0, .int .u64 0]) ?_ 1 _ rfl; (with_reducible repeat (first | refine blk_drewN ?_ _ | refine blk_drew ?_ | refine blk_alloc ?_ _)); refine blk_put (cs := #[.int .u64 0, .int .u64 0]) ?_ 0 _ rfl; (with_reducible repeat (first | refine blk_drewN ?_ _ | refine blk_drew ?_ | refine blk_alloc ?_ _)); exact BK133.out) Try.underlying75 rfl (by kernel_rfl)) rfl ?_
   exact ⟨er_, hb2_ HB.out GE132.out GE133.out⟩
  ·rw [if_neg c9] at H
   have c9b0 : decide (128 ≤ a1) = false := decide_eq_false c9
   clear c9
   by_cases c14 : a1 ≥ 64
   ·rw [if_pos c14] at H
    have c14b0 : decide (64 ≤ a1) = true := decide_eq_true c14
    clear c14
    obtain ⟨ji15, hji15⟩ : ∃ j_ : Int, (wrap64 (a1 - 64)) = j_ := ⟨_, rfl⟩
    replace H : (if 0 ≤ (ji15) then (some (shl .u64 a0_1 (ji15), 0)) else (none)) = some (r1, r2) := by first | (rw [hji15] at H; exact H) | (simp only [hji15] at H ⊢; exact H)
    have hji15w : (IntKind.i64.wrap (a1 - 64)) = ji15 := (i64_w _).trans hji15
    by_cases c16 : 0 ≤ (ji15)
    ·rw [if_pos c16] at H
     have c16b0 := eq_true c16
     have c16b1 : decide (0 ≤ (ji15)) = true := decide_eq_true c16
     clear c16
     obtain ⟨ji17, hji17⟩ : ∃ j_ : Int, (shl .u64 a0_1 (ji15)) = j_ := ⟨_, rfl⟩
     replace H : (some (ji17, 0)) = some (r1, r2) := by first | (rw [hji17] at H; exact H) | (simp only [hji17] at H ⊢; exact H)
     have hji17_ : (IntKind.u64.wrap (a0_1 * 2 ^ min (ji15).toNat 64)) = ji17 := hji17
     have hji17z : (ji15) ≤ 64 → (IntKind.u64.wrap (a0_1 * 2 ^ (ji15).toNat)) = ji17 := shl_small hji17
     simp only [Option.some.injEq, Prod.mk.injEq] at H
     obtain ⟨rfl, rfl⟩ := H
     go_enter Try.func77, Try.ntmps77
     go_wp2_with (first | ((with_reducible refine gate_dst (N := 2) rfl ?_); refine be_ 2 #[.int .u64 a0_0, .int .u64 a0_1] 75 ?_; intro gb132 hg w18 hbox hb; have BK132 := A_ (hbox); have GW132 := A_ (sz_ hg (hb_ HB.out)); have GE132 := A_ (sz_ hg (hb_ HB.out)); replace HB := A_ (below_step (hb_ HB.out) hb); clear hb hbox hg) | ((with_reducible refine gate_dst (N := 4) rfl ?_); refine be_ 4 #[.int .u64 0, .int .u64 0] 75 ?_; intro gb133 hg w19 hbox hb; have BK133 := A_ (hbox); have GW133 := A_ (sz_ hg (hb1_ HB.out GE132.out)); have GE133 := A_ (sz_ hg (hb1_ HB.out GE132.out)); have NB132_133 := A_ (nl_ hg BK132.out); have NB133_132 := A_ (ng_ hg BK132.out); replace BK132 := A_ (bb_ BK132.out hb); replace HB := A_ (below_step (hb1_ HB.out GE132.out) hb); clear hb hbox hg; have hnb20 := NB132_133.out; have hnc20 := NB133_132.out; have hcz21_0 := bv_ BK132.out 0; have hcz21_1 := bv_ BK132.out 1; have hfz21_0 := blk_frozen BK132.out 0; have hfz21_1 := blk_frozen BK132.out 1; have hcz22_0 := bv_ BK133.out 0; have hcz22_1 := bv_ BK133.out 1; have hfz22_0 := blk_frozen BK133.out 0; have hfz22_1 := blk_frozen BK133.out 1))
     refine bodyPost_ret (results_cell_row rfl _ _ gb133 75 #[.int .u64 ji17, .int .u64 0] (0, 0) _ rfl (by (with_reducible repeat (first | refine blk_drewN ?_ _ | refine blk_drew ?_ | refine blk_alloc ?_ _)); refine blk_put (cs := #[.int .u64 ji17, .int .u64 0]) ?_ 1 _ rfl; (with_reducible repeat (first | refine blk_drewN ?_ _ | refine blk_drew ?_ | refine blk_alloc ?_ _)); refine blk_put (cs := #[.int .u64 0, .int .u64 0]) ?_ 0 _ rfl; (with_reducible repeat (first | refine blk_drewN ?_ _ | refine blk_drew ?_ | refine blk_alloc ?_ _)); exact BK133.out) Try.underlying75 rfl (by kernel_rfl)) rfl ?_
     exact ⟨by first | rfl | (simp [errW_none, errW_some] <;> rfl) | (simp only [← hji15, ← hji17]; first | rfl | (simp [errW_none, errW_some] <;> rfl)) | (simp [*, errW_none, errW_some] <;> rfl), hb2_ HB.out GE132.out GE133.out⟩
    ·rw [if_neg c16] at H
     exact absurd H (by simp)
   ·rw [if_neg c14] at H
    have c14b0 : decide (64 ≤ a1) = false := decide_eq_false c14
    clear c14
    by_cases c23 : 0 ≤ a1
    ·rw [if_pos c23] at H
     have c23b0 := eq_true c23
     have c23b1 : decide (0 ≤ a1) = true := decide_eq_true c23
     clear c23
     obtain ⟨ji24, hji24⟩ : ∃ j_ : Int, (shl .u64 a0_0 a1) = j_ := ⟨_, rfl⟩
     replace H : (if 0 ≤ (wrap64 (64 - a1)) then (some (Go.bits .or .u64 (ji24) (shr .u64 a0_1 (wrap64 (64 - a1))), shl .u64 a0_1 a1)) else (none)) = some (r1, r2) := by first | (rw [hji24] at H; exact H) | (simp only [hji24] at H ⊢; exact H)
     have hji24_ : (IntKind.u64.wrap (a0_0 * 2 ^ min a1.toNat 64)) = ji24 := hji24
     have hji24z : a1 ≤ 64 → (IntKind.u64.wrap (a0_0 * 2 ^ a1.toNat)) = ji24 := shl_small hji24
     obtain ⟨ji25, hji25⟩ : ∃ j_ : Int, (wrap64 (64 - a1)) = j_ := ⟨_, rfl⟩
     replace H : (if 0 ≤ (ji25) then (some (Go.bits .or .u64 (ji24) (shr .u64 a0_1 (ji25)), shl .u64 a0_1 a1)) else (none)) = some (r1, r2) := by first | (rw [hji25] at H; exact H) | (simp only [hji25] at H ⊢; exact H)
     have hji25w : (IntKind.i64.wrap (64 - a1)) = ji25 := (i64_w _).trans hji25
     by_cases c26 : 0 ≤ (ji25)
     ·rw [if_pos c26] at H
      have c26b0 := eq_true c26
      have c26b1 : decide (0 ≤ (ji25)) = true := decide_eq_true c26
      clear c26
      obtain ⟨ji27, hji27⟩ : ∃ j_ : Int, (shr .u64 a0_1 (ji25)) = j_ := ⟨_, rfl⟩
      replace H : (some (Go.bits .or .u64 (ji24) (ji27), shl .u64 a0_1 a1)) = some (r1, r2) := by first | (rw [hji27] at H; exact H) | (simp only [hji27] at H ⊢; exact H)
      have hji27_ : (a0_1 / 2 ^ min (ji25).toNat 64) = ji27 := hji27
      have hji27z : (ji25) ≤ 64 → (a0_1 / 2 ^ (ji25).toNat) = ji27 := shr_small hji27
      have c28b0 := eq_true (of_decide_eq_true (by first | (with_reducible assumption) | assumption) : 0 ≤ a1)
      obtain ⟨ji29, hji29⟩ : ∃ j_ : Int, (shl .u64 a0_1 a1) = j_ := ⟨_, rfl⟩
      replace H : (some (Go.bits .or .u64 (ji24) (ji27), ji29)) = some (r1, r2) := by first | (rw [hji29] at H; exact H) | (simp only [hji29] at H ⊢; exact H)
      have hji29_ : (IntKind.u64.wrap (a0_1 * 2 ^ min a1.toNat 64)) = ji29 := hji29
      have hji29z : a1 ≤ 64 → (IntKind.u64.wrap (a0_1 * 2 ^ a1.toNat)) = ji29 := shl_small hji29
      simp only [Option.some.injEq, Prod.mk.injEq] at H
      obtain ⟨rfl, rfl⟩ := H
      go_enter Try.func77, Try.ntmps77
      try go_wp2_with (first | ((with_reducible refine gate_dst (N := 2) rfl ?_); refine be_ 2 #[.int .u64 a0_0, .int .u64 a0_1] 75 ?_; intro gb132 hg w30 hbox hb; have BK132 := A_ (hbox); have GW132 := A_ (sz_ hg (hb_ HB.out)); have GE132 := A_ (sz_ hg (hb_ HB.out)); replace HB := A_ (below_step (hb_ HB.out) hb); clear hb hbox hg) | ((with_reducible refine gate_dst (N := 4) rfl ?_); refine be_ 4 #[.int .u64 0, .int .u64 0] 75 ?_; intro gb133 hg w31 hbox hb; have BK133 := A_ (hbox); have GW133 := A_ (sz_ hg (hb1_ HB.out GE132.out)); have GE133 := A_ (sz_ hg (hb1_ HB.out GE132.out)); have NB132_133 := A_ (nl_ hg BK132.out); have NB133_132 := A_ (ng_ hg BK132.out); replace BK132 := A_ (bb_ BK132.out hb); replace HB := A_ (below_step (hb1_ HB.out GE132.out) hb); clear hb hbox hg))
      replace BK132 := A_ (blk_drew BK132.out)
      replace BK133 := A_ (blk_drew BK133.out)
      replace HB := A_ (below_drew1 HB.out)
      refine start_ (n := 16) (S := fun w' => w'.cell? ⟨gb132, 0, none⟩ = some (.int .u64 a0_0) ∧ w'.cell? ⟨gb132, 1, none⟩ = some (.int .u64 a0_1)) (ds := []) #[false, false, false, false, false, false, false, false, false, false, false, false, false, false, false, false] (by kernel_rfl) rfl rfl ⟨bc_ BK132.out 0, bc_ BK132.out 1⟩ (fun hHeld => ?_); refine with_tabW wide_Left.tab7 wide_Left.bits7 (fun HT_ HW_ => ?_)
      generalize w31.drew = w32 at BK132 BK133 HB hHeld ⊢
      refine pu_ 0 (some 22) #[true, false, false, false, false, false, false, false, false, false, false, false, false, false, false, false] rfl rfl (any_of HT_.out (by kernel_rfl)) ?_
      refine pu_ 2 (some 24) #[true, false, true, false, false, false, false, false, false, false, false, false, false, false, false, false] rfl rfl (any_of HT_.out (by kernel_rfl)) ?_
      refine pu_ 4 (some 26) #[true, false, true, false, true, false, false, false, false, false, false, false, false, false, false, false] rfl rfl (any_of HT_.out (by kernel_rfl)) ?_
      refine pu_ 6 (some 28) #[true, false, true, false, true, false, true, false, false, false, false, false, false, false, false, false] rfl rfl (any_of HT_.out (by kernel_rfl)) ?_
      refine pu_ 7 (some 29) #[true, false, true, false, true, false, true, true, false, false, false, false, false, false, false, false] rfl rfl (any_of HT_.out (by kernel_rfl)) ?_
      refine pu_ 10 (some 32) #[true, false, true, false, true, false, true, true, false, false, true, false, false, false, false, false] rfl rfl (any_of HT_.out (by kernel_rfl)) ?_
      refine pu_ 12 (some 34) #[true, false, true, false, true, false, true, true, false, false, true, false, true, false, false, false] rfl rfl (any_of HT_.out (by kernel_rfl)) ?_
      refine tk2_ 1 (some 23) #[true, true, true, false, true, false, true, true, false, false, true, false, true, false, false, false] rfl rfl (take_ofW HT_.out HW_.out (by kernel_rfl)) hHeld ?_
      refine pu_ 3 (some 25) #[true, true, true, true, true, false, true, true, false, false, true, false, true, false, false, false] rfl rfl (any_of HT_.out (by kernel_rfl)) ?_
      refine tk2_ 5 (some 27) #[true, true, true, true, true, true, true, true, false, false, true, false, true, false, false, false] rfl rfl (take_ofW HT_.out HW_.out (by kernel_rfl)) hHeld ?_
      refine pu_ 8 (some 30) #[true, true, true, true, true, true, true, true, true, false, true, false, true, false, false, false] rfl rfl (any_of HT_.out (by kernel_rfl)) ?_
      refine pu_ 9 (some 31) #[true, true, true, true, true, true, true, true, true, true, true, false, true, false, false, false] rfl rfl (any_of HT_.out (by kernel_rfl)) ?_
      refine tk2_ 11 (some 33) #[true, true, true, true, true, true, true, true, true, true, true, true, true, false, false, false] rfl rfl (take_ofW HT_.out HW_.out (by kernel_rfl)) hHeld ?_
      refine pu_ 13 (some 35) #[true, true, true, true, true, true, true, true, true, true, true, true, true, true, false, false] rfl rfl (any_of HT_.out (by kernel_rfl)) ?_
      refine pu_ 14 (some 36) #[true, true, true, true, true, true, true, true, true, true, true, true, true, true, true, false] rfl rfl (any_of HT_.out (by kernel_rfl)) ?_
      refine one_ (i := 15) (N := none) #[true, true, true, true, true, true, true, true, true, true, true, true, true, true, true, true] rfl rfl (one_of HT_.out (by kernel_rfl)) (by decide) (fun K hK => ?_)
      have hs33 : w32.cell? ⟨gb133, 0, none⟩ = some (.int .u64 0) := bc_ BK133.out 0
      have hfs33 := blk_frozen BK133.out 0
      have hns33_0 := NB132_133.out
      have hms33_0 := NB133_132.out
      have hs34 : w32.cell? ⟨gb133, 1, none⟩ = some (.int .u64 0) := bc_ BK133.out 1
      have hfs34 := blk_frozen BK133.out 1
      have hns34_0 := NB132_133.out
      have hms34_0 := NB133_132.out
      refine skip_ (w1 := ?_) (by rfl) rfl ?_ ?_
      rotate_left
      ·go_simp
       rfl
      refine hK.out _ _ ⟨((cell_far (p := ⟨gb133, _, none⟩) NB132_133.out _).trans (((cell_far (p := ⟨gb133, _, none⟩) NB132_133.out _).trans (hHeld.1)))), ((cell_far (p := ⟨gb133, _, none⟩) NB132_133.out _).trans (((cell_far (p := ⟨gb133, _, none⟩) NB132_133.out _).trans (hHeld.2))))⟩ (fun hHeld => ?_)
      clear hK K
      refine done_ (done_of HT_.out (by kernel_rfl)) ?_
      try go_wp2
      refine bodyPost_ret (results_cell_row rfl _ _ gb133 75 #[.int .u64 (Go.bits .or .u64 (ji24) (ji27)), .int .u64 ji29] (0, 0) _ rfl (by (with_reducible repeat (first | refine blk_drewN ?_ _ | refine blk_drew ?_ | refine blk_alloc ?_ _)); refine blk_put (cs := #[.int .u64 (Go.bits .or .u64 (ji24) (ji27)), .int .u64 0]) ?_ 1 _ rfl; (with_reducible repeat (first | refine blk_drewN ?_ _ | refine blk_drew ?_ | refine blk_alloc ?_ _)); refine blk_put (cs := #[.int .u64 0, .int .u64 0]) ?_ 0 _ rfl; (with_reducible repeat (first | refine blk_drewN ?_ _ | refine blk_drew ?_ | refine blk_alloc ?_ _)); exact BK133.out) Try.underlying75 rfl (by kernel_rfl)) rfl ?_
      exact ⟨by first | rfl | (simp [errW_none, errW_some] <;> rfl) | (simp only [← hji24, ← hji25, ← hji27, ← hji29]; first | rfl | (simp [errW_none, errW_some] <;> rfl)) | (simp [*, errW_none, errW_some] <;> rfl), hb2_ HB.out GE132.out GE133.out⟩
     ·rw [if_neg c26] at H
      exact absurd H (by simp)
    ·rw [if_neg c23] at H
     exact absurd H (by simp)
-- IMPORT Derived.Deep.RegionHeld3
-- IMPORT Derived.Test.YthdeeoallfbjmaaPAEq75
def wide_Right.f (a0_0 : Int) (a0_1 : Int) (a1 : Int) : Option (Int × Int × Bool) :=
 if a1 ≤ 0 then some (a0_0, a0_1, false) else if a1 ≥ 128 then some (0, 0, (!(a0_0 == 0) || !(a0_1 == 0))) else
 if a1 ≥ 64 then (wide_Left.f 0 (shr .u64 a0_0 (wrap64 (a1 - 64))) a1).bind fun b => some (0, shr .u64 a0_0 (wrap64 (a1 - 64)), (!(b.1 == a0_0) || !(b.2 == a0_1)))
 else (wide_Left.f (shr .u64 a0_0 a1) (Go.bits .or .u64 (shr .u64 a0_1 a1) (shl .u64 a0_0 (wrap64 (64 - a1)))) a1).bind fun b => some (shr .u64 a0_0 a1, Go.bits .or .u64 (shr .u64 a0_1 a1) (shl .u64 a0_0 (wrap64 (64 - a1))), (!(b.1 == a0_0) || !(b.2 == a0_1)))
attribute [local go_sem high] eqA75
theorem wide_Right.bcell {W w1 : World} (hb : Below W.heap.size W w1) : (∀ b o, b < W.heap.size → w1.cell? ⟨b, o, none⟩ = W.cell? ⟨b, o, none⟩) ∧ (∀ b o, b < W.heap.size → w1.frozen? ⟨b, o, none⟩ = W.frozen? ⟨b, o, none⟩) :=
 ⟨fun b o h => hb.cell (p := ⟨b, o, none⟩) h, fun b o h => hb.frozen (p := ⟨b, o, none⟩) h⟩
theorem wide_Right.calls0 (a0_0 : Int) (a0_1 : Int) (a1 : Int) (w : World) (h : a1 ≤ 0) :
  Calls Try.prog 63 #[.agg #[.int .u64 a0_0, .int .u64 a0_1], .int .i64 a1] w fun e w' => e = .returned (.tuple #[.agg #[.int .u64 a0_0, .int .u64 a0_1], .bool false]) ∧ Below w.heap.size w w' := by
 have hu40 := Try.underlying75
 have c0 : decide (a1 ≤ 0) = true := decide_eq_true h
 clear h
 go_enter Try.func63, Try.ntmps63
 go_wp2
 exact bodyPost_ret (v := .tuple #[.agg #[.int .u64 a0_0, .int .u64 a0_1], .bool false]) (by simp [results, Try.results63, go_sem]) rfl ⟨rfl, below_alloc (below_alloc (Below.refl _ _) _) _⟩
theorem wide_Right.calls128 (a0_0 : Int) (a0_1 : Int) (a1 : Int) (w : World) (h : ¬ a1 ≤ 0) (h2 : a1 ≥ 128) :
  Calls Try.prog 63 #[.agg #[.int .u64 a0_0, .int .u64 a0_1], .int .i64 a1] w fun e w' => e = .returned (.tuple #[.agg #[.int .u64 0, .int .u64 0], .bool (!(a0_0 == 0) || !(a0_1 == 0))]) ∧ Below w.heap.size w w' := by
 have hu40 := Try.underlying75
 have c0 : decide (a1 ≤ 0) = false := decide_eq_false h
 have c1 : decide (128 ≤ a1) = true := decide_eq_true h2
 clear h h2
 go_enter Try.func63, Try.ntmps63
 go_wp2
 go_region
 go_wp2
 exact bodyPost_ret (v := .tuple #[.agg #[.int .u64 0, .int .u64 0], .bool (!(a0_0 == 0) || !(a0_1 == 0))]) (by simp [results, Try.results63, go_sem]) rfl ⟨rfl, below_drew (below_alloc (below_alloc (Below.refl _ _) _) _)⟩
theorem wide_Right.calls64 (a0_0 : Int) (a0_1 : Int) (a1 : Int) (x y : Int) (w : World) (h : ¬ a1 ≤ 0) (h2 : ¬ a1 ≥ 128) (h3 : a1 ≥ 64) (hl : wide_Left.f 0 (shr .u64 a0_0 (wrap64 (a1 - 64))) a1 = some (x, y)) :
  Calls Try.prog 63 #[.agg #[.int .u64 a0_0, .int .u64 a0_1], .int .i64 a1] w fun e w' => e = .returned (.tuple #[.agg #[.int .u64 0, .int .u64 (shr .u64 a0_0 (wrap64 (a1 - 64)))], .bool (!(x == a0_0) || !(y == a0_1))]) ∧ Below w.heap.size w w' := by
 have hu40 := Try.underlying75
 have c0 : decide (a1 ≤ 0) = false := decide_eq_false h
 have c1 : decide (128 ≤ a1) = false := decide_eq_false h2
 have c2 : decide (64 ≤ a1) = true := decide_eq_true h3
 have ew : wrap64 (a1 - 64) = a1 - 64 := by unfold wrap64; omega
 rw [ew] at hl ⊢
 have g0 := eq_true (show 64 ≤ a1 from h3)
 have g1 : a1 < 128 := by omega
 have es : shr .u64 a0_0 (a1 - 64) = a0_0 / 2 ^ (a1 - 64).toNat := by unfold shr; rw [show min (a1 - 64).toNat IntKind.u64.bits = (a1 - 64).toNat by rw [show IntKind.u64.bits = 64 by decide]; omega]
 rw [es] at hl ⊢
 clear es
 obtain ⟨s, hs⟩ : ∃ s, a0_0 / 2 ^ (a1 - 64).toNat = s := ⟨_, rfl⟩
 rw [hs] at hl ⊢
 have B0 := A_ hl;clear h h2 hl
 go_enter Try.func63, Try.ntmps63
 go_wp2
 go_region_held3 (fun w' => w'.cell? ⟨w.heap.size, 0, none⟩ = some (.int .u64 a0_0) ∧ w'.cell? ⟨w.heap.size, 1, none⟩ = some (.int .u64 a0_1) ∧ w'.cell? ⟨w.heap.size + 1, 0, none⟩ = some (.int .u64 0) ∧ w'.cell? ⟨w.heap.size + 1, 1, none⟩ = some (.int .u64 s) ∧ w'.frozen? ⟨w.heap.size + 1, 0, none⟩ = false ∧ w.heap.size + 1 < w'.heap.size ∧ Below w.heap.size w w')
  (((try go_split_ands); (try dsimp only); (repeat' apply And.intro) <;> first | assumption | (simp [go_sem, World.cell?_alloc_past]; done) | (simp [go_sem, World.cell?_alloc_past, *]; done) | (rw [hc _ _ (by omega)]; assumption) | (rw [hf _ _ (by omega)]; assumption) | (have := hb.size; omega) | (refine below_step ?_ hb; assumption) | (repeat (first | assumption | exact Below.refl _ _ | apply below_drew1 | apply below_alloc | (refine below_set ?_ (by omega))))))
  ((go_at_call 77; refine (wide_Left.calls 0 s a1 x y _ B0.out).mono ?_; rintro e w1 ⟨rfl, hb⟩; obtain ⟨hc, hf⟩ := wide_Right.bcell hb))
 rename_i hH
 obtain ⟨q0, q1, q2, q3, q4, q5, q6⟩ := hH
 go_wp2
 exact bodyPost_ret (v := .tuple #[.agg #[.int .u64 0, .int .u64 s], .bool (!(x == a0_0) || !(y == a0_1))]) (by simp [results, Try.results63, go_sem, q2, q3]) rfl ⟨rfl, q6⟩
theorem wide_Right.calls1 (a0_0 : Int) (a0_1 : Int) (a1 : Int) (x y : Int) (w : World) (h : ¬ a1 ≤ 0) (h2 : ¬ a1 ≥ 128) (h3 : ¬ a1 ≥ 64) (hl : wide_Left.f (shr .u64 a0_0 a1) (Go.bits .or .u64 (shr .u64 a0_1 a1) (shl .u64 a0_0 (wrap64 (64 - a1)))) a1 = some (x, y)) :
  Calls Try.prog 63 #[.agg #[.int .u64 a0_0, .int .u64 a0_1], .int .i64 a1] w fun e w' => e = .returned (.tuple #[.agg #[.int .u64 (shr .u64 a0_0 a1), .int .u64 (Go.bits .or .u64 (shr .u64 a0_1 a1) (shl .u64 a0_0 (wrap64 (64 - a1))))], .bool (!(x == a0_0) || !(y == a0_1))]) ∧ Below w.heap.size w w' := by
 have hu40 := Try.underlying75
 have c0 : decide (a1 ≤ 0) = false := decide_eq_false h
 have c1 : decide (128 ≤ a1) = false := decide_eq_false h2
 have c2 : decide (64 ≤ a1) = false := decide_eq_false h3
 have ew : wrap64 (64 - a1) = 64 - a1 := by unfold wrap64; omega
 rw [ew] at hl ⊢
 have gw : IntKind.i64.wrap (64 - a1) = 64 - a1 := by rw [i64_w]; unfold wrap64; omega
 have g0 := eq_true (show 0 ≤ a1 by omega)
 have g1 : a1 < 64 := by omega
 have g2 : 0 ≤ 64 - a1 := by omega
 have es : ∀ z : Int, shr .u64 z a1 = z / 2 ^ a1.toNat := fun z => by unfold shr; rw [show min a1.toNat IntKind.u64.bits = a1.toNat by rw [show IntKind.u64.bits = 64 by decide]; omega]
 have et : shl .u64 a0_0 (64 - a1) = IntKind.u64.wrap (a0_0 * 2 ^ min (64 - a1).toNat 64) := rfl
 rw [es, es, et] at hl ⊢
 clear es et
 obtain ⟨s, hs⟩ : ∃ s, a0_0 / 2 ^ a1.toNat = s := ⟨_, rfl⟩
 obtain ⟨s1, hs1⟩ : ∃ s, a0_1 / 2 ^ a1.toNat = s := ⟨_, rfl⟩
 obtain ⟨s2, hs2⟩ : ∃ s, IntKind.u64.wrap (a0_0 * 2 ^ min (64 - a1).toNat 64) = s := ⟨_, rfl⟩
 rw [hs, hs1, hs2] at hl ⊢
 obtain ⟨t, ht⟩ : ∃ t, Go.bits .or .u64 s1 s2 = t := ⟨_, rfl⟩
 rw [ht] at hl ⊢
 have B0 := A_ hl;clear h h2 h3 hl ew
 go_enter Try.func63, Try.ntmps63
 have g3 := eq_true (show a1 ≤ 64 by omega)
 go_wp2
 go_region_held3 (fun w' => w'.cell? ⟨w.heap.size, 0, none⟩ = some (.int .u64 a0_0) ∧ w'.cell? ⟨w.heap.size, 1, none⟩ = some (.int .u64 a0_1) ∧ w'.frozen? ⟨w.heap.size + 1, 0, none⟩ = false ∧ w.heap.size + 1 < w'.heap.size ∧ Below w.heap.size w w')
  (((try go_split_ands); (try dsimp only); (repeat' apply And.intro) <;> first | assumption | (simp [go_sem, World.cell?_alloc_past]; done) | (simp [go_sem, World.cell?_alloc_past, *]; done) | (rw [hc _ _ (by omega)]; assumption) | (rw [hf _ _ (by omega)]; assumption) | (have := hb.size; omega) | (refine below_step ?_ hb; assumption) | (repeat (first | assumption | exact Below.refl _ _ | apply below_drew1 | apply below_alloc | (refine below_set ?_ (by omega))))))
  (fail)
 rename_i hH0
 clear hH0
 go_wp2
 go_region_held3 (fun w' => w'.cell? ⟨w.heap.size, 0, none⟩ = some (.int .u64 a0_0) ∧ w'.cell? ⟨w.heap.size, 1, none⟩ = some (.int .u64 a0_1) ∧ w'.cell? ⟨w.heap.size + 1, 0, none⟩ = some (.int .u64 s) ∧ w'.cell? ⟨w.heap.size + 1, 1, none⟩ = some (.int .u64 t) ∧ w'.frozen? ⟨w.heap.size + 1, 0, none⟩ = false ∧ w.heap.size + 1 < w'.heap.size ∧ Below w.heap.size w w')
  (((try go_split_ands); (try dsimp only); (repeat' apply And.intro) <;> first | assumption | (simp [go_sem, World.cell?_alloc_past]; done) | (simp [go_sem, World.cell?_alloc_past, *]; done) | (rw [hc _ _ (by omega)]; assumption) | (rw [hf _ _ (by omega)]; assumption) | (have := hb.size; omega) | (refine below_step ?_ hb; assumption) | (repeat (first | assumption | exact Below.refl _ _ | apply below_drew1 | apply below_alloc | (refine below_set ?_ (by omega))))))
  ((go_at_call 77; refine (wide_Left.calls s t a1 x y _ B0.out).mono ?_; rintro e w1 ⟨rfl, hb⟩; obtain ⟨hc, hf⟩ := wide_Right.bcell hb))
 rename_i hH
 obtain ⟨q0, q1, q2, q3, q4, q5, q6⟩ := hH
 go_wp2
 exact bodyPost_ret (v := .tuple #[.agg #[.int .u64 s, .int .u64 t], .bool (!(x == a0_0) || !(y == a0_1))]) (by simp [results, Try.results63, go_sem, q2, q3]) rfl ⟨rfl, q6⟩
theorem wide_Right.calls (a0_0 : Int) (a0_1 : Int) (a1 : Int) (r1 : Int) (r2 : Int) (r3 : Bool) (w : World) (h : wide_Right.f a0_0 a0_1 a1 = some (r1, r2, r3)) :
  Calls Try.prog 63 #[.agg #[.int .u64 a0_0, .int .u64 a0_1], .int .i64 a1] w fun e w' => e = .returned (.tuple #[.agg #[.int .u64 r1, .int .u64 r2], .bool r3]) ∧ Below w.heap.size w w' := by
 unfold wide_Right.f at h
 by_cases h1 : a1 ≤ 0
 ·rw [if_pos h1] at h
  simp only [Option.some.injEq, Prod.mk.injEq] at h
  obtain ⟨rfl, rfl, rfl⟩ := h
  exact wide_Right.calls0 _ _ a1 w h1
 ·rw [if_neg h1] at h
  by_cases h2 : a1 ≥ 128
  ·rw [if_pos h2] at h
   simp only [Option.some.injEq, Prod.mk.injEq] at h
   obtain ⟨rfl, rfl, rfl⟩ := h
   exact wide_Right.calls128 _ _ a1 w h1 h2
  ·rw [if_neg h2] at h
   by_cases h3 : a1 ≥ 64
   ·rw [if_pos h3] at h
    obtain ⟨⟨x, y⟩, A0, H⟩ := ob_ h
    simp only [Option.some.injEq, Prod.mk.injEq] at H
    obtain ⟨rfl, rfl, rfl⟩ := H
    exact wide_Right.calls64 _ _ a1 x y w h1 h2 h3 A0
   ·rw [if_neg h3] at h
    obtain ⟨⟨x, y⟩, A0, H⟩ := ob_ h
    simp only [Option.some.injEq, Prod.mk.injEq] at H
    obtain ⟨rfl, rfl, rfl⟩ := H
    exact wide_Right.calls1 _ _ a1 x y w h1 h2 h3 A0
def wide_of.f (a0_0 : Int) (a0_1 : Int) : Option (Int × Int) := some (a0_1, a0_0)
theorem wide_of.calls (a0_0 : Int) (a0_1 : Int) (r1 : Int) (r2 : Int) (w : World) (h : wide_of.f a0_0 a0_1 = some (r1, r2)) :
  Calls Try.prog 93 #[.agg #[.int .u64 a0_0, .int .u64 a0_1]] w fun e w' => e = .returned (.agg #[.int .u64 r1, .int .u64 r2]) ∧ Below w.heap.size w w' := by
 have hu109 := Try.underlying109
 have hu75 := Try.underlying75
 have HB := A_ (Below.refl w.heap.size w)
 have H : (some (a0_1, a0_0)) = some (r1, r2) := h
 clear h
 simp only [Option.some.injEq, Prod.mk.injEq] at H
 obtain ⟨rfl, rfl⟩ := H
 go_enter Try.func93, Try.ntmps93
 go_wp2_with (first | ((with_reducible refine gate_dst (N := 1) rfl ?_); refine be_ 1 #[.int .u64 a0_0, .int .u64 a0_1] 109 ?_; intro gb171 hg w2 hbox hb; have BK171 := A_ (hbox); have GW171 := A_ (sz_ hg (hb_ HB.out)); have GE171 := A_ (sz_ hg (hb_ HB.out)); replace HB := A_ (below_step (hb_ HB.out) hb); clear hb hbox hg) | ((with_reducible refine gate_dst (N := 2) rfl ?_); refine be_ 2 #[.int .u64 0, .int .u64 0] 75 ?_; intro gb172 hg w3 hbox hb; have BK172 := A_ (hbox); have GW172 := A_ (sz_ hg (hb1_ HB.out GE171.out)); have GE172 := A_ (sz_ hg (hb1_ HB.out GE171.out)); have NB171_172 := A_ (nl_ hg BK171.out); have NB172_171 := A_ (ng_ hg BK171.out); replace BK171 := A_ (bb_ BK171.out hb); replace HB := A_ (below_step (hb1_ HB.out GE171.out) hb); clear hb hbox hg; have hnb4 := NB171_172.out; have hnc4 := NB172_171.out; have hcz5_0 := bv_ BK171.out 0; have hcz5_1 := bv_ BK171.out 1; have hfz5_0 := blk_frozen BK171.out 0; have hfz5_1 := blk_frozen BK171.out 1; have hcz6_0 := bv_ BK172.out 0; have hcz6_1 := bv_ BK172.out 1; have hfz6_0 := blk_frozen BK172.out 0; have hfz6_1 := blk_frozen BK172.out 1))
 refine bodyPost_ret (results_cell_row rfl _ _ gb172 75 #[.int .u64 a0_1, .int .u64 a0_0] (0, 0) _ rfl (by (with_reducible repeat (first | refine blk_drewN ?_ _ | refine blk_drew ?_ | refine blk_alloc ?_ _)); refine blk_put (cs := #[.int .u64 a0_1, .int .u64 0]) ?_ 1 _ rfl; (with_reducible repeat (first | refine blk_drewN ?_ _ | refine blk_drew ?_ | refine blk_alloc ?_ _)); refine blk_put (cs := #[.int .u64 0, .int .u64 0]) ?_ 0 _ rfl; (with_reducible repeat (first | refine blk_drewN ?_ _ | refine blk_drew ?_ | refine blk_alloc ?_ _)); exact BK172.out) Try.underlying75 rfl (by kernel_rfl)) rfl ?_
 exact ⟨er_, hb2_ HB.out GE171.out GE172.out⟩
-- IMPORT Derived.Deep.RegionHeld3
-- IMPORT Derived.Shelf.Spec.BitsCarry
-- IMPORT Derived.Test.YthdeeoallfbjmaaNr
-- IMPORT Derived.Deep.DeepCutAuto
def wide_Add.f (a0_0 : Int) (a0_1 : Int) (a1_0 : Int) (a1_1 : Int) : Option (Int × Int) :=
 if (0 ≤ a0_0 ∧ a0_0 < 18446744073709551616) ∧ (0 ≤ a0_1 ∧ a0_1 < 18446744073709551616) ∧ (0 ≤ a1_0 ∧ a1_0 < 18446744073709551616) ∧ (0 ≤ a1_1 ∧ a1_1 < 18446744073709551616) then
  some ((a0_0 + a1_0 + (a0_1 + a1_1) / 18446744073709551616) % 18446744073709551616, (a0_1 + a1_1) % 18446744073709551616) else none
theorem wide_Add.add64 (x y c : Int) (hx : 0 ≤ x) (hy : 0 ≤ y) (hc0 : 0 ≤ c) (hc : c ≤ 1) (w : World) : (callFunc 92 #[.int .u64 x, .int .u64 y, .int .u64 c]).run Try.prog w =
  .ok (.value (.tuple #[.int .u64 ((x + y + c) % 18446744073709551616), .int .u64 ((x + y + c) / 18446744073709551616)])) w := by
 obtain ⟨x, rfl⟩ := Int.eq_ofNat_of_zero_le hx
 obtain ⟨y, rfl⟩ := Int.eq_ofNat_of_zero_le hy
 obtain ⟨c, rfl⟩ := Int.eq_ofNat_of_zero_le hc0
 rw [run_callFunc_extern Try.func92 (by kernel_rfl) (by kernel_rfl) (by kernel_rfl) (e := add64Entry) (by kernel_rfl), run_add64 x y c (by omega) (by omega) (by omega) (by omega)]
 simp only [Result.andThen]
 try (congr 5 <;> omega)
theorem wide_Add.add64_0 (x y : Int) (hx : 0 ≤ x) (hy : 0 ≤ y) (w : World) : (callFunc 92 #[.int .u64 x, .int .u64 y, .int .u64 0]).run Try.prog w =
  .ok (.value (.tuple #[.int .u64 ((x + y) % 18446744073709551616), .int .u64 ((x + y) / 18446744073709551616)])) w := by
 simpa using wide_Add.add64 x y 0 hx hy (Int.le_refl 0) (by decide) w
theorem wide_Add.words (a0 a1 : Int) (w : World) : Calls Try.prog 91 #[.agg #[.int .u64 a0, .int .u64 a1]] w fun e w' => e = .returned (.agg #[.int .u64 a1, .int .u64 a0]) ∧ ∃ o1 o2 : Obj, w' = (w.alloc o1).alloc o2 := by
 have hu40 := Try.underlying75
 go_enter Try.func91, Try.ntmps91
 go_wp2
 exact bodyPost_ret (v := .agg #[.int .u64 a1, .int .u64 a0]) (by simp [results, Try.results91, go_sem]) rfl ⟨rfl, _, _, rfl⟩
theorem wide_Add.calls (a0_0 : Int) (a0_1 : Int) (a1_0 : Int) (a1_1 : Int) (r1 : Int) (r2 : Int) (w : World) (h : wide_Add.f a0_0 a0_1 a1_0 a1_1 = some (r1, r2)) :
  Calls Try.prog 76 #[.agg #[.int .u64 a0_0, .int .u64 a0_1], .agg #[.int .u64 a1_0, .int .u64 a1_1]] w fun e w' => e = .returned (.agg #[.int .u64 r1, .int .u64 r2]) ∧ Below w.heap.size w w' := by
 unfold wide_Add.f at h
 split at h
 rotate_left
 ·cases h
 rename_i hr
 obtain ⟨⟨p1, p2⟩, ⟨p3, p4⟩, ⟨p5, p6⟩, ⟨p7, p8⟩⟩ := hr
 simp only [Option.some.injEq, Prod.mk.injEq] at h
 obtain ⟨hs1, hs0⟩ := h
 have k0 : 0 ≤ (a0_1 + a1_1) / 18446744073709551616 := by omega
 have k1 : (a0_1 + a1_1) / 18446744073709551616 ≤ 1 := by omega
 obtain ⟨c1, hc1⟩ : ∃ c, (a0_1 + a1_1) / 18446744073709551616 = c := ⟨_, rfl⟩
 rw [hc1] at k0 k1 hs1
 have A0 := A_ (fun w => wide_Add.add64_0 a0_1 a1_1 p3 p7 w)
 have A1 := A_ (fun w => wide_Add.add64 a0_0 a1_0 c1 p1 p5 k0 k1 w)
 rw [hs0, hc1] at A0
 rw [hs1] at A1
 clear p1 p2 p3 p4 p5 p6 p7 p8 k0 k1 hs0 hs1 hc1
 have hu40 := Try.underlying75
 go_enter Try.func76, Try.ntmps76
 go_upto_region 1 with fail
 go_cut [5, 6] (fun s5 s6 wx => ∃ g h : Nat, s5 = .pointer (some ⟨g, 0, none⟩) ∧ s6 = .pointer (some ⟨h, 0, none⟩) ∧ w.heap.size + 2 < g ∧ w.heap.size + 2 < h ∧ g ≠ h ∧ wx.cell? ⟨g, 0, none⟩ = some (.int .u64 a0_1) ∧ wx.cell? ⟨g, 1, none⟩ = some (.int .u64 a0_0) ∧ wx.cell? ⟨h, 0, none⟩ = some (.int .u64 a1_1) ∧ wx.cell? ⟨h, 1, none⟩ = some (.int .u64 a1_0) ∧ wx.cell? ⟨w.heap.size + 2, 0, none⟩ = some (.int .u64 0) ∧ wx.cell? ⟨w.heap.size + 2, 1, none⟩ = some (.int .u64 0) ∧ wx.frozen? ⟨g, 0, none⟩ = false ∧ wx.frozen? ⟨g, 1, none⟩ = false ∧ wx.frozen? ⟨w.heap.size + 2, 0, none⟩ = false ∧ wx.frozen? ⟨w.heap.size + 2, 1, none⟩ = false ∧ Below w.heap.size w wx)
 case first =>
  go_region_held3 (fun w' => w'.cell? ⟨w.heap.size, 0, none⟩ = some (.int .u64 a0_0) ∧ w'.cell? ⟨w.heap.size, 1, none⟩ = some (.int .u64 a0_1) ∧ w'.cell? ⟨w.heap.size + 1, 0, none⟩ = some (.int .u64 a1_0) ∧ w'.cell? ⟨w.heap.size + 1, 1, none⟩ = some (.int .u64 a1_1))
   (simp [go_sem, World.cell?_alloc_past])
   ((first | (go_at_call 91; refine (wide_Add.words a0_0 a0_1 _).mono ?_; rintro e w1 ⟨rfl, o1, o2, rfl⟩) | (go_at_call 91; refine (wide_Add.words a1_0 a1_1 _).mono ?_; rintro e w2 ⟨rfl, o3, o4, rfl⟩)))
  all_goals (go_wp2_with fail; go_meet)
  all_goals (
   refine ⟨_, _, rfl, rfl, by omega, by omega, by omega, ?_, ?_, ?_, ?_, ?_, ?_, ?_, ?_, ?_, ?_, ?_⟩
   all_goals first | (simp [go_sem, World.cell?_alloc_past]; done) | (repeat (first | assumption | exact Below.refl _ _ | apply below_drew1 | apply below_alloc | (refine below_set ?_ (by omega)))))
 case rest =>
  obtain ⟨g, h, rfl, rfl, hg, hh, hgh, x0, x1, y0, y1, z0, z1, f0, f1, f2, f3, bl⟩ := hcut
  go_step
  go_wp2
  go_loopg [7, 13] 2 (fun k v7 v13 w' => ∃ (j c u0 u1 : Int), v7 = .int .u64 c ∧ v13 = .int .i64 j ∧ Aside0 ((k = 2 ∧ j = 0 ∧ c = 0 ∧ u0 = a0_1 ∧ u1 = a0_0) ∨ (k = 1 ∧ j = 1 ∧ c = c1 ∧ u0 = r2 ∧ u1 = a0_0) ∨ (k = 0 ∧ j = 2 ∧ u0 = r2 ∧ u1 = r1)) ∧ w'.cell? ⟨g, 0, none⟩ = some (.int .u64 u0) ∧ w'.cell? ⟨g, 1, none⟩ = some (.int .u64 u1) ∧ w'.cell? ⟨h, 0, none⟩ = some (.int .u64 a1_1) ∧ w'.cell? ⟨h, 1, none⟩ = some (.int .u64 a1_0) ∧ w'.cell? ⟨w.heap.size + 2, 0, none⟩ = some (.int .u64 0) ∧ w'.cell? ⟨w.heap.size + 2, 1, none⟩ = some (.int .u64 0) ∧ w'.frozen? ⟨g, 0, none⟩ = false ∧ w'.frozen? ⟨g, 1, none⟩ = false ∧ w'.frozen? ⟨w.heap.size + 2, 0, none⟩ = false ∧ w'.frozen? ⟨w.heap.size + 2, 1, none⟩ = false ∧ Aside0 (Below w.heap.size w w'))
  case atStart => exact ⟨0, 0, a0_1, a0_0, rfl, rfl, ⟨.inl ⟨rfl, rfl, rfl, rfl, rfl⟩⟩, x0, x1, y0, y1, z0, z1, f0, f1, f2, f3, ⟨bl⟩⟩
  case round =>
   clear x0 x1 y0 y1 z0 z1 f0 f1 f2 f3 bl
   obtain ⟨j, c, u0, u1, rfl, rfl, hj, x0, x1, y0, y1, z0, z1, f0, f1, f2, f3, bl⟩ := hrel
   rcases hj.out with ⟨rfl, rfl, rfl, rfl, rfl⟩ | ⟨rfl, rfl, rfl, rfl, rfl⟩ | ⟨rfl, rfl, rfl, rfl⟩
   ·clear hj
    go_wp2
    have A := A0.out
    go_region
    all_goals go_wp2
    go_roundg 1
    case measure => omega
    case rel =>
     refine ⟨1, c1, r2, u1, rfl, rfl, ⟨.inr (.inl ⟨rfl, rfl, rfl, rfl, rfl⟩)⟩, ?_, ?_, ?_, ?_, ?_, ?_, ?_, ?_, ?_, ?_, ?_⟩
     all_goals first
      | exact World.cell?_setCell_same _ _ _ x0
      | exact World.cell?_setCell_same _ _ _ x1
      | exact (World.cell?_setCell_far _ _ _ _ (fun e => by have e' : g = h := e; exact hgh e')).trans (by assumption)
      | exact (World.cell?_setCell_far _ _ _ _ (fun e => by have e' : g = w.heap.size + 2 := e; omega)).trans (by assumption)
      | exact (World.frozen?_setCell _ _ _ _).trans (by assumption)
      | (refine Eq.trans (World.cell?_setCell_other _ _ _ _ ?_) (by assumption); intro e; cases e)
      | exact ⟨below_drew1 (below_set bl.out (by omega))⟩
   ·clear hj
    go_wp2
    have A := A1.out
    go_region
    all_goals go_wp2
    go_roundg 0
    case measure => omega
    case rel =>
     refine ⟨2, _, u0, r1, rfl, rfl, ⟨.inr (.inr ⟨rfl, rfl, rfl, rfl⟩)⟩, ?_, ?_, ?_, ?_, ?_, ?_, ?_, ?_, ?_, ?_, ?_⟩
     all_goals first
      | exact World.cell?_setCell_same _ _ _ x0
      | exact World.cell?_setCell_same _ _ _ x1
      | exact (World.cell?_setCell_far _ _ _ _ (fun e => by have e' : g = h := e; exact hgh e')).trans (by assumption)
      | exact (World.cell?_setCell_far _ _ _ _ (fun e => by have e' : g = w.heap.size + 2 := e; omega)).trans (by assumption)
      | exact (World.frozen?_setCell _ _ _ _).trans (by assumption)
      | (refine Eq.trans (World.cell?_setCell_other _ _ _ _ ?_) (by assumption); intro e; cases e)
      | exact ⟨below_drew1 (below_set bl.out (by omega))⟩
   ·clear hj
    go_wp2_with (first | (go_at_call 93; refine (wide_of.calls u0 u1 u1 u0 _ rfl).mono ?_; rintro e w1 ⟨rfl, hb⟩; obtain ⟨hc, hf⟩ := Nr.bcell hb; have hs := hb.size; have e0 := (hc _ 0 (World.block_lt_of_cell? wr _ z0)).trans z0; have e1 := (hc _ 1 (World.block_lt_of_cell? wr _ z0)).trans z1; have e2 := (hf _ 0 (World.block_lt_of_cell? wr _ z0)).trans f2; have e3 := (hf _ 1 (World.block_lt_of_cell? wr _ z0)).trans f3; replace bl := A_ (below_step bl.out hb); clear hc hf hb hs))
    exact bodyPost_ret (v := .agg #[.int .u64 u1, .int .u64 u0]) (by simp [results, Try.results76, go_sem, e0, e1]) rfl ⟨rfl, below_set (below_set bl.out (by omega)) (by omega)⟩
def wide_Of.f (a0 : Int) : Option (Int × Int) := some (0, a0)
theorem wide_Of.calls (a0 : Int) (r1 : Int) (r2 : Int) (w : World) (h : wide_Of.f a0 = some (r1, r2)) :
  Calls Try.prog 58 #[.int .u64 a0] w fun e w' => e = .returned (.agg #[.int .u64 r1, .int .u64 r2]) ∧ Below w.heap.size w w' := by
 have hu75 := Try.underlying75
 have HB := A_ (Below.refl w.heap.size w)
 have H : (some (0, a0)) = some (r1, r2) := h
 clear h
 simp only [Option.some.injEq, Prod.mk.injEq] at H
 obtain ⟨rfl, rfl⟩ := H
 go_enter Try.func58, Try.ntmps58
 go_wp2_with (first | ((with_reducible refine gate_dst (N := 2) rfl ?_); refine be_ 2 #[.int .u64 0, .int .u64 0] 75 ?_; intro gb131 hg w2 hbox hb; have BK131 := A_ (hbox); have GW131 := A_ (sz_ hg (hb_ HB.out)); have GE131 := A_ (sz_ hg (hb_ HB.out)); replace HB := A_ (below_step (hb_ HB.out) hb); clear hb hbox hg; have hcz3_0 := bv_ BK131.out 0; have hcz3_1 := bv_ BK131.out 1; have hfz3_0 := blk_frozen BK131.out 0; have hfz3_1 := blk_frozen BK131.out 1))
 refine bodyPost_ret (results_cell_row rfl _ _ gb131 75 #[.int .u64 0, .int .u64 a0] (0, 0) _ rfl (by (with_reducible repeat (first | refine blk_drewN ?_ _ | refine blk_drew ?_ | refine blk_alloc ?_ _)); refine blk_put (cs := #[.int .u64 0, .int .u64 0]) ?_ 1 _ rfl; (with_reducible repeat (first | refine blk_drewN ?_ _ | refine blk_drew ?_ | refine blk_alloc ?_ _)); refine blk_put (cs := #[.int .u64 0, .int .u64 0]) ?_ 0 _ rfl; (with_reducible repeat (first | refine blk_drewN ?_ _ | refine blk_drew ?_ | refine blk_alloc ?_ _)); exact BK131.out) Try.underlying75 rfl (by kernel_rfl)) rfl ?_
 exact ⟨er_, hb1_ HB.out GE131.out⟩
end Go.Proofs.Ythdeeoallfbjmaa.PA
/- What the Go methods by which a number is rounded do to their receiver, for every receiver and every input in their bounds. -/
namespace Go.Proofs.Ythdeeoallfbjmaa.PA
open Go.RowKit Go.Proofs.YthdeeoallfbjmaaW.PrintWords Go.Proofs.YthdeeoallfbjmaaW.PrintLast Go.Proofs.YthdeeoallfbjmaaW.PrintMore
attribute [local go_sem] max2_int min2_int max_two min_two max_three min_three max_four min_four   -- for this text's walks alone
set_option linter.unusedVariables false
set_option linter.unusedSimpArgs false
structure rp_PK (b : Nat) (h l e : Int) (m : Bool) (w w' : World) : Prop where
  c0 : w'.cell? ⟨b, 0, none⟩ = some (.int .u64 h)
  c1 : w'.cell? ⟨b, 1, none⟩ = some (.int .u64 l)
  c2 : w'.cell? ⟨b, 2, none⟩ = some (.int .i64 e)
  c3 : w'.cell? ⟨b, 3, none⟩ = some (.bool m)
  cs : ∀ i, 4 ≤ i → w'.cell? ⟨b, i, none⟩ = w.cell? ⟨b, i, none⟩
  fs : ∀ i, w'.frozen? ⟨b, i, none⟩ = w.frozen? ⟨b, i, none⟩
  bl : Below b w w'
theorem rp_PK.set4 {b : Nat} {h l e : Int} {m : Bool} {w w2 : World} {v0 v1 v2 v3 : Value} (c0 : w2.cell? ⟨b, 0, none⟩ = some v0) (c1 : w2.cell? ⟨b, 1, none⟩ = some v1) (c2 : w2.cell? ⟨b, 2, none⟩ = some v2) (c3 : w2.cell? ⟨b, 3, none⟩ = some v3)
    (AS : ∀ i, w2.cell? ⟨b, i, none⟩ = w.cell? ⟨b, i, none⟩) (AF : ∀ i, w2.frozen? ⟨b, i, none⟩ = w.frozen? ⟨b, i, none⟩) (AB : Below b w w2) :
    rp_PK b h l e m w ((((w2.setCell ⟨b, 0, none⟩ (.int .u64 h)).setCell ⟨b, 1, none⟩ (.int .u64 l)).setCell ⟨b, 2, none⟩ (.int .i64 e)).setCell ⟨b, 3, none⟩ (.bool m)) := by
  have ne : ∀ i j : Nat, i ≠ j → (⟨b, j, none⟩ : Addr) ≠ ⟨b, i, none⟩ := fun i j hij k => hij (by injection k with _ k2 _; exact k2.symm)
  have o := fun (W : World) (i j : Nat) (u : Value) (hij : i ≠ j) => World.cell?_setCell_other W ⟨b, j, none⟩ ⟨b, i, none⟩ u (ne i j hij)
  refine ⟨?_, ?_, ?_, ?_, fun i hi => ?_, fun i => ?_, ?_⟩
  · rw [o _ 0 3 _ (by decide), o _ 0 2 _ (by decide), o _ 0 1 _ (by decide)]; exact World.cell?_setCell_same _ _ _ c0
  · rw [o _ 1 3 _ (by decide), o _ 1 2 _ (by decide)]; exact World.cell?_setCell_same _ _ _ ((o _ 1 0 _ (by decide)).trans c1)
  · rw [o _ 2 3 _ (by decide)]; exact World.cell?_setCell_same _ _ _ ((o _ 2 1 _ (by decide)).trans ((o _ 2 0 _ (by decide)).trans c2))
  · exact World.cell?_setCell_same _ _ _ ((o _ 3 2 _ (by decide)).trans ((o _ 3 1 _ (by decide)).trans ((o _ 3 0 _ (by decide)).trans c3)))
  · rw [o _ i 3 _ (by omega), o _ i 2 _ (by omega), o _ i 1 _ (by omega), o _ i 0 _ (by omega)]; exact AS i
  · rw [World.frozen?_setCell, World.frozen?_setCell, World.frozen?_setCell, World.frozen?_setCell]; exact AF i
  · exact (((AB.setCell (Nat.le_refl _) _).setCell (Nat.le_refl _) _).setCell (Nat.le_refl _) _).setCell (Nat.le_refl _) _
theorem rp_ne {b i j : Nat} (hij : i ≠ j) : (⟨b, j, none⟩ : Addr) ≠ ⟨b, i, none⟩ := fun k => hij (by injection k with _ k2 _; exact k2.symm)
theorem rp_o (b : Nat) (W : World) (i j : Nat) (u : Value) (hij : i ≠ j) : (W.setCell ⟨b, j, none⟩ u).cell? ⟨b, i, none⟩ = W.cell? ⟨b, i, none⟩ := World.cell?_setCell_other W ⟨b, j, none⟩ ⟨b, i, none⟩ u (rp_ne hij)
theorem rp_PK.put3 {b : Nat} {h l e : Int} {m : Bool} {w w1 : World} (P : rp_PK b h l e m w w1) (m' : Bool) : rp_PK b h l e m' w (w1.setCell ⟨b, 3, none⟩ (.bool m')) :=
  ⟨(rp_o b _ 0 3 _ (by decide)).trans P.c0, (rp_o b _ 1 3 _ (by decide)).trans P.c1, (rp_o b _ 2 3 _ (by decide)).trans P.c2, World.cell?_setCell_same _ _ _ P.c3, fun i hi => (rp_o b _ i 3 _ (by omega)).trans (P.cs i hi), fun i => (World.frozen?_setCell _ _ _ _).trans (P.fs i), P.bl.setCell (Nat.le_refl _) _⟩
theorem rp_PK.put2 {b : Nat} {h l e : Int} {m : Bool} {w w1 : World} (P : rp_PK b h l e m w w1) (e' : Int) : rp_PK b h l e' m w (w1.setCell ⟨b, 2, none⟩ (.int .i64 e')) :=
  ⟨(rp_o b _ 0 2 _ (by decide)).trans P.c0, (rp_o b _ 1 2 _ (by decide)).trans P.c1, World.cell?_setCell_same _ _ _ P.c2, (rp_o b _ 3 2 _ (by decide)).trans P.c3, fun i hi => (rp_o b _ i 2 _ (by omega)).trans (P.cs i hi), fun i => (World.frozen?_setCell _ _ _ _).trans (P.fs i), P.bl.setCell (Nat.le_refl _) _⟩
theorem rp_PK.put1 {b : Nat} {h l e : Int} {m : Bool} {w w1 : World} (P : rp_PK b h l e m w w1) (l' : Int) : rp_PK b h l' e m w (w1.setCell ⟨b, 1, none⟩ (.int .u64 l')) :=
  ⟨(rp_o b _ 0 1 _ (by decide)).trans P.c0, World.cell?_setCell_same _ _ _ P.c1, (rp_o b _ 2 1 _ (by decide)).trans P.c2, (rp_o b _ 3 1 _ (by decide)).trans P.c3, fun i hi => (rp_o b _ i 1 _ (by omega)).trans (P.cs i hi), fun i => (World.frozen?_setCell _ _ _ _).trans (P.fs i), P.bl.setCell (Nat.le_refl _) _⟩
theorem rp_PK.put0 {b : Nat} {h l e : Int} {m : Bool} {w w1 : World} (P : rp_PK b h l e m w w1) (h' : Int) : rp_PK b h' l e m w (w1.setCell ⟨b, 0, none⟩ (.int .u64 h')) :=
  ⟨World.cell?_setCell_same _ _ _ P.c0, (rp_o b _ 1 0 _ (by decide)).trans P.c1, (rp_o b _ 2 0 _ (by decide)).trans P.c2, (rp_o b _ 3 0 _ (by decide)).trans P.c3, fun i hi => (rp_o b _ i 0 _ (by omega)).trans (P.cs i hi), fun i => (World.frozen?_setCell _ _ _ _).trans (P.fs i), P.bl.setCell (Nat.le_refl _) _⟩
theorem rp_PK.lt {b : Nat} {h l e : Int} {m : Bool} {w w1 : World} (P : rp_PK b h l e m w w1) : b < w1.heap.size := World.block_lt_of_cell? w1 _ P.c0
theorem rp_PK.below {b : Nat} {h l e : Int} {m : Bool} {w w1 w2 : World} (P : rp_PK b h l e m w w1) (hb : Below w1.heap.size w1 w2) : rp_PK b h l e m w w2 :=
  ⟨((Nr.bcell hb).1 b 0 P.lt).trans P.c0, ((Nr.bcell hb).1 b 1 P.lt).trans P.c1, ((Nr.bcell hb).1 b 2 P.lt).trans P.c2, ((Nr.bcell hb).1 b 3 P.lt).trans P.c3, fun i hi => ((Nr.bcell hb).1 b i P.lt).trans (P.cs i hi), fun i => ((Nr.bcell hb).2 b i P.lt).trans (P.fs i), P.bl.trans (hb.mono (Nat.le_of_lt P.lt))⟩
theorem rp_PK.alloc {b : Nat} {h l e : Int} {m : Bool} {w w1 : World} (P : rp_PK b h l e m w w1) (x : Obj) : rp_PK b h l e m w (w1.alloc x) := P.below (below_alloc (Below.refl _ _) x)
theorem rp_PK.drew {b : Nat} {h l e : Int} {m : Bool} {w w1 : World} (P : rp_PK b h l e m w w1) : rp_PK b h l e m w w1.drew := P.below (below_drew1 (Below.refl _ _))
theorem rp_PK.start {b : Nat} {h l e : Int} {m : Bool} {w : World} (c0 : w.cell? ⟨b, 0, none⟩ = some (.int .u64 h)) (c1 : w.cell? ⟨b, 1, none⟩ = some (.int .u64 l)) (c2 : w.cell? ⟨b, 2, none⟩ = some (.int .i64 e)) (c3 : w.cell? ⟨b, 3, none⟩ = some (.bool m)) : rp_PK b h l e m w w :=
  ⟨c0, c1, c2, c3, fun _ _ => rfl, fun _ => rfl, Below.refl _ _⟩
theorem rp_PK.trans {b : Nat} {h l e h' l' e' : Int} {m m' : Bool} {w w1 w2 : World} (P : rp_PK b h l e m w w1) (Q : rp_PK b h' l' e' m' w1 w2) : rp_PK b h' l' e' m' w w2 :=
  ⟨Q.c0, Q.c1, Q.c2, Q.c3, fun i hi => (Q.cs i hi).trans (P.cs i hi), fun i => (Q.fs i).trans (P.fs i), P.bl.trans Q.bl⟩
set_option maxHeartbeats 8000000 in
set_option maxRecDepth 100000 in
theorem rp_down (b : Nat) (h l e n k0 k1 q0 q1 : Int) (m lost x : Bool) (w : World)
    (c0 : w.cell? ⟨b, 0, none⟩ = some (.int .u64 h)) (c1 : w.cell? ⟨b, 1, none⟩ = some (.int .u64 l)) (c2 : w.cell? ⟨b, 2, none⟩ = some (.int .i64 e)) (c3 : w.cell? ⟨b, 3, none⟩ = some (.bool m))
    (f0 : w.frozen? ⟨b, 0, none⟩ = false) (f1 : w.frozen? ⟨b, 1, none⟩ = false) (f2 : w.frozen? ⟨b, 2, none⟩ = false) (f3 : w.frozen? ⟨b, 3, none⟩ = false)
    (h0 : 0 < n) (h1 : n < 1099511627776) (e0 : -1099511627776 < e) (e1 : e < 1099511627776)
    (R1 : wide_Right.f h l (n - 1) = some (k0, k1, lost)) (R2 : wide_Right.f k0 k1 1 = some (q0, q1, x)) :
    Calls Try.prog 94 #[.pointer (some ⟨b, 0, none⟩), .int .i64 n] w fun en w' => en = .returned (.tuple #[.bool (Go.bits .and .u64 k1 1 == 1), .bool (lost || m)]) ∧ rp_PK b q0 q1 (e + n) false w w' := by
  have hu41 := Try.underlying75
  have B1 := Aside0.mk R1
  have B2 := Aside0.mk R2
  have hn : decide (n ≤ 0) = false := decide_eq_false (by omega)
  clear R1 R2
  cases lost
  all_goals
   go_enter Try.func94, Try.ntmps94
   have lt := World.block_lt_of_cell? w _ c0
   go_wp2_with (first
    | (go_at_call 63; (with_reducible refine (wide_Right.calls h l (n - 1) k0 k1 _ _ B1.out).mono ?_); rintro e w1 ⟨rfl, hb⟩; obtain ⟨hc, hf⟩ := Nr.bcell hb; have lt1 := Nat.lt_of_lt_of_le lt hb.size; have AS := Aside0.mk (fun i => hc b i lt); have AF := Aside0.mk (fun i => hf b i lt); have AB := Aside0.mk (below_step (Below.refl _ w) hb); clear hc hf hb)
    | (go_at_call 63; (with_reducible refine (wide_Right.calls k0 k1 1 q0 q1 x _ B2.out).mono ?_); rintro e w2 ⟨rfl, hb⟩; obtain ⟨hc, hf⟩ := Nr.bcell hb; have hz := hb.size; have lt2 := Nr.lt_al (x := .cells #[.int .u64 k0, .int .u64 k1] 75 (0, 0)) lt1; have AS2 := Aside0.mk (fun i => (hc b i lt2).trans ((Nr.al lt1 i _).trans (AS.out i))); have AF2 := Aside0.mk (fun i => (hf b i lt2).trans ((Nr.alf lt1 i _).trans (AF.out i))); have AB2 := Aside0.mk (below_step (below_alloc AB.out _) hb); replace c0 := (AS2.out 0).trans c0; replace c1 := (AS2.out 1).trans c1; replace c2 := (AS2.out 2).trans c2; replace c3 := (AS2.out 3).trans c3; replace f0 := (AF2.out 0).trans f0; replace f1 := (AF2.out 1).trans f1; replace f2 := (AF2.out 2).trans f2; replace f3 := (AF2.out 3).trans f3; clear hc hf hb))
   go_ret2
   exact ⟨rfl, rp_PK.set4 c0 c1 c2 c3 AS2.out AF2.out (AB2.out.mono (Nat.le_of_lt lt))⟩
set_option maxHeartbeats 8000000 in
set_option maxRecDepth 100000 in
theorem rp_near0 (b : Nat) (h l e n : Int) (w : World)
    (c0 : w.cell? ⟨b, 0, none⟩ = some (.int .u64 h)) (c1 : w.cell? ⟨b, 1, none⟩ = some (.int .u64 l)) (c2 : w.cell? ⟨b, 2, none⟩ = some (.int .i64 e)) (c3 : w.cell? ⟨b, 3, none⟩ = some (.bool false))
    (f3 : w.frozen? ⟨b, 3, none⟩ = false) (h0 : n ≤ 0) :
    Calls Try.prog 78 #[.pointer (some ⟨b, 0, none⟩), .int .i64 n] w fun en w' => en = .returned (.tuple #[]) ∧ w' = w.setCell ⟨b, 3, none⟩ (.bool false) := by
  have hn : decide (n ≤ 0) = true := decide_eq_true h0
  clear h0
  go_enter Try.func78, Try.ntmps78
  go_wp2
  go_end0
  exact ⟨rfl, rfl⟩
set_option maxHeartbeats 8000000 in
set_option maxRecDepth 100000 in
theorem rp_near1 (b : Nat) (h l e n k0 k1 q0 q1 s0 s1 : Int) (m lost x up : Bool) (w : World)
    (c0 : w.cell? ⟨b, 0, none⟩ = some (.int .u64 h)) (c1 : w.cell? ⟨b, 1, none⟩ = some (.int .u64 l)) (c2 : w.cell? ⟨b, 2, none⟩ = some (.int .i64 e)) (c3 : w.cell? ⟨b, 3, none⟩ = some (.bool m))
    (f0 : w.frozen? ⟨b, 0, none⟩ = false) (f1 : w.frozen? ⟨b, 1, none⟩ = false) (f2 : w.frozen? ⟨b, 2, none⟩ = false) (f3 : w.frozen? ⟨b, 3, none⟩ = false)
    (h0 : 0 < n) (h1 : n < 1099511627776) (e0 : -1099511627776 < e) (e1 : e < 1099511627776)
    (R1 : wide_Right.f h l (n - 1) = some (k0, k1, lost)) (R2 : wide_Right.f k0 k1 1 = some (q0, q1, x))
    (U : ((Go.bits .and .u64 k1 1 == 1) && ((lost || m) || (Go.bits .and .u64 q1 1 == 1))) = up)
    (A1 : up = true → wide_Add.f q0 q1 0 1 = some (s0, s1)) (A0 : up = false → s0 = q0 ∧ s1 = q1) :
    Calls Try.prog 78 #[.pointer (some ⟨b, 0, none⟩), .int .i64 n] w fun en w' => en = .returned (.tuple #[]) ∧ rp_PK b s0 s1 (e + n) false w w' := by
  have hu41 := Try.underlying75
  have D := Aside0.mk (rp_down b h l e n k0 k1 q0 q1 m lost x w c0 c1 c2 c3 f0 f1 f2 f3 h0 h1 e0 e1 R1 R2)
  obtain ⟨half, hh⟩ : ∃ y, (Go.bits .and .u64 k1 1 == 1) = y := ⟨_, rfl⟩
  obtain ⟨rs, hr⟩ : ∃ y, (lost || m) = y := ⟨_, rfl⟩
  obtain ⟨od, ho⟩ : ∃ y, (Go.bits .and .u64 q1 1 == 1) = y := ⟨_, rfl⟩
  rw [hh, hr] at D
  rw [hh, hr, ho] at U
  subst U
  have lt := World.block_lt_of_cell? w _ c0
  have F := Aside0.mk (show w.frozen? ⟨b, 0, none⟩ = false ∧ w.frozen? ⟨b, 1, none⟩ = false ∧ w.frozen? ⟨b, 2, none⟩ = false ∧ w.frozen? ⟨b, 3, none⟩ = false from ⟨f0, f1, f2, f3⟩)
  have A1' := Aside0.mk A1
  have A0' := Aside0.mk A0
  clear hh hr R1 R2 c0 c1 c2 c3 f0 f1 f2 f3 h0 h1 e0 e1 A1 A0
  cases half <;> cases rs <;> cases od
  all_goals
    go_enter Try.func78, Try.ntmps78
    go_wp2_with (first | (go_at_call 94; refine D.out.mono ?_; rintro en w1 ⟨rfl, P⟩; have PP := Aside0.mk P; have c0 := P.c0; have c1 := P.c1; have c2 := P.c2; have c3 := P.c3; have f0 := (P.fs 0).trans F.out.1; have f1 := (P.fs 1).trans F.out.2.1; have f2 := (P.fs 2).trans F.out.2.2.1; have f3 := (P.fs 3).trans F.out.2.2.2; clear P))
  all_goals first
    | (go_end0; obtain ⟨rfl, rfl⟩ := A0'.out rfl; exact ⟨rfl, PP.out.put3 false⟩)
    | (have B := Aside0.mk (A1'.out rfl); have P2 := Aside0.mk (PP.out.put3 false); clear PP A1' A0'; generalize w1.setCell ⟨b, 3, none⟩ (.bool false) = w2 at *; replace c0 := P2.out.c0; replace c1 := P2.out.c1; replace c2 := P2.out.c2; replace c3 := P2.out.c3; replace f0 := (P2.out.fs 0).trans F.out.1; replace f1 := (P2.out.fs 1).trans F.out.2.1; go_region_with (first | (go_at_call 58; (with_reducible refine (wide_Of.calls 1 0 1 _ rfl).mono ?_); rintro e w3 ⟨rfl, hb⟩; have P2 := Aside0.mk (rp_PK.below (by repeat (first | exact P2.out | apply rp_PK.drew | apply rp_PK.alloc)) hb); clear hb c0 c1 c2 c3 f0 f1; have c0 := P2.out.c0; have c1 := P2.out.c1; have c2 := P2.out.c2; have c3 := P2.out.c3; have f0 := (P2.out.fs 0).trans F.out.1; have f1 := (P2.out.fs 1).trans F.out.2.1) | (go_at_call 76; (with_reducible refine (wide_Add.calls q0 q1 0 1 s0 s1 _ B.out).mono ?_); rintro e w3 ⟨rfl, hb⟩; have P2 := Aside0.mk (rp_PK.below (by repeat (first | exact P2.out | apply rp_PK.drew | apply rp_PK.alloc)) hb); clear hb c0 c1 c2 c3 f0 f1; have c0 := P2.out.c0; have c1 := P2.out.c1; have c2 := P2.out.c2; have c3 := P2.out.c3; have f0 := (P2.out.fs 0).trans F.out.1; have f1 := (P2.out.fs 1).trans F.out.2.1)))
  all_goals (go_wp2; go_end0; exact ⟨rfl, (P2.out.put0 s0).put1 s1⟩)
end Go.Proofs.Ythdeeoallfbjmaa.PA
namespace Go.Proofs
open Go.Shelf
def Try.lays129_ren : Go.Shelf.Ren := ⟨fun | 129 => 90 | n => n, fun | 53 => 22 | 3 => 3 | 4 => 4 | 46 => 122 | 5 => 5 | 9 => 9 | n => n, fun | n => n⟩
theorem Try.lays129 : Go.Proofs.Lays.n129 Try.prog Try.lays129_ren := {
  mixed := by kernel_rfl
  f129 := Try.func90.trans (congrArg some (by kernel_rfl))
  t3 := Try.underlying3
  a3 := Try.isAgg3
  z3 := Try.sizeOf3
  v3 := Try.zeroValue3
  t4 := Try.underlying4
  a4 := Try.isAgg4
  z4 := Try.sizeOf4
  v4 := Try.zeroValue4
  t5 := Try.underlying5
  a5 := Try.isAgg5
  z5 := Try.sizeOf5
  v5 := Try.zeroValue5
  t9 := Try.underlying9
  a9 := Try.isAgg9
  z9 := Try.sizeOf9
  v9 := Try.zeroValue9
  t46 := Try.underlying122
  a46 := Try.isAgg122
  z46 := Try.sizeOf122
  v46 := Try.zeroValue122
  t53 := Try.underlying22
  a53 := Try.isAgg22
  z53 := Try.sizeOf22
  v53 := Try.zeroValue22 }
theorem Try.bits_Len64 (x : Int) (w : World) (h0 : 0 ≤ x) (h1 : x ≤ 18446744073709551615) :
    Calls Try.prog 90 #[.int .u64 x] w fun e w' => e = .returned (.int .i64 (Lib.bitLen x.toNat)) ∧ w' = w := Any.bits_Len64 Try.lays129 x w h0 h1
end Go.Proofs
namespace Go.Proofs.Ythdeeoallfbjmaa.PA
open Go.RowKit Go.Proofs.YthdeeoallfbjmaaW.PrintWords Go.Proofs.YthdeeoallfbjmaaW.PrintLast Go.Proofs.YthdeeoallfbjmaaW.PrintMore
attribute [local go_sem] max2_int min2_int max_two min_two max_three min_three max_four min_four   -- for this text's walks alone
set_option linter.unusedVariables false
set_option linter.unusedSimpArgs false
set_option maxHeartbeats 8000000
set_option maxRecDepth 100000
-- IMPORT Derived.Test.YthdeeoallfbjmaaShelf
def bits_Len64.f (a0 : Int) : Option (Int) := if 0 ≤ a0 ∧ a0 ≤ 18446744073709551615 then some ((Lib.bitLen a0.toNat : Nat) : Int) else none
theorem bits_Len64.calls (a0 : Int) (r : Int) (w : World) (h : bits_Len64.f a0 = some r) :
  Calls Try.prog 90 #[.int .u64 a0] w fun e w' => e = .returned (.int .i64 r) ∧ Drawn0 w w' := by
 unfold bits_Len64.f at h
 split at h
 ·rename_i hr
  obtain rfl := Option.some.inj h
  refine (Try.bits_Len64 a0 w hr.1 hr.2).mono ?_
  rintro e w' ⟨rfl, rfl⟩
  exact ⟨rfl, Drawn0.refl _⟩
 ·cases h
def wide_Len.f (a0_0 : Int) (a0_1 : Int) : Option (Int) := if a0_0 > 0 then ((bits_Len64.f a0_0).bind fun t167 => (some (wrap64 (64 + t167)))) else ((bits_Len64.f a0_1).bind fun t168 => (some t168))
theorem wide_Len.calls (a0_0 : Int) (a0_1 : Int) (r : Int) (w : World) (h : wide_Len.f a0_0 a0_1 = some r) :
  Calls Try.prog 75 #[.agg #[.int .u64 a0_0, .int .u64 a0_1]] w fun e w' => e = .returned (.int .i64 r) ∧ Below w.heap.size w w' := by
 have hu75 := Try.underlying75
 have HB := A_ (Below.refl w.heap.size w)
 have H : (if a0_0 > 0 then ((bits_Len64.f a0_0).bind fun t167 => (some (wrap64 (64 + t167)))) else ((bits_Len64.f a0_1).bind fun t168 => (some t168))) = some r := h
 clear h
 by_cases c2 : a0_0 > 0
 ·rw [if_pos c2] at H
  have c2b0 : decide (0 < a0_0) = true := decide_eq_true c2
  clear c2
  replace H := ob_ H
  obtain ⟨t167, A30, H⟩ := H
  replace H : (some (wrap64 (64 + t167))) = some r := H
  have A3 := A_ A30;clear A30
  obtain rfl := Option.some.inj H
  go_enter Try.func75, Try.ntmps75
  go_wp2_with (first | ((with_reducible refine gate_dst (N := 1) rfl ?_); refine be_ 1 #[.int .u64 a0_0, .int .u64 a0_1] 75 ?_; intro gb166 hg w4 hbox hb; have BK166 := A_ (hbox); have GW166 := A_ (sz_ hg (hb_ HB.out)); have GE166 := A_ (sz_ hg (hb_ HB.out)); replace HB := A_ (below_step (hb_ HB.out) hb); clear hb hbox hg; have hcz5_0 := bv_ BK166.out 0; have hcz5_1 := bv_ BK166.out 1; have hfz5_0 := blk_frozen BK166.out 0; have hfz5_1 := blk_frozen BK166.out 1) | ((with_reducible refine gate_callee (f := 90) rfl ?_); refine gl_ (some 8) Try.func90 #[.int .u64 a0_0] ?_; (with_reducible refine (bits_Len64.calls a0_0 t167 _ A3.out).mono ?_); rintro e w' ⟨rfl, ⟨nd, rfl⟩⟩; refine ⟨_, rfl, ?_⟩))
  go_ret
  exact ⟨er_, hb1_ HB.out GE166.out⟩
 ·rw [if_neg c2] at H
  have c2b0 : decide (0 < a0_0) = false := decide_eq_false c2
  clear c2
  replace H := ob_ H
  obtain ⟨t168, A60, H⟩ := H
  replace H : (some t168) = some r := H
  have A6 := A_ A60;clear A60
  obtain rfl := Option.some.inj H
  go_enter Try.func75, Try.ntmps75
  go_wp2_with (first | ((with_reducible refine gate_dst (N := 1) rfl ?_); refine be_ 1 #[.int .u64 a0_0, .int .u64 a0_1] 75 ?_; intro gb166 hg w7 hbox hb; have BK166 := A_ (hbox); have GW166 := A_ (sz_ hg (hb_ HB.out)); have GE166 := A_ (sz_ hg (hb_ HB.out)); replace HB := A_ (below_step (hb_ HB.out) hb); clear hb hbox hg; have hcz8_0 := bv_ BK166.out 0; have hcz8_1 := bv_ BK166.out 1; have hfz8_0 := blk_frozen BK166.out 0; have hfz8_1 := blk_frozen BK166.out 1) | ((with_reducible refine gate_callee (f := 90) rfl ?_); refine gl_ (some 12) Try.func90 #[.int .u64 a0_1] ?_; (with_reducible refine (bits_Len64.calls a0_1 t168 _ A6.out).mono ?_); rintro e w' ⟨rfl, ⟨nd, rfl⟩⟩; refine ⟨_, rfl, ?_⟩))
  go_ret
  exact ⟨er_, hb1_ HB.out GE166.out⟩
end Go.Proofs.Ythdeeoallfbjmaa.PA
/- What the Go methods by which a number is rounded do to their receiver, for every receiver and every input in their bounds. -/
namespace Go.Proofs.Ythdeeoallfbjmaa.PA
open Go.RowKit Go.Proofs.YthdeeoallfbjmaaW.PrintWords Go.Proofs.YthdeeoallfbjmaaW.PrintLast Go.Proofs.YthdeeoallfbjmaaW.PrintMore
attribute [local go_sem] max2_int min2_int max_two min_two max_three min_three max_four min_four   -- for this text's walks alone
set_option linter.unusedVariables false
set_option linter.unusedSimpArgs false
set_option maxHeartbeats 8000000 in
set_option maxRecDepth 100000 in
theorem rp_raise (b : Nat) (h l e e2 u f lo hi s0 s1 : Int) (m : Bool) (w : World)
    (c0 : w.cell? ⟨b, 0, none⟩ = some (.int .u64 h)) (c1 : w.cell? ⟨b, 1, none⟩ = some (.int .u64 l)) (c2 : w.cell? ⟨b, 2, none⟩ = some (.int .i64 e)) (c3 : w.cell? ⟨b, 3, none⟩ = some (.bool m))
    (c5 : w.cell? ⟨b, 5, none⟩ = some (.int .i64 f)) (c6 : w.cell? ⟨b, 6, none⟩ = some (.int .i64 lo)) (c7 : w.cell? ⟨b, 7, none⟩ = some (.int .i64 hi))
    (f0 : w.frozen? ⟨b, 0, none⟩ = false) (f1 : w.frozen? ⟨b, 1, none⟩ = false) (f2 : w.frozen? ⟨b, 2, none⟩ = false)
    (e0 : -1099511627776 < e) (e1 : e < 1099511627776) (g0 : 0 ≤ f) (g1 : f < 1000) (g2 : -10000 < lo) (g3 : lo < 10000) (n : Int) (n0 : 0 ≤ n) (n1 : n ≤ 128) (L : wide_Len.f h l = some n)
    (U : mn (f + 1 - n) (e - lo) = u) (X : (0 < u ∧ wide_Left.f h l u = some (s0, s1) ∧ e - u = e2) ∨ (u ≤ 0 ∧ s0 = h ∧ s1 = l ∧ e = e2)) :
    Calls Try.prog 79 #[.pointer (some ⟨b, 0, none⟩)] w fun en w' => en = .returned (.bool (decide (e2 ≤ hi))) ∧ rp_PK b s0 s1 e2 m w w' := by
  have hu41 := Try.underlying75
  have P2 := Aside0.mk (rp_PK.start c0 c1 c2 c3)
  have LL := Aside0.mk L
  have F := Aside0.mk (show w.frozen? ⟨b, 0, none⟩ = false ∧ w.frozen? ⟨b, 1, none⟩ = false ∧ w.frozen? ⟨b, 2, none⟩ = false from ⟨f0, f1, f2⟩)
  have C := Aside0.mk (show w.cell? ⟨b, 5, none⟩ = some (.int .i64 f) ∧ w.cell? ⟨b, 6, none⟩ = some (.int .i64 lo) ∧ w.cell? ⟨b, 7, none⟩ = some (.int .i64 hi) from ⟨c5, c6, c7⟩)
  have UU := Aside0.mk U
  have W1 := Aside0.mk (show IntKind.i64.wrap (f + 1) = f + 1 by rw [i64_w]; unfold wrap64; omega)
  have W2 := Aside0.mk (show IntKind.i64.wrap (f + 1 - n) = f + 1 - n by rw [i64_w]; unfold wrap64; omega)
  have W3 := Aside0.mk (show IntKind.i64.wrap (e - lo) = e - lo by rw [i64_w]; unfold wrap64; omega)
  have W4 := Aside0.mk (show IntKind.i64.wrap (e - u) = e - u by rw [i64_w]; unfold mn at U; unfold wrap64; split at U <;> omega)
  have X' := Aside0.mk X
  have hd : decide (0 < u) = true ∨ decide (0 < u) = false := by rcases X with ⟨h, _⟩ | ⟨h, _⟩; exact .inl (decide_eq_true h); exact .inr (decide_eq_false (by omega))
  clear L U X e0 e1 g0 g1 g2 g3 n0 n1
  go_enter Try.func79, Try.ntmps79
  go_wp2_with fail
  have lt := P2.out.lt
  have PP := P2.out
  go_region_held3 (fun w' => w'.cell? ⟨b, 0, none⟩ = some (.int .u64 h) ∧ w'.cell? ⟨b, 1, none⟩ = some (.int .u64 l) ∧ w'.cell? ⟨b, 2, none⟩ = some (.int .i64 e) ∧ w'.cell? ⟨b, 5, none⟩ = some (.int .i64 f) ∧ w'.cell? ⟨b, 6, none⟩ = some (.int .i64 lo) ∧ b < w'.heap.size ∧ rp_PK b h l e m w w')
    (((try go_split_ands); (try dsimp only); (repeat' apply And.intro) <;> first | assumption | (rw [hc _ _ (by assumption)]; assumption) | (exact Nat.lt_of_lt_of_le (by assumption) hb.size) | (exact rp_PK.below (by assumption) hb) | (apply rp_PK.drew; assumption)))
    ((go_at_call 75; (with_reducible refine (wide_Len.calls h l n _ LL.out).mono ?_); rintro e' w1 ⟨rfl, hb⟩; obtain ⟨hc, hf⟩ := Nr.bcell hb))
  rename_i hH
  obtain ⟨_, _, _, _, _, _, P3⟩ := hH
  rw [W1.out, W2.out, W3.out, show (if e - lo < f + 1 - n then e - lo else f + 1 - n) = u from UU.out]
  clear hb hc hf W1 W2 W3 UU P2 LL lt PP f0 f1 f2 c0 c1 c2 c3 c5 c6 c7
  rename_i q1 q2 q3 q4 q5 q6
  clear q1 q2 q3 q4 q5 q6
  have P2 := Aside0.mk P3
  have c0 := P3.c0; have c1 := P3.c1; have c2 := P3.c2; have c7 := (P3.cs 7 (by decide)).trans C.out.2.2
  have f0 := (P3.fs 0).trans F.out.1; have f1 := (P3.fs 1).trans F.out.2.1; have f2 := (P3.fs 2).trans F.out.2.2
  clear P3
  rcases hd with hd | hd
  · obtain ⟨B, rfl⟩ : Aside0 (wide_Left.f h l u = some (s0, s1)) ∧ e - u = e2 := by
      rcases X'.out with ⟨_, h1, h2⟩ | ⟨h1, _⟩
      · exact ⟨⟨h1⟩, h2⟩
      · have := of_decide_eq_true hd; omega
    have W5 := W4.out
    clear X' W4
    go_wp2_with fail
    go_region_with (first | (go_at_call 77; (with_reducible refine (wide_Left.calls h l u s0 s1 _ B.out).mono ?_); rintro e' w3 ⟨rfl, hb⟩; have P2 := Aside0.mk (rp_PK.below (by repeat (first | exact P2.out | apply rp_PK.drew | apply rp_PK.alloc)) hb); clear hb c0 c1 c2 c7 f0 f1 f2; have c0 := P2.out.c0; have c1 := P2.out.c1; have c2 := P2.out.c2; have c7 := (P2.out.cs 7 (by decide)).trans C.out.2.2; have f0 := (P2.out.fs 0).trans F.out.1; have f1 := (P2.out.fs 1).trans F.out.2.1; have f2 := (P2.out.fs 2).trans F.out.2.2))
    all_goals (have P3 := Aside0.mk (((P2.out.put0 s0).put1 s1).put2 (e - u)); generalize ((w3.setCell ⟨b, 0, none⟩ (.int .u64 s0)).setCell ⟨b, 1, none⟩ (.int .u64 s1)).setCell ⟨b, 2, none⟩ (.int .i64 (e - u)) = w5 at P3 ⊢; replace c2 := P3.out.c2; replace c7 := (P3.out.cs 7 (by decide)).trans C.out.2.2; clear P2 c0 c1 f0 f1 f2 B W5 hd)
    all_goals (go_wp2; go_region; go_wp2; go_ret; exact ⟨rfl, P3.out.drew⟩)
  · obtain ⟨rfl, rfl, rfl⟩ : s0 = h ∧ s1 = l ∧ e = e2 := by
      rcases X'.out with ⟨h1, _⟩ | ⟨_, h1⟩
      · have := of_decide_eq_false hd; omega
      · exact h1
    clear X' W4
    go_wp2_with fail
    go_region
    go_wp2
    go_ret
    exact ⟨rfl, P2.out.drew⟩
end Go.Proofs.Ythdeeoallfbjmaa.PA
namespace Go.Proofs.Ythdeeoallfbjmaa.PA
open Go.RowKit Go.Proofs.YthdeeoallfbjmaaW.PrintWords Go.Proofs.YthdeeoallfbjmaaW.PrintLast Go.Proofs.YthdeeoallfbjmaaW.PrintMore
attribute [local go_sem] max2_int min2_int max_two min_two max_three min_three max_four min_four   -- for this text's walks alone
set_option linter.unusedVariables false
set_option linter.unusedSimpArgs false
set_option maxHeartbeats 8000000
set_option maxRecDepth 100000
def shape_format_sign.f (a0_0 : Int) (a0_1 : Int) (a1 : Bool) : Option (Int) := if a1 = true then (if 0 ≤ (wrap64 (a0_0 + a0_1)) then (some (shl .u64 1 (wrap64 (a0_0 + a0_1)))) else (none)) else (some 0)
theorem shape_format_sign.calls (a0_0 : Int) (a0_1 : Int) (a1 : Bool) (r : Int) (w : World) (h : shape_format_sign.f a0_0 a0_1 a1 = some r) :
  Calls Try.prog 67 #[.agg #[.int .i64 a0_0, .int .i64 a0_1], .bool a1] w fun e w' => e = .returned (.int .u64 r) ∧ Below w.heap.size w w' := by
 have hu60 := Try.underlying60
 have HB := A_ (Below.refl w.heap.size w)
 have H : (if a1 = true then (if 0 ≤ (wrap64 (a0_0 + a0_1)) then (some (shl .u64 1 (wrap64 (a0_0 + a0_1)))) else (none)) else (some 0)) = some r := h
 clear h
 by_cases c3 : a1 = true
 ·subst c3
  have H1 : (if 0 ≤ (wrap64 (a0_0 + a0_1)) then (some (shl .u64 1 (wrap64 (a0_0 + a0_1)))) else (none)) = some r := by rw [if_pos rfl] at H; exact H
  clear H;have H := H1;clear H1
  obtain ⟨ji4, hji4⟩ : ∃ j_ : Int, (wrap64 (a0_0 + a0_1)) = j_ := ⟨_, rfl⟩
  replace H : (if 0 ≤ (ji4) then (some (shl .u64 1 (ji4))) else (none)) = some r := by first | (rw [hji4] at H; exact H) | (simp only [hji4] at H ⊢; exact H)
  have hji4w : (IntKind.i64.wrap (a0_0 + a0_1)) = ji4 := (i64_w _).trans hji4
  by_cases c5 : 0 ≤ (ji4)
  ·rw [if_pos c5] at H
   have c5b0 := eq_true c5
   have c5b1 : decide (0 ≤ (ji4)) = true := decide_eq_true c5
   clear c5
   obtain ⟨ji6, hji6⟩ : ∃ j_ : Int, (shl .u64 1 (ji4)) = j_ := ⟨_, rfl⟩
   replace H : (some ji6) = some r := by first | (rw [hji6] at H; exact H) | (simp only [hji6] at H ⊢; exact H)
   have hji6_ : (IntKind.u64.wrap (1 * 2 ^ min (ji4).toNat 64)) = ji6 := hji6
   have hji6z : (ji4) ≤ 64 → (IntKind.u64.wrap (1 * 2 ^ (ji4).toNat)) = ji6 := shl_small hji6
   have hji6u : (IntKind.u64.wrap (2 ^ min (ji4).toNat 64)) = ji6 := by have h_ := hji6_; rw [Int.one_mul] at h_; exact h_
   have hji6v : (ji4) ≤ 64 → (IntKind.u64.wrap (2 ^ (ji4).toNat)) = ji6 := fun hle_ => by have h_ := hji6z hle_; rw [Int.one_mul] at h_; exact h_
   obtain rfl := Option.some.inj H
   go_enter Try.func67, Try.ntmps67
   go_wp2_with (first | ((with_reducible refine gate_dst (N := 2) rfl ?_); refine be_ 2 #[.int .i64 a0_0, .int .i64 a0_1] 60 ?_; intro gb122 hg w7 hbox hb; have BK122 := A_ (hbox); have GW122 := A_ (sz_ hg (hb_ HB.out)); have GE122 := A_ (sz_ hg (hb_ HB.out)); replace HB := A_ (below_step (hb_ HB.out) hb); clear hb hbox hg; have hcz8_0 := bv_ BK122.out 0; have hcz8_1 := bv_ BK122.out 1; have hfz8_0 := blk_frozen BK122.out 0; have hfz8_1 := blk_frozen BK122.out 1))
   go_ret
   exact ⟨by first | rfl | (simp [errW_none, errW_some] <;> rfl) | (simp only [← hji4, ← hji6]; first | rfl | (simp [errW_none, errW_some] <;> rfl)) | (simp [*, errW_none, errW_some] <;> rfl), hb1_ HB.out GE122.out⟩
  ·rw [if_neg c5] at H
   exact absurd H (by simp)
 ·replace c3 := Bool.eq_false_iff.mpr c3
  subst c3
  have H1 : (some 0) = some r := by rw [if_neg (show ¬ (false = true) by decide)] at H; exact H
  clear H;have H := H1;clear H1
  obtain rfl := Option.some.inj H
  go_enter Try.func67, Try.ntmps67
  go_wp2_with (first | ((with_reducible refine gate_dst (N := 2) rfl ?_); refine be_ 2 #[.int .i64 a0_0, .int .i64 a0_1] 60 ?_; intro gb122 hg w9 hbox hb; have BK122 := A_ (hbox); have GW122 := A_ (sz_ hg (hb_ HB.out)); have GE122 := A_ (sz_ hg (hb_ HB.out)); replace HB := A_ (below_step (hb_ HB.out) hb); clear hb hbox hg))
  go_ret
  exact ⟨er_, hb1_ HB.out GE122.out⟩
def shape_Zero.f (a0 : Int) (a1 : Bool) : Option (Int) := (shape_of.f a0).bind fun bt147 => (if bt147.2.2 = true then ((shape_format_sign.f bt147.1 bt147.2.1 a1).bind fun t151 => (some t151)) else (some 0))
theorem shape_Zero.calls (a0 : Int) (a1 : Bool) (r : Int) (w : World) (h : shape_Zero.f a0 a1 = some r) :
  Calls Try.prog 70 #[.int .i64 a0, .bool a1] w fun e w' => e = .returned (.int .u64 r) ∧ Below w.heap.size w w' := by
 have hu60 := Try.underlying60
 have HB := A_ (Below.refl w.heap.size w)
 have H : ((shape_of.f a0).bind fun bt147 => (if bt147.2.2 = true then ((shape_format_sign.f bt147.1 bt147.2.1 a1).bind fun t151 => (some t151)) else (some 0))) = some r := h
 clear h
 replace H := ob_ H
 obtain ⟨⟨t147, t148, t149⟩, A30, H⟩ := H
 replace H : (if t149 = true then ((shape_format_sign.f t147 t148 a1).bind fun t151 => (some t151)) else (some 0)) = some r := H
 have A3 := A_ A30;clear A30
 by_cases c4 : t149 = true
 ·subst c4
  have H1 : ((shape_format_sign.f t147 t148 a1).bind fun t151 => (some t151)) = some r := by rw [if_pos rfl] at H; exact H
  clear H;have H := H1;clear H1
  replace H := ob_ H
  obtain ⟨t151, A50, H⟩ := H
  replace H : (some t151) = some r := H
  have A5 := A_ A50;clear A50
  obtain rfl := Option.some.inj H
  go_enter Try.func70, Try.ntmps70
  go_wp2_with (first | ((with_reducible refine gate_callee (f := 47) rfl ?_); refine gl_ (some 9) Try.func47 #[.int .i64 a0] ?_; (with_reducible refine (shape_of.calls a0 t147 t148 true _ A3.out).mono ?_); rintro e w6 ⟨rfl, hb⟩; refine ⟨_, rfl, ?_⟩; replace HB := A_ (below_step (hb_ HB.out) hb); (try clear hb); (try clear hb2); (try clear hk); (try clear hi)) | ((with_reducible refine gate_dst (N := 5) rfl ?_); refine be_ 5 #[.int .i64 0, .int .i64 0] 60 ?_; intro gb150 hg w7 hbox hb; have BK150 := A_ (hbox); have GW150 := A_ (sz_ hg (hb_ HB.out)); have GE150 := A_ (sz_ hg (hb_ HB.out)); replace HB := A_ (below_step (hb_ HB.out) hb); clear hb hbox hg; have hcz8_0 := bv_ BK150.out 0; have hcz8_1 := bv_ BK150.out 1; have hfz8_0 := blk_frozen BK150.out 0; have hfz8_1 := blk_frozen BK150.out 1) | ((with_reducible refine gate_callee (f := 67) rfl ?_); refine gl_ (some 16) Try.func67 #[.agg #[.int .i64 t147, .int .i64 t148], .bool a1] ?_; (with_reducible refine (shape_format_sign.calls t147 t148 a1 t151 _ A5.out).mono ?_); rintro e w9 ⟨rfl, hb⟩; refine ⟨_, rfl, ?_⟩; replace BK150 := A_ (blk_below (g := gb150) (o := .cells #[.int .i64 t147, .int .i64 t148] 60 (0, 0)) (by (with_reducible repeat (first | refine blk_drewN ?_ _ | refine blk_drew ?_ | refine blk_alloc ?_ _)); refine blk_put (cs := #[.int .i64 t147, .int .i64 0]) ?_ 1 _ rfl; (with_reducible repeat (first | refine blk_drewN ?_ _ | refine blk_drew ?_ | refine blk_alloc ?_ _)); refine blk_put (cs := #[.int .i64 0, .int .i64 0]) ?_ 0 _ rfl; (with_reducible repeat (first | refine blk_drewN ?_ _ | refine blk_drew ?_ | refine blk_alloc ?_ _)); exact BK150.out) hb); replace HB := A_ (below_step (hb1_ HB.out GE150.out) hb); (try clear hb); (try clear hb2); (try clear hk); (try clear hi)))
  go_ret
  exact ⟨er_, hb1_ HB.out GE150.out⟩
 ·replace c4 := Bool.eq_false_iff.mpr c4
  subst c4
  have H1 : (some 0) = some r := by rw [if_neg (show ¬ (false = true) by decide)] at H; exact H
  clear H;have H := H1;clear H1
  obtain rfl := Option.some.inj H
  go_enter Try.func70, Try.ntmps70
  go_wp2_with (first | ((with_reducible refine gate_callee (f := 47) rfl ?_); refine gl_ (some 9) Try.func47 #[.int .i64 a0] ?_; (with_reducible refine (shape_of.calls a0 t147 t148 false _ A3.out).mono ?_); rintro e w10 ⟨rfl, hb⟩; refine ⟨_, rfl, ?_⟩; replace HB := A_ (below_step (hb_ HB.out) hb); (try clear hb); (try clear hb2); (try clear hk); (try clear hi)) | ((with_reducible refine gate_dst (N := 5) rfl ?_); refine be_ 5 #[.int .i64 0, .int .i64 0] 60 ?_; intro gb150 hg w11 hbox hb; have BK150 := A_ (hbox); have GW150 := A_ (sz_ hg (hb_ HB.out)); have GE150 := A_ (sz_ hg (hb_ HB.out)); replace HB := A_ (below_step (hb_ HB.out) hb); clear hb hbox hg; have hcz12_0 := bv_ BK150.out 0; have hcz12_1 := bv_ BK150.out 1; have hfz12_0 := blk_frozen BK150.out 0; have hfz12_1 := blk_frozen BK150.out 1))
  go_ret
  exact ⟨er_, hb1_ HB.out GE150.out⟩
def shape_format_join.f (a0_0 : Int) (a0_1 : Int) (a1 : Bool) (a2 : Int) (a3 : Int) : Option (Int) := (shape_format_sign.f a0_0 a0_1 a1).bind fun t124 => (if 0 ≤ a0_1 then (some (Go.bits .or .u64 (Go.bits .or .u64 t124 (shl .u64 a2 a0_1)) a3)) else (none))
def shape_format_join.T1 : Bool × List (List Nat × List Nat) := (true, [([], []), ([], []), ([0, 1], [0, 1]), ([], []), ([], []), ([4], [4]), ([3, 5], [3, 5]), ([2, 6], [2, 6]), ([], []), ([7, 8], [7, 8]), ([9, 2, 0, 1, 2, 3, 4, 5, 6, 7, 8, 9], [9])])
def shape_format_join.B1 : List Nat := [0, 0, 3, 0, 0, 16, 56, 127, 0, 511, 1023]
theorem shape_format_join.tab1 : rtab .any (opsOf Try.f51 1) = shape_format_join.T1 := by kernel_rfl
theorem shape_format_join.bits1 : waitsOk shape_format_join.T1.2 shape_format_join.B1 = true := by kernel_rfl
theorem shape_format_join.calls (a0_0 : Int) (a0_1 : Int) (a1 : Bool) (a2 : Int) (a3 : Int) (r : Int) (w : World) (h : shape_format_join.f a0_0 a0_1 a1 a2 a3 = some r) :
  Calls Try.prog 51 #[.agg #[.int .i64 a0_0, .int .i64 a0_1], .bool a1, .int .u64 a2, .int .u64 a3] w fun e w' => e = .returned (.int .u64 r) ∧ Below w.heap.size w w' := by
 have hu60 := Try.underlying60
 have HB := A_ (Below.refl w.heap.size w)
 have H : ((shape_format_sign.f a0_0 a0_1 a1).bind fun t124 => (if 0 ≤ a0_1 then (some (Go.bits .or .u64 (Go.bits .or .u64 t124 (shl .u64 a2 a0_1)) a3)) else (none))) = some r := h
 clear h
 replace H := ob_ H
 obtain ⟨t124, A50, H⟩ := H
 replace H : (if 0 ≤ a0_1 then (some (Go.bits .or .u64 (Go.bits .or .u64 t124 (shl .u64 a2 a0_1)) a3)) else (none)) = some r := H
 have A5 := A_ A50;clear A50
 by_cases c6 : 0 ≤ a0_1
 ·rw [if_pos c6] at H
  have c6b0 := eq_true c6
  have c6b1 : decide (0 ≤ a0_1) = true := decide_eq_true c6
  clear c6
  obtain ⟨ji7, hji7⟩ : ∃ j_ : Int, (shl .u64 a2 a0_1) = j_ := ⟨_, rfl⟩
  replace H : (some (Go.bits .or .u64 (Go.bits .or .u64 t124 (ji7)) a3)) = some r := by first | (rw [hji7] at H; exact H) | (simp only [hji7] at H ⊢; exact H)
  (try rw [hji7] at A5)
  have hji7_ : (IntKind.u64.wrap (a2 * 2 ^ min a0_1.toNat 64)) = ji7 := hji7
  have hji7z : a0_1 ≤ 64 → (IntKind.u64.wrap (a2 * 2 ^ a0_1.toNat)) = ji7 := shl_small hji7
  obtain rfl := Option.some.inj H
  go_enter Try.func51, Try.ntmps51
  try go_wp2_with (first | ((with_reducible refine gate_dst (N := 4) rfl ?_); refine be_ 4 #[.int .i64 a0_0, .int .i64 a0_1] 60 ?_; intro gb123 hg w8 hbox hb; have BK123 := A_ (hbox); have GW123 := A_ (sz_ hg (hb_ HB.out)); have GE123 := A_ (sz_ hg (hb_ HB.out)); replace HB := A_ (below_step (hb_ HB.out) hb); clear hb hbox hg))
  replace BK123 := A_ (blk_drew BK123.out)
  replace HB := A_ (below_drew1 HB.out)
  refine start_ (n := 11) (S := fun w' => w'.cell? ⟨gb123, 0, none⟩ = some (.int .i64 a0_0) ∧ w'.cell? ⟨gb123, 1, none⟩ = some (.int .i64 a0_1)) (ds := []) #[false, false, false, false, false, false, false, false, false, false, false] (by kernel_rfl) rfl rfl ⟨bc_ BK123.out 0, bc_ BK123.out 1⟩ (fun hHeld => ?_); refine with_tabW shape_format_join.tab1 shape_format_join.bits1 (fun HT_ HW_ => ?_)
  generalize w8.drew = w9 at BK123 HB hHeld ⊢
  refine pu_ 1 (some 10) #[false, true, false, false, false, false, false, false, false, false, false] rfl rfl (any_of HT_.out (by kernel_rfl)) ?_
  refine pu_ 3 (some 12) #[false, true, false, true, false, false, false, false, false, false, false] rfl rfl (any_of HT_.out (by kernel_rfl)) ?_
  refine pu_ 4 (some 13) #[false, true, false, true, true, false, false, false, false, false, false] rfl rfl (any_of HT_.out (by kernel_rfl)) ?_
  refine pu_ 8 (some 17) #[false, true, false, true, true, false, false, false, true, false, false] rfl rfl (any_of HT_.out (by kernel_rfl)) ?_
  refine tk2_ 0 (some 9) #[true, true, false, true, true, false, false, false, true, false, false] rfl rfl (take_ofW HT_.out HW_.out (by kernel_rfl)) hHeld ?_
  refine tk2_ 5 (some 14) #[true, true, false, true, true, true, false, false, true, false, false] rfl rfl (take_ofW HT_.out HW_.out (by kernel_rfl)) hHeld ?_
  refine pu_ 6 (some 15) #[true, true, false, true, true, true, true, false, true, false, false] rfl rfl (any_of HT_.out (by kernel_rfl)) ?_
  refine one_ (i := 2) (N := some 11) #[true, true, true, true, true, true, true, false, true, false, false] rfl rfl (one_of HT_.out (by kernel_rfl)) (by decide) (fun K hK => ?_)
  refine goes_ Try.func67 (by kernel_rfl) rfl #[.agg #[.int .i64 a0_0, .int .i64 a0_1], .bool a1] (by rfl) rfl rfl mp_ ?_
  with_reducible refine (shape_format_sign.calls a0_0 a0_1 a1 t124 _ A5.out).mono ?_
  rintro e w10 ⟨rfl, hb⟩
  refine ⟨_, rfl, ?_⟩
  replace BK123 := A_ (bb_ BK123.out hb)
  replace HB := A_ (below_step (hb1_ HB.out GE123.out) hb);(try clear hb);(try clear hb2);(try clear hk);(try clear hi)
  refine hK.out _ _ ⟨bc_ BK123.out 0, bc_ BK123.out 1⟩ (fun hHeld => ?_)
  clear hK K
  refine norm_ (a' := ?_) ?_ ?_
  rotate_left
  ·show Act.put _ (some 11) _ = _
   simp only [Act.put, lI_, l0_, lS_, i64_w, i32_w]
   rfl
  refine pu_ 7 (some 16) #[true, true, true, true, true, true, true, true, true, false, false] rfl rfl (any_of HT_.out (by kernel_rfl)) ?_
  refine pu_ 9 (some 18) #[true, true, true, true, true, true, true, true, true, true, false] rfl rfl (any_of HT_.out (by kernel_rfl)) ?_
  refine pu_ 10 (some 8) #[true, true, true, true, true, true, true, true, true, true, true] rfl rfl (any_of HT_.out (by kernel_rfl)) ?_
  refine done_ (done_of HT_.out (by kernel_rfl)) ?_
  try go_wp2
  go_ret
  exact ⟨by first | rfl | (simp [errW_none, errW_some] <;> rfl) | (simp only [← hji7]; first | rfl | (simp [errW_none, errW_some] <;> rfl)) | (simp [*, errW_none, errW_some] <;> rfl), hb1_ HB.out GE123.out⟩
 ·rw [if_neg c6] at H
  exact absurd H (by simp)
def shape_Inf.f (a0 : Int) (a1 : Bool) : Option (Int) := (shape_of.f a0).bind fun bt160 => (if bt160.2.2 = true then ((shape_format_ones.f bt160.1 bt160.2.1).bind fun t164 => ((shape_format_join.f bt160.1 bt160.2.1 a1 t164 0).bind fun t165 => (some t165))) else (some 0))
theorem shape_Inf.calls (a0 : Int) (a1 : Bool) (r : Int) (w : World) (h : shape_Inf.f a0 a1 = some r) :
  Calls Try.prog 74 #[.int .i64 a0, .bool a1] w fun e w' => e = .returned (.int .u64 r) ∧ Below w.heap.size w w' := by
 have hu60 := Try.underlying60
 have HB := A_ (Below.refl w.heap.size w)
 have H : ((shape_of.f a0).bind fun bt160 => (if bt160.2.2 = true then ((shape_format_ones.f bt160.1 bt160.2.1).bind fun t164 => ((shape_format_join.f bt160.1 bt160.2.1 a1 t164 0).bind fun t165 => (some t165))) else (some 0))) = some r := h
 clear h
 replace H := ob_ H
 obtain ⟨⟨t160, t161, t162⟩, A30, H⟩ := H
 replace H : (if t162 = true then ((shape_format_ones.f t160 t161).bind fun t164 => ((shape_format_join.f t160 t161 a1 t164 0).bind fun t165 => (some t165))) else (some 0)) = some r := H
 have A3 := A_ A30;clear A30
 by_cases c4 : t162 = true
 ·subst c4
  have H1 : ((shape_format_ones.f t160 t161).bind fun t164 => ((shape_format_join.f t160 t161 a1 t164 0).bind fun t165 => (some t165))) = some r := by rw [if_pos rfl] at H; exact H
  clear H;have H := H1;clear H1
  replace H := ob_ H
  obtain ⟨t164, A50, H⟩ := H
  replace H : ((shape_format_join.f t160 t161 a1 t164 0).bind fun t165 => (some t165)) = some r := H
  have A5 := A_ A50;clear A50
  replace H := ob_ H
  obtain ⟨t165, A60, H⟩ := H
  replace H : (some t165) = some r := H
  have A6 := A_ A60;clear A60
  obtain rfl := Option.some.inj H
  go_enter Try.func74, Try.ntmps74
  try go_wp2_with (first | ((with_reducible refine gate_callee (f := 47) rfl ?_); refine gl_ (some 9) Try.func47 #[.int .i64 a0] ?_; (with_reducible refine (shape_of.calls a0 t160 t161 true _ A3.out).mono ?_); rintro e w7 ⟨rfl, hb⟩; refine ⟨_, rfl, ?_⟩; replace HB := A_ (below_step (hb_ HB.out) hb); (try clear hb); (try clear hb2); (try clear hk); (try clear hi)) | ((with_reducible refine gate_dst (N := 5) rfl ?_); refine be_ 5 #[.int .i64 0, .int .i64 0] 60 ?_; intro gb163 hg w8 hbox hb; have BK163 := A_ (hbox); have GW163 := A_ (sz_ hg (hb_ HB.out)); have GE163 := A_ (sz_ hg (hb_ HB.out)); replace HB := A_ (below_step (hb_ HB.out) hb); clear hb hbox hg; have hcz9_0 := bv_ BK163.out 0; have hcz9_1 := bv_ BK163.out 1; have hfz9_0 := blk_frozen BK163.out 0; have hfz9_1 := blk_frozen BK163.out 1))
  have n0_ : Aside0 (((w8.setCell ⟨gb163, 0, none⟩ (.int .i64 t160)).setCell ⟨gb163, 1, none⟩ (.int .i64 t161)).heap[gb163]? = some (.cells #[.int .i64 t160, .int .i64 t161] 60 (0, 0))) := ⟨by (with_reducible repeat (first | refine blk_drewN ?_ _ | refine blk_drew ?_ | refine blk_alloc ?_ _)); refine blk_put (cs := #[.int .i64 t160, .int .i64 0]) ?_ 1 _ rfl; (with_reducible repeat (first | refine blk_drewN ?_ _ | refine blk_drew ?_ | refine blk_alloc ?_ _)); refine blk_put (cs := #[.int .i64 0, .int .i64 0]) ?_ 0 _ rfl; (with_reducible repeat (first | refine blk_drewN ?_ _ | refine blk_drew ?_ | refine blk_alloc ?_ _)); exact BK163.out⟩
  have n1_ : Aside0 (Below w.heap.size w ((w8.setCell ⟨gb163, 0, none⟩ (.int .i64 t160)).setCell ⟨gb163, 1, none⟩ (.int .i64 t161))) := ⟨hb1_ HB.out GE163.out⟩
  (try clear BK163);(try clear HB)
  generalize ((w8.setCell ⟨gb163, 0, none⟩ (.int .i64 t160)).setCell ⟨gb163, 1, none⟩ (.int .i64 t161)) = w10 at n0_ n1_ ⊢
  have BK163 := n0_;have HB := n1_;clear n0_ n1_
  replace BK163 := A_ (blk_drew BK163.out)
  replace HB := A_ (below_drew1 HB.out)
  refine start_ (n := 6) (S := fun w' => w'.cell? ⟨gb163, 0, none⟩ = some (.int .i64 t160) ∧ w'.cell? ⟨gb163, 1, none⟩ = some (.int .i64 t161)) (ds := []) #[false, false, false, false, false, false] (by kernel_rfl) rfl rfl ⟨bc_ BK163.out 0, bc_ BK163.out 1⟩ (fun hHeld => ?_)
  generalize w10.drew = w11 at BK163 HB hHeld ⊢
  refine pu_ 1 (some 15) #[false, true, false, false, false, false] rfl rfl (by kernel_rfl) ?_
  refine tk2_ 0 (some 14) #[true, true, false, false, false, false] rfl rfl (by kernel_rfl) hHeld ?_
  refine tk2_ 2 (some 16) #[true, true, true, false, false, false] rfl rfl (by kernel_rfl) hHeld ?_
  refine one_ (i := 3) (N := some 17) #[true, true, true, true, false, false] rfl rfl (by kernel_rfl) (by decide) (fun K hK => ?_)
  refine goes_ Try.func49 (by kernel_rfl) rfl #[.agg #[.int .i64 t160, .int .i64 t161]] (by rfl) rfl rfl mp_ ?_
  with_reducible refine (shape_format_ones.calls t160 t161 t164 _ A5.out).mono ?_
  rintro e w12 ⟨rfl, hb⟩
  refine ⟨_, rfl, ?_⟩
  replace BK163 := A_ (bb_ BK163.out hb)
  replace HB := A_ (below_step (hb1_ HB.out GE163.out) hb);(try clear hb);(try clear hb2);(try clear hk);(try clear hi)
  refine hK.out _ _ ⟨bc_ BK163.out 0, bc_ BK163.out 1⟩ (fun hHeld => ?_)
  clear hK K
  refine norm_ (a' := ?_) ?_ ?_
  rotate_left
  ·show Act.put _ (some 17) _ = _
   simp only [Act.put, lI_, l0_, lS_, i64_w, i32_w]
   rfl
  refine one_ (i := 4) (N := some 18) #[true, true, true, true, true, false] rfl rfl (by kernel_rfl) (by decide) (fun K hK => ?_)
  refine goes_ Try.func51 (by kernel_rfl) rfl #[.agg #[.int .i64 t160, .int .i64 t161], .bool a1, .int .u64 t164, .int .u64 0] (by rfl) rfl rfl mp_ ?_
  with_reducible refine (shape_format_join.calls t160 t161 a1 t164 0 t165 _ A6.out).mono ?_
  rintro e w13 ⟨rfl, hb⟩
  refine ⟨_, rfl, ?_⟩
  replace BK163 := A_ (bb_ BK163.out hb)
  replace HB := A_ (below_step (hb1_ HB.out GE163.out) hb);(try clear hb);(try clear hb2);(try clear hk);(try clear hi)
  refine hK.out _ _ ⟨bc_ BK163.out 0, bc_ BK163.out 1⟩ (fun hHeld => ?_)
  clear hK K
  refine norm_ (a' := ?_) ?_ ?_
  rotate_left
  ·show Act.put _ (some 18) _ = _
   simp only [Act.put, lI_, l0_, lS_, i64_w, i32_w]
   rfl
  refine pu_ 5 (some 4) #[true, true, true, true, true, true] rfl rfl (by kernel_rfl) ?_
  refine done_ (by kernel_rfl) ?_
  try go_wp2
  go_ret
  exact ⟨er_, hb1_ HB.out GE163.out⟩
 ·replace c4 := Bool.eq_false_iff.mpr c4
  subst c4
  have H1 : (some 0) = some r := by rw [if_neg (show ¬ (false = true) by decide)] at H; exact H
  clear H;have H := H1;clear H1
  obtain rfl := Option.some.inj H
  go_enter Try.func74, Try.ntmps74
  go_wp2_with (first | ((with_reducible refine gate_callee (f := 47) rfl ?_); refine gl_ (some 9) Try.func47 #[.int .i64 a0] ?_; (with_reducible refine (shape_of.calls a0 t160 t161 false _ A3.out).mono ?_); rintro e w14 ⟨rfl, hb⟩; refine ⟨_, rfl, ?_⟩; replace HB := A_ (below_step (hb_ HB.out) hb); (try clear hb); (try clear hb2); (try clear hk); (try clear hi)) | ((with_reducible refine gate_dst (N := 5) rfl ?_); refine be_ 5 #[.int .i64 0, .int .i64 0] 60 ?_; intro gb163 hg w15 hbox hb; have BK163 := A_ (hbox); have GW163 := A_ (sz_ hg (hb_ HB.out)); have GE163 := A_ (sz_ hg (hb_ HB.out)); replace HB := A_ (below_step (hb_ HB.out) hb); clear hb hbox hg; have hcz16_0 := bv_ BK163.out 0; have hcz16_1 := bv_ BK163.out 1; have hfz16_0 := blk_frozen BK163.out 0; have hfz16_1 := blk_frozen BK163.out 1))
  go_ret
  exact ⟨er_, hb1_ HB.out GE163.out⟩
end Go.Proofs.Ythdeeoallfbjmaa.PA
