/- What the Go functions that the statement RadixRoots reaches compute, and the mathematics on it, in the order in which one leans on the other; for every input. -/
import Derived.Test.YtjjehbedpgdhgaaVRadixRoots0
import Derived.Test.YtjjehbedpgdhgaaMRadixRoots0
import Derived.Test.YtjjehbedpgdhgaaMRadixRoots3
namespace Go.Proofs.Ytjjehbedpgdhgaa.PA
open Go.RowKit Go.Proofs.YtjjehbedpgdhgaaW.PrintWords Go.Proofs.YtjjehbedpgdhgaaW.PrintLast Go.Proofs.YtjjehbedpgdhgaaW.PrintMore
attribute [local go_sem] max2_int min2_int max_two min_two max_three min_three max_four min_four   -- for this text's walks alone
set_option linter.unusedVariables false
set_option linter.unusedSimpArgs false
set_option maxHeartbeats 8000000
set_option maxRecDepth 100000
mutual
def r1_Mul.l0 : Nat → List Int → Int → List Int → List Int → Option (List Int)
 | 0, _, _, _, _ => none
 | k + 1, x5, x6, x299000, x300000 => if x6 < (x299000.length : Int) then (r1_Mul.l1 k x5 x6 0 0 x299000 x300000) else ((r1_trim.f k x5).bind fun t304 => (some t304))
def r1_Mul.l1 : Nat → List Int → Int → Int → Int → List Int → List Int → Option (List Int)
 | 0, _, _, _, _, _, _ => none
 | k + 1, x5, x6, x7, x8, x299000, x300000 => if x8 < (x300000.length : Int) then (if 0 ≤ (wrap64 (x6 + x8)) then (if (wrap64 (x6 + x8)) < (x5.length : Int) then (if 0 ≤ x6 then (if x6 < (x299000.length : Int) then ((r1_at.f x300000 x8).bind fun t309 => (r1_Mul.l1 k (x5.set ((wrap64 (x6 + x8)) : Int).toNat (Int.tmod (IntKind.u64.wrap ((IntKind.u64.wrap ((rd x5 (wrap64 (x6 + x8))) + (IntKind.u64.wrap ((rd x299000 x6) * t309)))) + x7)) 4294967296)) x6 (IntKind.u64.wrap (Int.tdiv (IntKind.u64.wrap ((IntKind.u64.wrap ((rd x5 (wrap64 (x6 + x8))) + (IntKind.u64.wrap ((rd x299000 x6) * t309)))) + x7)) 4294967296)) (wrap64 (x8 + 1)) x299000 x300000)) else (none)) else (none)) else (none)) else (none)) else (if x7 > 0 then (if 0 ≤ (wrap64 (x6 + x8)) then (if (wrap64 (x6 + x8)) < (x5.length : Int) then (if 0 ≤ x6 then (if x6 < (x299000.length : Int) then ((r1_at.f x300000 x8).bind fun t313 => (r1_Mul.l1 k (x5.set ((wrap64 (x6 + x8)) : Int).toNat (Int.tmod (IntKind.u64.wrap ((IntKind.u64.wrap ((rd x5 (wrap64 (x6 + x8))) + (IntKind.u64.wrap ((rd x299000 x6) * t313)))) + x7)) 4294967296)) x6 (IntKind.u64.wrap (Int.tdiv (IntKind.u64.wrap ((IntKind.u64.wrap ((rd x5 (wrap64 (x6 + x8))) + (IntKind.u64.wrap ((rd x299000 x6) * t313)))) + x7)) 4294967296)) (wrap64 (x8 + 1)) x299000 x300000)) else (none)) else (none)) else (none)) else (none)) else (r1_Mul.l0 k x5 (wrap64 (x6 + 1)) x299000 x300000))
end
def r1_Mul.f (k : Nat) (l0_0 : List Int) (l1_0 : List Int) : Option (List Int) := if 0 ≤ (wrap64 ((wrap64 ((l0_0.length : Int) + (l1_0.length : Int))) + 1)) then (if (wrap64 ((wrap64 ((l0_0.length : Int) + (l1_0.length : Int))) + 1) : Int).toNat ≤ 35184372088832 then (r1_Mul.l0 k (List.replicate (wrap64 ((wrap64 ((l0_0.length : Int) + (l1_0.length : Int))) + 1) : Int).toNat 0) 0 l0_0 l1_0) else (none)) else (none)
theorem r1_Mul.mono_l : ∀ k, (∀ y0 y1 y2 y3, LeO (r1_Mul.l0 k y0 y1 y2 y3) (r1_Mul.l0 (k + 1) y0 y1 y2 y3)) ∧ (∀ y0 y1 y2 y3 y4 y5, LeO (r1_Mul.l1 k y0 y1 y2 y3 y4 y5) (r1_Mul.l1 (k + 1) y0 y1 y2 y3 y4 y5))
 | 0 => ⟨fun _ _ _ _ r h => by simp [r1_Mul.l0] at h, fun _ _ _ _ _ _ r h => by simp [r1_Mul.l1] at h⟩
 | k + 1 => by
  obtain ⟨ih0, ih1⟩ := r1_Mul.mono_l k
  refine ⟨?_, ?_⟩
  ·intro y0 y1 y2 y3
   unfold r1_Mul.l0
   repeat' first
   | (with_reducible exact ih0 _ _ _ _)
   | (with_reducible exact ih1 _ _ _ _ _ _)
   | (with_reducible exact r1_trim.mono _ _)
   | (with_reducible exact LeO.refl _)
   | (with_reducible exact LeO.none _)
   | (with_reducible refine LeO.ite ?_ ?_)
   | (with_reducible refine LeO.bind ?_ (fun _ => ?_))
   | exact ih0 _ _ _ _
   | exact ih1 _ _ _ _ _ _
   | exact r1_trim.mono _ _
   | exact LeO.none _
   | refine LeO.ite ?_ ?_
   | refine LeO.bind ?_ (fun _ => ?_)
  ·intro y0 y1 y2 y3 y4 y5
   unfold r1_Mul.l1
   repeat' first
   | (with_reducible exact ih0 _ _ _ _)
   | (with_reducible exact ih1 _ _ _ _ _ _)
   | (with_reducible exact r1_trim.mono _ _)
   | (with_reducible exact LeO.refl _)
   | (with_reducible exact LeO.none _)
   | (with_reducible refine LeO.ite ?_ ?_)
   | (with_reducible refine LeO.bind ?_ (fun _ => ?_))
   | exact ih0 _ _ _ _
   | exact ih1 _ _ _ _ _ _
   | exact r1_trim.mono _ _
   | exact LeO.none _
   | refine LeO.ite ?_ ?_
   | refine LeO.bind ?_ (fun _ => ?_)
theorem r1_Mul.mono : ∀ a0 a1 k, LeO (r1_Mul.f k a0 a1) (r1_Mul.f (k + 1) a0 a1) := by
 intro a0 a1 k
 obtain ⟨ih0, ih1⟩ := r1_Mul.mono_l k
 unfold r1_Mul.f
 repeat' first
   | (with_reducible exact ih0 _ _ _ _)
   | (with_reducible exact ih1 _ _ _ _ _ _)
   | (with_reducible exact r1_trim.mono _ _)
   | (with_reducible exact LeO.refl _)
   | (with_reducible exact LeO.none _)
   | (with_reducible refine LeO.ite ?_ ?_)
   | (with_reducible refine LeO.bind ?_ (fun _ => ?_))
   | exact ih0 _ _ _ _
   | exact ih1 _ _ _ _ _ _
   | exact r1_trim.mono _ _
   | exact LeO.none _
   | refine LeO.ite ?_ ?_
   | refine LeO.bind ?_ (fun _ => ?_)
theorem r1_Mul.calls (k : Nat) (A0_0 : Option Addr) (c0_0 : Nat) (l0_0 : List Int) (A1_0 : Option Addr) (c1_0 : Nat) (l1_0 : List Int) (r : List Int) (w : World) (hr0_0 : Kd.C (Kd.int .u64) w A0_0 l0_0.length l0_0) (hc0_0 : l0_0.length ≤ c0_0) (hr1_0 : Kd.C (Kd.int .u64) w A1_0 l1_0.length l1_0) (hc1_0 : l1_0.length ≤ c1_0) (h : r1_Mul.f k l0_0 l1_0 = some r) :
  Calls Try.prog 39 #[.agg #[.slice A0_0 l0_0.length c0_0], .agg #[.slice A1_0 l1_0.length c1_0]] w fun e w' => ∃ v0_ : Value, e = .returned (.agg #[v0_]) ∧ Kd.R (Kd.int .u64) 22 w' w.heap.size (fun _ => True) v0_ r ∧ Below w.heap.size w w' := by
 have hu53 := Try.underlying53
 have HR0_0 := A_ hr0_0;have HC0_0 := A_ hc0_0;clear hr0_0 hc0_0;have HR1_0 := A_ hr1_0;have HC1_0 := A_ hc1_0;clear hr1_0 hc1_0
 have HB := A_ (Below.refl w.heap.size w)
 have H : (if 0 ≤ (wrap64 ((wrap64 ((l0_0.length : Int) + (l1_0.length : Int))) + 1)) then (if (wrap64 ((wrap64 ((l0_0.length : Int) + (l1_0.length : Int))) + 1) : Int).toNat ≤ 35184372088832 then (r1_Mul.l0 k (List.replicate (wrap64 ((wrap64 ((l0_0.length : Int) + (l1_0.length : Int))) + 1) : Int).toNat 0) 0 l0_0 l1_0) else (none)) else (none)) = some r := h
 clear h
 obtain ⟨ji3, hji3⟩ : ∃ j_ : Int, (wrap64 ((wrap64 ((l0_0.length : Int) + (l1_0.length : Int))) + 1)) = j_ := ⟨_, rfl⟩
 replace H : (if 0 ≤ (ji3) then (if (ji3 : Int).toNat ≤ 35184372088832 then (r1_Mul.l0 k (List.replicate (ji3 : Int).toNat 0) 0 l0_0 l1_0) else (none)) else (none)) = some r := by first | (rw [hji3] at H; exact H) | (simp only [hji3] at H ⊢; exact H)
 have hji3w : (IntKind.i64.wrap ((wrap64 ((l0_0.length : Int) + (l1_0.length : Int))) + 1)) = ji3 := (i64_w _).trans hji3
 by_cases c4 : 0 ≤ (ji3)
 ·rw [if_pos c4] at H
  have c4b0 := eq_true c4
  have c4b1 : decide (0 ≤ (ji3)) = true := decide_eq_true c4
  clear c4
  by_cases c5 : (ji3 : Int).toNat ≤ 35184372088832
  ·rw [if_pos c5] at H
   have c5b0 := eq_true c5
   have c5b1 : decide ((ji3 : Int).toNat ≤ 35184372088832) = true := decide_eq_true c5
   clear c5
   obtain ⟨y301, hy301⟩ : ∃ y_ : List Int, y_ = (List.replicate (ji3 : Int).toNat 0) := ⟨_, rfl⟩
   replace H : (r1_Mul.l0 k y301 0 l0_0 l1_0) = some r := by first | (rw [hy301]; with_reducible exact H) | (have H2_ := (Option.bind_some _ _).symm.trans H; rw [hy301]; with_reducible exact H2_) | (have H2_ := (Option.bind_some _ _).symm.trans H; with_reducible exact H2_) | with_reducible exact H | (rw [hy301]; exact H) | exact H
   have Ny301 := A_ hy301;clear hy301
   have H' := A_ H
   clear H
   go_enter Try.func39, Try.ntmps39
   go_wp2_with (first | ((with_reducible refine gate_dst (N := 2) rfl ?_); refine be_ 2 #[.slice A0_0 l0_0.length c0_0] 53 ?_; intro gb298 hg w6 hbox hb; have BK298 := A_ (hbox); have GW298 := A_ (sz_ hg (hb_ HB.out)); have GE298 := A_ (sz_ hg (hb_ HB.out)); replace HB := A_ (below_step (hb_ HB.out) hb); clear hb hbox hg) | ((with_reducible refine gate_dst (N := 3) rfl ?_); refine be_ 3 #[.slice A1_0 l1_0.length c1_0] 53 ?_; intro gb299 hg w7 hbox hb; have BK299 := A_ (hbox); have GW299 := A_ (sz_ hg (hb1_ HB.out GE298.out)); have GE299 := A_ (sz_ hg (hb1_ HB.out GE298.out)); have NB298_299 := A_ (nl_ hg BK298.out); have NB299_298 := A_ (ng_ hg BK298.out); replace BK298 := A_ (bb_ BK298.out hb); replace HB := A_ (below_step (hb1_ HB.out GE298.out) hb); clear hb hbox hg) | ((with_reducible refine gate_dst (N := 4) rfl ?_); refine be_ 4 #[.slice none 0 0] 53 ?_; intro gb300 hg w8 hbox hb; have BK300 := A_ (hbox); have GW300 := A_ (sz_ hg (hb2_ HB.out GE298.out GE299.out)); have GE300 := A_ (sz_ hg (hb2_ HB.out GE298.out GE299.out)); have NB298_300 := A_ (nl_ hg BK298.out); have NB300_298 := A_ (ng_ hg BK298.out); have NB299_300 := A_ (nl_ hg BK299.out); have NB300_299 := A_ (ng_ hg BK299.out); replace BK298 := A_ (bb_ BK298.out hb); replace BK299 := A_ (bb_ BK299.out hb); replace HB := A_ (below_step (hb2_ HB.out GE298.out GE299.out) hb); clear hb hbox hg; have hnb9 := NB298_299.out; have hnc9 := NB299_298.out; have hnb10 := NB298_300.out; have hnc10 := NB300_298.out; have hcz11_0 := bv_ BK298.out 0; have hfz11_0 := blk_frozen BK298.out 0; have hnb12 := NB299_300.out; have hnc12 := NB300_299.out; have hcz13_0 := bv_ BK299.out 0; have hfz13_0 := blk_frozen BK299.out 0) | ((with_reducible refine gate_dst (N := 18) rfl ?_); refine Kd.R_make (Kd.int .u64) _ 22 rfl (N := 18) rfl 51 _ _ rfl ji3 rfl rfl Try.underlying51 (.int .u64 0) 8 info22 rfl (by decide) (by omega) 0 (ok := fun _ => True) (okp := fun _ => True) rfl (fun _ hk => hk) trivial (of_decide_eq_true (by first | (with_reducible assumption) | assumption)) (Nat.le_trans (Nat.mul_le_mul_right _ (of_decide_eq_true (by first | (with_reducible assumption) | assumption) : ji3.toNat ≤ 35184372088832)) (by omega)) (Below.refl _ _) (Nat.le_refl _) ?_; intro v302 w14 ho15 hb hg_ hnew_; clear hg_ hnew_; (first | rw [← Ny301.out] at ho15 | (simp only [Int.reduceToNat] at ho15; rw [← Ny301.out] at ho15)); have HO303 := A_ (Kd.R_lower ho15 (below_size (hb3_ HB.out GE298.out GE299.out GE300.out))); replace BK298 := A_ (bb_ BK298.out hb); replace BK299 := A_ (bb_ BK299.out hb); replace BK300 := A_ (bb_ BK300.out hb); replace HB := A_ (below_step (hb3_ HB.out GE298.out GE299.out GE300.out) hb); clear hb ho15))
   repeat (go_quiet (first | ((with_reducible refine gate_dst (N := 2) rfl ?_); refine be_ 2 #[.slice A0_0 l0_0.length c0_0] 53 ?_; intro gb298 hg w6 hbox hb; have BK298 := A_ (hbox); have GW298 := A_ (sz_ hg (hb_ HB.out)); have GE298 := A_ (sz_ hg (hb_ HB.out)); replace HB := A_ (below_step (hb_ HB.out) hb); clear hb hbox hg) | ((with_reducible refine gate_dst (N := 3) rfl ?_); refine be_ 3 #[.slice A1_0 l1_0.length c1_0] 53 ?_; intro gb299 hg w7 hbox hb; have BK299 := A_ (hbox); have GW299 := A_ (sz_ hg (hb1_ HB.out GE298.out)); have GE299 := A_ (sz_ hg (hb1_ HB.out GE298.out)); have NB298_299 := A_ (nl_ hg BK298.out); have NB299_298 := A_ (ng_ hg BK298.out); replace BK298 := A_ (bb_ BK298.out hb); replace HB := A_ (below_step (hb1_ HB.out GE298.out) hb); clear hb hbox hg) | ((with_reducible refine gate_dst (N := 4) rfl ?_); refine be_ 4 #[.slice none 0 0] 53 ?_; intro gb300 hg w8 hbox hb; have BK300 := A_ (hbox); have GW300 := A_ (sz_ hg (hb2_ HB.out GE298.out GE299.out)); have GE300 := A_ (sz_ hg (hb2_ HB.out GE298.out GE299.out)); have NB298_300 := A_ (nl_ hg BK298.out); have NB300_298 := A_ (ng_ hg BK298.out); have NB299_300 := A_ (nl_ hg BK299.out); have NB300_299 := A_ (ng_ hg BK299.out); replace BK298 := A_ (bb_ BK298.out hb); replace BK299 := A_ (bb_ BK299.out hb); replace HB := A_ (below_step (hb2_ HB.out GE298.out GE299.out) hb); clear hb hbox hg; have hnb9 := NB298_299.out; have hnc9 := NB299_298.out; have hnb10 := NB298_300.out; have hnc10 := NB300_298.out; have hcz11_0 := bv_ BK298.out 0; have hfz11_0 := blk_frozen BK298.out 0; have hnb12 := NB299_300.out; have hnc12 := NB300_299.out; have hcz13_0 := bv_ BK299.out 0; have hfz13_0 := blk_frozen BK299.out 0) | ((with_reducible refine gate_dst (N := 18) rfl ?_); refine Kd.R_make (Kd.int .u64) _ 22 rfl (N := 18) rfl 51 _ _ rfl ji3 rfl rfl Try.underlying51 (.int .u64 0) 8 info22 rfl (by decide) (by omega) 0 (ok := fun _ => True) (okp := fun _ => True) rfl (fun _ hk => hk) trivial (of_decide_eq_true (by first | (with_reducible assumption) | assumption)) (Nat.le_trans (Nat.mul_le_mul_right _ (of_decide_eq_true (by first | (with_reducible assumption) | assumption) : ji3.toNat ≤ 35184372088832)) (by omega)) (Below.refl _ _) (Nat.le_refl _) ?_; intro v302 w14 ho15 hb hg_ hnew_; clear hg_ hnew_; (first | rw [← Ny301.out] at ho15 | (simp only [Int.reduceToNat] at ho15; rw [← Ny301.out] at ho15)); have HO303 := A_ (Kd.R_lower ho15 (below_size (hb3_ HB.out GE298.out GE299.out GE300.out))); replace BK298 := A_ (bb_ BK298.out hb); replace BK299 := A_ (bb_ BK299.out hb); replace BK300 := A_ (bb_ BK300.out hb); replace HB := A_ (below_step (hb3_ HB.out GE298.out GE299.out GE300.out) hb); clear hb ho15)); try go_wp2_with (first | ((with_reducible refine gate_dst (N := 2) rfl ?_); refine be_ 2 #[.slice A0_0 l0_0.length c0_0] 53 ?_; intro gb298 hg w6 hbox hb; have BK298 := A_ (hbox); have GW298 := A_ (sz_ hg (hb_ HB.out)); have GE298 := A_ (sz_ hg (hb_ HB.out)); replace HB := A_ (below_step (hb_ HB.out) hb); clear hb hbox hg) | ((with_reducible refine gate_dst (N := 3) rfl ?_); refine be_ 3 #[.slice A1_0 l1_0.length c1_0] 53 ?_; intro gb299 hg w7 hbox hb; have BK299 := A_ (hbox); have GW299 := A_ (sz_ hg (hb1_ HB.out GE298.out)); have GE299 := A_ (sz_ hg (hb1_ HB.out GE298.out)); have NB298_299 := A_ (nl_ hg BK298.out); have NB299_298 := A_ (ng_ hg BK298.out); replace BK298 := A_ (bb_ BK298.out hb); replace HB := A_ (below_step (hb1_ HB.out GE298.out) hb); clear hb hbox hg) | ((with_reducible refine gate_dst (N := 4) rfl ?_); refine be_ 4 #[.slice none 0 0] 53 ?_; intro gb300 hg w8 hbox hb; have BK300 := A_ (hbox); have GW300 := A_ (sz_ hg (hb2_ HB.out GE298.out GE299.out)); have GE300 := A_ (sz_ hg (hb2_ HB.out GE298.out GE299.out)); have NB298_300 := A_ (nl_ hg BK298.out); have NB300_298 := A_ (ng_ hg BK298.out); have NB299_300 := A_ (nl_ hg BK299.out); have NB300_299 := A_ (ng_ hg BK299.out); replace BK298 := A_ (bb_ BK298.out hb); replace BK299 := A_ (bb_ BK299.out hb); replace HB := A_ (below_step (hb2_ HB.out GE298.out GE299.out) hb); clear hb hbox hg; have hnb9 := NB298_299.out; have hnc9 := NB299_298.out; have hnb10 := NB298_300.out; have hnc10 := NB300_298.out; have hcz11_0 := bv_ BK298.out 0; have hfz11_0 := blk_frozen BK298.out 0; have hnb12 := NB299_300.out; have hnc12 := NB300_299.out; have hcz13_0 := bv_ BK299.out 0; have hfz13_0 := blk_frozen BK299.out 0) | ((with_reducible refine gate_dst (N := 18) rfl ?_); refine Kd.R_make (Kd.int .u64) _ 22 rfl (N := 18) rfl 51 _ _ rfl ji3 rfl rfl Try.underlying51 (.int .u64 0) 8 info22 rfl (by decide) (by omega) 0 (ok := fun _ => True) (okp := fun _ => True) rfl (fun _ hk => hk) trivial (of_decide_eq_true (by first | (with_reducible assumption) | assumption)) (Nat.le_trans (Nat.mul_le_mul_right _ (of_decide_eq_true (by first | (with_reducible assumption) | assumption) : ji3.toNat ≤ 35184372088832)) (by omega)) (Below.refl _ _) (Nat.le_refl _) ?_; intro v302 w14 ho15 hb hg_ hnew_; clear hg_ hnew_; (first | rw [← Ny301.out] at ho15 | (simp only [Int.reduceToNat] at ho15; rw [← Ny301.out] at ho15)); have HO303 := A_ (Kd.R_lower ho15 (below_size (hb3_ HB.out GE298.out GE299.out GE300.out))); replace BK298 := A_ (bb_ BK298.out hb); replace BK299 := A_ (bb_ BK299.out hb); replace BK300 := A_ (bb_ BK300.out hb); replace HB := A_ (below_step (hb3_ HB.out GE298.out GE299.out GE300.out) hb); clear hb ho15)))
   go_loopg [6] k (fun kq v6 w' => ∃ (x5_1 : List Int) (x6_1 : Int), v6 = .int .i64 x6_1 ∧ Aside0 (r1_Mul.l0 kq x5_1 x6_1 l0_0 l1_0 = some r) ∧ Aside0 (kq ≤ k) ∧ Aside0 (Kd.R (Kd.int .u64) 22 w' w.heap.size (fun _ => True) v302 x5_1) ∧ Aside0 (w'.heap[gb298]? = some (.cells #[(.slice A0_0 l0_0.length c0_0)] 53 (0, 0))) ∧ Aside0 (w'.heap[gb299]? = some (.cells #[(.slice A1_0 l1_0.length c1_0)] 53 (0, 0))) ∧ Aside0 (w'.heap[gb300]? = some (.cells #[(.slice none 0 0)] 53 (0, 0))) ∧ Aside0 (Below w.heap.size w w'))
   case atStart => exact ⟨(y301), (0), sm_, H', ⟨Nat.le_refl _⟩, ⟨by (with_reducible repeat (first | apply Kd.R_alloc | apply Kd.R_drewN | apply Kd.R_drew)); exact HO303.out⟩, ⟨bk_ BK298.out⟩, ⟨bk_ BK299.out⟩, ⟨bk_ BK300.out⟩, ⟨hb3_ HB.out GE298.out GE299.out GE300.out⟩⟩
   case round =>
    clear H'
    try clear c1
    try clear p2
    try clear c3
    try clear c4
    try clear c4b0
    try clear c4b1
    try clear c5
    try clear c5b0
    try clear c5b1
    try clear p6
    try clear c9
    try clear c10
    try clear c12
    try clear hcz11_0
    try clear hcz13_0
    try clear hfz11_0
    try clear hfz13_0
    obtain ⟨x5_1, x6_1, rfl, HA, HK1, HO_5, BK298, BK299, BK300, HB⟩ := hrel
    cases gk with
    | zero => exact absurd HA.out (by simp [r1_Mul.l0])
    | succ k1 =>
     have H := HA.out
     clear HA
     simp only [r1_Mul.l0] at H
     by_cases c16 : x6_1 < (l0_0.length : Int)
     ·rw [if_pos c16] at H
      have c16b0 : decide (x6_1 < (l0_0.length : Int)) = true := decide_eq_true c16
      clear c16
      have H' := A_ H
      clear H
      have hnb17 := NB298_299.out
      have hnc17 := NB299_298.out
      have hnb18 := NB298_300.out
      have hnc18 := NB300_298.out
      have hcz19_0 := bv_ BK298.out 0
      have hfz19_0 := blk_frozen BK298.out 0
      go_wp2
      repeat (go_quiet (fail); try go_wp2)
      go_loopg [7, 8] k1 (fun kq v7 v8 w' => ∃ (x5_2 : List Int) (x7_2 : Int) (x8_2 : Int), v7 = .int .u64 x7_2 ∧ v8 = .int .i64 x8_2 ∧ Aside0 (r1_Mul.l1 kq x5_2 x6_1 x7_2 x8_2 l0_0 l1_0 = some r) ∧ Aside0 (kq ≤ k1) ∧ Aside0 (Kd.R (Kd.int .u64) 22 w' w.heap.size (fun _ => True) v302 x5_2) ∧ Aside0 (w'.heap[gb298]? = some (.cells #[(.slice A0_0 l0_0.length c0_0)] 53 (0, 0))) ∧ Aside0 (w'.heap[gb299]? = some (.cells #[(.slice A1_0 l1_0.length c1_0)] 53 (0, 0))) ∧ Aside0 (w'.heap[gb300]? = some (.cells #[(.slice none 0 0)] 53 (0, 0))) ∧ Aside0 (Below w.heap.size w w'))
      case atStart => exact ⟨(x5_1), (0), (0), sm_, sm_, H', ⟨Nat.le_refl _⟩, ⟨by (with_reducible repeat (first | apply Kd.R_alloc | apply Kd.R_drewN | apply Kd.R_drew)); exact HO_5.out⟩, ⟨bk_ BK298.out⟩, ⟨bk_ BK299.out⟩, ⟨bk_ BK300.out⟩, ⟨hb3_ HB.out GE298.out GE299.out GE300.out⟩⟩
      case round =>
       clear H'
       try clear c1
       try clear p2
       try clear c3
       try clear c4
       try clear c4b0
       try clear c4b1
       try clear c5
       try clear c5b0
       try clear c5b1
       try clear p6
       try clear c9
       try clear c10
       try clear c12
       try clear c16
       try clear c16b0
       try clear c17
       try clear c18
       try clear hcz11_0
       try clear hcz13_0
       try clear hcz19_0
       try clear hfz11_0
       try clear hfz13_0
       try clear hfz19_0
       try clear p2
       try clear p6
       obtain ⟨x5_2, x7_2, x8_2, rfl, rfl, HA, HK2, HO_5, BK298, BK299, BK300, HB⟩ := hrel
       cases gk with
       | zero => exact absurd HA.out (by simp [r1_Mul.l1])
       | succ k2 =>
        have H := HA.out
        clear HA
        simp only [r1_Mul.l1] at H
        by_cases c20 : x8_2 < (l1_0.length : Int)
        ·rw [if_pos c20] at H
         have c20b0 : decide (x8_2 < (l1_0.length : Int)) = true := decide_eq_true c20
         clear c20
         obtain ⟨ji21, hji21⟩ : ∃ j_ : Int, (wrap64 (x6_1 + x8_2)) = j_ := ⟨_, rfl⟩
         replace H : (if 0 ≤ (ji21) then (if (ji21) < (x5_2.length : Int) then (if 0 ≤ x6_1 then (if x6_1 < (l0_0.length : Int) then ((r1_at.f l1_0 x8_2).bind fun t309 => (r1_Mul.l1 k2 (x5_2.set ((ji21) : Int).toNat (Int.tmod (IntKind.u64.wrap ((IntKind.u64.wrap ((rd x5_2 (ji21)) + (IntKind.u64.wrap ((rd l0_0 x6_1) * t309)))) + x7_2)) 4294967296)) x6_1 (IntKind.u64.wrap (Int.tdiv (IntKind.u64.wrap ((IntKind.u64.wrap ((rd x5_2 (ji21)) + (IntKind.u64.wrap ((rd l0_0 x6_1) * t309)))) + x7_2)) 4294967296)) (wrap64 (x8_2 + 1)) l0_0 l1_0)) else (none)) else (none)) else (none)) else (none)) = some r := by first | (rw [hji21] at H; exact H) | (simp only [hji21] at H ⊢; exact H)
         have hji21w : (IntKind.i64.wrap (x6_1 + x8_2)) = ji21 := (i64_w _).trans hji21
         by_cases c22 : 0 ≤ (ji21)
         ·rw [if_pos c22] at H
          have c22b0 : decide (0 ≤ (ji21)) = true := decide_eq_true c22
          clear c22
          by_cases c23 : (ji21) < (x5_2.length : Int)
          ·rw [if_pos c23] at H
           have c23b0 : decide ((ji21) < (x5_2.length : Int)) = true := decide_eq_true c23
           clear c23
           by_cases c24 : 0 ≤ x6_1
           ·rw [if_pos c24] at H
            have c24b0 : decide (0 ≤ x6_1) = true := decide_eq_true c24
            clear c24
            by_cases c25 : x6_1 < (l0_0.length : Int)
            ·rw [if_pos c25] at H
             have c25b0 : decide (x6_1 < (l0_0.length : Int)) = true := decide_eq_true c25
             clear c25
             replace H := ob_ H
             obtain ⟨t309, A260, H⟩ := H
             replace H : (r1_Mul.l1 k2 (x5_2.set ((ji21) : Int).toNat (Int.tmod (IntKind.u64.wrap ((IntKind.u64.wrap ((rd x5_2 (ji21)) + (IntKind.u64.wrap ((rd l0_0 x6_1) * t309)))) + x7_2)) 4294967296)) x6_1 (IntKind.u64.wrap (Int.tdiv (IntKind.u64.wrap ((IntKind.u64.wrap ((rd x5_2 (ji21)) + (IntKind.u64.wrap ((rd l0_0 x6_1) * t309)))) + x7_2)) 4294967296)) (wrap64 (x8_2 + 1)) l0_0 l1_0) = some r := H
             have A26 := A_ A260;clear A260
             obtain ⟨y310, hy310⟩ : ∃ y_ : List Int, y_ = (x5_2.set ((ji21) : Int).toNat (Int.tmod (IntKind.u64.wrap ((IntKind.u64.wrap ((rd x5_2 (ji21)) + (IntKind.u64.wrap ((rd l0_0 x6_1) * t309)))) + x7_2)) 4294967296)) := ⟨_, rfl⟩
             replace H : (r1_Mul.l1 k2 y310 x6_1 (IntKind.u64.wrap (Int.tdiv (IntKind.u64.wrap ((IntKind.u64.wrap ((rd x5_2 (ji21)) + (IntKind.u64.wrap ((rd l0_0 x6_1) * t309)))) + x7_2)) 4294967296)) (wrap64 (x8_2 + 1)) l0_0 l1_0) = some r := by first | (rw [hy310]; with_reducible exact H) | (have H2_ := (Option.bind_some _ _).symm.trans H; rw [hy310]; with_reducible exact H2_) | (have H2_ := (Option.bind_some _ _).symm.trans H; with_reducible exact H2_) | with_reducible exact H | (rw [hy310]; exact H) | exact H
             have Ny310 := A_ hy310;clear hy310
             have H' := A_ H
             clear H
             have hnb28 := NB299_298.out
             have hnc28 := NB298_299.out
             have hnb29 := NB299_300.out
             have hnc29 := NB300_299.out
             have hcz30_0 := bv_ BK299.out 0
             have hfz30_0 := blk_frozen BK299.out 0
             obtain ⟨Ao31, co31, eo31⟩ := Kd.R_slice HO_5.out
             subst eo31
             have p307 : 0 ≤ ((ji21) : Int) := of_decide_eq_true (by first | (with_reducible assumption) | assumption)
             have q307 : (ji21) < (x5_2.length : Int) := of_decide_eq_true (by first | (with_reducible assumption) | assumption)
             obtain ⟨ad307, e307, hx307_0⟩ := Kd.at_int (Kd.R_reads' HO_5.out).2.2 (ji21) p307 q307
             cases e307
             replace p307 := eq_true p307
             replace q307 := eq_true q307
             have hnb32 := NB298_300.out
             have hnc32 := NB300_298.out
             have hcz33_0 := bv_ BK298.out 0
             have hfz33_0 := blk_frozen BK298.out 0
             have p308 : 0 ≤ (x6_1 : Int) := of_decide_eq_true (by first | (with_reducible assumption) | assumption)
             have q308 : x6_1 < (l0_0.length : Int) := of_decide_eq_true (by first | (with_reducible assumption) | assumption)
             obtain ⟨ad308, e308, hx308_0⟩ := Kd.at_int HR0_0.out x6_1 p308 q308
             cases e308
             replace hx308_0 := (HB.out.cell (World.block_lt_of_cell? w _ hx308_0)).trans hx308_0
             replace p308 := eq_true p308
             replace q308 := eq_true q308
             go_wp2_with (first | (go_at_call 70; (with_reducible refine (r1_at.calls _ _ l1_0 x8_2 t309 _ ?side1 ?side2 A26.out).mono ?_); (case side1 => exact cs_ ((Kd.C_below HR1_0.out HB.out))); (case side2 => exact HC1_0.out); rintro e w' ⟨rfl, ⟨nd, rfl⟩⟩; (try first | exact ⟨rfl, _, World.drewN_drewN _ _ _⟩ | exact ⟨rfl, _, Eq.trans (World.drewN_drewN _ _ _) (congrArg (World.drewN _) (Nat.add_assoc _ _ _))⟩); have p27 : 0 ≤ ((ji21) : Int) := of_decide_eq_true (by first | (with_reducible assumption) | assumption); have q27 : ((ji21) : Int) < ((x5_2.length : Int) : Int) := of_decide_eq_true (by first | (with_reducible assumption) | assumption); obtain ⟨go27, co27, eo27, gb27, gl27, cl27, HG27⟩ := Kd.R_form HO_5.out (by omega); (first | cases eo27 | (injection eo27 with ea_ en_ ec_; (first | subst ea_ | (injection ea_ with ea_; subst ea_)); subst ec_; clear en_)); have GB27 := A_ gb27; have GG27 := A_ HG27; clear gb27 gl27 HG27; (first | simp only [add_plain] at hx307_0 | skip); obtain ⟨hx27_0, hf27_0⟩ := Kd.R_celln 0 HO_5.out ((ji21) : Int) p27 q27; replace p27 := eq_true p27; replace q27 := eq_true q27; obtain ⟨hy34_, hz34_⟩ := Kd.R_celln 0 HO_5.out ((ji21) : Int) (of_decide_eq_true (by first | (with_reducible assumption) | assumption)) (of_decide_eq_true (by first | (with_reducible assumption) | assumption)); have HP34 := Kd.R_putg HO_5.out ((ji21) : Int) (Int.tmod (IntKind.u64.wrap ((IntKind.u64.wrap ((rd x5_2 (ji21)) + (IntKind.u64.wrap ((rd l0_0 x6_1) * t309)))) + x7_2)) 4294967296)) | ((with_reducible refine gate_store (t := 22) (p := 62) rfl ?_); (try (rw [drewN_self wr]; generalize hq_ : World.drewN wr _ = wr; have n0_ := A_ (Kd.R_at hq_ HO_5.out); have n1_ := A_ (blk_at hq_ BK298.out); have n2_ := A_ (blk_at hq_ BK299.out); have n3_ := A_ (blk_at hq_ BK300.out); have n4_ := A_ (below_at hq_ HB.out); clear hq_ HO_5 BK298 BK299 BK300 HB; have HO_5 := n0_; have BK298 := n1_; have BK299 := n2_; have BK300 := n3_; have HB := n4_; clear n0_ n1_ n2_ n3_ n4_; (try (obtain ⟨hy34_, hz34_⟩ := Kd.R_celln 0 HO_5.out ((ji21) : Int) (of_decide_eq_true (by first | (with_reducible assumption) | assumption)) (of_decide_eq_true (by first | (with_reducible assumption) | assumption)))); (try (have HP34 := Kd.R_putg HO_5.out ((ji21) : Int) (Int.tmod (IntKind.u64.wrap ((IntKind.u64.wrap ((rd x5_2 (ji21)) + (IntKind.u64.wrap ((rd l0_0 x6_1) * t309)))) + x7_2)) 4294967296))))); refine store_event (t := 22) (p := 62) (v := ?vo_w35) (w1 := (wr.setCell ⟨go27, ((ji21) : Int).toNat, none⟩ (.int .u64 (Int.tmod (IntKind.u64.wrap ((IntKind.u64.wrap ((rd x5_2 (ji21)) + (IntKind.u64.wrap ((rd l0_0 x6_1) * t309)))) + x7_2)) 4294967296)))) ?hg ?ho ?hn ?hr ?_; (case ho => rfl); (case hg => rfl); (case hn => rfl); (case hr => first | (go_simp; done) | (go_simp; rfl)); intro w35 hw; have hg : wr.grownBy w35 (some go27) := (by rw [hw]; exact HP34.2); have hp_ : Kd.R (Kd.int .u64) 22 w35 w.heap.size (fun _ => True) (.slice (some ⟨go27, 0, none⟩) x5_2.length co31) y310 := (by rw [hw, Ny310.out]; exact HP34.1); clear HP34; replace BK298 := A_ (blk_grown (g := gb298) (o := .cells #[.slice (some ad308) l0_0.length c0_0] 53 (0, 0)) (bk_ BK298.out) hg (Kd.R_ne HO_5.out BK298.out (by decide))); replace BK299 := A_ (blk_grown (g := gb299) (o := .cells #[.slice A1_0 l1_0.length c1_0] 53 (0, 0)) (bk_ BK299.out) hg (Kd.R_ne HO_5.out BK299.out (by decide))); replace BK300 := A_ (blk_grown (g := gb300) (o := .cells #[.slice none 0 0] 53 (0, 0)) (bk_ BK300.out) hg (Kd.R_ne HO_5.out BK300.out (by decide))); replace HO_5 := A_ (hp_); replace HB := A_ ((by rw [hw]; exact below_set (HB.out) GB27.out : Below w.heap.size w w35)); clear hg hw hp_))
             repeat (go_quiet (first | (go_at_call 70; (with_reducible refine (r1_at.calls _ _ l1_0 x8_2 t309 _ ?side1 ?side2 A26.out).mono ?_); (case side1 => exact cs_ ((Kd.C_below HR1_0.out HB.out))); (case side2 => exact HC1_0.out); rintro e w' ⟨rfl, ⟨nd, rfl⟩⟩; (try first | exact ⟨rfl, _, World.drewN_drewN _ _ _⟩ | exact ⟨rfl, _, Eq.trans (World.drewN_drewN _ _ _) (congrArg (World.drewN _) (Nat.add_assoc _ _ _))⟩); have p27 : 0 ≤ ((ji21) : Int) := of_decide_eq_true (by first | (with_reducible assumption) | assumption); have q27 : ((ji21) : Int) < ((x5_2.length : Int) : Int) := of_decide_eq_true (by first | (with_reducible assumption) | assumption); obtain ⟨go27, co27, eo27, gb27, gl27, cl27, HG27⟩ := Kd.R_form HO_5.out (by omega); (first | cases eo27 | (injection eo27 with ea_ en_ ec_; (first | subst ea_ | (injection ea_ with ea_; subst ea_)); subst ec_; clear en_)); have GB27 := A_ gb27; have GG27 := A_ HG27; clear gb27 gl27 HG27; (first | simp only [add_plain] at hx307_0 | skip); obtain ⟨hx27_0, hf27_0⟩ := Kd.R_celln 0 HO_5.out ((ji21) : Int) p27 q27; replace p27 := eq_true p27; replace q27 := eq_true q27; obtain ⟨hy34_, hz34_⟩ := Kd.R_celln 0 HO_5.out ((ji21) : Int) (of_decide_eq_true (by first | (with_reducible assumption) | assumption)) (of_decide_eq_true (by first | (with_reducible assumption) | assumption)); have HP34 := Kd.R_putg HO_5.out ((ji21) : Int) (Int.tmod (IntKind.u64.wrap ((IntKind.u64.wrap ((rd x5_2 (ji21)) + (IntKind.u64.wrap ((rd l0_0 x6_1) * t309)))) + x7_2)) 4294967296)) | ((with_reducible refine gate_store (t := 22) (p := 62) rfl ?_); (try (rw [drewN_self wr]; generalize hq_ : World.drewN wr _ = wr; have n0_ := A_ (Kd.R_at hq_ HO_5.out); have n1_ := A_ (blk_at hq_ BK298.out); have n2_ := A_ (blk_at hq_ BK299.out); have n3_ := A_ (blk_at hq_ BK300.out); have n4_ := A_ (below_at hq_ HB.out); clear hq_ HO_5 BK298 BK299 BK300 HB; have HO_5 := n0_; have BK298 := n1_; have BK299 := n2_; have BK300 := n3_; have HB := n4_; clear n0_ n1_ n2_ n3_ n4_; (try (obtain ⟨hy34_, hz34_⟩ := Kd.R_celln 0 HO_5.out ((ji21) : Int) (of_decide_eq_true (by first | (with_reducible assumption) | assumption)) (of_decide_eq_true (by first | (with_reducible assumption) | assumption)))); (try (have HP34 := Kd.R_putg HO_5.out ((ji21) : Int) (Int.tmod (IntKind.u64.wrap ((IntKind.u64.wrap ((rd x5_2 (ji21)) + (IntKind.u64.wrap ((rd l0_0 x6_1) * t309)))) + x7_2)) 4294967296))))); refine store_event (t := 22) (p := 62) (v := ?vo_w35) (w1 := (wr.setCell ⟨go27, ((ji21) : Int).toNat, none⟩ (.int .u64 (Int.tmod (IntKind.u64.wrap ((IntKind.u64.wrap ((rd x5_2 (ji21)) + (IntKind.u64.wrap ((rd l0_0 x6_1) * t309)))) + x7_2)) 4294967296)))) ?hg ?ho ?hn ?hr ?_; (case ho => rfl); (case hg => rfl); (case hn => rfl); (case hr => first | (go_simp; done) | (go_simp; rfl)); intro w35 hw; have hg : wr.grownBy w35 (some go27) := (by rw [hw]; exact HP34.2); have hp_ : Kd.R (Kd.int .u64) 22 w35 w.heap.size (fun _ => True) (.slice (some ⟨go27, 0, none⟩) x5_2.length co31) y310 := (by rw [hw, Ny310.out]; exact HP34.1); clear HP34; replace BK298 := A_ (blk_grown (g := gb298) (o := .cells #[.slice (some ad308) l0_0.length c0_0] 53 (0, 0)) (bk_ BK298.out) hg (Kd.R_ne HO_5.out BK298.out (by decide))); replace BK299 := A_ (blk_grown (g := gb299) (o := .cells #[.slice A1_0 l1_0.length c1_0] 53 (0, 0)) (bk_ BK299.out) hg (Kd.R_ne HO_5.out BK299.out (by decide))); replace BK300 := A_ (blk_grown (g := gb300) (o := .cells #[.slice none 0 0] 53 (0, 0)) (bk_ BK300.out) hg (Kd.R_ne HO_5.out BK300.out (by decide))); replace HO_5 := A_ (hp_); replace HB := A_ ((by rw [hw]; exact below_set (HB.out) GB27.out : Below w.heap.size w w35)); clear hg hw hp_)); try go_wp2_with (first | (go_at_call 70; (with_reducible refine (r1_at.calls _ _ l1_0 x8_2 t309 _ ?side1 ?side2 A26.out).mono ?_); (case side1 => exact cs_ ((Kd.C_below HR1_0.out HB.out))); (case side2 => exact HC1_0.out); rintro e w' ⟨rfl, ⟨nd, rfl⟩⟩; (try first | exact ⟨rfl, _, World.drewN_drewN _ _ _⟩ | exact ⟨rfl, _, Eq.trans (World.drewN_drewN _ _ _) (congrArg (World.drewN _) (Nat.add_assoc _ _ _))⟩); have p27 : 0 ≤ ((ji21) : Int) := of_decide_eq_true (by first | (with_reducible assumption) | assumption); have q27 : ((ji21) : Int) < ((x5_2.length : Int) : Int) := of_decide_eq_true (by first | (with_reducible assumption) | assumption); obtain ⟨go27, co27, eo27, gb27, gl27, cl27, HG27⟩ := Kd.R_form HO_5.out (by omega); (first | cases eo27 | (injection eo27 with ea_ en_ ec_; (first | subst ea_ | (injection ea_ with ea_; subst ea_)); subst ec_; clear en_)); have GB27 := A_ gb27; have GG27 := A_ HG27; clear gb27 gl27 HG27; (first | simp only [add_plain] at hx307_0 | skip); obtain ⟨hx27_0, hf27_0⟩ := Kd.R_celln 0 HO_5.out ((ji21) : Int) p27 q27; replace p27 := eq_true p27; replace q27 := eq_true q27; obtain ⟨hy34_, hz34_⟩ := Kd.R_celln 0 HO_5.out ((ji21) : Int) (of_decide_eq_true (by first | (with_reducible assumption) | assumption)) (of_decide_eq_true (by first | (with_reducible assumption) | assumption)); have HP34 := Kd.R_putg HO_5.out ((ji21) : Int) (Int.tmod (IntKind.u64.wrap ((IntKind.u64.wrap ((rd x5_2 (ji21)) + (IntKind.u64.wrap ((rd l0_0 x6_1) * t309)))) + x7_2)) 4294967296)) | ((with_reducible refine gate_store (t := 22) (p := 62) rfl ?_); (try (rw [drewN_self wr]; generalize hq_ : World.drewN wr _ = wr; have n0_ := A_ (Kd.R_at hq_ HO_5.out); have n1_ := A_ (blk_at hq_ BK298.out); have n2_ := A_ (blk_at hq_ BK299.out); have n3_ := A_ (blk_at hq_ BK300.out); have n4_ := A_ (below_at hq_ HB.out); clear hq_ HO_5 BK298 BK299 BK300 HB; have HO_5 := n0_; have BK298 := n1_; have BK299 := n2_; have BK300 := n3_; have HB := n4_; clear n0_ n1_ n2_ n3_ n4_; (try (obtain ⟨hy34_, hz34_⟩ := Kd.R_celln 0 HO_5.out ((ji21) : Int) (of_decide_eq_true (by first | (with_reducible assumption) | assumption)) (of_decide_eq_true (by first | (with_reducible assumption) | assumption)))); (try (have HP34 := Kd.R_putg HO_5.out ((ji21) : Int) (Int.tmod (IntKind.u64.wrap ((IntKind.u64.wrap ((rd x5_2 (ji21)) + (IntKind.u64.wrap ((rd l0_0 x6_1) * t309)))) + x7_2)) 4294967296))))); refine store_event (t := 22) (p := 62) (v := ?vo_w35) (w1 := (wr.setCell ⟨go27, ((ji21) : Int).toNat, none⟩ (.int .u64 (Int.tmod (IntKind.u64.wrap ((IntKind.u64.wrap ((rd x5_2 (ji21)) + (IntKind.u64.wrap ((rd l0_0 x6_1) * t309)))) + x7_2)) 4294967296)))) ?hg ?ho ?hn ?hr ?_; (case ho => rfl); (case hg => rfl); (case hn => rfl); (case hr => first | (go_simp; done) | (go_simp; rfl)); intro w35 hw; have hg : wr.grownBy w35 (some go27) := (by rw [hw]; exact HP34.2); have hp_ : Kd.R (Kd.int .u64) 22 w35 w.heap.size (fun _ => True) (.slice (some ⟨go27, 0, none⟩) x5_2.length co31) y310 := (by rw [hw, Ny310.out]; exact HP34.1); clear HP34; replace BK298 := A_ (blk_grown (g := gb298) (o := .cells #[.slice (some ad308) l0_0.length c0_0] 53 (0, 0)) (bk_ BK298.out) hg (Kd.R_ne HO_5.out BK298.out (by decide))); replace BK299 := A_ (blk_grown (g := gb299) (o := .cells #[.slice A1_0 l1_0.length c1_0] 53 (0, 0)) (bk_ BK299.out) hg (Kd.R_ne HO_5.out BK299.out (by decide))); replace BK300 := A_ (blk_grown (g := gb300) (o := .cells #[.slice none 0 0] 53 (0, 0)) (bk_ BK300.out) hg (Kd.R_ne HO_5.out BK300.out (by decide))); replace HO_5 := A_ (hp_); replace HB := A_ ((by rw [hw]; exact below_set (HB.out) GB27.out : Below w.heap.size w w35)); clear hg hw hp_)))
             go_roundg k2
             case measure => have := HK1.out; have := HK2.out; omega
             case rel => exact ⟨(y310), (IntKind.u64.wrap (Int.tdiv (IntKind.u64.wrap ((IntKind.u64.wrap ((rd x5_2 (ji21)) + (IntKind.u64.wrap ((rd l0_0 x6_1) * t309)))) + x7_2)) 4294967296)), (wrap64 (x8_2 + 1)), (by first | rfl | (simp; done) | (simp only [← hji21] <;> (first | rfl | simp)) | (simp [*]; done)), sm_, H', ⟨by have := HK1.out; have := HK2.out; omega⟩, ⟨by (with_reducible repeat (first | apply Kd.R_alloc | apply Kd.R_drewN | apply Kd.R_drew)); exact HO_5.out⟩, ⟨bk_ BK298.out⟩, ⟨bk_ BK299.out⟩, ⟨bk_ BK300.out⟩, ⟨hb3_ HB.out GE298.out GE299.out GE300.out⟩⟩
            ·rw [if_neg c25] at H
             exact absurd H (by simp)
           ·rw [if_neg c24] at H
            exact absurd H (by simp)
          ·rw [if_neg c23] at H
           exact absurd H (by simp)
         ·rw [if_neg c22] at H
          exact absurd H (by simp)
        ·rw [if_neg c20] at H
         have c20b0 : decide (x8_2 < (l1_0.length : Int)) = false := decide_eq_false c20
         clear c20
         by_cases c36 : x7_2 > 0
         ·rw [if_pos c36] at H
          have c36b0 : decide (0 < x7_2) = true := decide_eq_true c36
          clear c36
          obtain ⟨ji37, hji37⟩ : ∃ j_ : Int, (wrap64 (x6_1 + x8_2)) = j_ := ⟨_, rfl⟩
          replace H : (if 0 ≤ (ji37) then (if (ji37) < (x5_2.length : Int) then (if 0 ≤ x6_1 then (if x6_1 < (l0_0.length : Int) then ((r1_at.f l1_0 x8_2).bind fun t313 => (r1_Mul.l1 k2 (x5_2.set ((ji37) : Int).toNat (Int.tmod (IntKind.u64.wrap ((IntKind.u64.wrap ((rd x5_2 (ji37)) + (IntKind.u64.wrap ((rd l0_0 x6_1) * t313)))) + x7_2)) 4294967296)) x6_1 (IntKind.u64.wrap (Int.tdiv (IntKind.u64.wrap ((IntKind.u64.wrap ((rd x5_2 (ji37)) + (IntKind.u64.wrap ((rd l0_0 x6_1) * t313)))) + x7_2)) 4294967296)) (wrap64 (x8_2 + 1)) l0_0 l1_0)) else (none)) else (none)) else (none)) else (none)) = some r := by first | (rw [hji37] at H; exact H) | (simp only [hji37] at H ⊢; exact H)
          have hji37w : (IntKind.i64.wrap (x6_1 + x8_2)) = ji37 := (i64_w _).trans hji37
          by_cases c38 : 0 ≤ (ji37)
          ·rw [if_pos c38] at H
           have c38b0 : decide (0 ≤ (ji37)) = true := decide_eq_true c38
           clear c38
           by_cases c39 : (ji37) < (x5_2.length : Int)
           ·rw [if_pos c39] at H
            have c39b0 : decide ((ji37) < (x5_2.length : Int)) = true := decide_eq_true c39
            clear c39
            by_cases c40 : 0 ≤ x6_1
            ·rw [if_pos c40] at H
             have c40b0 : decide (0 ≤ x6_1) = true := decide_eq_true c40
             clear c40
             by_cases c41 : x6_1 < (l0_0.length : Int)
             ·rw [if_pos c41] at H
              have c41b0 : decide (x6_1 < (l0_0.length : Int)) = true := decide_eq_true c41
              clear c41
              replace H := ob_ H
              obtain ⟨t313, A420, H⟩ := H
              replace H : (r1_Mul.l1 k2 (x5_2.set ((ji37) : Int).toNat (Int.tmod (IntKind.u64.wrap ((IntKind.u64.wrap ((rd x5_2 (ji37)) + (IntKind.u64.wrap ((rd l0_0 x6_1) * t313)))) + x7_2)) 4294967296)) x6_1 (IntKind.u64.wrap (Int.tdiv (IntKind.u64.wrap ((IntKind.u64.wrap ((rd x5_2 (ji37)) + (IntKind.u64.wrap ((rd l0_0 x6_1) * t313)))) + x7_2)) 4294967296)) (wrap64 (x8_2 + 1)) l0_0 l1_0) = some r := H
              have A42 := A_ A420;clear A420
              obtain ⟨y314, hy314⟩ : ∃ y_ : List Int, y_ = (x5_2.set ((ji37) : Int).toNat (Int.tmod (IntKind.u64.wrap ((IntKind.u64.wrap ((rd x5_2 (ji37)) + (IntKind.u64.wrap ((rd l0_0 x6_1) * t313)))) + x7_2)) 4294967296)) := ⟨_, rfl⟩
              replace H : (r1_Mul.l1 k2 y314 x6_1 (IntKind.u64.wrap (Int.tdiv (IntKind.u64.wrap ((IntKind.u64.wrap ((rd x5_2 (ji37)) + (IntKind.u64.wrap ((rd l0_0 x6_1) * t313)))) + x7_2)) 4294967296)) (wrap64 (x8_2 + 1)) l0_0 l1_0) = some r := by first | (rw [hy314]; with_reducible exact H) | (have H2_ := (Option.bind_some _ _).symm.trans H; rw [hy314]; with_reducible exact H2_) | (have H2_ := (Option.bind_some _ _).symm.trans H; with_reducible exact H2_) | with_reducible exact H | (rw [hy314]; exact H) | exact H
              have Ny314 := A_ hy314;clear hy314
              have H' := A_ H
              clear H
              have hnb44 := NB299_298.out
              have hnc44 := NB298_299.out
              have hnb45 := NB299_300.out
              have hnc45 := NB300_299.out
              have hcz46_0 := bv_ BK299.out 0
              have hfz46_0 := blk_frozen BK299.out 0
              obtain ⟨Ao47, co47, eo47⟩ := Kd.R_slice HO_5.out
              subst eo47
              have p311 : 0 ≤ ((ji37) : Int) := of_decide_eq_true (by first | (with_reducible assumption) | assumption)
              have q311 : (ji37) < (x5_2.length : Int) := of_decide_eq_true (by first | (with_reducible assumption) | assumption)
              obtain ⟨ad311, e311, hx311_0⟩ := Kd.at_int (Kd.R_reads' HO_5.out).2.2 (ji37) p311 q311
              cases e311
              replace p311 := eq_true p311
              replace q311 := eq_true q311
              have hnb48 := NB298_300.out
              have hnc48 := NB300_298.out
              have hcz49_0 := bv_ BK298.out 0
              have hfz49_0 := blk_frozen BK298.out 0
              have p312 : 0 ≤ (x6_1 : Int) := of_decide_eq_true (by first | (with_reducible assumption) | assumption)
              have q312 : x6_1 < (l0_0.length : Int) := of_decide_eq_true (by first | (with_reducible assumption) | assumption)
              obtain ⟨ad312, e312, hx312_0⟩ := Kd.at_int HR0_0.out x6_1 p312 q312
              cases e312
              replace hx312_0 := (HB.out.cell (World.block_lt_of_cell? w _ hx312_0)).trans hx312_0
              replace p312 := eq_true p312
              replace q312 := eq_true q312
              go_wp2_with (first | (go_at_call 70; (with_reducible refine (r1_at.calls _ _ l1_0 x8_2 t313 _ ?side1 ?side2 A42.out).mono ?_); (case side1 => exact cs_ ((Kd.C_below HR1_0.out HB.out))); (case side2 => exact HC1_0.out); rintro e w' ⟨rfl, ⟨nd, rfl⟩⟩; (try first | exact ⟨rfl, _, World.drewN_drewN _ _ _⟩ | exact ⟨rfl, _, Eq.trans (World.drewN_drewN _ _ _) (congrArg (World.drewN _) (Nat.add_assoc _ _ _))⟩); have p43 : 0 ≤ ((ji37) : Int) := of_decide_eq_true (by first | (with_reducible assumption) | assumption); have q43 : ((ji37) : Int) < ((x5_2.length : Int) : Int) := of_decide_eq_true (by first | (with_reducible assumption) | assumption); obtain ⟨go43, co43, eo43, gb43, gl43, cl43, HG43⟩ := Kd.R_form HO_5.out (by omega); (first | cases eo43 | (injection eo43 with ea_ en_ ec_; (first | subst ea_ | (injection ea_ with ea_; subst ea_)); subst ec_; clear en_)); have GB43 := A_ gb43; have GG43 := A_ HG43; clear gb43 gl43 HG43; (first | simp only [add_plain] at hx311_0 | skip); obtain ⟨hx43_0, hf43_0⟩ := Kd.R_celln 0 HO_5.out ((ji37) : Int) p43 q43; replace p43 := eq_true p43; replace q43 := eq_true q43; obtain ⟨hy50_, hz50_⟩ := Kd.R_celln 0 HO_5.out ((ji37) : Int) (of_decide_eq_true (by first | (with_reducible assumption) | assumption)) (of_decide_eq_true (by first | (with_reducible assumption) | assumption)); have HP50 := Kd.R_putg HO_5.out ((ji37) : Int) (Int.tmod (IntKind.u64.wrap ((IntKind.u64.wrap ((rd x5_2 (ji37)) + (IntKind.u64.wrap ((rd l0_0 x6_1) * t313)))) + x7_2)) 4294967296)) | ((with_reducible refine gate_store (t := 22) (p := 62) rfl ?_); (try (rw [drewN_self wr]; generalize hq_ : World.drewN wr _ = wr; have n0_ := A_ (Kd.R_at hq_ HO_5.out); have n1_ := A_ (blk_at hq_ BK298.out); have n2_ := A_ (blk_at hq_ BK299.out); have n3_ := A_ (blk_at hq_ BK300.out); have n4_ := A_ (below_at hq_ HB.out); clear hq_ HO_5 BK298 BK299 BK300 HB; have HO_5 := n0_; have BK298 := n1_; have BK299 := n2_; have BK300 := n3_; have HB := n4_; clear n0_ n1_ n2_ n3_ n4_; (try (obtain ⟨hy50_, hz50_⟩ := Kd.R_celln 0 HO_5.out ((ji37) : Int) (of_decide_eq_true (by first | (with_reducible assumption) | assumption)) (of_decide_eq_true (by first | (with_reducible assumption) | assumption)))); (try (have HP50 := Kd.R_putg HO_5.out ((ji37) : Int) (Int.tmod (IntKind.u64.wrap ((IntKind.u64.wrap ((rd x5_2 (ji37)) + (IntKind.u64.wrap ((rd l0_0 x6_1) * t313)))) + x7_2)) 4294967296))))); refine store_event (t := 22) (p := 62) (v := ?vo_w51) (w1 := (wr.setCell ⟨go43, ((ji37) : Int).toNat, none⟩ (.int .u64 (Int.tmod (IntKind.u64.wrap ((IntKind.u64.wrap ((rd x5_2 (ji37)) + (IntKind.u64.wrap ((rd l0_0 x6_1) * t313)))) + x7_2)) 4294967296)))) ?hg ?ho ?hn ?hr ?_; (case ho => rfl); (case hg => rfl); (case hn => rfl); (case hr => first | (go_simp; done) | (go_simp; rfl)); intro w51 hw; have hg : wr.grownBy w51 (some go43) := (by rw [hw]; exact HP50.2); have hp_ : Kd.R (Kd.int .u64) 22 w51 w.heap.size (fun _ => True) (.slice (some ⟨go43, 0, none⟩) x5_2.length co47) y314 := (by rw [hw, Ny314.out]; exact HP50.1); clear HP50; replace BK298 := A_ (blk_grown (g := gb298) (o := .cells #[.slice (some ad312) l0_0.length c0_0] 53 (0, 0)) (bk_ BK298.out) hg (Kd.R_ne HO_5.out BK298.out (by decide))); replace BK299 := A_ (blk_grown (g := gb299) (o := .cells #[.slice A1_0 l1_0.length c1_0] 53 (0, 0)) (bk_ BK299.out) hg (Kd.R_ne HO_5.out BK299.out (by decide))); replace BK300 := A_ (blk_grown (g := gb300) (o := .cells #[.slice none 0 0] 53 (0, 0)) (bk_ BK300.out) hg (Kd.R_ne HO_5.out BK300.out (by decide))); replace HO_5 := A_ (hp_); replace HB := A_ ((by rw [hw]; exact below_set (HB.out) GB43.out : Below w.heap.size w w51)); clear hg hw hp_))
              repeat (go_quiet (first | (go_at_call 70; (with_reducible refine (r1_at.calls _ _ l1_0 x8_2 t313 _ ?side1 ?side2 A42.out).mono ?_); (case side1 => exact cs_ ((Kd.C_below HR1_0.out HB.out))); (case side2 => exact HC1_0.out); rintro e w' ⟨rfl, ⟨nd, rfl⟩⟩; (try first | exact ⟨rfl, _, World.drewN_drewN _ _ _⟩ | exact ⟨rfl, _, Eq.trans (World.drewN_drewN _ _ _) (congrArg (World.drewN _) (Nat.add_assoc _ _ _))⟩); have p43 : 0 ≤ ((ji37) : Int) := of_decide_eq_true (by first | (with_reducible assumption) | assumption); have q43 : ((ji37) : Int) < ((x5_2.length : Int) : Int) := of_decide_eq_true (by first | (with_reducible assumption) | assumption); obtain ⟨go43, co43, eo43, gb43, gl43, cl43, HG43⟩ := Kd.R_form HO_5.out (by omega); (first | cases eo43 | (injection eo43 with ea_ en_ ec_; (first | subst ea_ | (injection ea_ with ea_; subst ea_)); subst ec_; clear en_)); have GB43 := A_ gb43; have GG43 := A_ HG43; clear gb43 gl43 HG43; (first | simp only [add_plain] at hx311_0 | skip); obtain ⟨hx43_0, hf43_0⟩ := Kd.R_celln 0 HO_5.out ((ji37) : Int) p43 q43; replace p43 := eq_true p43; replace q43 := eq_true q43; obtain ⟨hy50_, hz50_⟩ := Kd.R_celln 0 HO_5.out ((ji37) : Int) (of_decide_eq_true (by first | (with_reducible assumption) | assumption)) (of_decide_eq_true (by first | (with_reducible assumption) | assumption)); have HP50 := Kd.R_putg HO_5.out ((ji37) : Int) (Int.tmod (IntKind.u64.wrap ((IntKind.u64.wrap ((rd x5_2 (ji37)) + (IntKind.u64.wrap ((rd l0_0 x6_1) * t313)))) + x7_2)) 4294967296)) | ((with_reducible refine gate_store (t := 22) (p := 62) rfl ?_); (try (rw [drewN_self wr]; generalize hq_ : World.drewN wr _ = wr; have n0_ := A_ (Kd.R_at hq_ HO_5.out); have n1_ := A_ (blk_at hq_ BK298.out); have n2_ := A_ (blk_at hq_ BK299.out); have n3_ := A_ (blk_at hq_ BK300.out); have n4_ := A_ (below_at hq_ HB.out); clear hq_ HO_5 BK298 BK299 BK300 HB; have HO_5 := n0_; have BK298 := n1_; have BK299 := n2_; have BK300 := n3_; have HB := n4_; clear n0_ n1_ n2_ n3_ n4_; (try (obtain ⟨hy50_, hz50_⟩ := Kd.R_celln 0 HO_5.out ((ji37) : Int) (of_decide_eq_true (by first | (with_reducible assumption) | assumption)) (of_decide_eq_true (by first | (with_reducible assumption) | assumption)))); (try (have HP50 := Kd.R_putg HO_5.out ((ji37) : Int) (Int.tmod (IntKind.u64.wrap ((IntKind.u64.wrap ((rd x5_2 (ji37)) + (IntKind.u64.wrap ((rd l0_0 x6_1) * t313)))) + x7_2)) 4294967296))))); refine store_event (t := 22) (p := 62) (v := ?vo_w51) (w1 := (wr.setCell ⟨go43, ((ji37) : Int).toNat, none⟩ (.int .u64 (Int.tmod (IntKind.u64.wrap ((IntKind.u64.wrap ((rd x5_2 (ji37)) + (IntKind.u64.wrap ((rd l0_0 x6_1) * t313)))) + x7_2)) 4294967296)))) ?hg ?ho ?hn ?hr ?_; (case ho => rfl); (case hg => rfl); (case hn => rfl); (case hr => first | (go_simp; done) | (go_simp; rfl)); intro w51 hw; have hg : wr.grownBy w51 (some go43) := (by rw [hw]; exact HP50.2); have hp_ : Kd.R (Kd.int .u64) 22 w51 w.heap.size (fun _ => True) (.slice (some ⟨go43, 0, none⟩) x5_2.length co47) y314 := (by rw [hw, Ny314.out]; exact HP50.1); clear HP50; replace BK298 := A_ (blk_grown (g := gb298) (o := .cells #[.slice (some ad312) l0_0.length c0_0] 53 (0, 0)) (bk_ BK298.out) hg (Kd.R_ne HO_5.out BK298.out (by decide))); replace BK299 := A_ (blk_grown (g := gb299) (o := .cells #[.slice A1_0 l1_0.length c1_0] 53 (0, 0)) (bk_ BK299.out) hg (Kd.R_ne HO_5.out BK299.out (by decide))); replace BK300 := A_ (blk_grown (g := gb300) (o := .cells #[.slice none 0 0] 53 (0, 0)) (bk_ BK300.out) hg (Kd.R_ne HO_5.out BK300.out (by decide))); replace HO_5 := A_ (hp_); replace HB := A_ ((by rw [hw]; exact below_set (HB.out) GB43.out : Below w.heap.size w w51)); clear hg hw hp_)); try go_wp2_with (first | (go_at_call 70; (with_reducible refine (r1_at.calls _ _ l1_0 x8_2 t313 _ ?side1 ?side2 A42.out).mono ?_); (case side1 => exact cs_ ((Kd.C_below HR1_0.out HB.out))); (case side2 => exact HC1_0.out); rintro e w' ⟨rfl, ⟨nd, rfl⟩⟩; (try first | exact ⟨rfl, _, World.drewN_drewN _ _ _⟩ | exact ⟨rfl, _, Eq.trans (World.drewN_drewN _ _ _) (congrArg (World.drewN _) (Nat.add_assoc _ _ _))⟩); have p43 : 0 ≤ ((ji37) : Int) := of_decide_eq_true (by first | (with_reducible assumption) | assumption); have q43 : ((ji37) : Int) < ((x5_2.length : Int) : Int) := of_decide_eq_true (by first | (with_reducible assumption) | assumption); obtain ⟨go43, co43, eo43, gb43, gl43, cl43, HG43⟩ := Kd.R_form HO_5.out (by omega); (first | cases eo43 | (injection eo43 with ea_ en_ ec_; (first | subst ea_ | (injection ea_ with ea_; subst ea_)); subst ec_; clear en_)); have GB43 := A_ gb43; have GG43 := A_ HG43; clear gb43 gl43 HG43; (first | simp only [add_plain] at hx311_0 | skip); obtain ⟨hx43_0, hf43_0⟩ := Kd.R_celln 0 HO_5.out ((ji37) : Int) p43 q43; replace p43 := eq_true p43; replace q43 := eq_true q43; obtain ⟨hy50_, hz50_⟩ := Kd.R_celln 0 HO_5.out ((ji37) : Int) (of_decide_eq_true (by first | (with_reducible assumption) | assumption)) (of_decide_eq_true (by first | (with_reducible assumption) | assumption)); have HP50 := Kd.R_putg HO_5.out ((ji37) : Int) (Int.tmod (IntKind.u64.wrap ((IntKind.u64.wrap ((rd x5_2 (ji37)) + (IntKind.u64.wrap ((rd l0_0 x6_1) * t313)))) + x7_2)) 4294967296)) | ((with_reducible refine gate_store (t := 22) (p := 62) rfl ?_); (try (rw [drewN_self wr]; generalize hq_ : World.drewN wr _ = wr; have n0_ := A_ (Kd.R_at hq_ HO_5.out); have n1_ := A_ (blk_at hq_ BK298.out); have n2_ := A_ (blk_at hq_ BK299.out); have n3_ := A_ (blk_at hq_ BK300.out); have n4_ := A_ (below_at hq_ HB.out); clear hq_ HO_5 BK298 BK299 BK300 HB; have HO_5 := n0_; have BK298 := n1_; have BK299 := n2_; have BK300 := n3_; have HB := n4_; clear n0_ n1_ n2_ n3_ n4_; (try (obtain ⟨hy50_, hz50_⟩ := Kd.R_celln 0 HO_5.out ((ji37) : Int) (of_decide_eq_true (by first | (with_reducible assumption) | assumption)) (of_decide_eq_true (by first | (with_reducible assumption) | assumption)))); (try (have HP50 := Kd.R_putg HO_5.out ((ji37) : Int) (Int.tmod (IntKind.u64.wrap ((IntKind.u64.wrap ((rd x5_2 (ji37)) + (IntKind.u64.wrap ((rd l0_0 x6_1) * t313)))) + x7_2)) 4294967296))))); refine store_event (t := 22) (p := 62) (v := ?vo_w51) (w1 := (wr.setCell ⟨go43, ((ji37) : Int).toNat, none⟩ (.int .u64 (Int.tmod (IntKind.u64.wrap ((IntKind.u64.wrap ((rd x5_2 (ji37)) + (IntKind.u64.wrap ((rd l0_0 x6_1) * t313)))) + x7_2)) 4294967296)))) ?hg ?ho ?hn ?hr ?_; (case ho => rfl); (case hg => rfl); (case hn => rfl); (case hr => first | (go_simp; done) | (go_simp; rfl)); intro w51 hw; have hg : wr.grownBy w51 (some go43) := (by rw [hw]; exact HP50.2); have hp_ : Kd.R (Kd.int .u64) 22 w51 w.heap.size (fun _ => True) (.slice (some ⟨go43, 0, none⟩) x5_2.length co47) y314 := (by rw [hw, Ny314.out]; exact HP50.1); clear HP50; replace BK298 := A_ (blk_grown (g := gb298) (o := .cells #[.slice (some ad312) l0_0.length c0_0] 53 (0, 0)) (bk_ BK298.out) hg (Kd.R_ne HO_5.out BK298.out (by decide))); replace BK299 := A_ (blk_grown (g := gb299) (o := .cells #[.slice A1_0 l1_0.length c1_0] 53 (0, 0)) (bk_ BK299.out) hg (Kd.R_ne HO_5.out BK299.out (by decide))); replace BK300 := A_ (blk_grown (g := gb300) (o := .cells #[.slice none 0 0] 53 (0, 0)) (bk_ BK300.out) hg (Kd.R_ne HO_5.out BK300.out (by decide))); replace HO_5 := A_ (hp_); replace HB := A_ ((by rw [hw]; exact below_set (HB.out) GB43.out : Below w.heap.size w w51)); clear hg hw hp_)))
              go_roundg k2
              case measure => have := HK1.out; have := HK2.out; omega
              case rel => exact ⟨(y314), (IntKind.u64.wrap (Int.tdiv (IntKind.u64.wrap ((IntKind.u64.wrap ((rd x5_2 (ji37)) + (IntKind.u64.wrap ((rd l0_0 x6_1) * t313)))) + x7_2)) 4294967296)), (wrap64 (x8_2 + 1)), (by first | rfl | (simp; done) | (simp only [← hji37] <;> (first | rfl | simp)) | (simp [*]; done)), sm_, H', ⟨by have := HK1.out; have := HK2.out; omega⟩, ⟨by (with_reducible repeat (first | apply Kd.R_alloc | apply Kd.R_drewN | apply Kd.R_drew)); exact HO_5.out⟩, ⟨bk_ BK298.out⟩, ⟨bk_ BK299.out⟩, ⟨bk_ BK300.out⟩, ⟨hb3_ HB.out GE298.out GE299.out GE300.out⟩⟩
             ·rw [if_neg c41] at H
              exact absurd H (by simp)
            ·rw [if_neg c40] at H
             exact absurd H (by simp)
           ·rw [if_neg c39] at H
            exact absurd H (by simp)
          ·rw [if_neg c38] at H
           exact absurd H (by simp)
         ·rw [if_neg c36] at H
          have c36b0 : decide (0 < x7_2) = false := decide_eq_false c36
          clear c36
          have H' := A_ H
          clear H
          have hnb52 := NB299_298.out
          have hnc52 := NB298_299.out
          have hnb53 := NB299_300.out
          have hnc53 := NB300_299.out
          have hcz54_0 := bv_ BK299.out 0
          have hfz54_0 := blk_frozen BK299.out 0
          go_wp2
          repeat (go_quiet (fail); try go_wp2)
          go_roundg k2
          case measure => have := HK1.out; have := HK2.out; omega
          case rel => exact ⟨(x5_2), (wrap64 (x6_1 + 1)), sm_, H', ⟨by have := HK1.out; have := HK2.out; omega⟩, ⟨by (with_reducible repeat (first | apply Kd.R_alloc | apply Kd.R_drewN | apply Kd.R_drew)); exact HO_5.out⟩, ⟨bk_ BK298.out⟩, ⟨bk_ BK299.out⟩, ⟨bk_ BK300.out⟩, ⟨hb3_ HB.out GE298.out GE299.out GE300.out⟩⟩
     ·rw [if_neg c16] at H
      have c16b0 : decide (x6_1 < (l0_0.length : Int)) = false := decide_eq_false c16
      clear c16
      replace H := ob_ H
      obtain ⟨t304, A550, H⟩ := H
      replace H : (some t304) = some r := H
      have A55 := A_ A550;clear A550
      obtain rfl := Option.some.inj H
      have hnb56 := NB298_299.out
      have hnc56 := NB299_298.out
      have hnb57 := NB298_300.out
      have hnc57 := NB300_298.out
      have hcz58_0 := bv_ BK298.out 0
      have hfz58_0 := blk_frozen BK298.out 0
      obtain ⟨Ao59, co59, eo59⟩ := Kd.R_slice HO_5.out
      subst eo59
      go_wp2_with (first | (go_at_call 71; (with_reducible refine (r1_trim.calls k1 (fun k_ => some k_ = (.slice Ao59 x5_1.length co59 : Value).ownBlock) (.slice Ao59 x5_1.length co59) x5_1 t304 w _ ?side1 ?side2 A55.out).mono ?_); (case side1 => exact hb3_ HB.out GE298.out GE299.out GE300.out); (case side2 => exact Kd.R_tight rfl HO_5.out); rintro e w60 ⟨v305, rfl, ho0, hb, hkp⟩; have n0_ := A_ (blk_kept (bk_ BK298.out) hkp (fun hs_ => (fun e_ => (Kd.R_ne HO_5.out BK298.out (by decide)) e_) hs_)); have n1_ := A_ (blk_kept (bk_ BK299.out) hkp (fun hs_ => (fun e_ => (Kd.R_ne HO_5.out BK299.out (by decide)) e_) hs_)); have n2_ := A_ (blk_kept (bk_ BK300.out) hkp (fun hs_ => (fun e_ => (Kd.R_ne HO_5.out BK300.out (by decide)) e_) hs_)); have n3_ := A_ (Kd.R_mono (ok' := fun k_ => True) ho0 (fun k_ hk_ => trivial)); have n4_ := A_ (hb); clear BK298; clear BK299; clear BK300; clear HB; clear HO_5; have BK298 := n0_; have BK299 := n1_; have BK300 := n2_; have HO306 := n3_; have HB := n4_; clear n0_ n1_ n2_ n3_ n4_; (try clear hb); (try clear hkp); (try clear ho0); obtain ⟨Ao61, co61, eo61⟩ := Kd.R_slice HO306.out; subst eo61; have hnb62 := NB300_299.out; have hnc62 := NB299_300.out; have hcz63_0 := bv_ BK300.out 0; have hfz63_0 := blk_frozen BK300.out 0))
      repeat (go_quiet (first | (go_at_call 71; (with_reducible refine (r1_trim.calls k1 (fun k_ => some k_ = (.slice Ao59 x5_1.length co59 : Value).ownBlock) (.slice Ao59 x5_1.length co59) x5_1 t304 w _ ?side1 ?side2 A55.out).mono ?_); (case side1 => exact hb3_ HB.out GE298.out GE299.out GE300.out); (case side2 => exact Kd.R_tight rfl HO_5.out); rintro e w60 ⟨v305, rfl, ho0, hb, hkp⟩; have n0_ := A_ (blk_kept (bk_ BK298.out) hkp (fun hs_ => (fun e_ => (Kd.R_ne HO_5.out BK298.out (by decide)) e_) hs_)); have n1_ := A_ (blk_kept (bk_ BK299.out) hkp (fun hs_ => (fun e_ => (Kd.R_ne HO_5.out BK299.out (by decide)) e_) hs_)); have n2_ := A_ (blk_kept (bk_ BK300.out) hkp (fun hs_ => (fun e_ => (Kd.R_ne HO_5.out BK300.out (by decide)) e_) hs_)); have n3_ := A_ (Kd.R_mono (ok' := fun k_ => True) ho0 (fun k_ hk_ => trivial)); have n4_ := A_ (hb); clear BK298; clear BK299; clear BK300; clear HB; clear HO_5; have BK298 := n0_; have BK299 := n1_; have BK300 := n2_; have HO306 := n3_; have HB := n4_; clear n0_ n1_ n2_ n3_ n4_; (try clear hb); (try clear hkp); (try clear ho0); obtain ⟨Ao61, co61, eo61⟩ := Kd.R_slice HO306.out; subst eo61; have hnb62 := NB300_299.out; have hnc62 := NB299_300.out; have hcz63_0 := bv_ BK300.out 0; have hfz63_0 := blk_frozen BK300.out 0)); try go_wp2_with (first | (go_at_call 71; (with_reducible refine (r1_trim.calls k1 (fun k_ => some k_ = (.slice Ao59 x5_1.length co59 : Value).ownBlock) (.slice Ao59 x5_1.length co59) x5_1 t304 w _ ?side1 ?side2 A55.out).mono ?_); (case side1 => exact hb3_ HB.out GE298.out GE299.out GE300.out); (case side2 => exact Kd.R_tight rfl HO_5.out); rintro e w60 ⟨v305, rfl, ho0, hb, hkp⟩; have n0_ := A_ (blk_kept (bk_ BK298.out) hkp (fun hs_ => (fun e_ => (Kd.R_ne HO_5.out BK298.out (by decide)) e_) hs_)); have n1_ := A_ (blk_kept (bk_ BK299.out) hkp (fun hs_ => (fun e_ => (Kd.R_ne HO_5.out BK299.out (by decide)) e_) hs_)); have n2_ := A_ (blk_kept (bk_ BK300.out) hkp (fun hs_ => (fun e_ => (Kd.R_ne HO_5.out BK300.out (by decide)) e_) hs_)); have n3_ := A_ (Kd.R_mono (ok' := fun k_ => True) ho0 (fun k_ hk_ => trivial)); have n4_ := A_ (hb); clear BK298; clear BK299; clear BK300; clear HB; clear HO_5; have BK298 := n0_; have BK299 := n1_; have BK300 := n2_; have HO306 := n3_; have HB := n4_; clear n0_ n1_ n2_ n3_ n4_; (try clear hb); (try clear hkp); (try clear ho0); obtain ⟨Ao61, co61, eo61⟩ := Kd.R_slice HO306.out; subst eo61; have hnb62 := NB300_299.out; have hnc62 := NB299_300.out; have hcz63_0 := bv_ BK300.out 0; have hfz63_0 := blk_frozen BK300.out 0)))
      refine bodyPost_ret (results_cell_row rfl _ _ gb300 53 #[.slice Ao61 t304.length co61] (0, 0) _ rfl (by (with_reducible repeat (first | refine blk_drewN ?_ _ | refine blk_drew ?_ | refine blk_alloc ?_ _)); refine blk_put (cs := #[.slice none 0 0]) ?_ 0 _ rfl; (with_reducible repeat (first | refine blk_drewN ?_ _ | refine blk_drew ?_ | refine blk_alloc ?_ _)); exact BK300.out) Try.underlying53 rfl (by kernel_rfl)) rfl ?_
      exact ⟨_, by first | rfl | (simp [errW_none, errW_some] <;> rfl) | (simp only [← hji3]; first | rfl | (simp [errW_none, errW_some] <;> rfl)) | (simp [*, errW_none, errW_some] <;> rfl), by (with_reducible repeat (first | apply Kd.R_alloc | apply Kd.R_drewN | apply Kd.R_drew)); exact Kd.R_mono (Kd.R_far (p := ⟨gb300, 0, none⟩) (Kd.R_types HO306.out BK300.out (by decide)) (fun _ hk => hk.2) (.slice Ao61 t304.length co61)) (fun _ hk => trivial), hb3_ HB.out GE298.out GE299.out GE300.out⟩
  ·rw [if_neg c5] at H
   exact absurd H (by simp)
 ·rw [if_neg c4] at H
  exact absurd H (by simp)
def r1_Cmp.l0 : Nat → Int → List Int → List Int → Option (Int)
 | 0, _, _, _ => none
 | k + 1, x5, x316000, x317000 => if x5 ≥ 0 then ((r1_at.f x316000 x5).bind fun t317 => ((r1_at.f x317000 x5).bind fun t318 => (if t317 < t318 then (some (-1)) else (if t317 > t318 then (some 1) else (r1_Cmp.l0 k (wrap64 (x5 - 1)) x316000 x317000))))) else (some 0)
def r1_Cmp.f (k : Nat) (l0_0 : List Int) (l1_0 : List Int) : Option (Int) := r1_Cmp.l0 k (wrap64 ((mx (l0_0.length : Int) (l1_0.length : Int)) - 1)) l0_0 l1_0
theorem r1_Cmp.mono_l : ∀ k, (∀ y0 y1 y2, LeO (r1_Cmp.l0 k y0 y1 y2) (r1_Cmp.l0 (k + 1) y0 y1 y2))
 | 0 => fun _ _ _ r h => by simp [r1_Cmp.l0] at h
 | k + 1 => by
  have ih0 := r1_Cmp.mono_l k
  ·intro y0 y1 y2
   unfold r1_Cmp.l0
   repeat' first
   | (with_reducible exact ih0 _ _ _)
   | (with_reducible exact LeO.refl _)
   | (with_reducible exact LeO.none _)
   | (with_reducible refine LeO.ite ?_ ?_)
   | (with_reducible refine LeO.bind ?_ (fun _ => ?_))
   | exact ih0 _ _ _
   | exact LeO.none _
   | refine LeO.ite ?_ ?_
   | refine LeO.bind ?_ (fun _ => ?_)
theorem r1_Cmp.mono : ∀ a0 a1 k, LeO (r1_Cmp.f k a0 a1) (r1_Cmp.f (k + 1) a0 a1) := by
 intro a0 a1 k
 have ih0 := r1_Cmp.mono_l k
 unfold r1_Cmp.f
 repeat' first
   | (with_reducible exact ih0 _ _ _)
   | (with_reducible exact LeO.refl _)
   | (with_reducible exact LeO.none _)
   | (with_reducible refine LeO.ite ?_ ?_)
   | (with_reducible refine LeO.bind ?_ (fun _ => ?_))
   | exact ih0 _ _ _
   | exact LeO.none _
   | refine LeO.ite ?_ ?_
   | refine LeO.bind ?_ (fun _ => ?_)
theorem r1_Cmp.calls (k : Nat) (A0_0 : Option Addr) (c0_0 : Nat) (l0_0 : List Int) (A1_0 : Option Addr) (c1_0 : Nat) (l1_0 : List Int) (r : Int) (w : World) (hr0_0 : Kd.C (Kd.int .u64) w A0_0 l0_0.length l0_0) (hc0_0 : l0_0.length ≤ c0_0) (hr1_0 : Kd.C (Kd.int .u64) w A1_0 l1_0.length l1_0) (hc1_0 : l1_0.length ≤ c1_0) (h : r1_Cmp.f k l0_0 l1_0 = some r) :
  Calls Try.prog 41 #[.agg #[.slice A0_0 l0_0.length c0_0], .agg #[.slice A1_0 l1_0.length c1_0]] w fun e w' => e = .returned (.int .i64 r) ∧ Below w.heap.size w w' := by
 have hu53 := Try.underlying53
 have HR0_0 := A_ hr0_0;have HC0_0 := A_ hc0_0;clear hr0_0 hc0_0;have HR1_0 := A_ hr1_0;have HC1_0 := A_ hc1_0;clear hr1_0 hc1_0
 have HB := A_ (Below.refl w.heap.size w)
 have H : (r1_Cmp.l0 k (wrap64 ((mx (l0_0.length : Int) (l1_0.length : Int)) - 1)) l0_0 l1_0) = some r := h
 clear h
 obtain ⟨ji3, hji3⟩ : ∃ j_ : Int, (mx (l0_0.length : Int) (l1_0.length : Int)) = j_ := ⟨_, rfl⟩
 replace H : (r1_Cmp.l0 k (wrap64 ((ji3) - 1)) l0_0 l1_0) = some r := by first | (rw [hji3] at H; exact H) | (simp only [hji3] at H ⊢; exact H)
 (try (have hji3l : 0 ≤ ji3 := by (rw [← hji3]; unfold mx; (repeat' split) <;> omega)))
 (try (have hji3m : 0 ≤ ji3 := by omega))
 have hji3_ : (if (l0_0.length : Int) < (l1_0.length : Int) then (l1_0.length : Int) else (l0_0.length : Int)) = ji3 := hji3
 have hji3n_ : (if l0_0.length < l1_0.length then (l1_0.length : Int) else (l0_0.length : Int)) = ji3 := by have h_ := hji3_; simpa only [Int.ofNat_lt] using h_
 have H' := A_ H
 clear H
 go_enter Try.func41, Try.ntmps41
 go_wp2_with (first | ((with_reducible refine gate_dst (N := 2) rfl ?_); refine be_ 2 #[.slice A0_0 l0_0.length c0_0] 53 ?_; intro gb315 hg w4 hbox hb; have BK315 := A_ (hbox); have GW315 := A_ (sz_ hg (hb_ HB.out)); have GE315 := A_ (sz_ hg (hb_ HB.out)); replace HB := A_ (below_step (hb_ HB.out) hb); clear hb hbox hg) | ((with_reducible refine gate_dst (N := 3) rfl ?_); refine be_ 3 #[.slice A1_0 l1_0.length c1_0] 53 ?_; intro gb316 hg w5 hbox hb; have BK316 := A_ (hbox); have GW316 := A_ (sz_ hg (hb1_ HB.out GE315.out)); have GE316 := A_ (sz_ hg (hb1_ HB.out GE315.out)); have NB315_316 := A_ (nl_ hg BK315.out); have NB316_315 := A_ (ng_ hg BK315.out); replace BK315 := A_ (bb_ BK315.out hb); replace HB := A_ (below_step (hb1_ HB.out GE315.out) hb); clear hb hbox hg; have hnb6 := NB315_316.out; have hnc6 := NB316_315.out; have hcz7_0 := bv_ BK315.out 0; have hfz7_0 := blk_frozen BK315.out 0; have hcz8_0 := bv_ BK316.out 0; have hfz8_0 := blk_frozen BK316.out 0))
 repeat (go_quiet (first | ((with_reducible refine gate_dst (N := 2) rfl ?_); refine be_ 2 #[.slice A0_0 l0_0.length c0_0] 53 ?_; intro gb315 hg w4 hbox hb; have BK315 := A_ (hbox); have GW315 := A_ (sz_ hg (hb_ HB.out)); have GE315 := A_ (sz_ hg (hb_ HB.out)); replace HB := A_ (below_step (hb_ HB.out) hb); clear hb hbox hg) | ((with_reducible refine gate_dst (N := 3) rfl ?_); refine be_ 3 #[.slice A1_0 l1_0.length c1_0] 53 ?_; intro gb316 hg w5 hbox hb; have BK316 := A_ (hbox); have GW316 := A_ (sz_ hg (hb1_ HB.out GE315.out)); have GE316 := A_ (sz_ hg (hb1_ HB.out GE315.out)); have NB315_316 := A_ (nl_ hg BK315.out); have NB316_315 := A_ (ng_ hg BK315.out); replace BK315 := A_ (bb_ BK315.out hb); replace HB := A_ (below_step (hb1_ HB.out GE315.out) hb); clear hb hbox hg; have hnb6 := NB315_316.out; have hnc6 := NB316_315.out; have hcz7_0 := bv_ BK315.out 0; have hfz7_0 := blk_frozen BK315.out 0; have hcz8_0 := bv_ BK316.out 0; have hfz8_0 := blk_frozen BK316.out 0)); try go_wp2_with (first | ((with_reducible refine gate_dst (N := 2) rfl ?_); refine be_ 2 #[.slice A0_0 l0_0.length c0_0] 53 ?_; intro gb315 hg w4 hbox hb; have BK315 := A_ (hbox); have GW315 := A_ (sz_ hg (hb_ HB.out)); have GE315 := A_ (sz_ hg (hb_ HB.out)); replace HB := A_ (below_step (hb_ HB.out) hb); clear hb hbox hg) | ((with_reducible refine gate_dst (N := 3) rfl ?_); refine be_ 3 #[.slice A1_0 l1_0.length c1_0] 53 ?_; intro gb316 hg w5 hbox hb; have BK316 := A_ (hbox); have GW316 := A_ (sz_ hg (hb1_ HB.out GE315.out)); have GE316 := A_ (sz_ hg (hb1_ HB.out GE315.out)); have NB315_316 := A_ (nl_ hg BK315.out); have NB316_315 := A_ (ng_ hg BK315.out); replace BK315 := A_ (bb_ BK315.out hb); replace HB := A_ (below_step (hb1_ HB.out GE315.out) hb); clear hb hbox hg; have hnb6 := NB315_316.out; have hnc6 := NB316_315.out; have hcz7_0 := bv_ BK315.out 0; have hfz7_0 := blk_frozen BK315.out 0; have hcz8_0 := bv_ BK316.out 0; have hfz8_0 := blk_frozen BK316.out 0)))
 go_loopg [5] k (fun kq v5 w' => ∃ (x5_1 : Int), v5 = .int .i64 x5_1 ∧ Aside0 (r1_Cmp.l0 kq x5_1 l0_0 l1_0 = some r) ∧ Aside0 (kq ≤ k) ∧ Aside0 (w'.heap[gb315]? = some (.cells #[(.slice A0_0 l0_0.length c0_0)] 53 (0, 0))) ∧ Aside0 (w'.heap[gb316]? = some (.cells #[(.slice A1_0 l1_0.length c1_0)] 53 (0, 0))) ∧ Aside0 (Below w.heap.size w w'))
 case atStart => exact ⟨(wrap64 ((ji3) - 1)), (by first | rfl | (simp; done) | (simp only [← hji3] <;> (first | rfl | simp)) | (simp [*]; done)), H', ⟨Nat.le_refl _⟩, ⟨bk_ BK315.out⟩, ⟨bk_ BK316.out⟩, ⟨hb2_ HB.out GE315.out GE316.out⟩⟩
 case round =>
  clear H'
  try clear c1
  try clear p2
  try clear c4
  try clear c6
  try clear p6
  try clear hcz7_0
  try clear hcz8_0
  try clear hfz7_0
  try clear hfz8_0
  obtain ⟨x5_1, rfl, HA, HK1, BK315, BK316, HB⟩ := hrel
  cases gk with
  | zero => exact absurd HA.out (by simp [r1_Cmp.l0])
  | succ k1 =>
   have H := HA.out
   clear HA
   simp only [r1_Cmp.l0] at H
   by_cases c9 : x5_1 ≥ 0
   ·rw [if_pos c9] at H
    have c9b0 : decide (0 ≤ x5_1) = true := decide_eq_true c9
    clear c9
    replace H := ob_ H
    obtain ⟨t317, A100, H⟩ := H
    replace H : ((r1_at.f l1_0 x5_1).bind fun t318 => (if t317 < t318 then (some (-1)) else (if t317 > t318 then (some 1) else (r1_Cmp.l0 k1 (wrap64 (x5_1 - 1)) l0_0 l1_0)))) = some r := H
    have A10 := A_ A100;clear A100
    replace H := ob_ H
    obtain ⟨t318, A110, H⟩ := H
    replace H : (if t317 < t318 then (some (-1)) else (if t317 > t318 then (some 1) else (r1_Cmp.l0 k1 (wrap64 (x5_1 - 1)) l0_0 l1_0))) = some r := H
    have A11 := A_ A110;clear A110
    by_cases c12 : t317 < t318
    ·rw [if_pos c12] at H
     have c12b0 : decide (t317 < t318) = true := decide_eq_true c12
     clear c12
     obtain rfl := Option.some.inj H
     have hnb13 := NB315_316.out
     have hnc13 := NB316_315.out
     have hcz14_0 := bv_ BK315.out 0
     have hfz14_0 := blk_frozen BK315.out 0
     go_wp2_with (first | (go_at_call 70; (with_reducible refine (r1_at.calls _ _ l0_0 x5_1 t317 _ ?side1 ?side2 A10.out).mono ?_); (case side1 => exact cs_ ((Kd.C_below HR0_0.out HB.out))); (case side2 => exact HC0_0.out); rintro e w' ⟨rfl, ⟨nd, rfl⟩⟩; (try first | exact ⟨rfl, _, World.drewN_drewN _ _ _⟩ | exact ⟨rfl, _, Eq.trans (World.drewN_drewN _ _ _) (congrArg (World.drewN _) (Nat.add_assoc _ _ _))⟩); have hcz15_0 := bv_ BK316.out 0; have hfz15_0 := blk_frozen BK316.out 0) | (go_at_call 70; (with_reducible refine (r1_at.calls _ _ l1_0 x5_1 t318 _ ?side1 ?side2 A11.out).mono ?_); (case side1 => exact cs_ ((Kd.C_below HR1_0.out (hb2_ HB.out GE315.out GE316.out)))); (case side2 => exact HC1_0.out); rintro e w' ⟨rfl, ⟨nd, rfl⟩⟩; (try first | exact ⟨rfl, _, World.drewN_drewN _ _ _⟩ | exact ⟨rfl, _, Eq.trans (World.drewN_drewN _ _ _) (congrArg (World.drewN _) (Nat.add_assoc _ _ _))⟩)))
     repeat (go_quiet (first | (go_at_call 70; (with_reducible refine (r1_at.calls _ _ l0_0 x5_1 t317 _ ?side1 ?side2 A10.out).mono ?_); (case side1 => exact cs_ ((Kd.C_below HR0_0.out HB.out))); (case side2 => exact HC0_0.out); rintro e w' ⟨rfl, ⟨nd, rfl⟩⟩; (try first | exact ⟨rfl, _, World.drewN_drewN _ _ _⟩ | exact ⟨rfl, _, Eq.trans (World.drewN_drewN _ _ _) (congrArg (World.drewN _) (Nat.add_assoc _ _ _))⟩); have hcz15_0 := bv_ BK316.out 0; have hfz15_0 := blk_frozen BK316.out 0) | (go_at_call 70; (with_reducible refine (r1_at.calls _ _ l1_0 x5_1 t318 _ ?side1 ?side2 A11.out).mono ?_); (case side1 => exact cs_ ((Kd.C_below HR1_0.out (hb2_ HB.out GE315.out GE316.out)))); (case side2 => exact HC1_0.out); rintro e w' ⟨rfl, ⟨nd, rfl⟩⟩; (try first | exact ⟨rfl, _, World.drewN_drewN _ _ _⟩ | exact ⟨rfl, _, Eq.trans (World.drewN_drewN _ _ _) (congrArg (World.drewN _) (Nat.add_assoc _ _ _))⟩))); try go_wp2_with (first | (go_at_call 70; (with_reducible refine (r1_at.calls _ _ l0_0 x5_1 t317 _ ?side1 ?side2 A10.out).mono ?_); (case side1 => exact cs_ ((Kd.C_below HR0_0.out HB.out))); (case side2 => exact HC0_0.out); rintro e w' ⟨rfl, ⟨nd, rfl⟩⟩; (try first | exact ⟨rfl, _, World.drewN_drewN _ _ _⟩ | exact ⟨rfl, _, Eq.trans (World.drewN_drewN _ _ _) (congrArg (World.drewN _) (Nat.add_assoc _ _ _))⟩); have hcz15_0 := bv_ BK316.out 0; have hfz15_0 := blk_frozen BK316.out 0) | (go_at_call 70; (with_reducible refine (r1_at.calls _ _ l1_0 x5_1 t318 _ ?side1 ?side2 A11.out).mono ?_); (case side1 => exact cs_ ((Kd.C_below HR1_0.out (hb2_ HB.out GE315.out GE316.out)))); (case side2 => exact HC1_0.out); rintro e w' ⟨rfl, ⟨nd, rfl⟩⟩; (try first | exact ⟨rfl, _, World.drewN_drewN _ _ _⟩ | exact ⟨rfl, _, Eq.trans (World.drewN_drewN _ _ _) (congrArg (World.drewN _) (Nat.add_assoc _ _ _))⟩))))
     go_ret
     exact ⟨by first | rfl | (simp [errW_none, errW_some] <;> rfl) | (simp only [← hji3]; first | rfl | (simp [errW_none, errW_some] <;> rfl)) | (simp [*, errW_none, errW_some] <;> rfl), hb2_ HB.out GE315.out GE316.out⟩
    ·rw [if_neg c12] at H
     have c12b0 : decide (t317 < t318) = false := decide_eq_false c12
     clear c12
     by_cases c16 : t317 > t318
     ·rw [if_pos c16] at H
      have c16b0 : decide (t318 < t317) = true := decide_eq_true c16
      clear c16
      obtain rfl := Option.some.inj H
      have hnb17 := NB315_316.out
      have hnc17 := NB316_315.out
      have hcz18_0 := bv_ BK315.out 0
      have hfz18_0 := blk_frozen BK315.out 0
      go_wp2_with (first | (go_at_call 70; (with_reducible refine (r1_at.calls _ _ l0_0 x5_1 t317 _ ?side1 ?side2 A10.out).mono ?_); (case side1 => exact cs_ ((Kd.C_below HR0_0.out HB.out))); (case side2 => exact HC0_0.out); rintro e w' ⟨rfl, ⟨nd, rfl⟩⟩; (try first | exact ⟨rfl, _, World.drewN_drewN _ _ _⟩ | exact ⟨rfl, _, Eq.trans (World.drewN_drewN _ _ _) (congrArg (World.drewN _) (Nat.add_assoc _ _ _))⟩); have hcz19_0 := bv_ BK316.out 0; have hfz19_0 := blk_frozen BK316.out 0) | (go_at_call 70; (with_reducible refine (r1_at.calls _ _ l1_0 x5_1 t318 _ ?side1 ?side2 A11.out).mono ?_); (case side1 => exact cs_ ((Kd.C_below HR1_0.out (hb2_ HB.out GE315.out GE316.out)))); (case side2 => exact HC1_0.out); rintro e w' ⟨rfl, ⟨nd, rfl⟩⟩; (try first | exact ⟨rfl, _, World.drewN_drewN _ _ _⟩ | exact ⟨rfl, _, Eq.trans (World.drewN_drewN _ _ _) (congrArg (World.drewN _) (Nat.add_assoc _ _ _))⟩)))
      repeat (go_quiet (first | (go_at_call 70; (with_reducible refine (r1_at.calls _ _ l0_0 x5_1 t317 _ ?side1 ?side2 A10.out).mono ?_); (case side1 => exact cs_ ((Kd.C_below HR0_0.out HB.out))); (case side2 => exact HC0_0.out); rintro e w' ⟨rfl, ⟨nd, rfl⟩⟩; (try first | exact ⟨rfl, _, World.drewN_drewN _ _ _⟩ | exact ⟨rfl, _, Eq.trans (World.drewN_drewN _ _ _) (congrArg (World.drewN _) (Nat.add_assoc _ _ _))⟩); have hcz19_0 := bv_ BK316.out 0; have hfz19_0 := blk_frozen BK316.out 0) | (go_at_call 70; (with_reducible refine (r1_at.calls _ _ l1_0 x5_1 t318 _ ?side1 ?side2 A11.out).mono ?_); (case side1 => exact cs_ ((Kd.C_below HR1_0.out (hb2_ HB.out GE315.out GE316.out)))); (case side2 => exact HC1_0.out); rintro e w' ⟨rfl, ⟨nd, rfl⟩⟩; (try first | exact ⟨rfl, _, World.drewN_drewN _ _ _⟩ | exact ⟨rfl, _, Eq.trans (World.drewN_drewN _ _ _) (congrArg (World.drewN _) (Nat.add_assoc _ _ _))⟩))); try go_wp2_with (first | (go_at_call 70; (with_reducible refine (r1_at.calls _ _ l0_0 x5_1 t317 _ ?side1 ?side2 A10.out).mono ?_); (case side1 => exact cs_ ((Kd.C_below HR0_0.out HB.out))); (case side2 => exact HC0_0.out); rintro e w' ⟨rfl, ⟨nd, rfl⟩⟩; (try first | exact ⟨rfl, _, World.drewN_drewN _ _ _⟩ | exact ⟨rfl, _, Eq.trans (World.drewN_drewN _ _ _) (congrArg (World.drewN _) (Nat.add_assoc _ _ _))⟩); have hcz19_0 := bv_ BK316.out 0; have hfz19_0 := blk_frozen BK316.out 0) | (go_at_call 70; (with_reducible refine (r1_at.calls _ _ l1_0 x5_1 t318 _ ?side1 ?side2 A11.out).mono ?_); (case side1 => exact cs_ ((Kd.C_below HR1_0.out (hb2_ HB.out GE315.out GE316.out)))); (case side2 => exact HC1_0.out); rintro e w' ⟨rfl, ⟨nd, rfl⟩⟩; (try first | exact ⟨rfl, _, World.drewN_drewN _ _ _⟩ | exact ⟨rfl, _, Eq.trans (World.drewN_drewN _ _ _) (congrArg (World.drewN _) (Nat.add_assoc _ _ _))⟩))))
      go_ret
      exact ⟨by first | rfl | (simp [errW_none, errW_some] <;> rfl) | (simp only [← hji3]; first | rfl | (simp [errW_none, errW_some] <;> rfl)) | (simp [*, errW_none, errW_some] <;> rfl), hb2_ HB.out GE315.out GE316.out⟩
     ·rw [if_neg c16] at H
      have c16b0 : decide (t318 < t317) = false := decide_eq_false c16
      clear c16
      have H' := A_ H
      clear H
      have hnb20 := NB315_316.out
      have hnc20 := NB316_315.out
      have hcz21_0 := bv_ BK315.out 0
      have hfz21_0 := blk_frozen BK315.out 0
      go_wp2_with (first | (go_at_call 70; (with_reducible refine (r1_at.calls _ _ l0_0 x5_1 t317 _ ?side1 ?side2 A10.out).mono ?_); (case side1 => exact cs_ ((Kd.C_below HR0_0.out HB.out))); (case side2 => exact HC0_0.out); rintro e w' ⟨rfl, ⟨nd, rfl⟩⟩; (try first | exact ⟨rfl, _, World.drewN_drewN _ _ _⟩ | exact ⟨rfl, _, Eq.trans (World.drewN_drewN _ _ _) (congrArg (World.drewN _) (Nat.add_assoc _ _ _))⟩); have hcz22_0 := bv_ BK316.out 0; have hfz22_0 := blk_frozen BK316.out 0) | (go_at_call 70; (with_reducible refine (r1_at.calls _ _ l1_0 x5_1 t318 _ ?side1 ?side2 A11.out).mono ?_); (case side1 => exact cs_ ((Kd.C_below HR1_0.out (hb2_ HB.out GE315.out GE316.out)))); (case side2 => exact HC1_0.out); rintro e w' ⟨rfl, ⟨nd, rfl⟩⟩; (try first | exact ⟨rfl, _, World.drewN_drewN _ _ _⟩ | exact ⟨rfl, _, Eq.trans (World.drewN_drewN _ _ _) (congrArg (World.drewN _) (Nat.add_assoc _ _ _))⟩)))
      repeat (go_quiet (first | (go_at_call 70; (with_reducible refine (r1_at.calls _ _ l0_0 x5_1 t317 _ ?side1 ?side2 A10.out).mono ?_); (case side1 => exact cs_ ((Kd.C_below HR0_0.out HB.out))); (case side2 => exact HC0_0.out); rintro e w' ⟨rfl, ⟨nd, rfl⟩⟩; (try first | exact ⟨rfl, _, World.drewN_drewN _ _ _⟩ | exact ⟨rfl, _, Eq.trans (World.drewN_drewN _ _ _) (congrArg (World.drewN _) (Nat.add_assoc _ _ _))⟩); have hcz22_0 := bv_ BK316.out 0; have hfz22_0 := blk_frozen BK316.out 0) | (go_at_call 70; (with_reducible refine (r1_at.calls _ _ l1_0 x5_1 t318 _ ?side1 ?side2 A11.out).mono ?_); (case side1 => exact cs_ ((Kd.C_below HR1_0.out (hb2_ HB.out GE315.out GE316.out)))); (case side2 => exact HC1_0.out); rintro e w' ⟨rfl, ⟨nd, rfl⟩⟩; (try first | exact ⟨rfl, _, World.drewN_drewN _ _ _⟩ | exact ⟨rfl, _, Eq.trans (World.drewN_drewN _ _ _) (congrArg (World.drewN _) (Nat.add_assoc _ _ _))⟩))); try go_wp2_with (first | (go_at_call 70; (with_reducible refine (r1_at.calls _ _ l0_0 x5_1 t317 _ ?side1 ?side2 A10.out).mono ?_); (case side1 => exact cs_ ((Kd.C_below HR0_0.out HB.out))); (case side2 => exact HC0_0.out); rintro e w' ⟨rfl, ⟨nd, rfl⟩⟩; (try first | exact ⟨rfl, _, World.drewN_drewN _ _ _⟩ | exact ⟨rfl, _, Eq.trans (World.drewN_drewN _ _ _) (congrArg (World.drewN _) (Nat.add_assoc _ _ _))⟩); have hcz22_0 := bv_ BK316.out 0; have hfz22_0 := blk_frozen BK316.out 0) | (go_at_call 70; (with_reducible refine (r1_at.calls _ _ l1_0 x5_1 t318 _ ?side1 ?side2 A11.out).mono ?_); (case side1 => exact cs_ ((Kd.C_below HR1_0.out (hb2_ HB.out GE315.out GE316.out)))); (case side2 => exact HC1_0.out); rintro e w' ⟨rfl, ⟨nd, rfl⟩⟩; (try first | exact ⟨rfl, _, World.drewN_drewN _ _ _⟩ | exact ⟨rfl, _, Eq.trans (World.drewN_drewN _ _ _) (congrArg (World.drewN _) (Nat.add_assoc _ _ _))⟩))))
      go_roundg k1
      case measure => have := HK1.out; omega
      case rel => exact ⟨(wrap64 (x5_1 - 1)), sm_, H', ⟨by have := HK1.out; omega⟩, ⟨bk_ BK315.out⟩, ⟨bk_ BK316.out⟩, ⟨hb2_ HB.out GE315.out GE316.out⟩⟩
   ·rw [if_neg c9] at H
    have c9b0 : decide (0 ≤ x5_1) = false := decide_eq_false c9
    clear c9
    obtain rfl := Option.some.inj H
    go_wp2
    repeat (go_quiet (fail); try go_wp2)
    go_ret
    exact ⟨by first | rfl | (simp [errW_none, errW_some] <;> rfl) | (simp only [← hji3]; first | rfl | (simp [errW_none, errW_some] <;> rfl)) | (simp [*, errW_none, errW_some] <;> rfl), hb2_ HB.out GE315.out GE316.out⟩
end Go.Proofs.Ytjjehbedpgdhgaa.PA
namespace Dig
def dgB (B n : Nat) : List Int := if _h : n = 0 ∨ B < 2 then [] else ((n % B : Nat) : Int) :: dgB B (n / B)
termination_by n
decreasing_by exact Nat.div_lt_self (by omega) (by omega)
def valB (B : Nat) : List Int → Nat
  | [] => 0
  | d :: l => d.toNat + B * valB B l
def OkB (B : Nat) (l : List Int) : Prop := ∀ d ∈ l, 0 ≤ d ∧ d < B
section
variable {B : Nat}
theorem dgB_zero : dgB B 0 = [] := by rw [dgB, dif_pos (.inl rfl)]
theorem dgB_pos (hB : 2 ≤ B) {n : Nat} (h : 0 < n) : dgB B n = ((n % B : Nat) : Int) :: dgB B (n / B) := by rw [dgB, dif_neg (by omega)]
theorem OkB.nil : OkB B [] := fun _ h => by cases h
theorem OkB.cons {d : Int} {l : List Int} (h : 0 ≤ d ∧ d < B) (k : OkB B l) : OkB B (d :: l) := fun x hx => by
  rcases List.mem_cons.1 hx with rfl | hx
  · exact h
  · exact k x hx
theorem OkB.snoc {d : Int} {l : List Int} (k : OkB B l) (h : 0 ≤ d ∧ d < B) : OkB B (l ++ [d]) := fun x hx => by
  rcases List.mem_append.1 hx with hx | hx
  · exact k x hx
  · rcases List.mem_singleton.1 hx with rfl; exact h
theorem OkB.head {d : Int} {l : List Int} (k : OkB B (d :: l)) : 0 ≤ d ∧ d < B := k d List.mem_cons_self
theorem OkB.tail {d : Int} {l : List Int} (k : OkB B (d :: l)) : OkB B l := fun x hx => k x (List.mem_cons_of_mem _ hx)
theorem OkB.take {l : List Int} (k : OkB B l) (i : Nat) : OkB B (l.take i) := fun x hx => k x (List.mem_of_mem_take hx)
theorem okB_dg (hB : 2 ≤ B) (n : Nat) : OkB B (dgB B n) := by
  induction n using Nat.strongRecOn with
  | _ n ih =>
    rcases Nat.eq_zero_or_pos n with h | h
    · subst h; rw [dgB_zero]; exact OkB.nil
    · rw [dgB_pos hB h]
      refine OkB.cons ⟨by omega, ?_⟩ (ih _ (Nat.div_lt_self h (by omega)))
      have := Nat.mod_lt n (show 0 < B by omega)
      omega
theorem valB_dg (hB : 2 ≤ B) (n : Nat) : valB B (dgB B n) = n := by
  induction n using Nat.strongRecOn with
  | _ n ih =>
    rcases Nat.eq_zero_or_pos n with h | h
    · subst h; rw [dgB_zero]; rfl
    · rw [dgB_pos hB h, valB, ih _ (Nat.div_lt_self h (by omega)), Int.toNat_natCast]
      exact Nat.mod_add_div n B
theorem valB_append (l m : List Int) : valB B (l ++ m) = valB B l + B ^ l.length * valB B m := by
  induction l with
  | nil => simp [valB]
  | cons d l ih =>
    simp only [List.cons_append, valB, ih, List.length_cons, Nat.pow_succ, Nat.mul_add]
    rw [Nat.add_assoc, Nat.mul_comm (B ^ l.length) B, Nat.mul_assoc]
theorem valB_snoc (l : List Int) (d : Int) : valB B (l ++ [d]) = valB B l + B ^ l.length * d.toNat := by rw [valB_append]; simp [valB]
theorem valB_lt {l : List Int} (h : OkB B l) : valB B l < B ^ l.length := by
  induction l with
  | nil => simp [valB]
  | cons d l ih =>
    have h1 := ih h.tail
    have h2 := h.head
    simp only [valB, List.length_cons, Nat.pow_succ]
    have h4 : B * (valB B l + 1) ≤ B * B ^ l.length := Nat.mul_le_mul_left _ h1
    rw [Nat.mul_add, Nat.mul_one, Nat.mul_comm B (B ^ l.length)] at h4
    have : d.toNat < B := by omega
    omega
theorem valB_zeros (n : Nat) : valB B (List.replicate n 0) = 0 := by
  induction n with
  | zero => rfl
  | succ n ih => rw [List.replicate_succ, valB, ih]; simp
theorem okB_zeros (hB : 2 ≤ B) (n : Nat) : OkB B (List.replicate n 0) := fun x hx => by
  rw [List.eq_of_mem_replicate hx]; omega
theorem atB_val (hB : 2 ≤ B) {l : List Int} (h : OkB B l) (i : Nat) : (l.getD i 0).toNat = valB B l / B ^ i % B := by
  induction l generalizing i with
  | nil => simp [valB]
  | cons d l ih =>
    have h2 := h.head
    have h3 : d.toNat < B := by omega
    cases i with
    | zero =>
      simp only [List.getD_cons_zero, valB, Nat.pow_zero, Nat.div_one, Nat.add_mul_mod_self_left]
      rw [Nat.mod_eq_of_lt h3]
    | succ i =>
      simp only [List.getD_cons_succ, valB]
      rw [ih h.tail, Nat.pow_succ, Nat.mul_comm (B ^ i) B, ← Nat.div_div_eq_div_mul, Nat.add_mul_div_left _ _ (show 0 < B by omega), Nat.div_eq_of_lt h3, Nat.zero_add]
theorem okB_getD (hB : 2 ≤ B) {l : List Int} (h : OkB B l) (i : Nat) : 0 ≤ l.getD i 0 ∧ l.getD i 0 < B := by
  rcases Nat.lt_or_ge i l.length with hi | hi
  · rw [List.getD_eq_getElem?_getD, List.getElem?_eq_getElem hi]; exact h _ (List.getElem_mem hi)
  · rw [List.getD_eq_getElem?_getD, List.getElem?_eq_none hi]; simp; omega
theorem getDB_val (hB : 2 ≤ B) {l : List Int} (h : OkB B l) (i : Nat) : l.getD i 0 = ((valB B l / B ^ i % B : Nat) : Int) := by
  have h1 := atB_val hB h i
  have h2 := okB_getD hB h i
  rw [← h1]; omega
theorem lengthB_le (hB : 2 ≤ B) {n k : Nat} (h : n < B ^ k) : (dgB B n).length ≤ k := by
  induction k generalizing n with
  | zero => obtain rfl : n = 0 := by simpa using h
            rw [dgB_zero]; simp
  | succ k ih =>
    rcases Nat.eq_zero_or_pos n with h0 | h0
    · subst h0; rw [dgB_zero]; simp
    · rw [dgB_pos hB h0, List.length_cons]
      have : n / B < B ^ k := by rw [Nat.div_lt_iff_lt_mul (by omega)]; rwa [Nat.pow_succ] at h
      have := ih this
      omega
theorem dgB_val (hB : 2 ≤ B) {l : List Int} (h : OkB B l) (h0 : ∀ d, l.getLast? = some d → d ≠ 0) : dgB B (valB B l) = l := by
  induction l with
  | nil => rw [valB, dgB_zero]
  | cons d l ih =>
    have h2 := h.head
    have h4 : d.toNat < B := by omega
    have h3 : dgB B (valB B l) = l := by
      refine ih h.tail fun e he => ?_
      cases l with
      | nil => cases he
      | cons e' l' => exact h0 e (by rwa [List.getLast?_cons_cons])
    have hp : 0 < valB B (d :: l) := by
      rw [valB]
      rcases Nat.eq_zero_or_pos (valB B l) with hv | hv
      · rw [hv, dgB_zero] at h3
        subst h3
        have := h0 d rfl
        omega
      · have : 1 ≤ B * valB B l := Nat.mul_pos (by omega) hv
        omega
    rw [dgB_pos hB hp, valB, Nat.add_mul_mod_self_left, Nat.add_mul_div_left _ _ (by omega), Nat.mod_eq_of_lt h4, Nat.div_eq_of_lt h4, Nat.zero_add, h3, Int.toNat_of_nonneg h2.1]
theorem valB_set {l : List Int} (h : OkB B l) (i : Nat) (hi : i < l.length) (x : Int) : valB B (l.set i x) + B ^ i * (l.getD i 0).toNat = valB B l + B ^ i * x.toNat := by
  induction l generalizing i with
  | nil => simp at hi
  | cons d l ih =>
    cases i with
    | zero => simp only [List.set_cons_zero, valB, Nat.pow_zero, List.getD_cons_zero, Nat.one_mul]; omega
    | succ i =>
      have h1 := ih h.tail i (by simpa using hi)
      simp only [List.set_cons_succ, valB, List.getD_cons_succ, Nat.pow_succ]
      have h2 := congrArg (B * ·) h1
      simp only [Nat.mul_add] at h2
      rw [Nat.mul_comm (B ^ i) B, Nat.mul_assoc, Nat.mul_assoc]
      omega
theorem okB_set {l : List Int} (h : OkB B l) (i : Nat) (x : Int) (hx : 0 ≤ x ∧ x < B) : OkB B (l.set i x) := fun y hy => by
  rcases List.mem_or_eq_of_mem_set hy with hy | rfl
  · exact h y hy
  · exact hx
theorem modB_succ (n i : Nat) : n % B ^ (i + 1) = n % B ^ i + B ^ i * (n / B ^ i % B) := by
  rw [Nat.pow_succ, Nat.mod_mul]
theorem divB_step (n i : Nat) : n / B ^ i = n / B ^ (i + 1) * B + n / B ^ i % B := by
  rw [Nat.pow_succ, ← Nat.div_div_eq_div_mul]
  have := Nat.div_add_mod (n / B ^ i) B
  rw [Nat.mul_comm] at this
  omega
end
theorem W2 : 2 ≤ 4294967296 := by decide
def dg (n : Nat) : List Int := dgB 4294967296 n
def val (l : List Int) : Nat := valB 4294967296 l
def Ok (l : List Int) : Prop := ∀ d ∈ l, 0 ≤ d ∧ d < 4294967296
theorem Ok.up {l : List Int} (h : Ok l) : OkB 4294967296 l := h
theorem Ok.nil : Ok [] := fun _ h => by cases h
theorem Ok.cons {d : Int} {l : List Int} (h : 0 ≤ d ∧ d < 4294967296) (k : Ok l) : Ok (d :: l) := OkB.cons (B := 4294967296) h k
theorem Ok.snoc {d : Int} {l : List Int} (k : Ok l) (h : 0 ≤ d ∧ d < 4294967296) : Ok (l ++ [d]) := OkB.snoc (B := 4294967296) k h
theorem Ok.take {l : List Int} (k : Ok l) (i : Nat) : Ok (l.take i) := OkB.take (B := 4294967296) k i
theorem ok_set {l : List Int} (h : Ok l) (i : Nat) (x : Int) (hx : 0 ≤ x ∧ x < 4294967296) : Ok (l.set i x) := okB_set (B := 4294967296) h i x hx
theorem ok_zeros (n : Nat) : Ok (List.replicate n 0) := okB_zeros W2 n
theorem ok_dg (n : Nat) : Ok (dg n) := okB_dg W2 n
theorem dg_zero : dg 0 = [] := dgB_zero
theorem val_dg (n : Nat) : val (dg n) = n := valB_dg W2 n
theorem val_nil : val [] = 0 := rfl
theorem val_cons (d : Int) (l : List Int) : val (d :: l) = d.toNat + 4294967296 * val l := rfl
theorem val_snoc (l : List Int) (d : Int) : val (l ++ [d]) = val l + 4294967296 ^ l.length * d.toNat := valB_snoc l d
theorem val_lt {l : List Int} (h : Ok l) : val l < 4294967296 ^ l.length := valB_lt h
theorem val_zeros (n : Nat) : val (List.replicate n 0) = 0 := valB_zeros n
theorem val_set {l : List Int} (h : Ok l) (i : Nat) (hi : i < l.length) (x : Int) : val (l.set i x) + 4294967296 ^ i * (l.getD i 0).toNat = val l + 4294967296 ^ i * x.toNat := valB_set h i hi x
theorem dg_val {l : List Int} (h : Ok l) (h0 : ∀ d, l.getLast? = some d → d ≠ 0) : dg (val l) = l := dgB_val W2 h h0
theorem getD_val {l : List Int} (h : Ok l) (i : Nat) : l.getD i 0 = ((val l / 4294967296 ^ i % 4294967296 : Nat) : Int) := getDB_val W2 h i
theorem getD_dg (n i : Nat) : (dg n).getD i 0 = ((n / 4294967296 ^ i % 4294967296 : Nat) : Int) := by rw [getD_val (ok_dg n), val_dg]
theorem len_le {n k : Nat} (h : n < 4294967296 ^ k) : (dg n).length ≤ k := lengthB_le W2 h
theorem lt_len (n : Nat) : n < 4294967296 ^ (dg n).length := by
  have := val_lt (ok_dg n); rwa [val_dg] at this
theorem lt_of_len {n i : Nat} (h : (dg n).length ≤ i) : n < 4294967296 ^ i := Nat.lt_of_lt_of_le (lt_len n) (Nat.pow_le_pow_right (by decide) h)
theorem mod_len {n i : Nat} (h : (dg n).length ≤ i) : n % 4294967296 ^ i = n := Nat.mod_eq_of_lt (lt_of_len h)
theorem mod_succ (n i : Nat) : n % 4294967296 ^ (i + 1) = n % 4294967296 ^ i + 4294967296 ^ i * (n / 4294967296 ^ i % 4294967296) := modB_succ n i
theorem div_step (n i : Nat) : n / 4294967296 ^ i = n / 4294967296 ^ (i + 1) * 4294967296 + n / 4294967296 ^ i % 4294967296 := divB_step n i
theorem word_lt (n i : Nat) : n / 4294967296 ^ i % 4294967296 < 4294967296 := Nat.mod_lt _ (by decide)
end Dig
section
set_option linter.unusedVariables false
set_option linter.unusedSimpArgs false
namespace Go.Proofs.Ytjjehbedpgdhgaa.Th
open Go.RowKit Go.Proofs.YtjjehbedpgdhgaaW.PrintWords Go.Proofs.YtjjehbedpgdhgaaW.PrintLast Go.Proofs.YtjjehbedpgdhgaaW.PrintMore Go.Proofs.Ytjjehbedpgdhgaa.PA Dig

theorem at_dg (n i : Nat) : r1_at.f (dg n) i = some ((n / 4294967296 ^ i % 4294967296 : Nat) : Int) := by
  unfold r1_at.f
  by_cases h : (i : Int) < ((dg n).length : Int)
  · rw [if_pos h, if_pos (by omega)]
    unfold rd
    rw [Int.toNat_natCast, getD_dg]
  · rw [if_neg h]
    have h1 : n / 4294967296 ^ i = 0 := by
      refine Nat.div_eq_of_lt ?_
      have h1 := val_lt (ok_dg n)
      rw [val_dg] at h1
      exact Nat.lt_of_lt_of_le h1 (Nat.pow_le_pow_right (by decide) (by omega))
    rw [h1]; rfl
theorem trim_from (l : List Int) (hl : Ok l) (hn : l.length < 4611686018427387904) (i : Nat) : i ≤ l.length → val (l.take i) = val l → Ev (fun k => r1_trim.l0 k l i) (dg (val l)) := by
  induction i with
  | zero =>
    intro _ hv
    refine Ev.step (fun _ => r1_trim.l0.eq_2 ..) ?_
    refine Ev.neg (by omega) (Ev.pos (by omega) (Ev.pos (by omega) (Ev.out ?_)))
    rw [← hv]
    simp [val_nil, dg_zero]
  | succ i ih =>
    intro hi hv
    refine Ev.step (fun _ => r1_trim.l0.eq_2 ..) ?_
    have e : wrap64 (((i + 1 : Nat) : Int) - 1) = i := by rw [w64_id (by omega) (by omega)]; omega
    rw [e]
    refine Ev.pos (by omega) (Ev.pos (by omega) (Ev.pos (by omega) ?_))
    have er : rd l (i : Int) = l.getD i 0 := by unfold rd; rw [Int.toNat_natCast]
    rw [er]
    have et : l.take (i + 1) = l.take i ++ [l.getD i 0] := by
      rw [List.take_succ_eq_append_getElem (by omega), List.getD_eq_getElem?_getD, List.getElem?_eq_getElem (by omega)]; rfl
    by_cases h : l.getD i 0 = 0
    · refine Ev.pos h (ih (by omega) ?_)
      rw [et, val_snoc, h] at hv
      simpa using hv
    · refine Ev.neg h (Ev.pos (by omega) (Ev.pos (by omega) (Ev.out ?_)))
      rw [← hv, Int.toNat_natCast]
      refine (dg_val (hl.take _) fun d hd => ?_).symm
      rw [et, List.getLast?_concat] at hd
      injection hd with hd
      rw [← hd]; exact h
theorem trim_val (l : List Int) (hl : Ok l) (hn : l.length < 4611686018427387904) : Ev (fun k => r1_trim.f k l) (dg (val l)) :=
  trim_from l hl hn l.length (Nat.le_refl _) (by rw [List.take_length])

theorem of_dg (n : Nat) (hn : n < 18446744073709551616) : Ev (fun k => r1_Of.f k n) (dg n) := by
  unfold r1_Of.f
  have e1 : Int.tmod (n : Int) 4294967296 = ((n % 4294967296 : Nat) : Int) := by rw [Int.tmod_eq_emod_of_nonneg (by omega)]; omega
  have e2 : IntKind.u64.wrap (Int.tdiv (n : Int) 4294967296) = ((n / 4294967296 : Nat) : Int) := by
    rw [Int.tdiv_eq_ediv_of_nonneg (by omega), u64_id (by omega) (by omega)]; omega
  rw [e1, e2]
  refine Ev.bind (trim_val _ (Ok.cons (by omega) (Ok.cons (by omega) Ok.nil)) (by simp)) (Ev.out ?_)
  congr 1
  simp only [val_cons, val_nil, Int.toNat_natCast]
  omega


theorem shl_l2 (m q u : Nat) (hq : q < 1000000000) (hu : u ≤ 2147483648) (hu0 : 0 < u) (hm : (dg m).length < 1000000000000) (d : Nat) : ∀ (x : List Int) (c i : Nat), Ok x → x.length = q + i → c < u → i ≤ (dg m).length →
    val x + c * 4294967296 ^ (q + i) = (m % 4294967296 ^ i) * u * 4294967296 ^ q → (dg m).length - i = d →
    Ev (fun k => r1_Shl.l2 k x u c i (dg m)) (dg (m * u * 4294967296 ^ q)) := by
  induction d with
  | zero =>
    intro x c i hx hl hc hi hv hd
    have h1 := mod_len (n := m) (i := i) (by omega)
    rw [h1] at hv
    refine Ev.step (fun _ => r1_Shl.l2.eq_2 ..) ?_
    refine Ev.neg (by omega) (Ev.pos (by omega) (Ev.bind (trim_val _ (hx.snoc (by omega)) (by simp; omega)) (Ev.out ?_)))
    congr 1
    rw [val_snoc, hl, Int.toNat_natCast, Nat.mul_comm _ c]
    exact hv
  | succ d ih =>
    intro x c i hx hl hc hi hv hd
    refine Ev.step (fun _ => r1_Shl.l2.eq_2 ..) ?_
    have er : rd (dg m) (i : Int) = ((m / 4294967296 ^ i % 4294967296 : Nat) : Int) := by unfold rd; rw [Int.toNat_natCast, getD_dg]
    refine Ev.pos (by omega) (Ev.pos (by omega) (Ev.pos (by omega) ?_))
    rw [er]
    have h1 := word_lt m i
    have s1 := mod_succ m i
    generalize m / 4294967296 ^ i % 4294967296 = A at *
    have hau : A * u ≤ 4294967295 * u := Nat.mul_le_mul_right u (by omega)
    rw [← Int.natCast_mul, u64_id (n := ((A * u : Nat) : Int)) (by omega) (by omega), u64_id (by omega) (by omega), Int.tmod_eq_emod_of_nonneg (by omega), Int.tdiv_eq_ediv_of_nonneg (by omega), u64_id (by omega) (by omega), w64_id (by omega) (by omega)]
    rw [show (((A * u : Nat) : Int) + c) % 4294967296 = (((A * u + c) % 4294967296 : Nat) : Int) by omega, show (((A * u : Nat) : Int) + c) / 4294967296 = (((A * u + c) / 4294967296 : Nat) : Int) by omega, show (i : Int) + 1 = ((i + 1 : Nat) : Int) by omega]
    refine ih (x ++ [(((A * u + c) % 4294967296 : Nat) : Int)]) ((A * u + c) / 4294967296) (i + 1) (hx.snoc (by omega)) (by simp [hl]; omega) ?_ (by omega) ?_ (by omega)
    · rw [Nat.div_lt_iff_lt_mul (by decide)]; omega
    rw [val_snoc, hl, s1, Int.toNat_natCast, ← Nat.add_assoc, Nat.pow_succ]
    have h5 := Nat.mod_add_div (A * u + c) 4294967296
    have h6 := congrArg (4294967296 ^ (q + i) * ·) h5
    simp only [Nat.mul_add] at h6
    have h7 : 4294967296 ^ (q + i) * (A * u) = 4294967296 ^ i * A * u * 4294967296 ^ q := by
      rw [Nat.pow_add]; simp only [Nat.mul_comm, Nat.mul_left_comm, Nat.mul_assoc]
    have h8 : (m % 4294967296 ^ i + 4294967296 ^ i * A) * u * 4294967296 ^ q = (m % 4294967296 ^ i) * u * 4294967296 ^ q + 4294967296 ^ i * A * u * 4294967296 ^ q := by
      rw [Nat.add_mul, Nat.add_mul]
    rw [h8, ← h7, ← hv, Nat.mul_comm ((A * u + c) / 4294967296), Nat.mul_assoc, Nat.mul_comm c]
    omega
theorem shl_l1 (m n : Nat) (hn : n < 30000000000) (hm : (dg m).length < 1000000000000) (d : Nat) : ∀ (x : List Int) (j : Nat), Ok x → x.length = n / 32 → val x = 0 → j ≤ n % 32 → n % 32 - j = d →
    Ev (fun k => r1_Shl.l1 k n x (2 ^ j : Nat) j (dg m)) (dg (m * 2 ^ n)) := by
  have e : m * 2 ^ n = m * 2 ^ (n % 32) * 4294967296 ^ (n / 32) := by
    rw [show (4294967296 : Nat) = 2 ^ 32 by decide, ← Nat.pow_mul, Nat.mul_assoc, ← Nat.pow_add]
    congr 2; omega
  induction d with
  | zero =>
    intro x j hx hl hv hj hd
    obtain rfl : j = n % 32 := by omega
    refine Ev.step (fun _ => r1_Shl.l1.eq_2 ..) ?_
    rw [Int.tmod_eq_emod_of_nonneg (by omega)]
    refine Ev.neg (by omega) ?_
    rw [e]
    have hp : 2 ^ (n % 32) ≤ 2147483648 := by
      have : 2 ^ (n % 32) ≤ 2 ^ 31 := Nat.pow_le_pow_right (by decide) (by omega)
      simpa using this
    exact shl_l2 m (n / 32) (2 ^ (n % 32)) (by omega) hp (Nat.pow_pos (by decide)) hm _ x 0 0 hx (by simpa using hl) (Nat.pow_pos (by decide)) (by omega) (by simp [hv, Nat.mod_one]) rfl
  | succ d ih =>
    intro x j hx hl hv hj hd
    refine Ev.step (fun _ => r1_Shl.l1.eq_2 ..) ?_
    rw [Int.tmod_eq_emod_of_nonneg (by omega)]
    refine Ev.pos (by omega) ?_
    have hp : 2 ^ j ≤ 2147483648 := by
      have : 2 ^ j ≤ 2 ^ 31 := Nat.pow_le_pow_right (by decide) (by omega)
      simpa using this
    have h := ih x (j + 1) hx hl hv (by omega) (by omega)
    rw [Nat.pow_succ] at h
    generalize 2 ^ j = P at *
    rw [u64_id (by omega) (by omega), w64_id (by omega) (by omega)]
    rw [show (2 : Int) * (P : Int) = ((P * 2 : Nat) : Int) by omega, show (j : Int) + 1 = ((j + 1 : Nat) : Int) by omega]
    exact h
theorem shl_l0 (m n : Nat) (hn : n < 30000000000) (hm : (dg m).length < 1000000000000) (d : Nat) : ∀ (i : Nat), i ≤ n / 32 → n / 32 - i = d →
    Ev (fun k => r1_Shl.l0 k n (List.replicate i 0) i (dg m)) (dg (m * 2 ^ n)) := by
  induction d with
  | zero =>
    intro i hi hd
    refine Ev.step (fun _ => r1_Shl.l0.eq_2 ..) ?_
    rw [Int.tdiv_eq_ediv_of_nonneg (by omega), w64_id (by omega) (by omega)]
    refine Ev.neg (by omega) ?_
    exact shl_l1 m n hn hm _ _ 0 (ok_zeros _) (by simp; omega) (val_zeros _) (by omega) rfl
  | succ d ih =>
    intro i hi hd
    refine Ev.step (fun _ => r1_Shl.l0.eq_2 ..) ?_
    rw [Int.tdiv_eq_ediv_of_nonneg (by omega), w64_id (n := (n : Int) / 32) (by omega) (by omega), w64_id (by omega) (by omega)]
    refine Ev.pos (by omega) (Ev.pos (by simp; omega) ?_)
    have h := ih (i + 1) (by omega) (by omega)
    rw [← List.replicate_succ', show (i : Int) + 1 = ((i + 1 : Nat) : Int) by omega]
    exact h
theorem shl_dg (m n : Nat) (hn : n < 30000000000) (hm : (dg m).length < 1000000000000) : Ev (fun k => r1_Shl.f k (dg m) n) (dg (m * 2 ^ n)) :=
  shl_l0 m n hn hm _ 0 (by omega) rfl

def cmpN (m n : Nat) : Int := if m < n then -1 else if n < m then 1 else 0
theorem div_lt_of {m n p : Nat} (hp : 0 < p) (h : m / p < n / p) : m < n := by
  rcases Nat.lt_or_ge m n with h1 | h1
  · exact h1
  · have := Nat.div_le_div_right (c := p) h1; omega
theorem cmp_loop (m n : Nat) (i : Nat) : i < 1000000000000 → m / 4294967296 ^ i = n / 4294967296 ^ i → Ev (fun k => r1_Cmp.l0 k ((i : Int) - 1) (dg m) (dg n)) (cmpN m n) := by
  induction i with
  | zero =>
    intro hi h
    simp at h
    subst h
    refine Ev.step (fun _ => r1_Cmp.l0.eq_2 ..) ?_
    refine Ev.neg (by omega) (Ev.out ?_)
    simp [cmpN]
  | succ i ih =>
    intro hi h
    refine Ev.step (fun _ => r1_Cmp.l0.eq_2 ..) ?_
    rw [show ((i + 1 : Nat) : Int) - 1 = i by omega]
    refine Ev.pos (by omega) (Ev.bs (at_dg m i) (Ev.bs (at_dg n i) ?_))
    have s1 := div_step m i
    have s2 := div_step n i
    rw [h] at s1
    have hp : 0 < 4294967296 ^ i := Nat.pow_pos (by decide)
    by_cases h1 : m / 4294967296 ^ i % 4294967296 < n / 4294967296 ^ i % 4294967296
    · refine Ev.pos (Int.ofNat_lt.2 h1) (Ev.out ?_)
      rw [cmpN, if_pos (div_lt_of hp (by omega))]
    · refine Ev.neg (fun h' => h1 (Int.ofNat_lt.1 h')) ?_
      by_cases h2 : n / 4294967296 ^ i % 4294967296 < m / 4294967296 ^ i % 4294967296
      · refine Ev.pos (Int.ofNat_lt.2 h2) (Ev.out ?_)
        have := div_lt_of hp (show n / 4294967296 ^ i < m / 4294967296 ^ i by omega)
        rw [cmpN, if_neg (by omega), if_pos this]
      · refine Ev.neg (fun h' => h2 (Int.ofNat_lt.1 h')) ?_
        rw [w64_id (by omega) (by omega)]
        exact ih (by omega) (by omega)
theorem cmp_dg (m n : Nat) (hm : (dg m).length < 100000000000) (hn : (dg n).length < 100000000000) : Ev (fun k => r1_Cmp.f k (dg m) (dg n)) (cmpN m n) := by
  unfold r1_Cmp.f
  have hmx : mx ((dg m).length : Int) ((dg n).length : Int) = ((max (dg m).length (dg n).length : Nat) : Int) := by unfold mx; split <;> omega
  rw [hmx, w64_id (by omega) (by omega)]
  refine cmp_loop m n _ (by omega) ?_
  rw [Nat.div_eq_of_lt (lt_of_len (by omega)), Nat.div_eq_of_lt (lt_of_len (by omega))]

end Go.Proofs.Ytjjehbedpgdhgaa.Th
end
