/- What the Go functions that the statement ProductScales reaches compute, and the mathematics on it, in the order in which one leans on the other; for every input. -/
import Derived.Test.YtbpmnmceajmmcaaVProductScales0
import Derived.Test.YtbpmnmceajmmcaaMProductScales0
import Derived.Test.YtbpmnmceajmmcaaMProductScales3
import Derived.Test.YtbpmnmceajmmcaaMProductScales4
namespace Go.Proofs.Ytbpmnmceajmmcaa.PA
open Go.RowKit Go.Proofs.YtbpmnmceajmmcaaW.PrintWords Go.Proofs.YtbpmnmceajmmcaaW.PrintLast Go.Proofs.YtbpmnmceajmmcaaW.PrintMore
attribute [local go_sem] max2_int min2_int max_two min_two max_three min_three max_four min_four   -- for this text's walks alone
set_option linter.unusedVariables false
set_option linter.unusedSimpArgs false
set_option maxHeartbeats 8000000
set_option maxRecDepth 100000
mutual
def r1_Mul.l0 : Nat → List Int → Int → List Int → List Int → Option (List Int)
 | 0, _, _, _, _ => none
 | k + 1, x5, x6, x536000, x537000 => if x6 < (x536000.length : Int) then (r1_Mul.l1 k x5 x6 0 0 x536000 x537000) else ((r1_trim.f k x5).bind fun t541 => (some t541))
def r1_Mul.l1 : Nat → List Int → Int → Int → Int → List Int → List Int → Option (List Int)
 | 0, _, _, _, _, _, _ => none
 | k + 1, x5, x6, x7, x8, x536000, x537000 => if x8 < (x537000.length : Int) then (if 0 ≤ (wrap64 (x6 + x8)) then (if (wrap64 (x6 + x8)) < (x5.length : Int) then (if 0 ≤ x6 then (if x6 < (x536000.length : Int) then ((r1_at.f x537000 x8).bind fun t546 => (r1_Mul.l1 k (x5.set ((wrap64 (x6 + x8)) : Int).toNat (Int.tmod (IntKind.u64.wrap ((IntKind.u64.wrap ((rd x5 (wrap64 (x6 + x8))) + (IntKind.u64.wrap ((rd x536000 x6) * t546)))) + x7)) 4294967296)) x6 (IntKind.u64.wrap (Int.tdiv (IntKind.u64.wrap ((IntKind.u64.wrap ((rd x5 (wrap64 (x6 + x8))) + (IntKind.u64.wrap ((rd x536000 x6) * t546)))) + x7)) 4294967296)) (wrap64 (x8 + 1)) x536000 x537000)) else (none)) else (none)) else (none)) else (none)) else (if x7 > 0 then (if 0 ≤ (wrap64 (x6 + x8)) then (if (wrap64 (x6 + x8)) < (x5.length : Int) then (if 0 ≤ x6 then (if x6 < (x536000.length : Int) then ((r1_at.f x537000 x8).bind fun t550 => (r1_Mul.l1 k (x5.set ((wrap64 (x6 + x8)) : Int).toNat (Int.tmod (IntKind.u64.wrap ((IntKind.u64.wrap ((rd x5 (wrap64 (x6 + x8))) + (IntKind.u64.wrap ((rd x536000 x6) * t550)))) + x7)) 4294967296)) x6 (IntKind.u64.wrap (Int.tdiv (IntKind.u64.wrap ((IntKind.u64.wrap ((rd x5 (wrap64 (x6 + x8))) + (IntKind.u64.wrap ((rd x536000 x6) * t550)))) + x7)) 4294967296)) (wrap64 (x8 + 1)) x536000 x537000)) else (none)) else (none)) else (none)) else (none)) else (r1_Mul.l0 k x5 (wrap64 (x6 + 1)) x536000 x537000))
end
def r1_Mul.f (k : Nat) (l0_0 : List Int) (l1_0 : List Int) : Option (List Int) := if 0 ≤ (wrap64 ((wrap64 ((l0_0.length : Int) + (l1_0.length : Int))) + 1)) then (if (wrap64 ((wrap64 ((l0_0.length : Int) + (l1_0.length : Int))) + 1) : Int).toNat ≤ 35184372088832 then (r1_Mul.l0 k (List.replicate (wrap64 ((wrap64 ((l0_0.length : Int) + (l1_0.length : Int))) + 1) : Int).toNat 0) 0 l0_0 l1_0) else (none)) else (none)
theorem r1_Mul.mono_l : ∀ k, (∀ y0 y1 y2 y3, LeO (r1_Mul.l0 k y0 y1 y2 y3) (r1_Mul.l0 (k + 1) y0 y1 y2 y3)) ∧ (∀ y0 y1 y2 y3 y4 y5, LeO (r1_Mul.l1 k y0 y1 y2 y3 y4 y5) (r1_Mul.l1 (k + 1) y0 y1 y2 y3 y4 y5))
 | 0 => ⟨fun _ _ _ _ r h => by simp [r1_Mul.l0] at h, fun _ _ _ _ _ _ r h => by simp [r1_Mul.l1] at h⟩
 | k + 1 => by
  obtain ⟨ih0, ih1⟩ := r1_Mul.mono_l k
  refine ⟨?_, ?_⟩
  ·intro y0 y1 y2 y3
   unfold r1_Mul.l0
   repeat' first
   | (with_reducible exact ih0 _ _ _ _)
   | (with_reducible exact ih1 _ _ _ _ _ _)
   | (with_reducible exact r1_trim.mono _ _)
   | (with_reducible exact LeO.refl _)
   | (with_reducible exact LeO.none _)
   | (with_reducible refine LeO.ite ?_ ?_)
   | (with_reducible refine LeO.bind ?_ (fun _ => ?_))
   | exact ih0 _ _ _ _
   | exact ih1 _ _ _ _ _ _
   | exact r1_trim.mono _ _
   | exact LeO.none _
   | refine LeO.ite ?_ ?_
   | refine LeO.bind ?_ (fun _ => ?_)
  ·intro y0 y1 y2 y3 y4 y5
   unfold r1_Mul.l1
   repeat' first
   | (with_reducible exact ih0 _ _ _ _)
   | (with_reducible exact ih1 _ _ _ _ _ _)
   | (with_reducible exact r1_trim.mono _ _)
   | (with_reducible exact LeO.refl _)
   | (with_reducible exact LeO.none _)
   | (with_reducible refine LeO.ite ?_ ?_)
   | (with_reducible refine LeO.bind ?_ (fun _ => ?_))
   | exact ih0 _ _ _ _
   | exact ih1 _ _ _ _ _ _
   | exact r1_trim.mono _ _
   | exact LeO.none _
   | refine LeO.ite ?_ ?_
   | refine LeO.bind ?_ (fun _ => ?_)
theorem r1_Mul.mono : ∀ a0 a1 k, LeO (r1_Mul.f k a0 a1) (r1_Mul.f (k + 1) a0 a1) := by
 intro a0 a1 k
 obtain ⟨ih0, ih1⟩ := r1_Mul.mono_l k
 unfold r1_Mul.f
 repeat' first
   | (with_reducible exact ih0 _ _ _ _)
   | (with_reducible exact ih1 _ _ _ _ _ _)
   | (with_reducible exact r1_trim.mono _ _)
   | (with_reducible exact LeO.refl _)
   | (with_reducible exact LeO.none _)
   | (with_reducible refine LeO.ite ?_ ?_)
   | (with_reducible refine LeO.bind ?_ (fun _ => ?_))
   | exact ih0 _ _ _ _
   | exact ih1 _ _ _ _ _ _
   | exact r1_trim.mono _ _
   | exact LeO.none _
   | refine LeO.ite ?_ ?_
   | refine LeO.bind ?_ (fun _ => ?_)
theorem r1_Mul.calls (k : Nat) (A0_0 : Option Addr) (c0_0 : Nat) (l0_0 : List Int) (A1_0 : Option Addr) (c1_0 : Nat) (l1_0 : List Int) (r : List Int) (w : World) (hr0_0 : Kd.C (Kd.int .u64) w A0_0 l0_0.length l0_0) (hc0_0 : l0_0.length ≤ c0_0) (hr1_0 : Kd.C (Kd.int .u64) w A1_0 l1_0.length l1_0) (hc1_0 : l1_0.length ≤ c1_0) (h : r1_Mul.f k l0_0 l1_0 = some r) :
  Calls Try.prog 61 #[.agg #[.slice A0_0 l0_0.length c0_0], .agg #[.slice A1_0 l1_0.length c1_0]] w fun e w' => ∃ v0_ : Value, e = .returned (.agg #[v0_]) ∧ Kd.R (Kd.int .u64) 22 w' w.heap.size (fun _ => True) v0_ r ∧ Below w.heap.size w w' := by
 have hu63 := Try.underlying63
 have HR0_0 := A_ hr0_0;have HC0_0 := A_ hc0_0;clear hr0_0 hc0_0;have HR1_0 := A_ hr1_0;have HC1_0 := A_ hc1_0;clear hr1_0 hc1_0
 have HB := A_ (Below.refl w.heap.size w)
 have H : (if 0 ≤ (wrap64 ((wrap64 ((l0_0.length : Int) + (l1_0.length : Int))) + 1)) then (if (wrap64 ((wrap64 ((l0_0.length : Int) + (l1_0.length : Int))) + 1) : Int).toNat ≤ 35184372088832 then (r1_Mul.l0 k (List.replicate (wrap64 ((wrap64 ((l0_0.length : Int) + (l1_0.length : Int))) + 1) : Int).toNat 0) 0 l0_0 l1_0) else (none)) else (none)) = some r := h
 clear h
 obtain ⟨ji3, hji3⟩ : ∃ j_ : Int, (wrap64 ((wrap64 ((l0_0.length : Int) + (l1_0.length : Int))) + 1)) = j_ := ⟨_, rfl⟩
 replace H : (if 0 ≤ (ji3) then (if (ji3 : Int).toNat ≤ 35184372088832 then (r1_Mul.l0 k (List.replicate (ji3 : Int).toNat 0) 0 l0_0 l1_0) else (none)) else (none)) = some r := by first | (rw [hji3] at H; exact H) | (simp only [hji3] at H ⊢; exact H)
 have hji3w : (IntKind.i64.wrap ((wrap64 ((l0_0.length : Int) + (l1_0.length : Int))) + 1)) = ji3 := (i64_w _).trans hji3
 by_cases c4 : 0 ≤ (ji3)
 ·rw [if_pos c4] at H
  have c4b0 := eq_true c4
  have c4b1 : decide (0 ≤ (ji3)) = true := decide_eq_true c4
  clear c4
  by_cases c5 : (ji3 : Int).toNat ≤ 35184372088832
  ·rw [if_pos c5] at H
   have c5b0 := eq_true c5
   have c5b1 : decide ((ji3 : Int).toNat ≤ 35184372088832) = true := decide_eq_true c5
   clear c5
   obtain ⟨y538, hy538⟩ : ∃ y_ : List Int, y_ = (List.replicate (ji3 : Int).toNat 0) := ⟨_, rfl⟩
   replace H : (r1_Mul.l0 k y538 0 l0_0 l1_0) = some r := by first | (rw [hy538]; with_reducible exact H) | (have H2_ := (Option.bind_some _ _).symm.trans H; rw [hy538]; with_reducible exact H2_) | (have H2_ := (Option.bind_some _ _).symm.trans H; with_reducible exact H2_) | with_reducible exact H | (rw [hy538]; exact H) | exact H
   have Ny538 := A_ hy538;clear hy538
   have H' := A_ H
   clear H
   go_enter Try.func61, Try.ntmps61
   go_wp2_with (first | ((with_reducible refine gate_dst (N := 2) rfl ?_); refine be_ 2 #[.slice A0_0 l0_0.length c0_0] 63 ?_; intro gb535 hg w6 hbox hb; have n0_ := A_ (below_step (hb_ HB.out) hb); have n1_ := A_ (hbox); have n2_ := A_ (sz_ hg (hb_ HB.out)); have n3_ := A_ (sz_ hg (hb_ HB.out)); clear HB; have HB := n0_; have BK535 := n1_; have GW535 := n2_; have GE535 := n3_; clear n0_ n1_ n2_ n3_; clear hb hbox hg) | ((with_reducible refine gate_dst (N := 3) rfl ?_); refine be_ 3 #[.slice A1_0 l1_0.length c1_0] 63 ?_; intro gb536 hg w7 hbox hb; have n0_ := A_ (bb_ BK535.out hb); have n1_ := A_ (below_step (hb1_ HB.out GE535.out) hb); have n2_ := A_ (hbox); have n3_ := A_ (sz_ hg (hb1_ HB.out GE535.out)); have n4_ := A_ (sz_ hg (hb1_ HB.out GE535.out)); have n5_ := A_ (nl_ hg BK535.out); have n6_ := A_ (ng_ hg BK535.out); clear BK535; clear HB; have BK535 := n0_; have HB := n1_; have BK536 := n2_; have GW536 := n3_; have GE536 := n4_; have NB535_536 := n5_; have NB536_535 := n6_; clear n0_ n1_ n2_ n3_ n4_ n5_ n6_; clear hb hbox hg) | ((with_reducible refine gate_dst (N := 4) rfl ?_); refine be_ 4 #[.slice none 0 0] 63 ?_; intro gb537 hg w8 hbox hb; have n0_ := A_ (bb_ BK535.out hb); have n1_ := A_ (bb_ BK536.out hb); have n2_ := A_ (below_step (hb2_ HB.out GE535.out GE536.out) hb); have n3_ := A_ (hbox); have n4_ := A_ (sz_ hg (hb2_ HB.out GE535.out GE536.out)); have n5_ := A_ (sz_ hg (hb2_ HB.out GE535.out GE536.out)); have n6_ := A_ (nl_ hg BK535.out); have n7_ := A_ (ng_ hg BK535.out); have n8_ := A_ (nl_ hg BK536.out); have n9_ := A_ (ng_ hg BK536.out); clear BK535; clear BK536; clear HB; have BK535 := n0_; have BK536 := n1_; have HB := n2_; have BK537 := n3_; have GW537 := n4_; have GE537 := n5_; have NB535_537 := n6_; have NB537_535 := n7_; have NB536_537 := n8_; have NB537_536 := n9_; clear n0_ n1_ n2_ n3_ n4_ n5_ n6_ n7_ n8_ n9_; clear hb hbox hg; have hnb9 := NB535_536.out; have hnc9 := NB536_535.out; have hnb10 := NB535_537.out; have hnc10 := NB537_535.out; have hcz11_0 : w8.cell? ⟨gb535, 0, none⟩ = some (.slice A0_0 l0_0.length c0_0) := bc_ BK535.out 0; have hfz11_0 := blk_frozen BK535.out 0; have hnb12 := NB536_537.out; have hnc12 := NB537_536.out; have hcz13_0 : w8.cell? ⟨gb536, 0, none⟩ = some (.slice A1_0 l1_0.length c1_0) := bc_ BK536.out 0; have hfz13_0 := blk_frozen BK536.out 0) | ((with_reducible refine gate_dst (N := 18) rfl ?_); refine Kd.R_make (Kd.int .u64) _ 22 rfl (N := 18) rfl 30 _ _ rfl ji3 rfl rfl Try.underlying30 (.int .u64 0) 8 info22 rfl (by decide) (by omega) 0 (ok := fun _ => True) (okp := fun _ => True) rfl (fun _ hk => hk) trivial (of_decide_eq_true (by first | (with_reducible assumption) | assumption)) (Nat.le_trans (Nat.mul_le_mul_right _ (of_decide_eq_true (by first | (with_reducible assumption) | assumption) : ji3.toNat ≤ 35184372088832)) (by omega)) (Below.refl _ _) (Nat.le_refl _) ?_; intro v539 w14 ho15 hb hg_ hnew_; clear hg_ hnew_; (first | rw [← Ny538.out] at ho15 | (simp only [Int.reduceToNat] at ho15; rw [← Ny538.out] at ho15)); have n0_ := A_ (Kd.R_lower ho15 (below_size (hb3_ HB.out GE535.out GE536.out GE537.out))); have n1_ := A_ (bb_ BK535.out hb); have n2_ := A_ (bb_ BK536.out hb); have n3_ := A_ (bb_ BK537.out hb); have n4_ := A_ (below_step (hb3_ HB.out GE535.out GE536.out GE537.out) hb); clear BK535; clear BK536; clear BK537; clear HB; have HO540 := n0_; have BK535 := n1_; have BK536 := n2_; have BK537 := n3_; have HB := n4_; clear n0_ n1_ n2_ n3_ n4_; clear hb ho15))
   repeat (go_quiet (first | ((with_reducible refine gate_dst (N := 2) rfl ?_); refine be_ 2 #[.slice A0_0 l0_0.length c0_0] 63 ?_; intro gb535 hg w6 hbox hb; have n0_ := A_ (below_step (hb_ HB.out) hb); have n1_ := A_ (hbox); have n2_ := A_ (sz_ hg (hb_ HB.out)); have n3_ := A_ (sz_ hg (hb_ HB.out)); clear HB; have HB := n0_; have BK535 := n1_; have GW535 := n2_; have GE535 := n3_; clear n0_ n1_ n2_ n3_; clear hb hbox hg) | ((with_reducible refine gate_dst (N := 3) rfl ?_); refine be_ 3 #[.slice A1_0 l1_0.length c1_0] 63 ?_; intro gb536 hg w7 hbox hb; have n0_ := A_ (bb_ BK535.out hb); have n1_ := A_ (below_step (hb1_ HB.out GE535.out) hb); have n2_ := A_ (hbox); have n3_ := A_ (sz_ hg (hb1_ HB.out GE535.out)); have n4_ := A_ (sz_ hg (hb1_ HB.out GE535.out)); have n5_ := A_ (nl_ hg BK535.out); have n6_ := A_ (ng_ hg BK535.out); clear BK535; clear HB; have BK535 := n0_; have HB := n1_; have BK536 := n2_; have GW536 := n3_; have GE536 := n4_; have NB535_536 := n5_; have NB536_535 := n6_; clear n0_ n1_ n2_ n3_ n4_ n5_ n6_; clear hb hbox hg) | ((with_reducible refine gate_dst (N := 4) rfl ?_); refine be_ 4 #[.slice none 0 0] 63 ?_; intro gb537 hg w8 hbox hb; have n0_ := A_ (bb_ BK535.out hb); have n1_ := A_ (bb_ BK536.out hb); have n2_ := A_ (below_step (hb2_ HB.out GE535.out GE536.out) hb); have n3_ := A_ (hbox); have n4_ := A_ (sz_ hg (hb2_ HB.out GE535.out GE536.out)); have n5_ := A_ (sz_ hg (hb2_ HB.out GE535.out GE536.out)); have n6_ := A_ (nl_ hg BK535.out); have n7_ := A_ (ng_ hg BK535.out); have n8_ := A_ (nl_ hg BK536.out); have n9_ := A_ (ng_ hg BK536.out); clear BK535; clear BK536; clear HB; have BK535 := n0_; have BK536 := n1_; have HB := n2_; have BK537 := n3_; have GW537 := n4_; have GE537 := n5_; have NB535_537 := n6_; have NB537_535 := n7_; have NB536_537 := n8_; have NB537_536 := n9_; clear n0_ n1_ n2_ n3_ n4_ n5_ n6_ n7_ n8_ n9_; clear hb hbox hg; have hnb9 := NB535_536.out; have hnc9 := NB536_535.out; have hnb10 := NB535_537.out; have hnc10 := NB537_535.out; have hcz11_0 : w8.cell? ⟨gb535, 0, none⟩ = some (.slice A0_0 l0_0.length c0_0) := bc_ BK535.out 0; have hfz11_0 := blk_frozen BK535.out 0; have hnb12 := NB536_537.out; have hnc12 := NB537_536.out; have hcz13_0 : w8.cell? ⟨gb536, 0, none⟩ = some (.slice A1_0 l1_0.length c1_0) := bc_ BK536.out 0; have hfz13_0 := blk_frozen BK536.out 0) | ((with_reducible refine gate_dst (N := 18) rfl ?_); refine Kd.R_make (Kd.int .u64) _ 22 rfl (N := 18) rfl 30 _ _ rfl ji3 rfl rfl Try.underlying30 (.int .u64 0) 8 info22 rfl (by decide) (by omega) 0 (ok := fun _ => True) (okp := fun _ => True) rfl (fun _ hk => hk) trivial (of_decide_eq_true (by first | (with_reducible assumption) | assumption)) (Nat.le_trans (Nat.mul_le_mul_right _ (of_decide_eq_true (by first | (with_reducible assumption) | assumption) : ji3.toNat ≤ 35184372088832)) (by omega)) (Below.refl _ _) (Nat.le_refl _) ?_; intro v539 w14 ho15 hb hg_ hnew_; clear hg_ hnew_; (first | rw [← Ny538.out] at ho15 | (simp only [Int.reduceToNat] at ho15; rw [← Ny538.out] at ho15)); have n0_ := A_ (Kd.R_lower ho15 (below_size (hb3_ HB.out GE535.out GE536.out GE537.out))); have n1_ := A_ (bb_ BK535.out hb); have n2_ := A_ (bb_ BK536.out hb); have n3_ := A_ (bb_ BK537.out hb); have n4_ := A_ (below_step (hb3_ HB.out GE535.out GE536.out GE537.out) hb); clear BK535; clear BK536; clear BK537; clear HB; have HO540 := n0_; have BK535 := n1_; have BK536 := n2_; have BK537 := n3_; have HB := n4_; clear n0_ n1_ n2_ n3_ n4_; clear hb ho15)); try go_wp2_with (first | ((with_reducible refine gate_dst (N := 2) rfl ?_); refine be_ 2 #[.slice A0_0 l0_0.length c0_0] 63 ?_; intro gb535 hg w6 hbox hb; have n0_ := A_ (below_step (hb_ HB.out) hb); have n1_ := A_ (hbox); have n2_ := A_ (sz_ hg (hb_ HB.out)); have n3_ := A_ (sz_ hg (hb_ HB.out)); clear HB; have HB := n0_; have BK535 := n1_; have GW535 := n2_; have GE535 := n3_; clear n0_ n1_ n2_ n3_; clear hb hbox hg) | ((with_reducible refine gate_dst (N := 3) rfl ?_); refine be_ 3 #[.slice A1_0 l1_0.length c1_0] 63 ?_; intro gb536 hg w7 hbox hb; have n0_ := A_ (bb_ BK535.out hb); have n1_ := A_ (below_step (hb1_ HB.out GE535.out) hb); have n2_ := A_ (hbox); have n3_ := A_ (sz_ hg (hb1_ HB.out GE535.out)); have n4_ := A_ (sz_ hg (hb1_ HB.out GE535.out)); have n5_ := A_ (nl_ hg BK535.out); have n6_ := A_ (ng_ hg BK535.out); clear BK535; clear HB; have BK535 := n0_; have HB := n1_; have BK536 := n2_; have GW536 := n3_; have GE536 := n4_; have NB535_536 := n5_; have NB536_535 := n6_; clear n0_ n1_ n2_ n3_ n4_ n5_ n6_; clear hb hbox hg) | ((with_reducible refine gate_dst (N := 4) rfl ?_); refine be_ 4 #[.slice none 0 0] 63 ?_; intro gb537 hg w8 hbox hb; have n0_ := A_ (bb_ BK535.out hb); have n1_ := A_ (bb_ BK536.out hb); have n2_ := A_ (below_step (hb2_ HB.out GE535.out GE536.out) hb); have n3_ := A_ (hbox); have n4_ := A_ (sz_ hg (hb2_ HB.out GE535.out GE536.out)); have n5_ := A_ (sz_ hg (hb2_ HB.out GE535.out GE536.out)); have n6_ := A_ (nl_ hg BK535.out); have n7_ := A_ (ng_ hg BK535.out); have n8_ := A_ (nl_ hg BK536.out); have n9_ := A_ (ng_ hg BK536.out); clear BK535; clear BK536; clear HB; have BK535 := n0_; have BK536 := n1_; have HB := n2_; have BK537 := n3_; have GW537 := n4_; have GE537 := n5_; have NB535_537 := n6_; have NB537_535 := n7_; have NB536_537 := n8_; have NB537_536 := n9_; clear n0_ n1_ n2_ n3_ n4_ n5_ n6_ n7_ n8_ n9_; clear hb hbox hg; have hnb9 := NB535_536.out; have hnc9 := NB536_535.out; have hnb10 := NB535_537.out; have hnc10 := NB537_535.out; have hcz11_0 : w8.cell? ⟨gb535, 0, none⟩ = some (.slice A0_0 l0_0.length c0_0) := bc_ BK535.out 0; have hfz11_0 := blk_frozen BK535.out 0; have hnb12 := NB536_537.out; have hnc12 := NB537_536.out; have hcz13_0 : w8.cell? ⟨gb536, 0, none⟩ = some (.slice A1_0 l1_0.length c1_0) := bc_ BK536.out 0; have hfz13_0 := blk_frozen BK536.out 0) | ((with_reducible refine gate_dst (N := 18) rfl ?_); refine Kd.R_make (Kd.int .u64) _ 22 rfl (N := 18) rfl 30 _ _ rfl ji3 rfl rfl Try.underlying30 (.int .u64 0) 8 info22 rfl (by decide) (by omega) 0 (ok := fun _ => True) (okp := fun _ => True) rfl (fun _ hk => hk) trivial (of_decide_eq_true (by first | (with_reducible assumption) | assumption)) (Nat.le_trans (Nat.mul_le_mul_right _ (of_decide_eq_true (by first | (with_reducible assumption) | assumption) : ji3.toNat ≤ 35184372088832)) (by omega)) (Below.refl _ _) (Nat.le_refl _) ?_; intro v539 w14 ho15 hb hg_ hnew_; clear hg_ hnew_; (first | rw [← Ny538.out] at ho15 | (simp only [Int.reduceToNat] at ho15; rw [← Ny538.out] at ho15)); have n0_ := A_ (Kd.R_lower ho15 (below_size (hb3_ HB.out GE535.out GE536.out GE537.out))); have n1_ := A_ (bb_ BK535.out hb); have n2_ := A_ (bb_ BK536.out hb); have n3_ := A_ (bb_ BK537.out hb); have n4_ := A_ (below_step (hb3_ HB.out GE535.out GE536.out GE537.out) hb); clear BK535; clear BK536; clear BK537; clear HB; have HO540 := n0_; have BK535 := n1_; have BK536 := n2_; have BK537 := n3_; have HB := n4_; clear n0_ n1_ n2_ n3_ n4_; clear hb ho15)))
   go_loopg [6] k (fun kq v6 w' => ∃ (x5_1 : List Int) (x6_1 : Int), v6 = .int .i64 x6_1 ∧ Aside0 (r1_Mul.l0 kq x5_1 x6_1 l0_0 l1_0 = some r) ∧ Aside0 (kq ≤ k) ∧ Aside0 (Kd.R (Kd.int .u64) 22 w' w.heap.size (fun _ => True) v539 x5_1) ∧ Aside0 (w'.heap[gb535]? = some (.cells #[(.slice A0_0 l0_0.length c0_0)] 63 (0, 0))) ∧ Aside0 (w'.heap[gb536]? = some (.cells #[(.slice A1_0 l1_0.length c1_0)] 63 (0, 0))) ∧ Aside0 (w'.heap[gb537]? = some (.cells #[(.slice none 0 0)] 63 (0, 0))) ∧ Aside0 (Below w.heap.size w w'))
   case atStart => exact ⟨(y538), (0), sm_, H', ⟨Nat.le_refl _⟩, ⟨by (with_reducible repeat (first | apply Kd.R_alloc | apply Kd.R_drewN | apply Kd.R_drew)); exact HO540.out⟩, ⟨bk_ BK535.out⟩, ⟨bk_ BK536.out⟩, ⟨bk_ BK537.out⟩, ⟨hb3_ HB.out GE535.out GE536.out GE537.out⟩⟩
   case round =>
    clear H'
    try clear c1
    try clear p2
    try clear c4
    try clear c4b0
    try clear c4b1
    try clear c5
    try clear c5b0
    try clear c5b1
    try clear c6
    try clear p6
    try clear c9
    try clear c10
    try clear c12
    try clear hcz11_0
    try clear hcz13_0
    try clear hfz11_0
    try clear hfz13_0
    obtain ⟨x5_1, x6_1, rfl, HA, HK1, HO_5, BK535, BK536, BK537, HB⟩ := hrel
    cases gk with
    | zero => exact absurd HA.out (by simp [r1_Mul.l0])
    | succ k1 =>
     have H := HA.out
     clear HA
     simp only [r1_Mul.l0] at H
     by_cases c16 : x6_1 < (l0_0.length : Int)
     ·rw [if_pos c16] at H
      have c16b0 : decide (x6_1 < (l0_0.length : Int)) = true := decide_eq_true c16
      clear c16
      have H' := A_ H
      clear H
      have hnb17 := NB535_536.out
      have hnc17 := NB536_535.out
      have hnb18 := NB535_537.out
      have hnc18 := NB537_535.out
      have hcz19_0 : wr.cell? ⟨gb535, 0, none⟩ = some (.slice A0_0 l0_0.length c0_0) := bc_ BK535.out 0
      have hfz19_0 := blk_frozen BK535.out 0
      go_wp2
      repeat (go_quiet (fail); try go_wp2)
      go_loopg [7, 8] k1 (fun kq v7 v8 w' => ∃ (x5_2 : List Int) (x7_2 : Int) (x8_2 : Int), v7 = .int .u64 x7_2 ∧ v8 = .int .i64 x8_2 ∧ Aside0 (r1_Mul.l1 kq x5_2 x6_1 x7_2 x8_2 l0_0 l1_0 = some r) ∧ Aside0 (kq ≤ k1) ∧ Aside0 (Kd.R (Kd.int .u64) 22 w' w.heap.size (fun _ => True) v539 x5_2) ∧ Aside0 (w'.heap[gb535]? = some (.cells #[(.slice A0_0 l0_0.length c0_0)] 63 (0, 0))) ∧ Aside0 (w'.heap[gb536]? = some (.cells #[(.slice A1_0 l1_0.length c1_0)] 63 (0, 0))) ∧ Aside0 (w'.heap[gb537]? = some (.cells #[(.slice none 0 0)] 63 (0, 0))) ∧ Aside0 (Below w.heap.size w w'))
      case atStart => exact ⟨(x5_1), (0), (0), sm_, sm_, H', ⟨Nat.le_refl _⟩, ⟨by (with_reducible repeat (first | apply Kd.R_alloc | apply Kd.R_drewN | apply Kd.R_drew)); exact HO_5.out⟩, ⟨bk_ BK535.out⟩, ⟨bk_ BK536.out⟩, ⟨bk_ BK537.out⟩, ⟨hb3_ HB.out GE535.out GE536.out GE537.out⟩⟩
      case round =>
       clear H'
       try clear c1
       try clear p2
       try clear c4
       try clear c4b0
       try clear c4b1
       try clear c5
       try clear c5b0
       try clear c5b1
       try clear c6
       try clear p6
       try clear c9
       try clear c10
       try clear c12
       try clear c16
       try clear c16b0
       try clear c17
       try clear c18
       try clear hcz11_0
       try clear hcz13_0
       try clear hcz19_0
       try clear hfz11_0
       try clear hfz13_0
       try clear hfz19_0
       try clear p2
       try clear p6
       obtain ⟨x5_2, x7_2, x8_2, rfl, rfl, HA, HK2, HO_5, BK535, BK536, BK537, HB⟩ := hrel
       cases gk with
       | zero => exact absurd HA.out (by simp [r1_Mul.l1])
       | succ k2 =>
        have H := HA.out
        clear HA
        simp only [r1_Mul.l1] at H
        by_cases c20 : x8_2 < (l1_0.length : Int)
        ·rw [if_pos c20] at H
         have c20b0 : decide (x8_2 < (l1_0.length : Int)) = true := decide_eq_true c20
         clear c20
         obtain ⟨ji21, hji21⟩ : ∃ j_ : Int, (wrap64 (x6_1 + x8_2)) = j_ := ⟨_, rfl⟩
         replace H : (if 0 ≤ (ji21) then (if (ji21) < (x5_2.length : Int) then (if 0 ≤ x6_1 then (if x6_1 < (l0_0.length : Int) then ((r1_at.f l1_0 x8_2).bind fun t546 => (r1_Mul.l1 k2 (x5_2.set ((ji21) : Int).toNat (Int.tmod (IntKind.u64.wrap ((IntKind.u64.wrap ((rd x5_2 (ji21)) + (IntKind.u64.wrap ((rd l0_0 x6_1) * t546)))) + x7_2)) 4294967296)) x6_1 (IntKind.u64.wrap (Int.tdiv (IntKind.u64.wrap ((IntKind.u64.wrap ((rd x5_2 (ji21)) + (IntKind.u64.wrap ((rd l0_0 x6_1) * t546)))) + x7_2)) 4294967296)) (wrap64 (x8_2 + 1)) l0_0 l1_0)) else (none)) else (none)) else (none)) else (none)) = some r := by first | (rw [hji21] at H; exact H) | (simp only [hji21] at H ⊢; exact H)
         have hji21w : (IntKind.i64.wrap (x6_1 + x8_2)) = ji21 := (i64_w _).trans hji21
         by_cases c22 : 0 ≤ (ji21)
         ·rw [if_pos c22] at H
          have c22b0 : decide (0 ≤ (ji21)) = true := decide_eq_true c22
          clear c22
          by_cases c23 : (ji21) < (x5_2.length : Int)
          ·rw [if_pos c23] at H
           have c23b0 : decide ((ji21) < (x5_2.length : Int)) = true := decide_eq_true c23
           clear c23
           by_cases c24 : 0 ≤ x6_1
           ·rw [if_pos c24] at H
            have c24b0 : decide (0 ≤ x6_1) = true := decide_eq_true c24
            clear c24
            by_cases c25 : x6_1 < (l0_0.length : Int)
            ·rw [if_pos c25] at H
             have c25b0 : decide (x6_1 < (l0_0.length : Int)) = true := decide_eq_true c25
             clear c25
             replace H := ob_ H
             obtain ⟨t546, A260, H⟩ := H
             replace H : (r1_Mul.l1 k2 (x5_2.set ((ji21) : Int).toNat (Int.tmod (IntKind.u64.wrap ((IntKind.u64.wrap ((rd x5_2 (ji21)) + (IntKind.u64.wrap ((rd l0_0 x6_1) * t546)))) + x7_2)) 4294967296)) x6_1 (IntKind.u64.wrap (Int.tdiv (IntKind.u64.wrap ((IntKind.u64.wrap ((rd x5_2 (ji21)) + (IntKind.u64.wrap ((rd l0_0 x6_1) * t546)))) + x7_2)) 4294967296)) (wrap64 (x8_2 + 1)) l0_0 l1_0) = some r := H
             have A26 := A_ A260;clear A260
             obtain ⟨y547, hy547⟩ : ∃ y_ : List Int, y_ = (x5_2.set ((ji21) : Int).toNat (Int.tmod (IntKind.u64.wrap ((IntKind.u64.wrap ((rd x5_2 (ji21)) + (IntKind.u64.wrap ((rd l0_0 x6_1) * t546)))) + x7_2)) 4294967296)) := ⟨_, rfl⟩
             replace H : (r1_Mul.l1 k2 y547 x6_1 (IntKind.u64.wrap (Int.tdiv (IntKind.u64.wrap ((IntKind.u64.wrap ((rd x5_2 (ji21)) + (IntKind.u64.wrap ((rd l0_0 x6_1) * t546)))) + x7_2)) 4294967296)) (wrap64 (x8_2 + 1)) l0_0 l1_0) = some r := by first | (rw [hy547]; with_reducible exact H) | (have H2_ := (Option.bind_some _ _).symm.trans H; rw [hy547]; with_reducible exact H2_) | (have H2_ := (Option.bind_some _ _).symm.trans H; with_reducible exact H2_) | with_reducible exact H | (rw [hy547]; exact H) | exact H
             have Ny547 := A_ hy547;clear hy547
             have H' := A_ H
             clear H
             have hnb28 := NB536_535.out
             have hnc28 := NB535_536.out
             have hnb29 := NB536_537.out
             have hnc29 := NB537_536.out
             have hcz30_0 : wr.cell? ⟨gb536, 0, none⟩ = some (.slice A1_0 l1_0.length c1_0) := bc_ BK536.out 0
             have hfz30_0 := blk_frozen BK536.out 0
             obtain ⟨Ao31, co31, eo31⟩ := Kd.R_slice HO_5.out
             subst eo31
             have p544 : 0 ≤ ((ji21) : Int) := of_decide_eq_true (by first | (with_reducible assumption) | assumption)
             have q544 : (ji21) < (x5_2.length : Int) := of_decide_eq_true (by first | (with_reducible assumption) | assumption)
             obtain ⟨ad544, e544, hx544_0⟩ := Kd.at_int (Kd.R_reads' HO_5.out).2.2 (ji21) p544 q544
             cases e544
             replace p544 := eq_true p544
             replace q544 := eq_true q544
             have hnb32 := NB535_537.out
             have hnc32 := NB537_535.out
             have hcz33_0 : wr.cell? ⟨gb535, 0, none⟩ = some (.slice A0_0 l0_0.length c0_0) := bc_ BK535.out 0
             have hfz33_0 := blk_frozen BK535.out 0
             have p545 : 0 ≤ (x6_1 : Int) := of_decide_eq_true (by first | (with_reducible assumption) | assumption)
             have q545 : x6_1 < (l0_0.length : Int) := of_decide_eq_true (by first | (with_reducible assumption) | assumption)
             obtain ⟨ad545, e545, hx545_0⟩ := Kd.at_int HR0_0.out x6_1 p545 q545
             cases e545
             replace hx545_0 := (HB.out.cell (World.block_lt_of_cell? w _ hx545_0)).trans hx545_0
             replace p545 := eq_true p545
             replace q545 := eq_true q545
             go_wp2_with (first | (go_at_call 93; (with_reducible refine (r1_at.calls _ _ l1_0 x8_2 t546 _ ?side1 ?side2 A26.out).mono ?_); (case side1 => repeat (first | exact (Kd.C_below HR1_0.out HB.out) | (with_reducible refine Kd.C_alloc ?_ _) | (with_reducible refine Kd.C_drewN ?_ _) | (with_reducible refine Kd.C_drew ?_))); (case side2 => exact HC1_0.out); rintro e w' ⟨rfl, ⟨nd, rfl⟩⟩; (try first | exact ⟨rfl, _, World.drewN_drewN _ _ _⟩ | exact ⟨rfl, _, Eq.trans (World.drewN_drewN _ _ _) (congrArg (World.drewN _) (Nat.add_assoc _ _ _))⟩); have p27 : 0 ≤ ((ji21) : Int) := of_decide_eq_true (by first | (with_reducible assumption) | assumption); have q27 : ((ji21) : Int) < ((x5_2.length : Int) : Int) := of_decide_eq_true (by first | (with_reducible assumption) | assumption); obtain ⟨go27, co27, eo27, gb27, gl27, cl27, HG27⟩ := Kd.R_form HO_5.out (by omega); (first | cases eo27 | (injection eo27 with ea_ en_ ec_; (first | subst ea_ | (injection ea_ with ea_; subst ea_)); subst ec_; clear en_)); have GB27 := A_ gb27; have GG27 := A_ HG27; clear gb27 gl27 HG27; (first | simp only [add_plain] at hx544_0 | skip); obtain ⟨hx27_0, hf27_0⟩ := Kd.R_celln 0 HO_5.out ((ji21) : Int) p27 q27; replace p27 := eq_true p27; replace q27 := eq_true q27; obtain ⟨hy34_, hz34_⟩ := Kd.R_celln 0 HO_5.out ((ji21) : Int) (of_decide_eq_true (by first | (with_reducible assumption) | assumption)) (of_decide_eq_true (by first | (with_reducible assumption) | assumption)); have HP34 := Kd.R_putg HO_5.out ((ji21) : Int) (Int.tmod (IntKind.u64.wrap ((IntKind.u64.wrap ((rd x5_2 (ji21)) + (IntKind.u64.wrap ((rd l0_0 x6_1) * t546)))) + x7_2)) 4294967296)) | ((with_reducible refine gate_store (t := 22) (p := 62) rfl ?_); (try (rw [drewN_self wr]; generalize hq_ : World.drewN wr _ = wr; have n0_ := A_ (Kd.R_at hq_ HO_5.out); have n1_ := A_ (blk_at hq_ BK535.out); have n2_ := A_ (blk_at hq_ BK536.out); have n3_ := A_ (blk_at hq_ BK537.out); have n4_ := A_ (below_at hq_ HB.out); clear hq_ HO_5 BK535 BK536 BK537 HB; have HO_5 := n0_; have BK535 := n1_; have BK536 := n2_; have BK537 := n3_; have HB := n4_; clear n0_ n1_ n2_ n3_ n4_; (try (obtain ⟨hy34_, hz34_⟩ := Kd.R_celln 0 HO_5.out ((ji21) : Int) (of_decide_eq_true (by first | (with_reducible assumption) | assumption)) (of_decide_eq_true (by first | (with_reducible assumption) | assumption)))); (try (have HP34 := Kd.R_putg HO_5.out ((ji21) : Int) (Int.tmod (IntKind.u64.wrap ((IntKind.u64.wrap ((rd x5_2 (ji21)) + (IntKind.u64.wrap ((rd l0_0 x6_1) * t546)))) + x7_2)) 4294967296))))); refine store_event (t := 22) (p := 62) (v := ?vo_w35) (w1 := (wr.setCell ⟨go27, ((ji21) : Int).toNat, none⟩ (.int .u64 (Int.tmod (IntKind.u64.wrap ((IntKind.u64.wrap ((rd x5_2 (ji21)) + (IntKind.u64.wrap ((rd l0_0 x6_1) * t546)))) + x7_2)) 4294967296)))) ?hg ?ho ?hn ?hr ?_; (case ho => rfl); (case hg => rfl); (case hn => rfl); (case hr => first | (go_simp; done) | (go_simp; rfl)); intro w35 hw; have hg : wr.grownBy w35 (some go27) := (by rw [hw]; exact HP34.2); have hp_ : Kd.R (Kd.int .u64) 22 w35 w.heap.size (fun _ => True) (.slice (some ⟨go27, 0, none⟩) x5_2.length co31) y547 := (by rw [hw, Ny547.out]; exact HP34.1); clear HP34; have n0_ := A_ (hp_); have n1_ := A_ (blk_grown (g := gb535) (o := .cells #[.slice (some ad545) l0_0.length c0_0] 63 (0, 0)) (bk_ BK535.out) hg (Kd.R_ne HO_5.out BK535.out (by decide))); have n2_ := A_ (blk_grown (g := gb536) (o := .cells #[.slice A1_0 l1_0.length c1_0] 63 (0, 0)) (bk_ BK536.out) hg (Kd.R_ne HO_5.out BK536.out (by decide))); have n3_ := A_ (blk_grown (g := gb537) (o := .cells #[.slice none 0 0] 63 (0, 0)) (bk_ BK537.out) hg (Kd.R_ne HO_5.out BK537.out (by decide))); have n4_ := A_ ((by rw [hw]; exact below_set (HB.out) GB27.out : Below w.heap.size w w35)); clear HO_5; clear BK535; clear BK536; clear BK537; clear HB; have HO_5 := n0_; have BK535 := n1_; have BK536 := n2_; have BK537 := n3_; have HB := n4_; clear n0_ n1_ n2_ n3_ n4_; clear hg hw hp_))
             repeat (go_quiet (first | (go_at_call 93; (with_reducible refine (r1_at.calls _ _ l1_0 x8_2 t546 _ ?side1 ?side2 A26.out).mono ?_); (case side1 => repeat (first | exact (Kd.C_below HR1_0.out HB.out) | (with_reducible refine Kd.C_alloc ?_ _) | (with_reducible refine Kd.C_drewN ?_ _) | (with_reducible refine Kd.C_drew ?_))); (case side2 => exact HC1_0.out); rintro e w' ⟨rfl, ⟨nd, rfl⟩⟩; (try first | exact ⟨rfl, _, World.drewN_drewN _ _ _⟩ | exact ⟨rfl, _, Eq.trans (World.drewN_drewN _ _ _) (congrArg (World.drewN _) (Nat.add_assoc _ _ _))⟩); have p27 : 0 ≤ ((ji21) : Int) := of_decide_eq_true (by first | (with_reducible assumption) | assumption); have q27 : ((ji21) : Int) < ((x5_2.length : Int) : Int) := of_decide_eq_true (by first | (with_reducible assumption) | assumption); obtain ⟨go27, co27, eo27, gb27, gl27, cl27, HG27⟩ := Kd.R_form HO_5.out (by omega); (first | cases eo27 | (injection eo27 with ea_ en_ ec_; (first | subst ea_ | (injection ea_ with ea_; subst ea_)); subst ec_; clear en_)); have GB27 := A_ gb27; have GG27 := A_ HG27; clear gb27 gl27 HG27; (first | simp only [add_plain] at hx544_0 | skip); obtain ⟨hx27_0, hf27_0⟩ := Kd.R_celln 0 HO_5.out ((ji21) : Int) p27 q27; replace p27 := eq_true p27; replace q27 := eq_true q27; obtain ⟨hy34_, hz34_⟩ := Kd.R_celln 0 HO_5.out ((ji21) : Int) (of_decide_eq_true (by first | (with_reducible assumption) | assumption)) (of_decide_eq_true (by first | (with_reducible assumption) | assumption)); have HP34 := Kd.R_putg HO_5.out ((ji21) : Int) (Int.tmod (IntKind.u64.wrap ((IntKind.u64.wrap ((rd x5_2 (ji21)) + (IntKind.u64.wrap ((rd l0_0 x6_1) * t546)))) + x7_2)) 4294967296)) | ((with_reducible refine gate_store (t := 22) (p := 62) rfl ?_); (try (rw [drewN_self wr]; generalize hq_ : World.drewN wr _ = wr; have n0_ := A_ (Kd.R_at hq_ HO_5.out); have n1_ := A_ (blk_at hq_ BK535.out); have n2_ := A_ (blk_at hq_ BK536.out); have n3_ := A_ (blk_at hq_ BK537.out); have n4_ := A_ (below_at hq_ HB.out); clear hq_ HO_5 BK535 BK536 BK537 HB; have HO_5 := n0_; have BK535 := n1_; have BK536 := n2_; have BK537 := n3_; have HB := n4_; clear n0_ n1_ n2_ n3_ n4_; (try (obtain ⟨hy34_, hz34_⟩ := Kd.R_celln 0 HO_5.out ((ji21) : Int) (of_decide_eq_true (by first | (with_reducible assumption) | assumption)) (of_decide_eq_true (by first | (with_reducible assumption) | assumption)))); (try (have HP34 := Kd.R_putg HO_5.out ((ji21) : Int) (Int.tmod (IntKind.u64.wrap ((IntKind.u64.wrap ((rd x5_2 (ji21)) + (IntKind.u64.wrap ((rd l0_0 x6_1) * t546)))) + x7_2)) 4294967296))))); refine store_event (t := 22) (p := 62) (v := ?vo_w35) (w1 := (wr.setCell ⟨go27, ((ji21) : Int).toNat, none⟩ (.int .u64 (Int.tmod (IntKind.u64.wrap ((IntKind.u64.wrap ((rd x5_2 (ji21)) + (IntKind.u64.wrap ((rd l0_0 x6_1) * t546)))) + x7_2)) 4294967296)))) ?hg ?ho ?hn ?hr ?_; (case ho => rfl); (case hg => rfl); (case hn => rfl); (case hr => first | (go_simp; done) | (go_simp; rfl)); intro w35 hw; have hg : wr.grownBy w35 (some go27) := (by rw [hw]; exact HP34.2); have hp_ : Kd.R (Kd.int .u64) 22 w35 w.heap.size (fun _ => True) (.slice (some ⟨go27, 0, none⟩) x5_2.length co31) y547 := (by rw [hw, Ny547.out]; exact HP34.1); clear HP34; have n0_ := A_ (hp_); have n1_ := A_ (blk_grown (g := gb535) (o := .cells #[.slice (some ad545) l0_0.length c0_0] 63 (0, 0)) (bk_ BK535.out) hg (Kd.R_ne HO_5.out BK535.out (by decide))); have n2_ := A_ (blk_grown (g := gb536) (o := .cells #[.slice A1_0 l1_0.length c1_0] 63 (0, 0)) (bk_ BK536.out) hg (Kd.R_ne HO_5.out BK536.out (by decide))); have n3_ := A_ (blk_grown (g := gb537) (o := .cells #[.slice none 0 0] 63 (0, 0)) (bk_ BK537.out) hg (Kd.R_ne HO_5.out BK537.out (by decide))); have n4_ := A_ ((by rw [hw]; exact below_set (HB.out) GB27.out : Below w.heap.size w w35)); clear HO_5; clear BK535; clear BK536; clear BK537; clear HB; have HO_5 := n0_; have BK535 := n1_; have BK536 := n2_; have BK537 := n3_; have HB := n4_; clear n0_ n1_ n2_ n3_ n4_; clear hg hw hp_)); try go_wp2_with (first | (go_at_call 93; (with_reducible refine (r1_at.calls _ _ l1_0 x8_2 t546 _ ?side1 ?side2 A26.out).mono ?_); (case side1 => repeat (first | exact (Kd.C_below HR1_0.out HB.out) | (with_reducible refine Kd.C_alloc ?_ _) | (with_reducible refine Kd.C_drewN ?_ _) | (with_reducible refine Kd.C_drew ?_))); (case side2 => exact HC1_0.out); rintro e w' ⟨rfl, ⟨nd, rfl⟩⟩; (try first | exact ⟨rfl, _, World.drewN_drewN _ _ _⟩ | exact ⟨rfl, _, Eq.trans (World.drewN_drewN _ _ _) (congrArg (World.drewN _) (Nat.add_assoc _ _ _))⟩); have p27 : 0 ≤ ((ji21) : Int) := of_decide_eq_true (by first | (with_reducible assumption) | assumption); have q27 : ((ji21) : Int) < ((x5_2.length : Int) : Int) := of_decide_eq_true (by first | (with_reducible assumption) | assumption); obtain ⟨go27, co27, eo27, gb27, gl27, cl27, HG27⟩ := Kd.R_form HO_5.out (by omega); (first | cases eo27 | (injection eo27 with ea_ en_ ec_; (first | subst ea_ | (injection ea_ with ea_; subst ea_)); subst ec_; clear en_)); have GB27 := A_ gb27; have GG27 := A_ HG27; clear gb27 gl27 HG27; (first | simp only [add_plain] at hx544_0 | skip); obtain ⟨hx27_0, hf27_0⟩ := Kd.R_celln 0 HO_5.out ((ji21) : Int) p27 q27; replace p27 := eq_true p27; replace q27 := eq_true q27; obtain ⟨hy34_, hz34_⟩ := Kd.R_celln 0 HO_5.out ((ji21) : Int) (of_decide_eq_true (by first | (with_reducible assumption) | assumption)) (of_decide_eq_true (by first | (with_reducible assumption) | assumption)); have HP34 := Kd.R_putg HO_5.out ((ji21) : Int) (Int.tmod (IntKind.u64.wrap ((IntKind.u64.wrap ((rd x5_2 (ji21)) + (IntKind.u64.wrap ((rd l0_0 x6_1) * t546)))) + x7_2)) 4294967296)) | ((with_reducible refine gate_store (t := 22) (p := 62) rfl ?_); (try (rw [drewN_self wr]; generalize hq_ : World.drewN wr _ = wr; have n0_ := A_ (Kd.R_at hq_ HO_5.out); have n1_ := A_ (blk_at hq_ BK535.out); have n2_ := A_ (blk_at hq_ BK536.out); have n3_ := A_ (blk_at hq_ BK537.out); have n4_ := A_ (below_at hq_ HB.out); clear hq_ HO_5 BK535 BK536 BK537 HB; have HO_5 := n0_; have BK535 := n1_; have BK536 := n2_; have BK537 := n3_; have HB := n4_; clear n0_ n1_ n2_ n3_ n4_; (try (obtain ⟨hy34_, hz34_⟩ := Kd.R_celln 0 HO_5.out ((ji21) : Int) (of_decide_eq_true (by first | (with_reducible assumption) | assumption)) (of_decide_eq_true (by first | (with_reducible assumption) | assumption)))); (try (have HP34 := Kd.R_putg HO_5.out ((ji21) : Int) (Int.tmod (IntKind.u64.wrap ((IntKind.u64.wrap ((rd x5_2 (ji21)) + (IntKind.u64.wrap ((rd l0_0 x6_1) * t546)))) + x7_2)) 4294967296))))); refine store_event (t := 22) (p := 62) (v := ?vo_w35) (w1 := (wr.setCell ⟨go27, ((ji21) : Int).toNat, none⟩ (.int .u64 (Int.tmod (IntKind.u64.wrap ((IntKind.u64.wrap ((rd x5_2 (ji21)) + (IntKind.u64.wrap ((rd l0_0 x6_1) * t546)))) + x7_2)) 4294967296)))) ?hg ?ho ?hn ?hr ?_; (case ho => rfl); (case hg => rfl); (case hn => rfl); (case hr => first | (go_simp; done) | (go_simp; rfl)); intro w35 hw; have hg : wr.grownBy w35 (some go27) := (by rw [hw]; exact HP34.2); have hp_ : Kd.R (Kd.int .u64) 22 w35 w.heap.size (fun _ => True) (.slice (some ⟨go27, 0, none⟩) x5_2.length co31) y547 := (by rw [hw, Ny547.out]; exact HP34.1); clear HP34; have n0_ := A_ (hp_); have n1_ := A_ (blk_grown (g := gb535) (o := .cells #[.slice (some ad545) l0_0.length c0_0] 63 (0, 0)) (bk_ BK535.out) hg (Kd.R_ne HO_5.out BK535.out (by decide))); have n2_ := A_ (blk_grown (g := gb536) (o := .cells #[.slice A1_0 l1_0.length c1_0] 63 (0, 0)) (bk_ BK536.out) hg (Kd.R_ne HO_5.out BK536.out (by decide))); have n3_ := A_ (blk_grown (g := gb537) (o := .cells #[.slice none 0 0] 63 (0, 0)) (bk_ BK537.out) hg (Kd.R_ne HO_5.out BK537.out (by decide))); have n4_ := A_ ((by rw [hw]; exact below_set (HB.out) GB27.out : Below w.heap.size w w35)); clear HO_5; clear BK535; clear BK536; clear BK537; clear HB; have HO_5 := n0_; have BK535 := n1_; have BK536 := n2_; have BK537 := n3_; have HB := n4_; clear n0_ n1_ n2_ n3_ n4_; clear hg hw hp_)))
             go_roundg k2
             case measure => have := HK1.out; have := HK2.out; omega
             case rel => exact ⟨(y547), (IntKind.u64.wrap (Int.tdiv (IntKind.u64.wrap ((IntKind.u64.wrap ((rd x5_2 (ji21)) + (IntKind.u64.wrap ((rd l0_0 x6_1) * t546)))) + x7_2)) 4294967296)), (wrap64 (x8_2 + 1)), (by first | rfl | (simp; done) | (simp only [← hji21] <;> (first | rfl | simp)) | (simp [*]; done)), sm_, H', ⟨by have := HK1.out; have := HK2.out; omega⟩, ⟨by (with_reducible repeat (first | apply Kd.R_alloc | apply Kd.R_drewN | apply Kd.R_drew)); exact HO_5.out⟩, ⟨bk_ BK535.out⟩, ⟨bk_ BK536.out⟩, ⟨bk_ BK537.out⟩, ⟨hb3_ HB.out GE535.out GE536.out GE537.out⟩⟩
            ·rw [if_neg c25] at H
             exact absurd H (by simp)
           ·rw [if_neg c24] at H
            exact absurd H (by simp)
          ·rw [if_neg c23] at H
           exact absurd H (by simp)
         ·rw [if_neg c22] at H
          exact absurd H (by simp)
        ·rw [if_neg c20] at H
         have c20b0 : decide (x8_2 < (l1_0.length : Int)) = false := decide_eq_false c20
         clear c20
         by_cases c36 : x7_2 > 0
         ·rw [if_pos c36] at H
          have c36b0 : decide (0 < x7_2) = true := decide_eq_true c36
          clear c36
          obtain ⟨ji37, hji37⟩ : ∃ j_ : Int, (wrap64 (x6_1 + x8_2)) = j_ := ⟨_, rfl⟩
          replace H : (if 0 ≤ (ji37) then (if (ji37) < (x5_2.length : Int) then (if 0 ≤ x6_1 then (if x6_1 < (l0_0.length : Int) then ((r1_at.f l1_0 x8_2).bind fun t550 => (r1_Mul.l1 k2 (x5_2.set ((ji37) : Int).toNat (Int.tmod (IntKind.u64.wrap ((IntKind.u64.wrap ((rd x5_2 (ji37)) + (IntKind.u64.wrap ((rd l0_0 x6_1) * t550)))) + x7_2)) 4294967296)) x6_1 (IntKind.u64.wrap (Int.tdiv (IntKind.u64.wrap ((IntKind.u64.wrap ((rd x5_2 (ji37)) + (IntKind.u64.wrap ((rd l0_0 x6_1) * t550)))) + x7_2)) 4294967296)) (wrap64 (x8_2 + 1)) l0_0 l1_0)) else (none)) else (none)) else (none)) else (none)) = some r := by first | (rw [hji37] at H; exact H) | (simp only [hji37] at H ⊢; exact H)
          have hji37w : (IntKind.i64.wrap (x6_1 + x8_2)) = ji37 := (i64_w _).trans hji37
          by_cases c38 : 0 ≤ (ji37)
          ·rw [if_pos c38] at H
           have c38b0 : decide (0 ≤ (ji37)) = true := decide_eq_true c38
           clear c38
           by_cases c39 : (ji37) < (x5_2.length : Int)
           ·rw [if_pos c39] at H
            have c39b0 : decide ((ji37) < (x5_2.length : Int)) = true := decide_eq_true c39
            clear c39
            by_cases c40 : 0 ≤ x6_1
            ·rw [if_pos c40] at H
             have c40b0 : decide (0 ≤ x6_1) = true := decide_eq_true c40
             clear c40
             by_cases c41 : x6_1 < (l0_0.length : Int)
             ·rw [if_pos c41] at H
              have c41b0 : decide (x6_1 < (l0_0.length : Int)) = true := decide_eq_true c41
              clear c41
              replace H := ob_ H
              obtain ⟨t550, A420, H⟩ := H
              replace H : (r1_Mul.l1 k2 (x5_2.set ((ji37) : Int).toNat (Int.tmod (IntKind.u64.wrap ((IntKind.u64.wrap ((rd x5_2 (ji37)) + (IntKind.u64.wrap ((rd l0_0 x6_1) * t550)))) + x7_2)) 4294967296)) x6_1 (IntKind.u64.wrap (Int.tdiv (IntKind.u64.wrap ((IntKind.u64.wrap ((rd x5_2 (ji37)) + (IntKind.u64.wrap ((rd l0_0 x6_1) * t550)))) + x7_2)) 4294967296)) (wrap64 (x8_2 + 1)) l0_0 l1_0) = some r := H
              have A42 := A_ A420;clear A420
              obtain ⟨y551, hy551⟩ : ∃ y_ : List Int, y_ = (x5_2.set ((ji37) : Int).toNat (Int.tmod (IntKind.u64.wrap ((IntKind.u64.wrap ((rd x5_2 (ji37)) + (IntKind.u64.wrap ((rd l0_0 x6_1) * t550)))) + x7_2)) 4294967296)) := ⟨_, rfl⟩
              replace H : (r1_Mul.l1 k2 y551 x6_1 (IntKind.u64.wrap (Int.tdiv (IntKind.u64.wrap ((IntKind.u64.wrap ((rd x5_2 (ji37)) + (IntKind.u64.wrap ((rd l0_0 x6_1) * t550)))) + x7_2)) 4294967296)) (wrap64 (x8_2 + 1)) l0_0 l1_0) = some r := by first | (rw [hy551]; with_reducible exact H) | (have H2_ := (Option.bind_some _ _).symm.trans H; rw [hy551]; with_reducible exact H2_) | (have H2_ := (Option.bind_some _ _).symm.trans H; with_reducible exact H2_) | with_reducible exact H | (rw [hy551]; exact H) | exact H
              have Ny551 := A_ hy551;clear hy551
              have H' := A_ H
              clear H
              have hnb44 := NB536_535.out
              have hnc44 := NB535_536.out
              have hnb45 := NB536_537.out
              have hnc45 := NB537_536.out
              have hcz46_0 : wr.cell? ⟨gb536, 0, none⟩ = some (.slice A1_0 l1_0.length c1_0) := bc_ BK536.out 0
              have hfz46_0 := blk_frozen BK536.out 0
              obtain ⟨Ao47, co47, eo47⟩ := Kd.R_slice HO_5.out
              subst eo47
              have p548 : 0 ≤ ((ji37) : Int) := of_decide_eq_true (by first | (with_reducible assumption) | assumption)
              have q548 : (ji37) < (x5_2.length : Int) := of_decide_eq_true (by first | (with_reducible assumption) | assumption)
              obtain ⟨ad548, e548, hx548_0⟩ := Kd.at_int (Kd.R_reads' HO_5.out).2.2 (ji37) p548 q548
              cases e548
              replace p548 := eq_true p548
              replace q548 := eq_true q548
              have hnb48 := NB535_537.out
              have hnc48 := NB537_535.out
              have hcz49_0 : wr.cell? ⟨gb535, 0, none⟩ = some (.slice A0_0 l0_0.length c0_0) := bc_ BK535.out 0
              have hfz49_0 := blk_frozen BK535.out 0
              have p549 : 0 ≤ (x6_1 : Int) := of_decide_eq_true (by first | (with_reducible assumption) | assumption)
              have q549 : x6_1 < (l0_0.length : Int) := of_decide_eq_true (by first | (with_reducible assumption) | assumption)
              obtain ⟨ad549, e549, hx549_0⟩ := Kd.at_int HR0_0.out x6_1 p549 q549
              cases e549
              replace hx549_0 := (HB.out.cell (World.block_lt_of_cell? w _ hx549_0)).trans hx549_0
              replace p549 := eq_true p549
              replace q549 := eq_true q549
              go_wp2_with (first | (go_at_call 93; (with_reducible refine (r1_at.calls _ _ l1_0 x8_2 t550 _ ?side1 ?side2 A42.out).mono ?_); (case side1 => repeat (first | exact (Kd.C_below HR1_0.out HB.out) | (with_reducible refine Kd.C_alloc ?_ _) | (with_reducible refine Kd.C_drewN ?_ _) | (with_reducible refine Kd.C_drew ?_))); (case side2 => exact HC1_0.out); rintro e w' ⟨rfl, ⟨nd, rfl⟩⟩; (try first | exact ⟨rfl, _, World.drewN_drewN _ _ _⟩ | exact ⟨rfl, _, Eq.trans (World.drewN_drewN _ _ _) (congrArg (World.drewN _) (Nat.add_assoc _ _ _))⟩); have p43 : 0 ≤ ((ji37) : Int) := of_decide_eq_true (by first | (with_reducible assumption) | assumption); have q43 : ((ji37) : Int) < ((x5_2.length : Int) : Int) := of_decide_eq_true (by first | (with_reducible assumption) | assumption); obtain ⟨go43, co43, eo43, gb43, gl43, cl43, HG43⟩ := Kd.R_form HO_5.out (by omega); (first | cases eo43 | (injection eo43 with ea_ en_ ec_; (first | subst ea_ | (injection ea_ with ea_; subst ea_)); subst ec_; clear en_)); have GB43 := A_ gb43; have GG43 := A_ HG43; clear gb43 gl43 HG43; (first | simp only [add_plain] at hx548_0 | skip); obtain ⟨hx43_0, hf43_0⟩ := Kd.R_celln 0 HO_5.out ((ji37) : Int) p43 q43; replace p43 := eq_true p43; replace q43 := eq_true q43; obtain ⟨hy50_, hz50_⟩ := Kd.R_celln 0 HO_5.out ((ji37) : Int) (of_decide_eq_true (by first | (with_reducible assumption) | assumption)) (of_decide_eq_true (by first | (with_reducible assumption) | assumption)); have HP50 := Kd.R_putg HO_5.out ((ji37) : Int) (Int.tmod (IntKind.u64.wrap ((IntKind.u64.wrap ((rd x5_2 (ji37)) + (IntKind.u64.wrap ((rd l0_0 x6_1) * t550)))) + x7_2)) 4294967296)) | ((with_reducible refine gate_store (t := 22) (p := 62) rfl ?_); (try (rw [drewN_self wr]; generalize hq_ : World.drewN wr _ = wr; have n0_ := A_ (Kd.R_at hq_ HO_5.out); have n1_ := A_ (blk_at hq_ BK535.out); have n2_ := A_ (blk_at hq_ BK536.out); have n3_ := A_ (blk_at hq_ BK537.out); have n4_ := A_ (below_at hq_ HB.out); clear hq_ HO_5 BK535 BK536 BK537 HB; have HO_5 := n0_; have BK535 := n1_; have BK536 := n2_; have BK537 := n3_; have HB := n4_; clear n0_ n1_ n2_ n3_ n4_; (try (obtain ⟨hy50_, hz50_⟩ := Kd.R_celln 0 HO_5.out ((ji37) : Int) (of_decide_eq_true (by first | (with_reducible assumption) | assumption)) (of_decide_eq_true (by first | (with_reducible assumption) | assumption)))); (try (have HP50 := Kd.R_putg HO_5.out ((ji37) : Int) (Int.tmod (IntKind.u64.wrap ((IntKind.u64.wrap ((rd x5_2 (ji37)) + (IntKind.u64.wrap ((rd l0_0 x6_1) * t550)))) + x7_2)) 4294967296))))); refine store_event (t := 22) (p := 62) (v := ?vo_w51) (w1 := (wr.setCell ⟨go43, ((ji37) : Int).toNat, none⟩ (.int .u64 (Int.tmod (IntKind.u64.wrap ((IntKind.u64.wrap ((rd x5_2 (ji37)) + (IntKind.u64.wrap ((rd l0_0 x6_1) * t550)))) + x7_2)) 4294967296)))) ?hg ?ho ?hn ?hr ?_; (case ho => rfl); (case hg => rfl); (case hn => rfl); (case hr => first | (go_simp; done) | (go_simp; rfl)); intro w51 hw; have hg : wr.grownBy w51 (some go43) := (by rw [hw]; exact HP50.2); have hp_ : Kd.R (Kd.int .u64) 22 w51 w.heap.size (fun _ => True) (.slice (some ⟨go43, 0, none⟩) x5_2.length co47) y551 := (by rw [hw, Ny551.out]; exact HP50.1); clear HP50; have n0_ := A_ (hp_); have n1_ := A_ (blk_grown (g := gb535) (o := .cells #[.slice (some ad549) l0_0.length c0_0] 63 (0, 0)) (bk_ BK535.out) hg (Kd.R_ne HO_5.out BK535.out (by decide))); have n2_ := A_ (blk_grown (g := gb536) (o := .cells #[.slice A1_0 l1_0.length c1_0] 63 (0, 0)) (bk_ BK536.out) hg (Kd.R_ne HO_5.out BK536.out (by decide))); have n3_ := A_ (blk_grown (g := gb537) (o := .cells #[.slice none 0 0] 63 (0, 0)) (bk_ BK537.out) hg (Kd.R_ne HO_5.out BK537.out (by decide))); have n4_ := A_ ((by rw [hw]; exact below_set (HB.out) GB43.out : Below w.heap.size w w51)); clear HO_5; clear BK535; clear BK536; clear BK537; clear HB; have HO_5 := n0_; have BK535 := n1_; have BK536 := n2_; have BK537 := n3_; have HB := n4_; clear n0_ n1_ n2_ n3_ n4_; clear hg hw hp_))
              repeat (go_quiet (first | (go_at_call 93; (with_reducible refine (r1_at.calls _ _ l1_0 x8_2 t550 _ ?side1 ?side2 A42.out).mono ?_); (case side1 => repeat (first | exact (Kd.C_below HR1_0.out HB.out) | (with_reducible refine Kd.C_alloc ?_ _) | (with_reducible refine Kd.C_drewN ?_ _) | (with_reducible refine Kd.C_drew ?_))); (case side2 => exact HC1_0.out); rintro e w' ⟨rfl, ⟨nd, rfl⟩⟩; (try first | exact ⟨rfl, _, World.drewN_drewN _ _ _⟩ | exact ⟨rfl, _, Eq.trans (World.drewN_drewN _ _ _) (congrArg (World.drewN _) (Nat.add_assoc _ _ _))⟩); have p43 : 0 ≤ ((ji37) : Int) := of_decide_eq_true (by first | (with_reducible assumption) | assumption); have q43 : ((ji37) : Int) < ((x5_2.length : Int) : Int) := of_decide_eq_true (by first | (with_reducible assumption) | assumption); obtain ⟨go43, co43, eo43, gb43, gl43, cl43, HG43⟩ := Kd.R_form HO_5.out (by omega); (first | cases eo43 | (injection eo43 with ea_ en_ ec_; (first | subst ea_ | (injection ea_ with ea_; subst ea_)); subst ec_; clear en_)); have GB43 := A_ gb43; have GG43 := A_ HG43; clear gb43 gl43 HG43; (first | simp only [add_plain] at hx548_0 | skip); obtain ⟨hx43_0, hf43_0⟩ := Kd.R_celln 0 HO_5.out ((ji37) : Int) p43 q43; replace p43 := eq_true p43; replace q43 := eq_true q43; obtain ⟨hy50_, hz50_⟩ := Kd.R_celln 0 HO_5.out ((ji37) : Int) (of_decide_eq_true (by first | (with_reducible assumption) | assumption)) (of_decide_eq_true (by first | (with_reducible assumption) | assumption)); have HP50 := Kd.R_putg HO_5.out ((ji37) : Int) (Int.tmod (IntKind.u64.wrap ((IntKind.u64.wrap ((rd x5_2 (ji37)) + (IntKind.u64.wrap ((rd l0_0 x6_1) * t550)))) + x7_2)) 4294967296)) | ((with_reducible refine gate_store (t := 22) (p := 62) rfl ?_); (try (rw [drewN_self wr]; generalize hq_ : World.drewN wr _ = wr; have n0_ := A_ (Kd.R_at hq_ HO_5.out); have n1_ := A_ (blk_at hq_ BK535.out); have n2_ := A_ (blk_at hq_ BK536.out); have n3_ := A_ (blk_at hq_ BK537.out); have n4_ := A_ (below_at hq_ HB.out); clear hq_ HO_5 BK535 BK536 BK537 HB; have HO_5 := n0_; have BK535 := n1_; have BK536 := n2_; have BK537 := n3_; have HB := n4_; clear n0_ n1_ n2_ n3_ n4_; (try (obtain ⟨hy50_, hz50_⟩ := Kd.R_celln 0 HO_5.out ((ji37) : Int) (of_decide_eq_true (by first | (with_reducible assumption) | assumption)) (of_decide_eq_true (by first | (with_reducible assumption) | assumption)))); (try (have HP50 := Kd.R_putg HO_5.out ((ji37) : Int) (Int.tmod (IntKind.u64.wrap ((IntKind.u64.wrap ((rd x5_2 (ji37)) + (IntKind.u64.wrap ((rd l0_0 x6_1) * t550)))) + x7_2)) 4294967296))))); refine store_event (t := 22) (p := 62) (v := ?vo_w51) (w1 := (wr.setCell ⟨go43, ((ji37) : Int).toNat, none⟩ (.int .u64 (Int.tmod (IntKind.u64.wrap ((IntKind.u64.wrap ((rd x5_2 (ji37)) + (IntKind.u64.wrap ((rd l0_0 x6_1) * t550)))) + x7_2)) 4294967296)))) ?hg ?ho ?hn ?hr ?_; (case ho => rfl); (case hg => rfl); (case hn => rfl); (case hr => first | (go_simp; done) | (go_simp; rfl)); intro w51 hw; have hg : wr.grownBy w51 (some go43) := (by rw [hw]; exact HP50.2); have hp_ : Kd.R (Kd.int .u64) 22 w51 w.heap.size (fun _ => True) (.slice (some ⟨go43, 0, none⟩) x5_2.length co47) y551 := (by rw [hw, Ny551.out]; exact HP50.1); clear HP50; have n0_ := A_ (hp_); have n1_ := A_ (blk_grown (g := gb535) (o := .cells #[.slice (some ad549) l0_0.length c0_0] 63 (0, 0)) (bk_ BK535.out) hg (Kd.R_ne HO_5.out BK535.out (by decide))); have n2_ := A_ (blk_grown (g := gb536) (o := .cells #[.slice A1_0 l1_0.length c1_0] 63 (0, 0)) (bk_ BK536.out) hg (Kd.R_ne HO_5.out BK536.out (by decide))); have n3_ := A_ (blk_grown (g := gb537) (o := .cells #[.slice none 0 0] 63 (0, 0)) (bk_ BK537.out) hg (Kd.R_ne HO_5.out BK537.out (by decide))); have n4_ := A_ ((by rw [hw]; exact below_set (HB.out) GB43.out : Below w.heap.size w w51)); clear HO_5; clear BK535; clear BK536; clear BK537; clear HB; have HO_5 := n0_; have BK535 := n1_; have BK536 := n2_; have BK537 := n3_; have HB := n4_; clear n0_ n1_ n2_ n3_ n4_; clear hg hw hp_)); try go_wp2_with (first | (go_at_call 93; (with_reducible refine (r1_at.calls _ _ l1_0 x8_2 t550 _ ?side1 ?side2 A42.out).mono ?_); (case side1 => repeat (first | exact (Kd.C_below HR1_0.out HB.out) | (with_reducible refine Kd.C_alloc ?_ _) | (with_reducible refine Kd.C_drewN ?_ _) | (with_reducible refine Kd.C_drew ?_))); (case side2 => exact HC1_0.out); rintro e w' ⟨rfl, ⟨nd, rfl⟩⟩; (try first | exact ⟨rfl, _, World.drewN_drewN _ _ _⟩ | exact ⟨rfl, _, Eq.trans (World.drewN_drewN _ _ _) (congrArg (World.drewN _) (Nat.add_assoc _ _ _))⟩); have p43 : 0 ≤ ((ji37) : Int) := of_decide_eq_true (by first | (with_reducible assumption) | assumption); have q43 : ((ji37) : Int) < ((x5_2.length : Int) : Int) := of_decide_eq_true (by first | (with_reducible assumption) | assumption); obtain ⟨go43, co43, eo43, gb43, gl43, cl43, HG43⟩ := Kd.R_form HO_5.out (by omega); (first | cases eo43 | (injection eo43 with ea_ en_ ec_; (first | subst ea_ | (injection ea_ with ea_; subst ea_)); subst ec_; clear en_)); have GB43 := A_ gb43; have GG43 := A_ HG43; clear gb43 gl43 HG43; (first | simp only [add_plain] at hx548_0 | skip); obtain ⟨hx43_0, hf43_0⟩ := Kd.R_celln 0 HO_5.out ((ji37) : Int) p43 q43; replace p43 := eq_true p43; replace q43 := eq_true q43; obtain ⟨hy50_, hz50_⟩ := Kd.R_celln 0 HO_5.out ((ji37) : Int) (of_decide_eq_true (by first | (with_reducible assumption) | assumption)) (of_decide_eq_true (by first | (with_reducible assumption) | assumption)); have HP50 := Kd.R_putg HO_5.out ((ji37) : Int) (Int.tmod (IntKind.u64.wrap ((IntKind.u64.wrap ((rd x5_2 (ji37)) + (IntKind.u64.wrap ((rd l0_0 x6_1) * t550)))) + x7_2)) 4294967296)) | ((with_reducible refine gate_store (t := 22) (p := 62) rfl ?_); (try (rw [drewN_self wr]; generalize hq_ : World.drewN wr _ = wr; have n0_ := A_ (Kd.R_at hq_ HO_5.out); have n1_ := A_ (blk_at hq_ BK535.out); have n2_ := A_ (blk_at hq_ BK536.out); have n3_ := A_ (blk_at hq_ BK537.out); have n4_ := A_ (below_at hq_ HB.out); clear hq_ HO_5 BK535 BK536 BK537 HB; have HO_5 := n0_; have BK535 := n1_; have BK536 := n2_; have BK537 := n3_; have HB := n4_; clear n0_ n1_ n2_ n3_ n4_; (try (obtain ⟨hy50_, hz50_⟩ := Kd.R_celln 0 HO_5.out ((ji37) : Int) (of_decide_eq_true (by first | (with_reducible assumption) | assumption)) (of_decide_eq_true (by first | (with_reducible assumption) | assumption)))); (try (have HP50 := Kd.R_putg HO_5.out ((ji37) : Int) (Int.tmod (IntKind.u64.wrap ((IntKind.u64.wrap ((rd x5_2 (ji37)) + (IntKind.u64.wrap ((rd l0_0 x6_1) * t550)))) + x7_2)) 4294967296))))); refine store_event (t := 22) (p := 62) (v := ?vo_w51) (w1 := (wr.setCell ⟨go43, ((ji37) : Int).toNat, none⟩ (.int .u64 (Int.tmod (IntKind.u64.wrap ((IntKind.u64.wrap ((rd x5_2 (ji37)) + (IntKind.u64.wrap ((rd l0_0 x6_1) * t550)))) + x7_2)) 4294967296)))) ?hg ?ho ?hn ?hr ?_; (case ho => rfl); (case hg => rfl); (case hn => rfl); (case hr => first | (go_simp; done) | (go_simp; rfl)); intro w51 hw; have hg : wr.grownBy w51 (some go43) := (by rw [hw]; exact HP50.2); have hp_ : Kd.R (Kd.int .u64) 22 w51 w.heap.size (fun _ => True) (.slice (some ⟨go43, 0, none⟩) x5_2.length co47) y551 := (by rw [hw, Ny551.out]; exact HP50.1); clear HP50; have n0_ := A_ (hp_); have n1_ := A_ (blk_grown (g := gb535) (o := .cells #[.slice (some ad549) l0_0.length c0_0] 63 (0, 0)) (bk_ BK535.out) hg (Kd.R_ne HO_5.out BK535.out (by decide))); have n2_ := A_ (blk_grown (g := gb536) (o := .cells #[.slice A1_0 l1_0.length c1_0] 63 (0, 0)) (bk_ BK536.out) hg (Kd.R_ne HO_5.out BK536.out (by decide))); have n3_ := A_ (blk_grown (g := gb537) (o := .cells #[.slice none 0 0] 63 (0, 0)) (bk_ BK537.out) hg (Kd.R_ne HO_5.out BK537.out (by decide))); have n4_ := A_ ((by rw [hw]; exact below_set (HB.out) GB43.out : Below w.heap.size w w51)); clear HO_5; clear BK535; clear BK536; clear BK537; clear HB; have HO_5 := n0_; have BK535 := n1_; have BK536 := n2_; have BK537 := n3_; have HB := n4_; clear n0_ n1_ n2_ n3_ n4_; clear hg hw hp_)))
              go_roundg k2
              case measure => have := HK1.out; have := HK2.out; omega
              case rel => exact ⟨(y551), (IntKind.u64.wrap (Int.tdiv (IntKind.u64.wrap ((IntKind.u64.wrap ((rd x5_2 (ji37)) + (IntKind.u64.wrap ((rd l0_0 x6_1) * t550)))) + x7_2)) 4294967296)), (wrap64 (x8_2 + 1)), (by first | rfl | (simp; done) | (simp only [← hji37] <;> (first | rfl | simp)) | (simp [*]; done)), sm_, H', ⟨by have := HK1.out; have := HK2.out; omega⟩, ⟨by (with_reducible repeat (first | apply Kd.R_alloc | apply Kd.R_drewN | apply Kd.R_drew)); exact HO_5.out⟩, ⟨bk_ BK535.out⟩, ⟨bk_ BK536.out⟩, ⟨bk_ BK537.out⟩, ⟨hb3_ HB.out GE535.out GE536.out GE537.out⟩⟩
             ·rw [if_neg c41] at H
              exact absurd H (by simp)
            ·rw [if_neg c40] at H
             exact absurd H (by simp)
           ·rw [if_neg c39] at H
            exact absurd H (by simp)
          ·rw [if_neg c38] at H
           exact absurd H (by simp)
         ·rw [if_neg c36] at H
          have c36b0 : decide (0 < x7_2) = false := decide_eq_false c36
          clear c36
          have H' := A_ H
          clear H
          have hnb52 := NB536_535.out
          have hnc52 := NB535_536.out
          have hnb53 := NB536_537.out
          have hnc53 := NB537_536.out
          have hcz54_0 : wr.cell? ⟨gb536, 0, none⟩ = some (.slice A1_0 l1_0.length c1_0) := bc_ BK536.out 0
          have hfz54_0 := blk_frozen BK536.out 0
          go_wp2
          repeat (go_quiet (fail); try go_wp2)
          go_roundg k2
          case measure => have := HK1.out; have := HK2.out; omega
          case rel => exact ⟨(x5_2), (wrap64 (x6_1 + 1)), sm_, H', ⟨by have := HK1.out; have := HK2.out; omega⟩, ⟨by (with_reducible repeat (first | apply Kd.R_alloc | apply Kd.R_drewN | apply Kd.R_drew)); exact HO_5.out⟩, ⟨bk_ BK535.out⟩, ⟨bk_ BK536.out⟩, ⟨bk_ BK537.out⟩, ⟨hb3_ HB.out GE535.out GE536.out GE537.out⟩⟩
     ·rw [if_neg c16] at H
      have c16b0 : decide (x6_1 < (l0_0.length : Int)) = false := decide_eq_false c16
      clear c16
      replace H := ob_ H
      obtain ⟨t541, A550, H⟩ := H
      replace H : (some t541) = some r := H
      have A55 := A_ A550;clear A550
      obtain rfl := Option.some.inj H
      have hnb56 := NB535_536.out
      have hnc56 := NB536_535.out
      have hnb57 := NB535_537.out
      have hnc57 := NB537_535.out
      have hcz58_0 : wr.cell? ⟨gb535, 0, none⟩ = some (.slice A0_0 l0_0.length c0_0) := bc_ BK535.out 0
      have hfz58_0 := blk_frozen BK535.out 0
      obtain ⟨Ao59, co59, eo59⟩ := Kd.R_slice HO_5.out
      subst eo59
      go_wp2_with (first | (go_at_call 94; (with_reducible refine (r1_trim.calls k1 (fun k_ => some k_ = (.slice Ao59 x5_1.length co59 : Value).ownBlock) (.slice Ao59 x5_1.length co59) x5_1 t541 w _ ?side1 ?side2 A55.out).mono ?_); (case side1 => exact hb3_ HB.out GE535.out GE536.out GE537.out); (case side2 => exact Kd.R_tight rfl HO_5.out); rintro e w60 ⟨v542, rfl, ho0, hb, hkp⟩; have n0_ := A_ (blk_kept (bk_ BK535.out) hkp (fun hs_ => (fun e_ => (Kd.R_ne HO_5.out BK535.out (by decide)) e_) hs_)); have n1_ := A_ (blk_kept (bk_ BK536.out) hkp (fun hs_ => (fun e_ => (Kd.R_ne HO_5.out BK536.out (by decide)) e_) hs_)); have n2_ := A_ (blk_kept (bk_ BK537.out) hkp (fun hs_ => (fun e_ => (Kd.R_ne HO_5.out BK537.out (by decide)) e_) hs_)); have n3_ := A_ (Kd.R_mono (ok' := fun k_ => True) ho0 (fun k_ hk_ => trivial)); have n4_ := A_ (hb); clear BK535; clear BK536; clear BK537; clear HB; clear HO_5; have BK535 := n0_; have BK536 := n1_; have BK537 := n2_; have HO543 := n3_; have HB := n4_; clear n0_ n1_ n2_ n3_ n4_; (try clear hb); (try clear hkp); (try clear ho0); obtain ⟨Ao61, co61, eo61⟩ := Kd.R_slice HO543.out; subst eo61; have hnb62 := NB537_536.out; have hnc62 := NB536_537.out; have hcz63_0 : w60.cell? ⟨gb537, 0, none⟩ = some (.slice none 0 0) := bc_ BK537.out 0; have hfz63_0 := blk_frozen BK537.out 0))
      repeat (go_quiet (first | (go_at_call 94; (with_reducible refine (r1_trim.calls k1 (fun k_ => some k_ = (.slice Ao59 x5_1.length co59 : Value).ownBlock) (.slice Ao59 x5_1.length co59) x5_1 t541 w _ ?side1 ?side2 A55.out).mono ?_); (case side1 => exact hb3_ HB.out GE535.out GE536.out GE537.out); (case side2 => exact Kd.R_tight rfl HO_5.out); rintro e w60 ⟨v542, rfl, ho0, hb, hkp⟩; have n0_ := A_ (blk_kept (bk_ BK535.out) hkp (fun hs_ => (fun e_ => (Kd.R_ne HO_5.out BK535.out (by decide)) e_) hs_)); have n1_ := A_ (blk_kept (bk_ BK536.out) hkp (fun hs_ => (fun e_ => (Kd.R_ne HO_5.out BK536.out (by decide)) e_) hs_)); have n2_ := A_ (blk_kept (bk_ BK537.out) hkp (fun hs_ => (fun e_ => (Kd.R_ne HO_5.out BK537.out (by decide)) e_) hs_)); have n3_ := A_ (Kd.R_mono (ok' := fun k_ => True) ho0 (fun k_ hk_ => trivial)); have n4_ := A_ (hb); clear BK535; clear BK536; clear BK537; clear HB; clear HO_5; have BK535 := n0_; have BK536 := n1_; have BK537 := n2_; have HO543 := n3_; have HB := n4_; clear n0_ n1_ n2_ n3_ n4_; (try clear hb); (try clear hkp); (try clear ho0); obtain ⟨Ao61, co61, eo61⟩ := Kd.R_slice HO543.out; subst eo61; have hnb62 := NB537_536.out; have hnc62 := NB536_537.out; have hcz63_0 : w60.cell? ⟨gb537, 0, none⟩ = some (.slice none 0 0) := bc_ BK537.out 0; have hfz63_0 := blk_frozen BK537.out 0)); try go_wp2_with (first | (go_at_call 94; (with_reducible refine (r1_trim.calls k1 (fun k_ => some k_ = (.slice Ao59 x5_1.length co59 : Value).ownBlock) (.slice Ao59 x5_1.length co59) x5_1 t541 w _ ?side1 ?side2 A55.out).mono ?_); (case side1 => exact hb3_ HB.out GE535.out GE536.out GE537.out); (case side2 => exact Kd.R_tight rfl HO_5.out); rintro e w60 ⟨v542, rfl, ho0, hb, hkp⟩; have n0_ := A_ (blk_kept (bk_ BK535.out) hkp (fun hs_ => (fun e_ => (Kd.R_ne HO_5.out BK535.out (by decide)) e_) hs_)); have n1_ := A_ (blk_kept (bk_ BK536.out) hkp (fun hs_ => (fun e_ => (Kd.R_ne HO_5.out BK536.out (by decide)) e_) hs_)); have n2_ := A_ (blk_kept (bk_ BK537.out) hkp (fun hs_ => (fun e_ => (Kd.R_ne HO_5.out BK537.out (by decide)) e_) hs_)); have n3_ := A_ (Kd.R_mono (ok' := fun k_ => True) ho0 (fun k_ hk_ => trivial)); have n4_ := A_ (hb); clear BK535; clear BK536; clear BK537; clear HB; clear HO_5; have BK535 := n0_; have BK536 := n1_; have BK537 := n2_; have HO543 := n3_; have HB := n4_; clear n0_ n1_ n2_ n3_ n4_; (try clear hb); (try clear hkp); (try clear ho0); obtain ⟨Ao61, co61, eo61⟩ := Kd.R_slice HO543.out; subst eo61; have hnb62 := NB537_536.out; have hnc62 := NB536_537.out; have hcz63_0 : w60.cell? ⟨gb537, 0, none⟩ = some (.slice none 0 0) := bc_ BK537.out 0; have hfz63_0 := blk_frozen BK537.out 0)))
      refine bodyPost_ret (results_cell_row rfl _ _ gb537 63 #[.slice Ao61 t541.length co61] (0, 0) _ rfl (by (with_reducible repeat (first | refine blk_drewN ?_ _ | refine blk_drew ?_ | refine blk_alloc ?_ _)); refine blk_put (cs := #[.slice none 0 0]) ?_ 0 _ rfl; (with_reducible repeat (first | refine blk_drewN ?_ _ | refine blk_drew ?_ | refine blk_alloc ?_ _)); exact BK537.out) Try.underlying63 rfl (by kernel_rfl)) rfl ?_
      exact ⟨_, by first | rfl | (simp [errW_none, errW_some] <;> rfl) | (simp only [← hji3]; first | rfl | (simp [errW_none, errW_some] <;> rfl)) | (simp [*, errW_none, errW_some] <;> rfl), by (with_reducible repeat (first | apply Kd.R_alloc | apply Kd.R_drewN | apply Kd.R_drew)); exact Kd.R_mono (Kd.R_far (p := ⟨gb537, 0, none⟩) (Kd.R_types HO543.out BK537.out (by decide)) (fun _ hk => hk.2) (.slice Ao61 t541.length co61)) (fun _ hk => trivial), hb3_ HB.out GE535.out GE536.out GE537.out⟩
  ·rw [if_neg c5] at H
   exact absurd H (by simp)
 ·rw [if_neg c4] at H
  exact absurd H (by simp)
def r1_Cmp.l0 : Nat → Int → List Int → List Int → Option (Int)
 | 0, _, _, _ => none
 | k + 1, x5, x386000, x387000 => if x5 ≥ 0 then ((r1_at.f x386000 x5).bind fun t387 => ((r1_at.f x387000 x5).bind fun t388 => (if t387 < t388 then (some (-1)) else (if t387 > t388 then (some 1) else (r1_Cmp.l0 k (wrap64 (x5 - 1)) x386000 x387000))))) else (some 0)
def r1_Cmp.f (k : Nat) (l0_0 : List Int) (l1_0 : List Int) : Option (Int) := r1_Cmp.l0 k (wrap64 ((mx (l0_0.length : Int) (l1_0.length : Int)) - 1)) l0_0 l1_0
theorem r1_Cmp.mono_l : ∀ k, (∀ y0 y1 y2, LeO (r1_Cmp.l0 k y0 y1 y2) (r1_Cmp.l0 (k + 1) y0 y1 y2))
 | 0 => fun _ _ _ r h => by simp [r1_Cmp.l0] at h
 | k + 1 => by
  have ih0 := r1_Cmp.mono_l k
  ·intro y0 y1 y2
   unfold r1_Cmp.l0
   repeat' first
   | (with_reducible exact ih0 _ _ _)
   | (with_reducible exact LeO.refl _)
   | (with_reducible exact LeO.none _)
   | (with_reducible refine LeO.ite ?_ ?_)
   | (with_reducible refine LeO.bind ?_ (fun _ => ?_))
   | exact ih0 _ _ _
   | exact LeO.none _
   | refine LeO.ite ?_ ?_
   | refine LeO.bind ?_ (fun _ => ?_)
theorem r1_Cmp.mono : ∀ a0 a1 k, LeO (r1_Cmp.f k a0 a1) (r1_Cmp.f (k + 1) a0 a1) := by
 intro a0 a1 k
 have ih0 := r1_Cmp.mono_l k
 unfold r1_Cmp.f
 repeat' first
   | (with_reducible exact ih0 _ _ _)
   | (with_reducible exact LeO.refl _)
   | (with_reducible exact LeO.none _)
   | (with_reducible refine LeO.ite ?_ ?_)
   | (with_reducible refine LeO.bind ?_ (fun _ => ?_))
   | exact ih0 _ _ _
   | exact LeO.none _
   | refine LeO.ite ?_ ?_
   | refine LeO.bind ?_ (fun _ => ?_)
theorem r1_Cmp.calls (k : Nat) (A0_0 : Option Addr) (c0_0 : Nat) (l0_0 : List Int) (A1_0 : Option Addr) (c1_0 : Nat) (l1_0 : List Int) (r : Int) (w : World) (hr0_0 : Kd.C (Kd.int .u64) w A0_0 l0_0.length l0_0) (hc0_0 : l0_0.length ≤ c0_0) (hr1_0 : Kd.C (Kd.int .u64) w A1_0 l1_0.length l1_0) (hc1_0 : l1_0.length ≤ c1_0) (h : r1_Cmp.f k l0_0 l1_0 = some r) :
  Calls Try.prog 113 #[.agg #[.slice A0_0 l0_0.length c0_0], .agg #[.slice A1_0 l1_0.length c1_0]] w fun e w' => e = .returned (.int .i64 r) ∧ Below w.heap.size w w' := by
 have hu63 := Try.underlying63
 have HR0_0 := A_ hr0_0;have HC0_0 := A_ hc0_0;clear hr0_0 hc0_0;have HR1_0 := A_ hr1_0;have HC1_0 := A_ hc1_0;clear hr1_0 hc1_0
 have HB := A_ (Below.refl w.heap.size w)
 have H : (r1_Cmp.l0 k (wrap64 ((mx (l0_0.length : Int) (l1_0.length : Int)) - 1)) l0_0 l1_0) = some r := h
 clear h
 obtain ⟨ji3, hji3⟩ : ∃ j_ : Int, (mx (l0_0.length : Int) (l1_0.length : Int)) = j_ := ⟨_, rfl⟩
 replace H : (r1_Cmp.l0 k (wrap64 ((ji3) - 1)) l0_0 l1_0) = some r := by first | (rw [hji3] at H; exact H) | (simp only [hji3] at H ⊢; exact H)
 (try (have hji3l : 0 ≤ ji3 := by (rw [← hji3]; unfold mx; (repeat' split) <;> omega)))
 (try (have hji3m : 0 ≤ ji3 := by omega))
 have hji3_ : (if (l0_0.length : Int) < (l1_0.length : Int) then (l1_0.length : Int) else (l0_0.length : Int)) = ji3 := hji3
 have hji3n_ : (if l0_0.length < l1_0.length then (l1_0.length : Int) else (l0_0.length : Int)) = ji3 := by have h_ := hji3_; simpa only [Int.ofNat_lt] using h_
 have H' := A_ H
 clear H
 go_enter Try.func113, Try.ntmps113
 go_wp2_with (first | ((with_reducible refine gate_dst (N := 2) rfl ?_); refine be_ 2 #[.slice A0_0 l0_0.length c0_0] 63 ?_; intro gb385 hg w4 hbox hb; have n0_ := A_ (below_step (hb_ HB.out) hb); have n1_ := A_ (hbox); have n2_ := A_ (sz_ hg (hb_ HB.out)); have n3_ := A_ (sz_ hg (hb_ HB.out)); clear HB; have HB := n0_; have BK385 := n1_; have GW385 := n2_; have GE385 := n3_; clear n0_ n1_ n2_ n3_; clear hb hbox hg) | ((with_reducible refine gate_dst (N := 3) rfl ?_); refine be_ 3 #[.slice A1_0 l1_0.length c1_0] 63 ?_; intro gb386 hg w5 hbox hb; have n0_ := A_ (bb_ BK385.out hb); have n1_ := A_ (below_step (hb1_ HB.out GE385.out) hb); have n2_ := A_ (hbox); have n3_ := A_ (sz_ hg (hb1_ HB.out GE385.out)); have n4_ := A_ (sz_ hg (hb1_ HB.out GE385.out)); have n5_ := A_ (nl_ hg BK385.out); have n6_ := A_ (ng_ hg BK385.out); clear BK385; clear HB; have BK385 := n0_; have HB := n1_; have BK386 := n2_; have GW386 := n3_; have GE386 := n4_; have NB385_386 := n5_; have NB386_385 := n6_; clear n0_ n1_ n2_ n3_ n4_ n5_ n6_; clear hb hbox hg; have hnb6 := NB385_386.out; have hnc6 := NB386_385.out; have hcz7_0 : w5.cell? ⟨gb385, 0, none⟩ = some (.slice A0_0 l0_0.length c0_0) := bc_ BK385.out 0; have hfz7_0 := blk_frozen BK385.out 0; have hcz8_0 : w5.cell? ⟨gb386, 0, none⟩ = some (.slice A1_0 l1_0.length c1_0) := bc_ BK386.out 0; have hfz8_0 := blk_frozen BK386.out 0))
 repeat (go_quiet (first | ((with_reducible refine gate_dst (N := 2) rfl ?_); refine be_ 2 #[.slice A0_0 l0_0.length c0_0] 63 ?_; intro gb385 hg w4 hbox hb; have n0_ := A_ (below_step (hb_ HB.out) hb); have n1_ := A_ (hbox); have n2_ := A_ (sz_ hg (hb_ HB.out)); have n3_ := A_ (sz_ hg (hb_ HB.out)); clear HB; have HB := n0_; have BK385 := n1_; have GW385 := n2_; have GE385 := n3_; clear n0_ n1_ n2_ n3_; clear hb hbox hg) | ((with_reducible refine gate_dst (N := 3) rfl ?_); refine be_ 3 #[.slice A1_0 l1_0.length c1_0] 63 ?_; intro gb386 hg w5 hbox hb; have n0_ := A_ (bb_ BK385.out hb); have n1_ := A_ (below_step (hb1_ HB.out GE385.out) hb); have n2_ := A_ (hbox); have n3_ := A_ (sz_ hg (hb1_ HB.out GE385.out)); have n4_ := A_ (sz_ hg (hb1_ HB.out GE385.out)); have n5_ := A_ (nl_ hg BK385.out); have n6_ := A_ (ng_ hg BK385.out); clear BK385; clear HB; have BK385 := n0_; have HB := n1_; have BK386 := n2_; have GW386 := n3_; have GE386 := n4_; have NB385_386 := n5_; have NB386_385 := n6_; clear n0_ n1_ n2_ n3_ n4_ n5_ n6_; clear hb hbox hg; have hnb6 := NB385_386.out; have hnc6 := NB386_385.out; have hcz7_0 : w5.cell? ⟨gb385, 0, none⟩ = some (.slice A0_0 l0_0.length c0_0) := bc_ BK385.out 0; have hfz7_0 := blk_frozen BK385.out 0; have hcz8_0 : w5.cell? ⟨gb386, 0, none⟩ = some (.slice A1_0 l1_0.length c1_0) := bc_ BK386.out 0; have hfz8_0 := blk_frozen BK386.out 0)); try go_wp2_with (first | ((with_reducible refine gate_dst (N := 2) rfl ?_); refine be_ 2 #[.slice A0_0 l0_0.length c0_0] 63 ?_; intro gb385 hg w4 hbox hb; have n0_ := A_ (below_step (hb_ HB.out) hb); have n1_ := A_ (hbox); have n2_ := A_ (sz_ hg (hb_ HB.out)); have n3_ := A_ (sz_ hg (hb_ HB.out)); clear HB; have HB := n0_; have BK385 := n1_; have GW385 := n2_; have GE385 := n3_; clear n0_ n1_ n2_ n3_; clear hb hbox hg) | ((with_reducible refine gate_dst (N := 3) rfl ?_); refine be_ 3 #[.slice A1_0 l1_0.length c1_0] 63 ?_; intro gb386 hg w5 hbox hb; have n0_ := A_ (bb_ BK385.out hb); have n1_ := A_ (below_step (hb1_ HB.out GE385.out) hb); have n2_ := A_ (hbox); have n3_ := A_ (sz_ hg (hb1_ HB.out GE385.out)); have n4_ := A_ (sz_ hg (hb1_ HB.out GE385.out)); have n5_ := A_ (nl_ hg BK385.out); have n6_ := A_ (ng_ hg BK385.out); clear BK385; clear HB; have BK385 := n0_; have HB := n1_; have BK386 := n2_; have GW386 := n3_; have GE386 := n4_; have NB385_386 := n5_; have NB386_385 := n6_; clear n0_ n1_ n2_ n3_ n4_ n5_ n6_; clear hb hbox hg; have hnb6 := NB385_386.out; have hnc6 := NB386_385.out; have hcz7_0 : w5.cell? ⟨gb385, 0, none⟩ = some (.slice A0_0 l0_0.length c0_0) := bc_ BK385.out 0; have hfz7_0 := blk_frozen BK385.out 0; have hcz8_0 : w5.cell? ⟨gb386, 0, none⟩ = some (.slice A1_0 l1_0.length c1_0) := bc_ BK386.out 0; have hfz8_0 := blk_frozen BK386.out 0)))
 go_loopg [5] k (fun kq v5 w' => ∃ (x5_1 : Int), v5 = .int .i64 x5_1 ∧ Aside0 (r1_Cmp.l0 kq x5_1 l0_0 l1_0 = some r) ∧ Aside0 (kq ≤ k) ∧ Aside0 (w'.heap[gb385]? = some (.cells #[(.slice A0_0 l0_0.length c0_0)] 63 (0, 0))) ∧ Aside0 (w'.heap[gb386]? = some (.cells #[(.slice A1_0 l1_0.length c1_0)] 63 (0, 0))) ∧ Aside0 (Below w.heap.size w w'))
 case atStart => exact ⟨(wrap64 ((ji3) - 1)), (by first | rfl | (simp; done) | (simp only [← hji3] <;> (first | rfl | simp)) | (simp [*]; done)), H', ⟨Nat.le_refl _⟩, ⟨bk_ BK385.out⟩, ⟨bk_ BK386.out⟩, ⟨hb2_ HB.out GE385.out GE386.out⟩⟩
 case round =>
  clear H'
  try clear c1
  try clear p2
  try clear c6
  try clear p6
  try clear hcz7_0
  try clear hcz8_0
  try clear hfz7_0
  try clear hfz8_0
  obtain ⟨x5_1, rfl, HA, HK1, BK385, BK386, HB⟩ := hrel
  cases gk with
  | zero => exact absurd HA.out (by simp [r1_Cmp.l0])
  | succ k1 =>
   have H := HA.out
   clear HA
   simp only [r1_Cmp.l0] at H
   by_cases c9 : x5_1 ≥ 0
   ·rw [if_pos c9] at H
    have c9b0 : decide (0 ≤ x5_1) = true := decide_eq_true c9
    clear c9
    replace H := ob_ H
    obtain ⟨t387, A100, H⟩ := H
    replace H : ((r1_at.f l1_0 x5_1).bind fun t388 => (if t387 < t388 then (some (-1)) else (if t387 > t388 then (some 1) else (r1_Cmp.l0 k1 (wrap64 (x5_1 - 1)) l0_0 l1_0)))) = some r := H
    have A10 := A_ A100;clear A100
    replace H := ob_ H
    obtain ⟨t388, A110, H⟩ := H
    replace H : (if t387 < t388 then (some (-1)) else (if t387 > t388 then (some 1) else (r1_Cmp.l0 k1 (wrap64 (x5_1 - 1)) l0_0 l1_0))) = some r := H
    have A11 := A_ A110;clear A110
    by_cases c12 : t387 < t388
    ·rw [if_pos c12] at H
     have c12b0 : decide (t387 < t388) = true := decide_eq_true c12
     clear c12
     obtain rfl := Option.some.inj H
     have hnb13 := NB385_386.out
     have hnc13 := NB386_385.out
     have hcz14_0 : wr.cell? ⟨gb385, 0, none⟩ = some (.slice A0_0 l0_0.length c0_0) := bc_ BK385.out 0
     have hfz14_0 := blk_frozen BK385.out 0
     go_wp2_with (first | (go_at_call 93; (with_reducible refine (r1_at.calls _ _ l0_0 x5_1 t387 _ ?side1 ?side2 A10.out).mono ?_); (case side1 => repeat (first | exact (Kd.C_below HR0_0.out HB.out) | (with_reducible refine Kd.C_alloc ?_ _) | (with_reducible refine Kd.C_drewN ?_ _) | (with_reducible refine Kd.C_drew ?_))); (case side2 => exact HC0_0.out); rintro e w' ⟨rfl, ⟨nd, rfl⟩⟩; (try first | exact ⟨rfl, _, World.drewN_drewN _ _ _⟩ | exact ⟨rfl, _, Eq.trans (World.drewN_drewN _ _ _) (congrArg (World.drewN _) (Nat.add_assoc _ _ _))⟩); have hcz15_0 : wr.cell? ⟨gb386, 0, none⟩ = some (.slice A1_0 l1_0.length c1_0) := bc_ BK386.out 0; have hfz15_0 := blk_frozen BK386.out 0) | (go_at_call 93; (with_reducible refine (r1_at.calls _ _ l1_0 x5_1 t388 _ ?side1 ?side2 A11.out).mono ?_); (case side1 => repeat (first | exact (Kd.C_below HR1_0.out (hb2_ HB.out GE385.out GE386.out)) | (with_reducible refine Kd.C_alloc ?_ _) | (with_reducible refine Kd.C_drewN ?_ _) | (with_reducible refine Kd.C_drew ?_))); (case side2 => exact HC1_0.out); rintro e w' ⟨rfl, ⟨nd, rfl⟩⟩; (try first | exact ⟨rfl, _, World.drewN_drewN _ _ _⟩ | exact ⟨rfl, _, Eq.trans (World.drewN_drewN _ _ _) (congrArg (World.drewN _) (Nat.add_assoc _ _ _))⟩)))
     repeat (go_quiet (first | (go_at_call 93; (with_reducible refine (r1_at.calls _ _ l0_0 x5_1 t387 _ ?side1 ?side2 A10.out).mono ?_); (case side1 => repeat (first | exact (Kd.C_below HR0_0.out HB.out) | (with_reducible refine Kd.C_alloc ?_ _) | (with_reducible refine Kd.C_drewN ?_ _) | (with_reducible refine Kd.C_drew ?_))); (case side2 => exact HC0_0.out); rintro e w' ⟨rfl, ⟨nd, rfl⟩⟩; (try first | exact ⟨rfl, _, World.drewN_drewN _ _ _⟩ | exact ⟨rfl, _, Eq.trans (World.drewN_drewN _ _ _) (congrArg (World.drewN _) (Nat.add_assoc _ _ _))⟩); have hcz15_0 : wr.cell? ⟨gb386, 0, none⟩ = some (.slice A1_0 l1_0.length c1_0) := bc_ BK386.out 0; have hfz15_0 := blk_frozen BK386.out 0) | (go_at_call 93; (with_reducible refine (r1_at.calls _ _ l1_0 x5_1 t388 _ ?side1 ?side2 A11.out).mono ?_); (case side1 => repeat (first | exact (Kd.C_below HR1_0.out (hb2_ HB.out GE385.out GE386.out)) | (with_reducible refine Kd.C_alloc ?_ _) | (with_reducible refine Kd.C_drewN ?_ _) | (with_reducible refine Kd.C_drew ?_))); (case side2 => exact HC1_0.out); rintro e w' ⟨rfl, ⟨nd, rfl⟩⟩; (try first | exact ⟨rfl, _, World.drewN_drewN _ _ _⟩ | exact ⟨rfl, _, Eq.trans (World.drewN_drewN _ _ _) (congrArg (World.drewN _) (Nat.add_assoc _ _ _))⟩))); try go_wp2_with (first | (go_at_call 93; (with_reducible refine (r1_at.calls _ _ l0_0 x5_1 t387 _ ?side1 ?side2 A10.out).mono ?_); (case side1 => repeat (first | exact (Kd.C_below HR0_0.out HB.out) | (with_reducible refine Kd.C_alloc ?_ _) | (with_reducible refine Kd.C_drewN ?_ _) | (with_reducible refine Kd.C_drew ?_))); (case side2 => exact HC0_0.out); rintro e w' ⟨rfl, ⟨nd, rfl⟩⟩; (try first | exact ⟨rfl, _, World.drewN_drewN _ _ _⟩ | exact ⟨rfl, _, Eq.trans (World.drewN_drewN _ _ _) (congrArg (World.drewN _) (Nat.add_assoc _ _ _))⟩); have hcz15_0 : wr.cell? ⟨gb386, 0, none⟩ = some (.slice A1_0 l1_0.length c1_0) := bc_ BK386.out 0; have hfz15_0 := blk_frozen BK386.out 0) | (go_at_call 93; (with_reducible refine (r1_at.calls _ _ l1_0 x5_1 t388 _ ?side1 ?side2 A11.out).mono ?_); (case side1 => repeat (first | exact (Kd.C_below HR1_0.out (hb2_ HB.out GE385.out GE386.out)) | (with_reducible refine Kd.C_alloc ?_ _) | (with_reducible refine Kd.C_drewN ?_ _) | (with_reducible refine Kd.C_drew ?_))); (case side2 => exact HC1_0.out); rintro e w' ⟨rfl, ⟨nd, rfl⟩⟩; (try first | exact ⟨rfl, _, World.drewN_drewN _ _ _⟩ | exact ⟨rfl, _, Eq.trans (World.drewN_drewN _ _ _) (congrArg (World.drewN _) (Nat.add_assoc _ _ _))⟩))))
     go_ret
     exact ⟨by first | rfl | (simp [errW_none, errW_some] <;> rfl) | (simp only [← hji3]; first | rfl | (simp [errW_none, errW_some] <;> rfl)) | (simp [*, errW_none, errW_some] <;> rfl), hb2_ HB.out GE385.out GE386.out⟩
    ·rw [if_neg c12] at H
     have c12b0 : decide (t387 < t388) = false := decide_eq_false c12
     clear c12
     by_cases c16 : t387 > t388
     ·rw [if_pos c16] at H
      have c16b0 : decide (t388 < t387) = true := decide_eq_true c16
      clear c16
      obtain rfl := Option.some.inj H
      have hnb17 := NB385_386.out
      have hnc17 := NB386_385.out
      have hcz18_0 : wr.cell? ⟨gb385, 0, none⟩ = some (.slice A0_0 l0_0.length c0_0) := bc_ BK385.out 0
      have hfz18_0 := blk_frozen BK385.out 0
      go_wp2_with (first | (go_at_call 93; (with_reducible refine (r1_at.calls _ _ l0_0 x5_1 t387 _ ?side1 ?side2 A10.out).mono ?_); (case side1 => repeat (first | exact (Kd.C_below HR0_0.out HB.out) | (with_reducible refine Kd.C_alloc ?_ _) | (with_reducible refine Kd.C_drewN ?_ _) | (with_reducible refine Kd.C_drew ?_))); (case side2 => exact HC0_0.out); rintro e w' ⟨rfl, ⟨nd, rfl⟩⟩; (try first | exact ⟨rfl, _, World.drewN_drewN _ _ _⟩ | exact ⟨rfl, _, Eq.trans (World.drewN_drewN _ _ _) (congrArg (World.drewN _) (Nat.add_assoc _ _ _))⟩); have hcz19_0 : wr.cell? ⟨gb386, 0, none⟩ = some (.slice A1_0 l1_0.length c1_0) := bc_ BK386.out 0; have hfz19_0 := blk_frozen BK386.out 0) | (go_at_call 93; (with_reducible refine (r1_at.calls _ _ l1_0 x5_1 t388 _ ?side1 ?side2 A11.out).mono ?_); (case side1 => repeat (first | exact (Kd.C_below HR1_0.out (hb2_ HB.out GE385.out GE386.out)) | (with_reducible refine Kd.C_alloc ?_ _) | (with_reducible refine Kd.C_drewN ?_ _) | (with_reducible refine Kd.C_drew ?_))); (case side2 => exact HC1_0.out); rintro e w' ⟨rfl, ⟨nd, rfl⟩⟩; (try first | exact ⟨rfl, _, World.drewN_drewN _ _ _⟩ | exact ⟨rfl, _, Eq.trans (World.drewN_drewN _ _ _) (congrArg (World.drewN _) (Nat.add_assoc _ _ _))⟩)))
      repeat (go_quiet (first | (go_at_call 93; (with_reducible refine (r1_at.calls _ _ l0_0 x5_1 t387 _ ?side1 ?side2 A10.out).mono ?_); (case side1 => repeat (first | exact (Kd.C_below HR0_0.out HB.out) | (with_reducible refine Kd.C_alloc ?_ _) | (with_reducible refine Kd.C_drewN ?_ _) | (with_reducible refine Kd.C_drew ?_))); (case side2 => exact HC0_0.out); rintro e w' ⟨rfl, ⟨nd, rfl⟩⟩; (try first | exact ⟨rfl, _, World.drewN_drewN _ _ _⟩ | exact ⟨rfl, _, Eq.trans (World.drewN_drewN _ _ _) (congrArg (World.drewN _) (Nat.add_assoc _ _ _))⟩); have hcz19_0 : wr.cell? ⟨gb386, 0, none⟩ = some (.slice A1_0 l1_0.length c1_0) := bc_ BK386.out 0; have hfz19_0 := blk_frozen BK386.out 0) | (go_at_call 93; (with_reducible refine (r1_at.calls _ _ l1_0 x5_1 t388 _ ?side1 ?side2 A11.out).mono ?_); (case side1 => repeat (first | exact (Kd.C_below HR1_0.out (hb2_ HB.out GE385.out GE386.out)) | (with_reducible refine Kd.C_alloc ?_ _) | (with_reducible refine Kd.C_drewN ?_ _) | (with_reducible refine Kd.C_drew ?_))); (case side2 => exact HC1_0.out); rintro e w' ⟨rfl, ⟨nd, rfl⟩⟩; (try first | exact ⟨rfl, _, World.drewN_drewN _ _ _⟩ | exact ⟨rfl, _, Eq.trans (World.drewN_drewN _ _ _) (congrArg (World.drewN _) (Nat.add_assoc _ _ _))⟩))); try go_wp2_with (first | (go_at_call 93; (with_reducible refine (r1_at.calls _ _ l0_0 x5_1 t387 _ ?side1 ?side2 A10.out).mono ?_); (case side1 => repeat (first | exact (Kd.C_below HR0_0.out HB.out) | (with_reducible refine Kd.C_alloc ?_ _) | (with_reducible refine Kd.C_drewN ?_ _) | (with_reducible refine Kd.C_drew ?_))); (case side2 => exact HC0_0.out); rintro e w' ⟨rfl, ⟨nd, rfl⟩⟩; (try first | exact ⟨rfl, _, World.drewN_drewN _ _ _⟩ | exact ⟨rfl, _, Eq.trans (World.drewN_drewN _ _ _) (congrArg (World.drewN _) (Nat.add_assoc _ _ _))⟩); have hcz19_0 : wr.cell? ⟨gb386, 0, none⟩ = some (.slice A1_0 l1_0.length c1_0) := bc_ BK386.out 0; have hfz19_0 := blk_frozen BK386.out 0) | (go_at_call 93; (with_reducible refine (r1_at.calls _ _ l1_0 x5_1 t388 _ ?side1 ?side2 A11.out).mono ?_); (case side1 => repeat (first | exact (Kd.C_below HR1_0.out (hb2_ HB.out GE385.out GE386.out)) | (with_reducible refine Kd.C_alloc ?_ _) | (with_reducible refine Kd.C_drewN ?_ _) | (with_reducible refine Kd.C_drew ?_))); (case side2 => exact HC1_0.out); rintro e w' ⟨rfl, ⟨nd, rfl⟩⟩; (try first | exact ⟨rfl, _, World.drewN_drewN _ _ _⟩ | exact ⟨rfl, _, Eq.trans (World.drewN_drewN _ _ _) (congrArg (World.drewN _) (Nat.add_assoc _ _ _))⟩))))
      go_ret
      exact ⟨by first | rfl | (simp [errW_none, errW_some] <;> rfl) | (simp only [← hji3]; first | rfl | (simp [errW_none, errW_some] <;> rfl)) | (simp [*, errW_none, errW_some] <;> rfl), hb2_ HB.out GE385.out GE386.out⟩
     ·rw [if_neg c16] at H
      have c16b0 : decide (t388 < t387) = false := decide_eq_false c16
      clear c16
      have H' := A_ H
      clear H
      have hnb20 := NB385_386.out
      have hnc20 := NB386_385.out
      have hcz21_0 : wr.cell? ⟨gb385, 0, none⟩ = some (.slice A0_0 l0_0.length c0_0) := bc_ BK385.out 0
      have hfz21_0 := blk_frozen BK385.out 0
      go_wp2_with (first | (go_at_call 93; (with_reducible refine (r1_at.calls _ _ l0_0 x5_1 t387 _ ?side1 ?side2 A10.out).mono ?_); (case side1 => repeat (first | exact (Kd.C_below HR0_0.out HB.out) | (with_reducible refine Kd.C_alloc ?_ _) | (with_reducible refine Kd.C_drewN ?_ _) | (with_reducible refine Kd.C_drew ?_))); (case side2 => exact HC0_0.out); rintro e w' ⟨rfl, ⟨nd, rfl⟩⟩; (try first | exact ⟨rfl, _, World.drewN_drewN _ _ _⟩ | exact ⟨rfl, _, Eq.trans (World.drewN_drewN _ _ _) (congrArg (World.drewN _) (Nat.add_assoc _ _ _))⟩); have hcz22_0 : wr.cell? ⟨gb386, 0, none⟩ = some (.slice A1_0 l1_0.length c1_0) := bc_ BK386.out 0; have hfz22_0 := blk_frozen BK386.out 0) | (go_at_call 93; (with_reducible refine (r1_at.calls _ _ l1_0 x5_1 t388 _ ?side1 ?side2 A11.out).mono ?_); (case side1 => repeat (first | exact (Kd.C_below HR1_0.out (hb2_ HB.out GE385.out GE386.out)) | (with_reducible refine Kd.C_alloc ?_ _) | (with_reducible refine Kd.C_drewN ?_ _) | (with_reducible refine Kd.C_drew ?_))); (case side2 => exact HC1_0.out); rintro e w' ⟨rfl, ⟨nd, rfl⟩⟩; (try first | exact ⟨rfl, _, World.drewN_drewN _ _ _⟩ | exact ⟨rfl, _, Eq.trans (World.drewN_drewN _ _ _) (congrArg (World.drewN _) (Nat.add_assoc _ _ _))⟩)))
      repeat (go_quiet (first | (go_at_call 93; (with_reducible refine (r1_at.calls _ _ l0_0 x5_1 t387 _ ?side1 ?side2 A10.out).mono ?_); (case side1 => repeat (first | exact (Kd.C_below HR0_0.out HB.out) | (with_reducible refine Kd.C_alloc ?_ _) | (with_reducible refine Kd.C_drewN ?_ _) | (with_reducible refine Kd.C_drew ?_))); (case side2 => exact HC0_0.out); rintro e w' ⟨rfl, ⟨nd, rfl⟩⟩; (try first | exact ⟨rfl, _, World.drewN_drewN _ _ _⟩ | exact ⟨rfl, _, Eq.trans (World.drewN_drewN _ _ _) (congrArg (World.drewN _) (Nat.add_assoc _ _ _))⟩); have hcz22_0 : wr.cell? ⟨gb386, 0, none⟩ = some (.slice A1_0 l1_0.length c1_0) := bc_ BK386.out 0; have hfz22_0 := blk_frozen BK386.out 0) | (go_at_call 93; (with_reducible refine (r1_at.calls _ _ l1_0 x5_1 t388 _ ?side1 ?side2 A11.out).mono ?_); (case side1 => repeat (first | exact (Kd.C_below HR1_0.out (hb2_ HB.out GE385.out GE386.out)) | (with_reducible refine Kd.C_alloc ?_ _) | (with_reducible refine Kd.C_drewN ?_ _) | (with_reducible refine Kd.C_drew ?_))); (case side2 => exact HC1_0.out); rintro e w' ⟨rfl, ⟨nd, rfl⟩⟩; (try first | exact ⟨rfl, _, World.drewN_drewN _ _ _⟩ | exact ⟨rfl, _, Eq.trans (World.drewN_drewN _ _ _) (congrArg (World.drewN _) (Nat.add_assoc _ _ _))⟩))); try go_wp2_with (first | (go_at_call 93; (with_reducible refine (r1_at.calls _ _ l0_0 x5_1 t387 _ ?side1 ?side2 A10.out).mono ?_); (case side1 => repeat (first | exact (Kd.C_below HR0_0.out HB.out) | (with_reducible refine Kd.C_alloc ?_ _) | (with_reducible refine Kd.C_drewN ?_ _) | (with_reducible refine Kd.C_drew ?_))); (case side2 => exact HC0_0.out); rintro e w' ⟨rfl, ⟨nd, rfl⟩⟩; (try first | exact ⟨rfl, _, World.drewN_drewN _ _ _⟩ | exact ⟨rfl, _, Eq.trans (World.drewN_drewN _ _ _) (congrArg (World.drewN _) (Nat.add_assoc _ _ _))⟩); have hcz22_0 : wr.cell? ⟨gb386, 0, none⟩ = some (.slice A1_0 l1_0.length c1_0) := bc_ BK386.out 0; have hfz22_0 := blk_frozen BK386.out 0) | (go_at_call 93; (with_reducible refine (r1_at.calls _ _ l1_0 x5_1 t388 _ ?side1 ?side2 A11.out).mono ?_); (case side1 => repeat (first | exact (Kd.C_below HR1_0.out (hb2_ HB.out GE385.out GE386.out)) | (with_reducible refine Kd.C_alloc ?_ _) | (with_reducible refine Kd.C_drewN ?_ _) | (with_reducible refine Kd.C_drew ?_))); (case side2 => exact HC1_0.out); rintro e w' ⟨rfl, ⟨nd, rfl⟩⟩; (try first | exact ⟨rfl, _, World.drewN_drewN _ _ _⟩ | exact ⟨rfl, _, Eq.trans (World.drewN_drewN _ _ _) (congrArg (World.drewN _) (Nat.add_assoc _ _ _))⟩))))
      go_roundg k1
      case measure => have := HK1.out; omega
      case rel => exact ⟨(wrap64 (x5_1 - 1)), sm_, H', ⟨by have := HK1.out; omega⟩, ⟨bk_ BK385.out⟩, ⟨bk_ BK386.out⟩, ⟨hb2_ HB.out GE385.out GE386.out⟩⟩
   ·rw [if_neg c9] at H
    have c9b0 : decide (0 ≤ x5_1) = false := decide_eq_false c9
    clear c9
    obtain rfl := Option.some.inj H
    go_wp2
    repeat (go_quiet (fail); try go_wp2)
    go_ret
    exact ⟨by first | rfl | (simp [errW_none, errW_some] <;> rfl) | (simp only [← hji3]; first | rfl | (simp [errW_none, errW_some] <;> rfl)) | (simp [*, errW_none, errW_some] <;> rfl), hb2_ HB.out GE385.out GE386.out⟩
def r1_Len.l0 : Nat → Int → Int → Option (Int)
 | 0, _, _ => none
 | k + 1, x3, x4 => if x4 > 0 then (r1_Len.l0 k (wrap64 (x3 + 1)) (IntKind.u64.wrap (Int.tdiv x4 2))) else (some x3)
def r1_Len.f (k : Nat) (l0_0 : List Int) : Option (Int) := if (l0_0.length : Int) = 0 then (some 0) else (if 0 ≤ (wrap64 ((l0_0.length : Int) - 1)) then (if (wrap64 ((l0_0.length : Int) - 1)) < (l0_0.length : Int) then (r1_Len.l0 k (wrap64 (32 * (wrap64 ((l0_0.length : Int) - 1)))) (rd l0_0 (wrap64 ((l0_0.length : Int) - 1)))) else (none)) else (none))
theorem r1_Len.mono_l : ∀ k, (∀ y0 y1, LeO (r1_Len.l0 k y0 y1) (r1_Len.l0 (k + 1) y0 y1))
 | 0 => fun _ _ r h => by simp [r1_Len.l0] at h
 | k + 1 => by
  have ih0 := r1_Len.mono_l k
  ·intro y0 y1
   unfold r1_Len.l0
   repeat' first
   | (with_reducible exact ih0 _ _)
   | (with_reducible exact LeO.refl _)
   | (with_reducible exact LeO.none _)
   | (with_reducible refine LeO.ite ?_ ?_)
   | (with_reducible refine LeO.bind ?_ (fun _ => ?_))
   | exact ih0 _ _
   | exact LeO.none _
   | refine LeO.ite ?_ ?_
   | refine LeO.bind ?_ (fun _ => ?_)
theorem r1_Len.mono : ∀ a0 k, LeO (r1_Len.f k a0) (r1_Len.f (k + 1) a0) := by
 intro a0 k
 have ih0 := r1_Len.mono_l k
 unfold r1_Len.f
 repeat' first
   | (with_reducible exact ih0 _ _)
   | (with_reducible exact LeO.refl _)
   | (with_reducible exact LeO.none _)
   | (with_reducible refine LeO.ite ?_ ?_)
   | (with_reducible refine LeO.bind ?_ (fun _ => ?_))
   | exact ih0 _ _
   | exact LeO.none _
   | refine LeO.ite ?_ ?_
   | refine LeO.bind ?_ (fun _ => ?_)
theorem r1_Len.calls (k : Nat) (A0_0 : Option Addr) (c0_0 : Nat) (l0_0 : List Int) (r : Int) (w : World) (hr0_0 : Kd.C (Kd.int .u64) w A0_0 l0_0.length l0_0) (hc0_0 : l0_0.length ≤ c0_0) (h : r1_Len.f k l0_0 = some r) :
  Calls Try.prog 96 #[.agg #[.slice A0_0 l0_0.length c0_0]] w fun e w' => e = .returned (.int .i64 r) ∧ Below w.heap.size w w' := by
 have hu63 := Try.underlying63
 have HR0_0 := A_ hr0_0;have HC0_0 := A_ hc0_0;clear hr0_0 hc0_0
 have HB := A_ (Below.refl w.heap.size w)
 have H : (if (l0_0.length : Int) = 0 then (some 0) else (if 0 ≤ (wrap64 ((l0_0.length : Int) - 1)) then (if (wrap64 ((l0_0.length : Int) - 1)) < (l0_0.length : Int) then (r1_Len.l0 k (wrap64 (32 * (wrap64 ((l0_0.length : Int) - 1)))) (rd l0_0 (wrap64 ((l0_0.length : Int) - 1)))) else (none)) else (none))) = some r := h
 clear h
 by_cases c2 : (l0_0.length : Int) = 0
 ·rw [if_pos c2] at H
  have c2b0 : ((l0_0.length : Int) == 0) = true := beq_iff_eq.mpr c2
  have c2b1 : ((l0_0.length : Int) != 0) = false := bne_eq_false_iff_eq.mpr c2
  clear c2
  obtain rfl := Option.some.inj H
  go_enter Try.func96, Try.ntmps96
  go_wp2_with (first | ((with_reducible refine gate_dst (N := 1) rfl ?_); refine be_ 1 #[.slice A0_0 l0_0.length c0_0] 63 ?_; intro gb365 hg w3 hbox hb; have n0_ := A_ (below_step (hb_ HB.out) hb); have n1_ := A_ (hbox); have n2_ := A_ (sz_ hg (hb_ HB.out)); have n3_ := A_ (sz_ hg (hb_ HB.out)); clear HB; have HB := n0_; have BK365 := n1_; have GW365 := n2_; have GE365 := n3_; clear n0_ n1_ n2_ n3_; clear hb hbox hg; have hcz4_0 : w3.cell? ⟨gb365, 0, none⟩ = some (.slice A0_0 l0_0.length c0_0) := bc_ BK365.out 0; have hfz4_0 := blk_frozen BK365.out 0))
  go_ret
  exact ⟨er_, hb1_ HB.out GE365.out⟩
 ·rw [if_neg c2] at H
  have c2b0 : ((l0_0.length : Int) == 0) = false := beq_eq_false_iff_ne.mpr c2
  have c2b1 : ((l0_0.length : Int) != 0) = true := bne_iff_ne.mpr c2
  have c2b2 : ¬ (l0_0 = []) := fun h_ => c2 (by rw [h_]; rfl)
  obtain ⟨ji5, hji5⟩ : ∃ j_ : Int, (wrap64 ((l0_0.length : Int) - 1)) = j_ := ⟨_, rfl⟩
  replace H : (if 0 ≤ (ji5) then (if (ji5) < (l0_0.length : Int) then (r1_Len.l0 k (wrap64 (32 * (ji5))) (rd l0_0 (ji5))) else (none)) else (none)) = some r := by first | (rw [hji5] at H; exact H) | (simp only [hji5] at H ⊢; exact H)
  have hji5w : (IntKind.i64.wrap ((l0_0.length : Int) - 1)) = ji5 := (i64_w _).trans hji5
  by_cases c6 : 0 ≤ (ji5)
  ·rw [if_pos c6] at H
   have c6b0 : decide (0 ≤ (ji5)) = true := decide_eq_true c6
   clear c6
   by_cases c7 : (ji5) < (l0_0.length : Int)
   ·rw [if_pos c7] at H
    have c7b0 : decide ((ji5) < (l0_0.length : Int)) = true := decide_eq_true c7
    clear c7
    have H' := A_ H
    clear H
    go_enter Try.func96, Try.ntmps96
    go_wp2_with (first | ((with_reducible refine gate_dst (N := 1) rfl ?_); refine be_ 1 #[.slice A0_0 l0_0.length c0_0] 63 ?_; intro gb365 hg w8 hbox hb; have n0_ := A_ (below_step (hb_ HB.out) hb); have n1_ := A_ (hbox); have n2_ := A_ (sz_ hg (hb_ HB.out)); have n3_ := A_ (sz_ hg (hb_ HB.out)); clear HB; have HB := n0_; have BK365 := n1_; have GW365 := n2_; have GE365 := n3_; clear n0_ n1_ n2_ n3_; clear hb hbox hg; have hcz9_0 : w8.cell? ⟨gb365, 0, none⟩ = some (.slice A0_0 l0_0.length c0_0) := bc_ BK365.out 0; have hfz9_0 := blk_frozen BK365.out 0; have p366 : 0 ≤ ((ji5) : Int) := of_decide_eq_true (by first | (with_reducible assumption) | assumption); have q366 : (ji5) < (l0_0.length : Int) := of_decide_eq_true (by first | (with_reducible assumption) | assumption); obtain ⟨ad366, e366, hx366_0⟩ := Kd.at_int HR0_0.out (ji5) p366 q366; cases e366; replace hx366_0 := (HB.out.cell (World.block_lt_of_cell? w _ hx366_0)).trans hx366_0; replace p366 := eq_true p366; replace q366 := eq_true q366))
    go_loopg [3, 4] k (fun kq v3 v4 w' => ∃ (x3_1 : Int) (x4_1 : Int), v3 = .int .i64 x3_1 ∧ v4 = .int .u64 x4_1 ∧ Aside0 (r1_Len.l0 kq x3_1 x4_1 = some r) ∧ Aside0 (kq ≤ k) ∧ Aside0 (w'.heap[gb365]? = some (.cells #[(.slice (some ad366) l0_0.length c0_0)] 63 (0, 0))) ∧ Aside0 (Below w.heap.size w w'))
    case atStart => exact ⟨(wrap64 (32 * (ji5))), (rd l0_0 (ji5)), (by first | rfl | (simp; done) | (simp only [← hji5] <;> (first | rfl | simp)) | (simp [*]; done)), (by first | rfl | (simp; done) | (simp only [← hji5] <;> (first | rfl | simp)) | (simp [*]; done)), H', ⟨Nat.le_refl _⟩, ⟨bk_ BK365.out⟩, ⟨hb1_ HB.out GE365.out⟩⟩
    case round =>
     clear H'
     try clear c2
     try clear c2b0
     try clear c2b1
     try clear c2b2
     try clear p2
     try clear p3
     try clear q3
     try clear hx3
     try clear c6
     try clear c6b0
     try clear p6
     try clear c7
     try clear c7b0
     try clear c9
     try clear hcz4_0
     try clear hcz9_0
     try clear hfz4_0
     try clear hfz9_0
     try clear hx366_0
     try clear p366
     try clear q366
     obtain ⟨x3_1, x4_1, rfl, rfl, HA, HK1, BK365, HB⟩ := hrel
     cases gk with
     | zero => exact absurd HA.out (by simp [r1_Len.l0])
     | succ k1 =>
      have H := HA.out
      clear HA
      simp only [r1_Len.l0] at H
      by_cases c10 : x4_1 > 0
      ·rw [if_pos c10] at H
       have c10b0 : decide (0 < x4_1) = true := decide_eq_true c10
       clear c10
       have H' := A_ H
       clear H
       go_wp2
       go_roundg k1
       case measure => have := HK1.out; omega
       case rel => exact ⟨(wrap64 (x3_1 + 1)), (IntKind.u64.wrap (Int.tdiv x4_1 2)), sm_, sm_, H', ⟨by have := HK1.out; omega⟩, ⟨bk_ BK365.out⟩, ⟨hb1_ HB.out GE365.out⟩⟩
      ·rw [if_neg c10] at H
       have c10b0 : decide (0 < x4_1) = false := decide_eq_false c10
       clear c10
       obtain rfl := Option.some.inj H
       go_wp2
       go_ret
       exact ⟨by first | rfl | (simp [errW_none, errW_some] <;> rfl) | (simp only [← hji5]; first | rfl | (simp [errW_none, errW_some] <;> rfl)) | (simp [*, errW_none, errW_some] <;> rfl), hb1_ HB.out GE365.out⟩
   ·rw [if_neg c7] at H
    exact absurd H (by simp)
  ·rw [if_neg c6] at H
   exact absurd H (by simp)
def r1_Pair.f (k : Nat) (a0 : Int) (a1 : Int) : Option (List Int) := (r1_Of.f k a0).bind fun t575 => ((r1_Shl.f k t575 64).bind fun t578 => ((r1_Of.f k a1).bind fun t581 => ((r1_Add.f k t578 t581).bind fun t584 => (some t584))))
theorem r1_Pair.mono : ∀ a0 a1 k, LeO (r1_Pair.f k a0 a1) (r1_Pair.f (k + 1) a0 a1) := by
 intro a0 a1 k
 unfold r1_Pair.f
 repeat' first
   | (with_reducible exact r1_Add.mono _ _ _)
   | (with_reducible exact r1_Of.mono _ _)
   | (with_reducible exact r1_Shl.mono _ _ _)
   | (with_reducible exact LeO.refl _)
   | (with_reducible exact LeO.none _)
   | (with_reducible refine LeO.ite ?_ ?_)
   | (with_reducible refine LeO.bind ?_ (fun _ => ?_))
   | exact r1_Add.mono _ _ _
   | exact r1_Of.mono _ _
   | exact r1_Shl.mono _ _ _
   | exact LeO.none _
   | refine LeO.ite ?_ ?_
   | refine LeO.bind ?_ (fun _ => ?_)
theorem r1_Pair.calls (k : Nat) (a0 : Int) (a1 : Int) (r : List Int) (w : World) (h : r1_Pair.f k a0 a1 = some r) :
  Calls Try.prog 79 #[.int .u64 a0, .int .u64 a1] w fun e w' => ∃ v0_ : Value, e = .returned (.agg #[v0_]) ∧ Kd.R (Kd.int .u64) 22 w' w.heap.size (fun _ => True) v0_ r ∧ Below w.heap.size w w' := by
 have hu63 := Try.underlying63
 have HB := A_ (Below.refl w.heap.size w)
 have H : ((r1_Of.f k a0).bind fun t575 => ((r1_Shl.f k t575 64).bind fun t578 => ((r1_Of.f k a1).bind fun t581 => ((r1_Add.f k t578 t581).bind fun t584 => (some t584))))) = some r := h
 clear h
 replace H := ob_ H
 obtain ⟨t575, A30, H⟩ := H
 replace H : ((r1_Shl.f k t575 64).bind fun t578 => ((r1_Of.f k a1).bind fun t581 => ((r1_Add.f k t578 t581).bind fun t584 => (some t584)))) = some r := H
 have A3 := A_ A30;clear A30
 replace H := ob_ H
 obtain ⟨t578, A40, H⟩ := H
 replace H : ((r1_Of.f k a1).bind fun t581 => ((r1_Add.f k t578 t581).bind fun t584 => (some t584))) = some r := H
 have A4 := A_ A40;clear A40
 replace H := ob_ H
 obtain ⟨t581, A50, H⟩ := H
 replace H : ((r1_Add.f k t578 t581).bind fun t584 => (some t584)) = some r := H
 have A5 := A_ A50;clear A50
 replace H := ob_ H
 obtain ⟨t584, A60, H⟩ := H
 replace H : (some t584) = some r := H
 have A6 := A_ A60;clear A60
 obtain rfl := Option.some.inj H
 go_enter Try.func79, Try.ntmps79
 go_wp2_with (first | ((with_reducible refine gate_dst (N := 4) rfl ?_); refine be_ 4 #[.slice none 0 0] 63 ?_; intro gb574 hg w7 hbox hb; have n0_ := A_ (below_step (hb_ HB.out) hb); have n1_ := A_ (hbox); have n2_ := A_ (sz_ hg (hb_ HB.out)); have n3_ := A_ (sz_ hg (hb_ HB.out)); clear HB; have HB := n0_; have BK574 := n1_; have GW574 := n2_; have GE574 := n3_; clear n0_ n1_ n2_ n3_; clear hb hbox hg) | ((with_reducible refine gate_callee (f := 62) rfl ?_); refine gl_ (some 6) Try.func62 #[.int .u64 a0] ?_; (with_reducible refine (r1_Of.calls k a0 t575 _ A3.out).mono ?_); rintro e w8 ⟨v576, rfl, ho0, hb⟩; refine ⟨_, rfl, ?_⟩; have n0_ := A_ (Kd.R_lower ho0 (below_size (hb1_ HB.out GE574.out))); have n1_ := A_ (bb_ BK574.out hb); have n2_ := A_ (below_step (hb1_ HB.out GE574.out) hb); clear BK574; clear HB; have HO577 := n0_; have BK574 := n1_; have HB := n2_; clear n0_ n1_ n2_; (try clear hb); (try clear hb2); (try clear hk); (try clear hi); (try clear ho0); obtain ⟨Ao9, co9, eo9⟩ := Kd.R_slice HO577.out; subst eo9) | ((with_reducible refine gate_callee (f := 78) rfl ?_); refine gl_ (some 7) Try.func78 #[.agg #[.slice Ao9 t575.length co9], .int .i64 64] ?_; (with_reducible refine (r1_Shl.calls k _ _ t575 64 t578 _ ?side1 ?side2 A4.out).mono ?_); (case side1 => repeat (first | exact (Kd.R_reads' HO577.out).2.2 | (with_reducible refine Kd.C_alloc ?_ _) | (with_reducible refine Kd.C_drewN ?_ _) | (with_reducible refine Kd.C_drew ?_))); (case side2 => exact (Kd.R_reads' HO577.out).2.1); rintro e w10 ⟨v579, rfl, ho0, hb⟩; refine ⟨_, rfl, ?_⟩; have n0_ := A_ (Kd.R_elder' (kr_ HO577.out) (Kd.R_base ho0) hb); have n1_ := A_ (Kd.R_lower (Kd.R_new' ho0 (Kd.R_lt (kr_ HO577.out))) (below_size (hb1_ HB.out GE574.out))); have n2_ := A_ (bb_ BK574.out hb); have n3_ := A_ (below_step (hb1_ HB.out GE574.out) hb); clear HO577; clear BK574; clear HB; have HO577 := n0_; have HO580 := n1_; have BK574 := n2_; have HB := n3_; clear n0_ n1_ n2_ n3_; (try clear hb); (try clear hb2); (try clear hk); (try clear hi); (try clear ho0)) | ((with_reducible refine gate_callee (f := 62) rfl ?_); refine gl_ (some 9) Try.func62 #[.int .u64 a1] ?_; (with_reducible refine (r1_Of.calls k a1 t581 _ A5.out).mono ?_); rintro e w11 ⟨v582, rfl, ho0, hb⟩; refine ⟨_, rfl, ?_⟩; have n0_ := A_ (Kd.R_elder' (kr_ HO577.out) (Kd.R_base ho0) hb); have n1_ := A_ (Kd.R_elder' (kr_ HO580.out) (Kd.R_base ho0) hb); have n2_ := A_ (Kd.R_lower (Kd.R_new' (Kd.R_new' ho0 (Kd.R_lt (kr_ HO577.out))) (Kd.R_lt (kr_ HO580.out))) (below_size (hb1_ HB.out GE574.out))); have n3_ := A_ (bb_ BK574.out hb); have n4_ := A_ (below_step (hb1_ HB.out GE574.out) hb); clear HO577; clear HO580; clear BK574; clear HB; have HO577 := n0_; have HO580 := n1_; have HO583 := n2_; have BK574 := n3_; have HB := n4_; clear n0_ n1_ n2_ n3_ n4_; (try clear hb); (try clear hb2); (try clear hk); (try clear hi); (try clear ho0); obtain ⟨Ao12, co12, eo12⟩ := Kd.R_slice HO580.out; subst eo12; obtain ⟨Ao13, co13, eo13⟩ := Kd.R_slice HO583.out; subst eo13) | ((with_reducible refine gate_callee (f := 80) rfl ?_); refine gl_ (some 10) Try.func80 #[.agg #[.slice Ao12 t578.length co12], .agg #[.slice Ao13 t581.length co13]] ?_; (with_reducible refine (r1_Add.calls k _ _ t578 _ _ t581 t584 _ ?side1 ?side2 ?side3 ?side4 A6.out).mono ?_); (case side1 => repeat (first | exact (Kd.R_reads' HO580.out).2.2 | (with_reducible refine Kd.C_alloc ?_ _) | (with_reducible refine Kd.C_drewN ?_ _) | (with_reducible refine Kd.C_drew ?_))); (case side2 => exact (Kd.R_reads' HO580.out).2.1); (case side3 => repeat (first | exact (Kd.R_reads' HO583.out).2.2 | (with_reducible refine Kd.C_alloc ?_ _) | (with_reducible refine Kd.C_drewN ?_ _) | (with_reducible refine Kd.C_drew ?_))); (case side4 => exact (Kd.R_reads' HO583.out).2.1); rintro e w14 ⟨v585, rfl, ho0, hb⟩; refine ⟨_, rfl, ?_⟩; have n0_ := A_ (Kd.R_elder' (kr_ HO577.out) (Kd.R_base ho0) hb); have n1_ := A_ (Kd.R_elder' (kr_ HO580.out) (Kd.R_base ho0) hb); have n2_ := A_ (Kd.R_elder' (kr_ HO583.out) (Kd.R_base ho0) hb); have n3_ := A_ (Kd.R_lower (Kd.R_new' (Kd.R_new' (Kd.R_new' ho0 (Kd.R_lt (kr_ HO577.out))) (Kd.R_lt (kr_ HO580.out))) (Kd.R_lt (kr_ HO583.out))) (below_size (hb1_ HB.out GE574.out))); have n4_ := A_ (bb_ BK574.out hb); have n5_ := A_ (below_step (hb1_ HB.out GE574.out) hb); clear HO577; clear HO580; clear HO583; clear BK574; clear HB; have HO577 := n0_; have HO580 := n1_; have HO583 := n2_; have HO586 := n3_; have BK574 := n4_; have HB := n5_; clear n0_ n1_ n2_ n3_ n4_ n5_; (try clear hb); (try clear hb2); (try clear hk); (try clear hi); (try clear ho0); obtain ⟨Ao15, co15, eo15⟩ := Kd.R_slice HO586.out; subst eo15; have hcz16_0 : w14.cell? ⟨gb574, 0, none⟩ = some (.slice none 0 0) := bc_ BK574.out 0; have hfz16_0 := blk_frozen BK574.out 0))
 refine bodyPost_ret (results_cell_row rfl _ _ gb574 63 #[.slice Ao15 t584.length co15] (0, 0) _ rfl (by (with_reducible repeat (first | refine blk_drewN ?_ _ | refine blk_drew ?_ | refine blk_alloc ?_ _)); refine blk_put (cs := #[.slice none 0 0]) ?_ 0 _ rfl; (with_reducible repeat (first | refine blk_drewN ?_ _ | refine blk_drew ?_ | refine blk_alloc ?_ _)); exact BK574.out) Try.underlying63 rfl (by kernel_rfl)) rfl ?_
 exact ⟨_, by first | rfl | (simp [errW_none, errW_some] <;> rfl) | (simp [*, errW_none, errW_some] <;> rfl), by (with_reducible repeat (first | apply Kd.R_alloc | apply Kd.R_drewN | apply Kd.R_drew)); exact Kd.R_mono (Kd.R_far (p := ⟨gb574, 0, none⟩) (Kd.R_types HO586.out BK574.out (by decide)) (fun _ hk => hk.2) (.slice Ao15 t584.length co15)) (fun _ hk => trivial), hb1_ HB.out GE574.out⟩
end Go.Proofs.Ytbpmnmceajmmcaa.PA
